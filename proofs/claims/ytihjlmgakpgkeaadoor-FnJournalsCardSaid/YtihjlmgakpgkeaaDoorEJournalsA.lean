/- What the functions compute. -/
import Derived.Test.YtihjlmgakpgkeaaDoorTJournals
import Derived.Test.YtihjlmgakpgkeaaDoorVNum
import Derived.Test.YtihjlmgakpgkeaaDoorVClone
import Derived.Test.YtihjlmgakpgkeaaDoorVExt
import Derived.Test.YtihjlmgakpgkeaaDoorXJournals
import Derived.KernelRfl
namespace Go.Proofs.YtihjlmgakpgkeaaDoor.Journals
open Go Go.Proofs.YtihjlmgakpgkeaaDoor.V
set_option linter.unusedVariables false
set_option linter.unusedSimpArgs false
set_option maxRecDepth 20000
abbrev _root_.Go.Proofs.YtihjlmgakpgkeaaDoor.V.B.i (x:Int):B:=.val (.int .i64 x)
abbrev _root_.Go.Proofs.YtihjlmgakpgkeaaDoor.V.D.i (x:Int):D:=.val (.int .i64 x)
abbrev _root_.Go.Proofs.YtihjlmgakpgkeaaDoor.V.CV.i (x:Int):CV:=.val (.int .i64 x)
abbrev _root_.Go.Proofs.YtihjlmgakpgkeaaDoor.V.SV.oi (x:Int):SV:=.one (.val (.int .i64 x))
abbrev _root_.Go.Proofs.YtihjlmgakpgkeaaDoor.V.Ret.oi (x:Int):Ret:=.one (.val (.int .i64 x))
open Go.IntKind (wrap)
open Int (toNat)
open Go.IntKind (wrap)
open Int (toNat)
open List (length_replicate length_map length_set length_append length_cons length_nil length_take length_drop take_of_length_le map_take map_drop map_set append_assoc getElem?_map map length take drop getD set)
def X:Ext:=fun f args objs rs=>(f=141∧objs=[]∧TrimX args rs)
theorem pe {α:Type} {hs q} (x:α) (r:PS F X hs q):PS F X hs ((x=x)::q):=.f rfl r
theorem mp_ {α β:Type} (f:α→β) {l:List α} {i:Nat} {x:α} (h:l[i]?=some x):(l.map f)[i]?=some (f x):=by rw[getElem?_map,h]; rfl
theorem mz_ {α β:Type} (f:α→β) {l:List α} {i:Nat} {x:α} (h:l[i]?=some x):(l.map f)[0+i]?=some (f x):=by rw[Nat.zero_add]; exact mp_ f h
theorem ev_ {c:VC} {σ:St} {O:Type} {e:O→VX.Exit} {g:O→St} {r w:O} (h:r=w) (t:Ev F X (.code c σ (e r) (g r))):Ev F X (.code c σ (e w) (g w)):=h ▸ t
theorem cp {f hs args rs q} (h:callH F X f hs [] args []=some ([],rs,q)) (p:PS F X hs q):Ev F X (.call f args [] [] rs):=callP_ok h p
theorem cq (ps:List Bool) {f hs args objs os rs q} (h:callH F X f hs ps args objs=some (os,rs,q)) (p:PS F X hs q):Ev F X (.call f args objs os rs):=callP_ok h p
theorem ch (c:VC) (σ σ':St) (e:VX.Exit) (t:Nat) {hs q} (h:codeH F X c 0 hs σ=some (e,σ',t,[],q)) (p:PS F X hs q):Ev F X (.code c σ e σ'):=codeP_ok h p
def b_y (x:Int):List B:=[(.val (.int .u8 x))]
def d_y (x:Int):List D:=[(.val (.int .u8 x))]
theorem toBR_y:∀(l:List Int),toBR (l.map d_y)=l.map b_y
  |[]=>rfl
  |x::l=>by simp[toBR,toBL,toB,d_y,b_y,toBR_y l]
theorem fullR_y:∀(l:List Int),fullR (l.map d_y)=true
  |[]=>rfl
  |x::l=>by simp[fullR,fullL,full,d_y,fullR_y l]
theorem pureR_y:∀(l:List Int),pureR (l.map d_y)=true
  |[]=>rfl
  |x::l=>by simp[pureR,pureL,V.pure,d_y,pureR_y l]
theorem ft_y (a b:Nat) (l:List Int):fullR (take a (drop b (l.map d_y)))=true:=by rw[← map_drop,← map_take]; exact fullR_y _
theorem tbt_y (a b:Nat) (l:List Int):toBR (take a (drop b (l.map d_y)))=(take a (drop b l)).map b_y:=by rw[← map_drop,← map_take]; exact toBR_y _
theorem tb_y (l:List Int):toBR (take (l.map d_y).length (drop 0 (l.map d_y)))=l.map b_y:=by rw[List.drop_zero,List.take_length]; exact toBR_y l
theorem ln_y {hs q} (x:List Int) (r:PS F X hs q):PS F X hs ((0+(x.map d_y).length≤(x.map d_y).length)::(fullR (take (x.map d_y).length (drop 0 (x.map d_y)))=true)::(toBR (take (x.map d_y).length (drop 0 (x.map d_y)))=x.map b_y)::q):=.f (Nat.le_of_eq (Nat.zero_add _)) (.f (ft_y _ _ _) (.f (tb_y _) r))
theorem lenB_y (l:List Int):∀r∈l.map b_y,r.length=1:=by intro r h; obtain⟨x,_,rfl⟩:=List.mem_map.1 h; rfl
theorem lenD_y (l:List Int):∀r∈l.map d_y,r.length=1:=by intro r h; obtain⟨x,_,rfl⟩:=List.mem_map.1 h; rfl
theorem fromBR_y (n:Nat) (l:List Int):fromBR n (l.map b_y)=l.map d_y:=by simp[fromBR,b_y,d_y,fromB,Function.comp_def]
theorem copy_y (l:List Int):(l.map d_y).all (fun x=>x.all copyable)=true:=by simp[d_y,copyable,Function.comp_def]
theorem ct_y (a b:Nat) (l:List Int):((take a (drop b (l.map d_y))).all fun x=>x.all copyable)=true:=by rw[← map_drop,← map_take]; exact copy_y _
def strInts (s:ByteArray):List Int:=s.data.toList.map fun b=>(b.toNat:Int)
theorem ly_y (a:Int) (l:List Int):[D.val (.int .u8 a)]::map d_y l=map d_y (a::l):=rfl
theorem ly0_y (a:Int):[[D.val (.int .u8 a)]]=map d_y [a]:=rfl
theorem strInts_len (s:ByteArray):(strInts s).length=s.size:=by simp[strInts]
theorem byteRows_len (s:ByteArray):(byteRows s).length=s.size:=by simp[byteRows]
theorem byteRows_eq (s:ByteArray):byteRows s=(strInts s).map d_y:=by simp[byteRows,strInts,d_y,Function.comp_def]
theorem tsi (s:ByteArray):take (ByteArray.size s) (map d_y (strInts s))=map d_y (strInts s):=by rw[take_of_length_le (by simp[strInts_len])]
theorem tbr (s:ByteArray):take (ByteArray.size s) (byteRows s)=map d_y (strInts s):=by rw[byteRows_eq,tsi]
theorem ints_y:∀(l:List Int),rowsInts .u8 (l.map d_y)=some l
  |[]=>rfl
  |x::l=>by simp only[List.map_cons,d_y,rowsInts,ints_y l]; rfl
def b_LyE (x:(List Int)):List B:=[(.sl (map b_y x))]
def d_LyE (x:(List Int)):List D:=[(.own 1 (map d_y x))]
theorem toBR_LyE:∀(l:List (List Int)),toBR (l.map d_LyE)=l.map b_LyE
  |[]=>rfl
  |x::l=>by simp[toBR,toBL,toB,d_LyE,b_LyE,toBR_LyE l,toBR_y]
theorem fullR_LyE:∀(l:List (List Int)),fullR (l.map d_LyE)=true
  |[]=>rfl
  |x::l=>by simp[fullR,fullL,full,d_LyE,fullR_LyE l,fullR_y]
theorem pureR_LyE:∀(l:List (List Int)),pureR (l.map d_LyE)=true
  |[]=>rfl
  |x::l=>by simp[pureR,pureL,V.pure,d_LyE,pureR_LyE l,pureR_y]
theorem lenB_LyE (l:List (List Int)):∀r∈l.map b_LyE,r.length=1:=by intro r h; obtain⟨x,_,rfl⟩:=List.mem_map.1 h; rfl
theorem lenD_LyE (l:List (List Int)):∀r∈l.map d_LyE,r.length=1:=by intro r h; obtain⟨x,_,rfl⟩:=List.mem_map.1 h; rfl
def ok_LyE (x:(List Int)):Prop:=(length x*1≤140737488351232)
def b_b (x:Bool):List B:=[(.val (.bool x))]
def d_b (x:Bool):List D:=[(.val (.bool x))]
theorem toBR_b:∀(l:List Bool),toBR (l.map d_b)=l.map b_b
  |[]=>rfl
  |x::l=>by simp[toBR,toBL,toB,d_b,b_b,toBR_b l]
theorem fullR_b:∀(l:List Bool),fullR (l.map d_b)=true
  |[]=>rfl
  |x::l=>by simp[fullR,fullL,full,d_b,fullR_b l]
theorem pureR_b:∀(l:List Bool),pureR (l.map d_b)=true
  |[]=>rfl
  |x::l=>by simp[pureR,pureL,V.pure,d_b,pureR_b l]
theorem lenB_b (l:List Bool):∀r∈l.map b_b,r.length=1:=by intro r h; obtain⟨x,_,rfl⟩:=List.mem_map.1 h; rfl
theorem lenD_b (l:List Bool):∀r∈l.map d_b,r.length=1:=by intro r h; obtain⟨x,_,rfl⟩:=List.mem_map.1 h; rfl
theorem fromBR_b (n:Nat) (l:List Bool):fromBR n (l.map b_b)=l.map d_b:=by simp[fromBR,b_b,d_b,fromB,Function.comp_def]
theorem copy_b (l:List Bool):(l.map d_b).all (fun x=>x.all copyable)=true:=by simp[d_b,copyable,Function.comp_def]
structure K_isii where
  f0:Int
  f1:ByteArray
  f2:Int
  f3:Int
def b_isii (x:K_isii):List B:=[(.val (.int .i64 x.f0)),(.val (.string x.f1)),(.val (.int .i64 x.f2)),(.val (.int .i64 x.f3))]
def d_isii (x:K_isii):List D:=[(.val (.int .i64 x.f0)),(.val (.string x.f1)),(.val (.int .i64 x.f2)),(.val (.int .i64 x.f3))]
theorem toBR_isii:∀(l:List K_isii),toBR (l.map d_isii)=l.map b_isii
  |[]=>rfl
  |x::l=>by simp[toBR,toBL,toB,d_isii,b_isii,toBR_isii l]
theorem fullR_isii:∀(l:List K_isii),fullR (l.map d_isii)=true
  |[]=>rfl
  |x::l=>by simp[fullR,fullL,full,d_isii,fullR_isii l]
theorem pureR_isii:∀(l:List K_isii),pureR (l.map d_isii)=true
  |[]=>rfl
  |x::l=>by simp[pureR,pureL,V.pure,d_isii,pureR_isii l]
theorem lenB_isii (l:List K_isii):∀r∈l.map b_isii,r.length=4:=by intro r h; obtain⟨x,_,rfl⟩:=List.mem_map.1 h; rfl
theorem lenD_isii (l:List K_isii):∀r∈l.map d_isii,r.length=4:=by intro r h; obtain⟨x,_,rfl⟩:=List.mem_map.1 h; rfl
theorem fromBR_isii (n:Nat) (l:List K_isii):fromBR n (l.map b_isii)=l.map d_isii:=by simp[fromBR,b_isii,d_isii,fromB,Function.comp_def]
theorem copy_isii (l:List K_isii):(l.map d_isii).all (fun x=>x.all copyable)=true:=by simp[d_isii,copyable,Function.comp_def]
structure K_iiLisiiE where
  f0:Int
  f1:Int
  f2:(List K_isii)
def b_iiLisiiE (x:K_iiLisiiE):List B:=[(.val (.int .i64 x.f0)),(.val (.int .i64 x.f1)),(.sl (map b_isii x.f2))]
def d_iiLisiiE (x:K_iiLisiiE):List D:=[(.val (.int .i64 x.f0)),(.val (.int .i64 x.f1)),(.own 4 (map d_isii x.f2))]
theorem toBR_iiLisiiE:∀(l:List K_iiLisiiE),toBR (l.map d_iiLisiiE)=l.map b_iiLisiiE
  |[]=>rfl
  |x::l=>by simp[toBR,toBL,toB,d_iiLisiiE,b_iiLisiiE,toBR_iiLisiiE l,toBR_isii]
theorem fullR_iiLisiiE:∀(l:List K_iiLisiiE),fullR (l.map d_iiLisiiE)=true
  |[]=>rfl
  |x::l=>by simp[fullR,fullL,full,d_iiLisiiE,fullR_iiLisiiE l,fullR_isii]
theorem pureR_iiLisiiE:∀(l:List K_iiLisiiE),pureR (l.map d_iiLisiiE)=true
  |[]=>rfl
  |x::l=>by simp[pureR,pureL,V.pure,d_iiLisiiE,pureR_iiLisiiE l,pureR_isii]
theorem lenB_iiLisiiE (l:List K_iiLisiiE):∀r∈l.map b_iiLisiiE,r.length=3:=by intro r h; obtain⟨x,_,rfl⟩:=List.mem_map.1 h; rfl
theorem lenD_iiLisiiE (l:List K_iiLisiiE):∀r∈l.map d_iiLisiiE,r.length=3:=by intro r h; obtain⟨x,_,rfl⟩:=List.mem_map.1 h; rfl
def ok_iiLisiiE (x:K_iiLisiiE):Prop:=(length x.f2*40≤140737488351232)
structure K_LyEi where
  f0:(List Int)
  f1:Int
def b_LyEi (x:K_LyEi):List B:=[(.sl (map b_y x.f0)),(.val (.int .i64 x.f1))]
def d_LyEi (x:K_LyEi):List D:=[(.own 1 (map d_y x.f0)),(.val (.int .i64 x.f1))]
abbrev k_LyEi (l0:Nat) (x:K_LyEi):List CV:=[(.bor l0 (map b_y x.f0)),(.val (.int .i64 x.f1))]
theorem toBR_LyEi:∀(l:List K_LyEi),toBR (l.map d_LyEi)=l.map b_LyEi
  |[]=>rfl
  |x::l=>by simp[toBR,toBL,toB,d_LyEi,b_LyEi,toBR_LyEi l,toBR_y]
theorem fullR_LyEi:∀(l:List K_LyEi),fullR (l.map d_LyEi)=true
  |[]=>rfl
  |x::l=>by simp[fullR,fullL,full,d_LyEi,fullR_LyEi l,fullR_y]
theorem pureR_LyEi:∀(l:List K_LyEi),pureR (l.map d_LyEi)=true
  |[]=>rfl
  |x::l=>by simp[pureR,pureL,V.pure,d_LyEi,pureR_LyEi l,pureR_y]
theorem lenB_LyEi (l:List K_LyEi):∀r∈l.map b_LyEi,r.length=2:=by intro r h; obtain⟨x,_,rfl⟩:=List.mem_map.1 h; rfl
theorem lenD_LyEi (l:List K_LyEi):∀r∈l.map d_LyEi,r.length=2:=by intro r h; obtain⟨x,_,rfl⟩:=List.mem_map.1 h; rfl
def ok_LyEi (x:K_LyEi):Prop:=(length x.f0*1≤140737488351232)
structure K_iLyEi where
  f0:Int
  f1:(List Int)
  f2:Int
def b_iLyEi (x:K_iLyEi):List B:=[(.val (.int .i64 x.f0)),(.sl (map b_y x.f1)),(.val (.int .i64 x.f2))]
def d_iLyEi (x:K_iLyEi):List D:=[(.val (.int .i64 x.f0)),(.own 1 (map d_y x.f1)),(.val (.int .i64 x.f2))]
theorem toBR_iLyEi:∀(l:List K_iLyEi),toBR (l.map d_iLyEi)=l.map b_iLyEi
  |[]=>rfl
  |x::l=>by simp[toBR,toBL,toB,d_iLyEi,b_iLyEi,toBR_iLyEi l,toBR_y]
theorem fullR_iLyEi:∀(l:List K_iLyEi),fullR (l.map d_iLyEi)=true
  |[]=>rfl
  |x::l=>by simp[fullR,fullL,full,d_iLyEi,fullR_iLyEi l,fullR_y]
theorem pureR_iLyEi:∀(l:List K_iLyEi),pureR (l.map d_iLyEi)=true
  |[]=>rfl
  |x::l=>by simp[pureR,pureL,V.pure,d_iLyEi,pureR_iLyEi l,pureR_y]
theorem lenB_iLyEi (l:List K_iLyEi):∀r∈l.map b_iLyEi,r.length=3:=by intro r h; obtain⟨x,_,rfl⟩:=List.mem_map.1 h; rfl
theorem lenD_iLyEi (l:List K_iLyEi):∀r∈l.map d_iLyEi,r.length=3:=by intro r h; obtain⟨x,_,rfl⟩:=List.mem_map.1 h; rfl
def ok_iLyEi (x:K_iLyEi):Prop:=(length x.f1*1≤140737488351232)
structure K_iLyE where
  f0:Int
  f1:(List Int)
def b_iLyE (x:K_iLyE):List B:=[(.val (.int .i64 x.f0)),(.sl (map b_y x.f1))]
def d_iLyE (x:K_iLyE):List D:=[(.val (.int .i64 x.f0)),(.own 1 (map d_y x.f1))]
theorem toBR_iLyE:∀(l:List K_iLyE),toBR (l.map d_iLyE)=l.map b_iLyE
  |[]=>rfl
  |x::l=>by simp[toBR,toBL,toB,d_iLyE,b_iLyE,toBR_iLyE l,toBR_y]
theorem fullR_iLyE:∀(l:List K_iLyE),fullR (l.map d_iLyE)=true
  |[]=>rfl
  |x::l=>by simp[fullR,fullL,full,d_iLyE,fullR_iLyE l,fullR_y]
theorem pureR_iLyE:∀(l:List K_iLyE),pureR (l.map d_iLyE)=true
  |[]=>rfl
  |x::l=>by simp[pureR,pureL,V.pure,d_iLyE,pureR_iLyE l,pureR_y]
theorem lenB_iLyE (l:List K_iLyE):∀r∈l.map b_iLyE,r.length=2:=by intro r h; obtain⟨x,_,rfl⟩:=List.mem_map.1 h; rfl
theorem lenD_iLyE (l:List K_iLyE):∀r∈l.map d_iLyE,r.length=2:=by intro r h; obtain⟨x,_,rfl⟩:=List.mem_map.1 h; rfl
def ok_iLyE (x:K_iLyE):Prop:=(length x.f1*1≤140737488351232)
def b_i (x:Int):List B:=[(.val (.int .i64 x))]
def d_i (x:Int):List D:=[(.val (.int .i64 x))]
theorem toBR_i:∀(l:List Int),toBR (l.map d_i)=l.map b_i
  |[]=>rfl
  |x::l=>by simp[toBR,toBL,toB,d_i,b_i,toBR_i l]
theorem fullR_i:∀(l:List Int),fullR (l.map d_i)=true
  |[]=>rfl
  |x::l=>by simp[fullR,fullL,full,d_i,fullR_i l]
theorem pureR_i:∀(l:List Int),pureR (l.map d_i)=true
  |[]=>rfl
  |x::l=>by simp[pureR,pureL,V.pure,d_i,pureR_i l]
theorem lenB_i (l:List Int):∀r∈l.map b_i,r.length=1:=by intro r h; obtain⟨x,_,rfl⟩:=List.mem_map.1 h; rfl
theorem lenD_i (l:List Int):∀r∈l.map d_i,r.length=1:=by intro r h; obtain⟨x,_,rfl⟩:=List.mem_map.1 h; rfl
theorem fromBR_i (n:Nat) (l:List Int):fromBR n (l.map b_i)=l.map d_i:=by simp[fromBR,b_i,d_i,fromB,Function.comp_def]
theorem copy_i (l:List Int):(l.map d_i).all (fun x=>x.all copyable)=true:=by simp[d_i,copyable,Function.comp_def]
def b_s (x:ByteArray):List B:=[(.val (.string x))]
def d_s (x:ByteArray):List D:=[(.val (.string x))]
theorem toBR_s:∀(l:List ByteArray),toBR (l.map d_s)=l.map b_s
  |[]=>rfl
  |x::l=>by simp[toBR,toBL,toB,d_s,b_s,toBR_s l]
theorem fullR_s:∀(l:List ByteArray),fullR (l.map d_s)=true
  |[]=>rfl
  |x::l=>by simp[fullR,fullL,full,d_s,fullR_s l]
theorem pureR_s:∀(l:List ByteArray),pureR (l.map d_s)=true
  |[]=>rfl
  |x::l=>by simp[pureR,pureL,V.pure,d_s,pureR_s l]
theorem lenB_s (l:List ByteArray):∀r∈l.map b_s,r.length=1:=by intro r h; obtain⟨x,_,rfl⟩:=List.mem_map.1 h; rfl
theorem lenD_s (l:List ByteArray):∀r∈l.map d_s,r.length=1:=by intro r h; obtain⟨x,_,rfl⟩:=List.mem_map.1 h; rfl
theorem fromBR_s (n:Nat) (l:List ByteArray):fromBR n (l.map b_s)=l.map d_s:=by simp[fromBR,b_s,d_s,fromB,Function.comp_def]
theorem copy_s (l:List ByteArray):(l.map d_s).all (fun x=>x.all copyable)=true:=by simp[d_s,copyable,Function.comp_def]
def b_LiE (x:(List Int)):List B:=[(.sl (map b_i x))]
def d_LiE (x:(List Int)):List D:=[(.own 1 (map d_i x))]
theorem toBR_LiE:∀(l:List (List Int)),toBR (l.map d_LiE)=l.map b_LiE
  |[]=>rfl
  |x::l=>by simp[toBR,toBL,toB,d_LiE,b_LiE,toBR_LiE l,toBR_i]
theorem fullR_LiE:∀(l:List (List Int)),fullR (l.map d_LiE)=true
  |[]=>rfl
  |x::l=>by simp[fullR,fullL,full,d_LiE,fullR_LiE l,fullR_i]
theorem pureR_LiE:∀(l:List (List Int)),pureR (l.map d_LiE)=true
  |[]=>rfl
  |x::l=>by simp[pureR,pureL,V.pure,d_LiE,pureR_LiE l,pureR_i]
theorem lenB_LiE (l:List (List Int)):∀r∈l.map b_LiE,r.length=1:=by intro r h; obtain⟨x,_,rfl⟩:=List.mem_map.1 h; rfl
theorem lenD_LiE (l:List (List Int)):∀r∈l.map d_LiE,r.length=1:=by intro r h; obtain⟨x,_,rfl⟩:=List.mem_map.1 h; rfl
def ok_LiE (x:(List Int)):Prop:=(length x*8≤140737488351232)
structure K_si where
  f0:ByteArray
  f1:Int
def b_si (x:K_si):List B:=[(.val (.string x.f0)),(.val (.int .i64 x.f1))]
def d_si (x:K_si):List D:=[(.val (.string x.f0)),(.val (.int .i64 x.f1))]
theorem toBR_si:∀(l:List K_si),toBR (l.map d_si)=l.map b_si
  |[]=>rfl
  |x::l=>by simp[toBR,toBL,toB,d_si,b_si,toBR_si l]
theorem fullR_si:∀(l:List K_si),fullR (l.map d_si)=true
  |[]=>rfl
  |x::l=>by simp[fullR,fullL,full,d_si,fullR_si l]
theorem pureR_si:∀(l:List K_si),pureR (l.map d_si)=true
  |[]=>rfl
  |x::l=>by simp[pureR,pureL,V.pure,d_si,pureR_si l]
theorem ft_si (a b:Nat) (l:List K_si):fullR (take a (drop b (l.map d_si)))=true:=by rw[← map_drop,← map_take]; exact fullR_si _
theorem tb_si (l:List K_si):toBR (take (l.map d_si).length (drop 0 (l.map d_si)))=l.map b_si:=by rw[List.drop_zero,List.take_length]; exact toBR_si l
theorem ln_si {hs q} (x:List K_si) (r:PS F X hs q):PS F X hs ((0+(x.map d_si).length≤(x.map d_si).length)::(fullR (take (x.map d_si).length (drop 0 (x.map d_si)))=true)::(toBR (take (x.map d_si).length (drop 0 (x.map d_si)))=x.map b_si)::q):=.f (Nat.le_of_eq (Nat.zero_add _)) (.f (ft_si _ _ _) (.f (tb_si _) r))
theorem lenB_si (l:List K_si):∀r∈l.map b_si,r.length=2:=by intro r h; obtain⟨x,_,rfl⟩:=List.mem_map.1 h; rfl
theorem lenD_si (l:List K_si):∀r∈l.map d_si,r.length=2:=by intro r h; obtain⟨x,_,rfl⟩:=List.mem_map.1 h; rfl
theorem fromBR_si (n:Nat) (l:List K_si):fromBR n (l.map b_si)=l.map d_si:=by simp[fromBR,b_si,d_si,fromB,Function.comp_def]
theorem copy_si (l:List K_si):(l.map d_si).all (fun x=>x.all copyable)=true:=by simp[d_si,copyable,Function.comp_def]
theorem ct_si (a b:Nat) (l:List K_si):((take a (drop b (l.map d_si))).all fun x=>x.all copyable)=true:=by rw[← map_drop,← map_take]; exact copy_si _
structure K_R where
  f0:Int
  f1:Int
  f2:Int
  f3:(List K_si)
  f4:Int
def b_R (x:K_R):List B:=[(.val (.int .i64 x.f0)),(.val (.int .i64 x.f1)),(.val (.int .i64 x.f2)),(.sl (map b_si x.f3)),(.val (.int .i64 x.f4))]
def d_R (x:K_R):List D:=[(.val (.int .i64 x.f0)),(.val (.int .i64 x.f1)),(.val (.int .i64 x.f2)),(.own 2 (map d_si x.f3)),(.val (.int .i64 x.f4))]
theorem toBR_R:∀(l:List K_R),toBR (l.map d_R)=l.map b_R
  |[]=>rfl
  |x::l=>by simp[toBR,toBL,toB,d_R,b_R,toBR_R l,toBR_si]
theorem fullR_R:∀(l:List K_R),fullR (l.map d_R)=true
  |[]=>rfl
  |x::l=>by simp[fullR,fullL,full,d_R,fullR_R l,fullR_si]
theorem pureR_R:∀(l:List K_R),pureR (l.map d_R)=true
  |[]=>rfl
  |x::l=>by simp[pureR,pureL,V.pure,d_R,pureR_R l,pureR_si]
theorem ft_R (a b:Nat) (l:List K_R):fullR (take a (drop b (l.map d_R)))=true:=by rw[← map_drop,← map_take]; exact fullR_R _
theorem tb_R (l:List K_R):toBR (take (l.map d_R).length (drop 0 (l.map d_R)))=l.map b_R:=by rw[List.drop_zero,List.take_length]; exact toBR_R l
theorem ln_R {hs q} (x:List K_R) (r:PS F X hs q):PS F X hs ((0+(x.map d_R).length≤(x.map d_R).length)::(fullR (take (x.map d_R).length (drop 0 (x.map d_R)))=true)::(toBR (take (x.map d_R).length (drop 0 (x.map d_R)))=x.map b_R)::q):=.f (Nat.le_of_eq (Nat.zero_add _)) (.f (ft_R _ _ _) (.f (tb_R _) r))
theorem lenB_R (l:List K_R):∀r∈l.map b_R,r.length=5:=by intro r h; obtain⟨x,_,rfl⟩:=List.mem_map.1 h; rfl
theorem lenD_R (l:List K_R):∀r∈l.map d_R,r.length=5:=by intro r h; obtain⟨x,_,rfl⟩:=List.mem_map.1 h; rfl
def ok_R (x:K_R):Prop:=(length x.f3*24≤140737488351232)
structure K_C where
  f0:Int
  f1:Int
  f2:Int
  f3:Int
  f4:(List K_si)
  f5:(List K_R)
  f6:(List K_si)
  f7:Int
  f8:Int
  f9:Int
def b_C (x:K_C):List B:=[(.val (.int .i64 x.f0)),(.val (.int .i64 x.f1)),(.val (.int .i64 x.f2)),(.val (.int .i64 x.f3)),(.sl (map b_si x.f4)),(.sl (map b_R x.f5)),(.sl (map b_si x.f6)),(.val (.int .i64 x.f7)),(.val (.int .i64 x.f8)),(.val (.int .i64 x.f9))]
def d_C (x:K_C):List D:=[(.val (.int .i64 x.f0)),(.val (.int .i64 x.f1)),(.val (.int .i64 x.f2)),(.val (.int .i64 x.f3)),(.own 2 (map d_si x.f4)),(.own 5 (map d_R x.f5)),(.own 2 (map d_si x.f6)),(.val (.int .i64 x.f7)),(.val (.int .i64 x.f8)),(.val (.int .i64 x.f9))]
theorem toBR_C:∀(l:List K_C),toBR (l.map d_C)=l.map b_C
  |[]=>rfl
  |x::l=>by simp[toBR,toBL,toB,d_C,b_C,toBR_C l,toBR_si,toBR_R]
theorem fullR_C:∀(l:List K_C),fullR (l.map d_C)=true
  |[]=>rfl
  |x::l=>by simp[fullR,fullL,full,d_C,fullR_C l,fullR_si,fullR_R]
theorem pureR_C:∀(l:List K_C),pureR (l.map d_C)=true
  |[]=>rfl
  |x::l=>by simp[pureR,pureL,V.pure,d_C,pureR_C l,pureR_si,pureR_R]
theorem lenB_C (l:List K_C):∀r∈l.map b_C,r.length=10:=by intro r h; obtain⟨x,_,rfl⟩:=List.mem_map.1 h; rfl
theorem lenD_C (l:List K_C):∀r∈l.map d_C,r.length=10:=by intro r h; obtain⟨x,_,rfl⟩:=List.mem_map.1 h; rfl
def ok_C (x:K_C):Prop:=(length x.f4*24≤140737488351232)∧(length x.f5*56≤140737488351232)∧(∀z∈x.f5,ok_R z)∧(length x.f6*24≤140737488351232)
structure K_B where
  f0:Int
  f1:Int
  f2:(List K_si)
  f3:(List K_R)
  f4:(List K_si)
  f5:Int
  f6:Int
  f7:Int
def b_B (x:K_B):List B:=[(.val (.int .i64 x.f0)),(.val (.int .i64 x.f1)),(.sl (map b_si x.f2)),(.sl (map b_R x.f3)),(.sl (map b_si x.f4)),(.val (.int .i64 x.f5)),(.val (.int .i64 x.f6)),(.val (.int .i64 x.f7))]
def d_B (x:K_B):List D:=[(.val (.int .i64 x.f0)),(.val (.int .i64 x.f1)),(.own 2 (map d_si x.f2)),(.own 5 (map d_R x.f3)),(.own 2 (map d_si x.f4)),(.val (.int .i64 x.f5)),(.val (.int .i64 x.f6)),(.val (.int .i64 x.f7))]
abbrev k_B (l0:Nat) (l1:Nat) (l2:Nat) (x:K_B):List CV:=[(.val (.int .i64 x.f0)),(.val (.int .i64 x.f1)),(.bor l0 (map b_si x.f2)),(.bor l1 (map b_R x.f3)),(.bor l2 (map b_si x.f4)),(.val (.int .i64 x.f5)),(.val (.int .i64 x.f6)),(.val (.int .i64 x.f7))]
theorem toBR_B:∀(l:List K_B),toBR (l.map d_B)=l.map b_B
  |[]=>rfl
  |x::l=>by simp[toBR,toBL,toB,d_B,b_B,toBR_B l,toBR_si,toBR_R]
theorem fullR_B:∀(l:List K_B),fullR (l.map d_B)=true
  |[]=>rfl
  |x::l=>by simp[fullR,fullL,full,d_B,fullR_B l,fullR_si,fullR_R]
theorem pureR_B:∀(l:List K_B),pureR (l.map d_B)=true
  |[]=>rfl
  |x::l=>by simp[pureR,pureL,V.pure,d_B,pureR_B l,pureR_si,pureR_R]
theorem lenB_B (l:List K_B):∀r∈l.map b_B,r.length=8:=by intro r h; obtain⟨x,_,rfl⟩:=List.mem_map.1 h; rfl
theorem lenD_B (l:List K_B):∀r∈l.map d_B,r.length=8:=by intro r h; obtain⟨x,_,rfl⟩:=List.mem_map.1 h; rfl
def ok_B (x:K_B):Prop:=(length x.f2*24≤140737488351232)∧(length x.f3*56≤140737488351232)∧(∀z∈x.f3,ok_R z)∧(length x.f4*24≤140737488351232)
def b_LsiE (x:(List K_si)):List B:=[(.sl (map b_si x))]
def d_LsiE (x:(List K_si)):List D:=[(.own 2 (map d_si x))]
theorem toBR_LsiE:∀(l:List (List K_si)),toBR (l.map d_LsiE)=l.map b_LsiE
  |[]=>rfl
  |x::l=>by simp[toBR,toBL,toB,d_LsiE,b_LsiE,toBR_LsiE l,toBR_si]
theorem fullR_LsiE:∀(l:List (List K_si)),fullR (l.map d_LsiE)=true
  |[]=>rfl
  |x::l=>by simp[fullR,fullL,full,d_LsiE,fullR_LsiE l,fullR_si]
theorem pureR_LsiE:∀(l:List (List K_si)),pureR (l.map d_LsiE)=true
  |[]=>rfl
  |x::l=>by simp[pureR,pureL,V.pure,d_LsiE,pureR_LsiE l,pureR_si]
theorem lenB_LsiE (l:List (List K_si)):∀r∈l.map b_LsiE,r.length=1:=by intro r h; obtain⟨x,_,rfl⟩:=List.mem_map.1 h; rfl
theorem lenD_LsiE (l:List (List K_si)):∀r∈l.map d_LsiE,r.length=1:=by intro r h; obtain⟨x,_,rfl⟩:=List.mem_map.1 h; rfl
def ok_LsiE (x:(List K_si)):Prop:=(length x*24≤140737488351232)
def b_LLyEE (x:(List (List Int))):List B:=[(.sl (map b_LyE x))]
def d_LLyEE (x:(List (List Int))):List D:=[(.own 1 (map d_LyE x))]
theorem toBR_LLyEE:∀(l:List (List (List Int))),toBR (l.map d_LLyEE)=l.map b_LLyEE
  |[]=>rfl
  |x::l=>by simp[toBR,toBL,toB,d_LLyEE,b_LLyEE,toBR_LLyEE l,toBR_LyE]
theorem fullR_LLyEE:∀(l:List (List (List Int))),fullR (l.map d_LLyEE)=true
  |[]=>rfl
  |x::l=>by simp[fullR,fullL,full,d_LLyEE,fullR_LLyEE l,fullR_LyE]
theorem pureR_LLyEE:∀(l:List (List (List Int))),pureR (l.map d_LLyEE)=true
  |[]=>rfl
  |x::l=>by simp[pureR,pureL,V.pure,d_LLyEE,pureR_LLyEE l,pureR_LyE]
theorem lenB_LLyEE (l:List (List (List Int))):∀r∈l.map b_LLyEE,r.length=1:=by intro r h; obtain⟨x,_,rfl⟩:=List.mem_map.1 h; rfl
theorem lenD_LLyEE (l:List (List (List Int))):∀r∈l.map d_LLyEE,r.length=1:=by intro r h; obtain⟨x,_,rfl⟩:=List.mem_map.1 h; rfl
def ok_LLyEE (x:(List (List Int))):Prop:=(length x*24≤140737488351232)∧(∀z∈x,ok_LyE z)
def b_LisiiE (x:(List K_isii)):List B:=[(.sl (map b_isii x))]
def d_LisiiE (x:(List K_isii)):List D:=[(.own 4 (map d_isii x))]
theorem toBR_LisiiE:∀(l:List (List K_isii)),toBR (l.map d_LisiiE)=l.map b_LisiiE
  |[]=>rfl
  |x::l=>by simp[toBR,toBL,toB,d_LisiiE,b_LisiiE,toBR_LisiiE l,toBR_isii]
theorem fullR_LisiiE:∀(l:List (List K_isii)),fullR (l.map d_LisiiE)=true
  |[]=>rfl
  |x::l=>by simp[fullR,fullL,full,d_LisiiE,fullR_LisiiE l,fullR_isii]
theorem pureR_LisiiE:∀(l:List (List K_isii)),pureR (l.map d_LisiiE)=true
  |[]=>rfl
  |x::l=>by simp[pureR,pureL,V.pure,d_LisiiE,pureR_LisiiE l,pureR_isii]
theorem lenB_LisiiE (l:List (List K_isii)):∀r∈l.map b_LisiiE,r.length=1:=by intro r h; obtain⟨x,_,rfl⟩:=List.mem_map.1 h; rfl
theorem lenD_LisiiE (l:List (List K_isii)):∀r∈l.map d_LisiiE,r.length=1:=by intro r h; obtain⟨x,_,rfl⟩:=List.mem_map.1 h; rfl
def ok_LisiiE (x:(List K_isii)):Prop:=(length x*40≤140737488351232)
def b_Q (x:(List K_R)):List B:=[(.sl (map b_R x))]
def d_Q (x:(List K_R)):List D:=[(.own 5 (map d_R x))]
theorem toBR_Q:∀(l:List (List K_R)),toBR (l.map d_Q)=l.map b_Q
  |[]=>rfl
  |x::l=>by simp[toBR,toBL,toB,d_Q,b_Q,toBR_Q l,toBR_R]
theorem fullR_Q:∀(l:List (List K_R)),fullR (l.map d_Q)=true
  |[]=>rfl
  |x::l=>by simp[fullR,fullL,full,d_Q,fullR_Q l,fullR_R]
theorem pureR_Q:∀(l:List (List K_R)),pureR (l.map d_Q)=true
  |[]=>rfl
  |x::l=>by simp[pureR,pureL,V.pure,d_Q,pureR_Q l,pureR_R]
theorem lenB_Q (l:List (List K_R)):∀r∈l.map b_Q,r.length=1:=by intro r h; obtain⟨x,_,rfl⟩:=List.mem_map.1 h; rfl
theorem lenD_Q (l:List (List K_R)):∀r∈l.map d_Q,r.length=1:=by intro r h; obtain⟨x,_,rfl⟩:=List.mem_map.1 h; rfl
def ok_Q (x:(List K_R)):Prop:=(length x*56≤140737488351232)∧(∀z∈x,ok_R z)
attribute [local simp] strInts_len byteRows_len toBR_y fullR_y pureR_y lenB_y lenD_y fromBR_y copy_y toBR_LyE fullR_LyE pureR_LyE lenB_LyE lenD_LyE toBR_b fullR_b pureR_b lenB_b lenD_b fromBR_b copy_b toBR_isii fullR_isii pureR_isii lenB_isii lenD_isii fromBR_isii copy_isii toBR_iiLisiiE fullR_iiLisiiE pureR_iiLisiiE lenB_iiLisiiE lenD_iiLisiiE toBR_LyEi fullR_LyEi pureR_LyEi lenB_LyEi lenD_LyEi toBR_iLyEi fullR_iLyEi pureR_iLyEi lenB_iLyEi lenD_iLyEi toBR_iLyE fullR_iLyE pureR_iLyE lenB_iLyE lenD_iLyE toBR_i fullR_i pureR_i lenB_i lenD_i fromBR_i copy_i toBR_s fullR_s pureR_s lenB_s lenD_s fromBR_s copy_s toBR_LiE fullR_LiE pureR_LiE lenB_LiE lenD_LiE toBR_si fullR_si pureR_si lenB_si lenD_si fromBR_si copy_si toBR_R fullR_R pureR_R lenB_R lenD_R toBR_C fullR_C pureR_C lenB_C lenD_C toBR_B fullR_B pureR_B lenB_B lenD_B toBR_LsiE fullR_LsiE pureR_LsiE lenB_LsiE lenD_LsiE toBR_LLyEE fullR_LLyEE pureR_LLyEE lenB_LLyEE lenD_LLyEE toBR_LisiiE fullR_LisiiE pureR_LisiiE lenB_LisiiE lenD_LisiiE toBR_Q fullR_Q pureR_Q lenB_Q lenD_Q
def S (a:K_LyEi) (n:Nat):Prop:=(∀z∈a.f0,(0:Int)≤z∧z≤255)∧length a.f0≤140737488351232∧0≤a.f1∧a.f1+n≤1000000
theorem S_le {a:K_LyEi} {n m:Nat} (h:S a n) (hm:m≤n):S a m:=⟨h.1,h.2.1,h.2.2.1,by have:=h.2.2.2; omega⟩
theorem at_eq (a:K_LyEi) (h:S a 1):wrap .i64 (wrap .i64 (a.f1+1) - 1)=a.f1∧wrap .i64 (a.f1+1)=a.f1+1:=by
  obtain⟨_,_,h1,h2⟩:=h
  have e:wrap .i64 (a.f1+1)=a.f1+1:=wrap64 (by omega)
  refine⟨?_,e⟩
  rw[e,wrap64 (by omega)]; omega
theorem idx_lt (x:Int) (l:List Int) (h0:0≤x) (h:((length (map b_y l)):Int)≠0):toNat (Int.tmod x ((length (map b_y l)):Int)) < length l:=by
  rw[length_map] at h⊢
  have h1:=Int.tmod_lt_of_pos x (show (0:Int) <(l.length:Int) by omega)
  have h2:=Int.tmod_nonneg (l.length:Int) h0
  omega
theorem getD_b (l:List Int) (h:∀z∈l,(0:Int)≤z∧z≤255) (i:Nat):0≤getD l i 0∧getD l i 0≤255:=by
  rw[List.getD_eq_getElem?_getD]
  cases e:l[i]? with
  |none=>simp
  |some z=>exact h z (List.mem_of_getElem? e)
def GW (l:List K_si):Prop:=l.length≤12∧(∀z∈l,1≤z.f1∧z.f1≤9999)∧∀z∈l,ByteArray.size z.f0≤3
def GP (n:Nat) (l:List K_si):Prop:=l.length≤n∧∀z∈l,ByteArray.size z.f0≤3
def GR (n:Nat) (l:List K_R):Prop:=l.length≤n∧∀z∈l,GP 12 z.f3
def GL (a:K_B):Prop:=(1≤a.f0∧a.f0≤12)∧(0≤a.f1∧a.f1≤1000)∧GW a.f2∧GR 6 a.f3∧GP 8 a.f4
theorem gr_le {n m:Nat} {l:List K_R} (h:GR n l) (hm:n≤m):GR m l:=⟨Nat.le_trans h.1 hm,h.2⟩
theorem gr_app {n:Nat} {l:List K_R} {x:K_R} (h:GR n l) (hx:GP 12 x.f3):GR (n+1) (l++ [x]):=by
  refine⟨by have:=h.1; simp; omega,fun z hz=>?_⟩
  rcases List.mem_append.1 hz with hz | hz
  · exact h.2 z hz
  rw[List.mem_singleton.1 hz]; exact hx
theorem gr_set {n:Nat} {l:List K_R} {i:Nat} {x:K_R} (h:GR n l) (hx:GP 12 x.f3):GR n (l.set i x):=by
  refine⟨by rw[length_set]; exact h.1,fun z hz=>?_⟩
  rcases List.mem_or_eq_of_mem_set hz with hz | rfl
  · exact h.2 z hz
  exact hx
theorem gr_get {n:Nat} {l:List K_R} (h:GR n l) (i:Nat):GP 12 (getD l i (K_R.mk 0 0 0 [] 0)).f3:=by
  rw[List.getD_eq_getElem?_getD]
  cases e:l[i]? with
  |none=>exact⟨by simp,fun z hz=>by cases hz⟩
  |some x=>exact h.2 x (List.mem_of_getElem? e)
theorem sz_get {l:List K_si} (h:∀z∈l,ByteArray.size z.f0≤3) (i:Nat):ByteArray.size (getD l i (K_si.mk (⟨#[]⟩:ByteArray) 0)).f0≤3:=by
  rw[List.getD_eq_getElem?_getD]
  cases e:l[i]? with
  |none=>simp[ByteArray.size]
  |some x=>exact h x (List.mem_of_getElem? e)
theorem sz_set {l:List K_si} (h:∀z∈l,ByteArray.size z.f0≤3) (i:Nat) {x:K_si} (hx:ByteArray.size x.f0≤3):∀z∈l.set i x,ByteArray.size z.f0≤3:=by
  intro z hz
  rcases List.mem_or_eq_of_mem_set hz with hz | rfl
  · exact h z hz
  exact hx
theorem sz_app {l:List K_si} (h:∀z∈l,ByteArray.size z.f0≤3) {x:K_si} (hx:ByteArray.size x.f0≤3):∀z∈l++ [x],ByteArray.size z.f0≤3:=by
  intro z hz
  rcases List.mem_append.1 hz with hz | hz
  · exact h z hz
  rw[List.mem_singleton.1 hz]; exact hx
theorem glh {a:K_B} (h:GL a):a.f2.length≤12∧a.f3.length≤6∧a.f4.length≤8∧1≤a.f0∧a.f0≤12∧0≤a.f1∧a.f1≤1000:=⟨h.2.2.1.1,h.2.2.2.1.1,h.2.2.2.2.1,h.1.1,h.1.2,h.2.1.1,h.2.1.2⟩
theorem glw {a:K_B} (h:GL a):∀z∈a.f2,1≤z.f1∧z.f1≤9999:=h.2.2.1.2.1
theorem glp {a:K_B} (h:GL a):∀z∈a.f3,length z.f3≤100:=fun z hz=>Nat.le_trans (h.2.2.2.1.2 z hz).1 (by decide)
theorem glo {a:K_B} (h:GL a):∀z∈a.f3,ok_R z:=fun z hz=>by have:=(h.2.2.2.1.2 z hz).1; unfold ok_R; omega
theorem GL0:GL (K_B.mk 4 10 [] [] [] 0 0 0):=⟨by decide,by decide,⟨by simp,fun z hz=>(by cases hz),fun z hz=>(by cases hz)⟩,⟨by simp,fun z hz=>(by cases hz)⟩,⟨by simp,fun z hz=>(by cases hz)⟩⟩
abbrev zz (a b:K_LyEi):K_LyEi:=K_LyEi.mk a.f0 b.f1
theorem LN:(∀{α β:Type} (f:α→β) (l:List α),length (map f l)=length l)∧(∀{α:Type} (l:List α) (i:Nat) (a:α),length (set l i a)=length l)∧(∀{α:Type} (a b:List α),length (a++b)=length a+length b)∧(∀{α:Type} (n:Nat) (a:α),length (List.replicate n a)=n)∧(∀{α:Type} (a:α) (l:List α),length (a::l)=length l+1)∧(∀{α:Type},length ([]:List α)=0):=⟨fun _ _=>List.length_map _,fun _ _ _=>List.length_set,fun _ _=>List.length_append,fun _ _=>List.length_replicate,fun _ _=>rfl,rfl⟩
theorem p3 {hs q} (x:List K_si) (y:List K_R) (z:List K_si) (r:PS F X hs q):PS F X hs ((0=0)::(length (map d_si x)=length (map d_si x))::(0=0)::(length (map d_R y)=length (map d_R y))::(0=0)::(length (map d_si z)=length (map d_si z))::q):=pe 0 (pe (length (map d_si x)) (pe 0 (pe (length (map d_R y)) (pe 0 (pe (length (map d_si z)) r)))))
theorem l3 {hs q} (x:List K_si) (y:List K_R) (z:List K_si) (r:PS F X hs q):PS F X hs ((0+(x.map d_si).length≤(x.map d_si).length)::(fullR (take (x.map d_si).length (drop 0 (x.map d_si)))=true)::(toBR (take (x.map d_si).length (drop 0 (x.map d_si)))=x.map b_si)::(0+(y.map d_R).length≤(y.map d_R).length)::(fullR (take (y.map d_R).length (drop 0 (y.map d_R)))=true)::(toBR (take (y.map d_R).length (drop 0 (y.map d_R)))=y.map b_R)::(0+(z.map d_si).length≤(z.map d_si).length)::(fullR (take (z.map d_si).length (drop 0 (z.map d_si)))=true)::(toBR (take (z.map d_si).length (drop 0 (z.map d_si)))=z.map b_si)::q):=ln_si x (ln_R y (ln_si z r))
theorem ya {p:Prop} (h:p:=by kernel_rfl):p:=h
theorem yb {p:Prop} (h:p:=by omega):p:=h
theorem yc {p:Prop} (h:p:=by have q:=bdG (a:=m38 a0) (S_le (S_src a0 hy0 hy1) (by omega)); omega):p:=h
theorem yd {p:Prop} (h:p:=by simp only[List.drop_zero,tbr,tsi,ly_y,ly0_y,← List.map_append,List.take_length,List.cons_append,List.nil_append,append_assoc,toBR_y,fullR_y,pureR_y,copy_y,ints_y]; done):p:=h
theorem ye {p:Prop} (h:p:=by (repeat (first | with_reducible refine sm110 ?_ rfl | with_reducible refine sm64 _ ?_ rfl | with_reducible refine sm41 _ ?_ rfl | with_reducible refine sm48 _ ?_ rfl | with_reducible refine sm40 ?_ rfl)); exact S_le (by assumption) (by omega)):p:=h
theorem yf {p:Prop} (h:p:=by (repeat (first | with_reducible refine sm41 _ ?_ rfl | with_reducible refine sm48 _ ?_ rfl | with_reducible refine sm40 ?_ rfl)); exact S_le (by assumption) (by omega)):p:=h
theorem yg {p:Prop} (h:p:=by (repeat (first | with_reducible refine sm62 ?_ rfl | with_reducible refine sm64 _ ?_ rfl | with_reducible refine sm65 ?_ rfl | with_reducible refine sm41 _ ?_ rfl | with_reducible refine sm48 _ ?_ rfl | with_reducible refine sm40 ?_ rfl)); exact S_le (S_src a0 (by assumption) (by assumption)) (by omega)):p:=h
theorem yh {p:Prop} (h:p:=by exact⟨(by (obtain⟨g0,g1,e0,e1,e2,e3,e4,e5,e6,e7,e8,e9⟩:=nums a0 hy0; simp only[decide_eq_true_eq,bne_iff_ne,ne_eq,beq_iff_eq,Decidable.not_not,length_map,length_take,length_drop,bo_size,pack_exact] at*; omega)),(by first | exact lenB_y _ |(intro r hr; exact lenB_y _ r (List.mem_of_mem_drop (List.mem_of_mem_take hr))))⟩):p:=h
theorem yi {p:Prop} (h:p:=by exact⟨(by (obtain⟨g0,g1,e0,e1,e2,e3,e4,e5,e6,e7,e8,e9⟩:=nums a0 hy0; simp only[decide_eq_true_eq,bne_iff_ne,ne_eq,beq_iff_eq,Decidable.not_not,length_map,length_take,length_drop,bo_size] at*; omega)),(by first | exact lenB_y _ |(intro r hr; exact lenB_y _ r (List.mem_of_mem_drop (List.mem_of_mem_take hr))))⟩):p:=h
theorem yj {p:Prop} (h:p:=by (repeat (first | with_reducible refine sm106 (by decide) (by decide) ?_ rfl | with_reducible refine sm41 _ ?_ rfl | with_reducible refine sm48 _ ?_ rfl | with_reducible refine sm40 ?_ rfl)); exact S_le (by assumption) (by omega)):p:=h
theorem yk {p:Prop} (h:p:=by simp only[List.drop_zero,tbr,tsi,ly_y,ly0_y,← List.map_append,List.take_length,List.cons_append,List.nil_append,append_assoc]; exact lenD_y _):p:=h
theorem yl {p:Prop} (h:p:=by rw[show (take (toNat ((length (map b_y a0)):Int) - toNat v2) (drop (toNat v2) (map b_y a0)))=(map b_y (drop (toNat v2) a0)) from by first | rfl |(simp[map_take,map_drop,four_len,high4,high2]; done) |(simp[byteRows_eq,map_take,map_drop,four_len,high4,high2]; done) |(simp[*,map_take,map_drop,four_len,high4,high2]; done) |(rw[take_of_length_le (by simp only[length_drop,length_take,length_map,Int.toNat_natCast]; omega)]; simp only[← map_drop,← map_take])]; exact(e121 (l0_0:=(l0_0+1)) (a0:=(drop (toNat v2) a0)) (by exact gdr hy0 _) (by simp only[length_drop]; omega))):p:=h
theorem ym {p:Prop} (h:p:=by (repeat (first | with_reducible refine sm110 ?_ rfl | with_reducible refine sm41 _ ?_ rfl | with_reducible refine sm48 _ ?_ rfl | with_reducible refine sm40 ?_ rfl)); exact S_le (by assumption) (by omega)):p:=h
theorem yn {p:Prop} (h:p:=by obtain⟨g0,g1,e0,e1,e2,e3,e4,e5,e6,e7,e8,e9⟩:=nums a0 hy0; simp only[decide_eq_true_eq,bne_iff_ne,ne_eq,beq_iff_eq,Decidable.not_not,length_map,length_take,length_drop,bo_size,pack_exact] at*; omega):p:=h
theorem yo {p:Prop} (h:p:=by have q:=rd_ok' (gdr hy0 _) (by assumption); simp only[length_drop] at q; simp only[length_map,length_append,length_cons,length_nil]; rw[wrap64 (by omega)]; omega):p:=h
theorem yp {p:Prop} (h:p:=by have q:=mlen_157 a1; simp only[length_map,length_nil,Nat.zero_add] at*; omega):p:=h
theorem yq {p:Prop} (h:p:=by rw[wrap64 (by simp only[decide_eq_true_eq] at*; omega)]; simp only[decide_eq_true_eq] at*; omega):p:=h
theorem yr {p:Prop} (h:p:=by simp only[decide_eq_true_eq] at*; omega):p:=h
theorem ys {p:Prop} (h:p:=by rw[append_assoc]; exact hp0):p:=h
theorem yt {p:Prop} (h:p:=by have q:=re_ok (d:=v2) (by assumption) (by assumption); simp only[length_map,length_append,length_cons,length_nil,length_drop]; rw[wrap64 (by omega)]; omega):p:=h
theorem yu {p:Prop} (h:p:=by have q1:=mlen_157 a1; have q2:=(mne_157 a1 (by assumption) (by omega)).1 (by omega); simp only[length_map,length_nil,length_set,Nat.zero_add] at*; omega):p:=h
theorem yv {p:Prop} (h:p:=by rfl):p:=h
theorem yw {p:Prop} (h:p:=by simp only[LN]; omega):p:=h
theorem yx {p:Prop} (h:p:=by exact(bdG (a:=m38 a0) (S_le (S_src a0 hy0 hy1) (by omega))).2):p:=h
theorem yy {p:Prop} (h:p:=by have q:=glh ‹_›; omega):p:=h
theorem yz {p:Prop} (h:p:=by simp only[cp103,length_map]; have q:=ix124 a0.f3 a1; simp only[decide_eq_true_eq] at*; omega):p:=h
theorem yA {p:Prop} (h:p:=by trivial):p:=h
theorem yB {p:Prop} (h:p:=by have q:=ix60 v0 x0.f0; simp only[decide_eq_true_eq,length_map] at*; omega):p:=h
theorem yC {p:Prop} (h:p:=by simp only[List.drop_zero,tbr,tsi,ly_y,ly0_y,← List.map_append,List.take_length,List.cons_append,List.nil_append,append_assoc]; simp only[length_map,length_append,length_cons,length_nil,strInts_len,four_len]; omega):p:=h
theorem yD {p:Prop} (h:p:=by simp[take_of_length_le,d_si,four_len]; done):p:=h
theorem yE {p:Prop} (h:p:=by have q:=bdG (a:=m38 a0) (S_le (S_src a0 hy0 hy1) (by omega)); simp only[length_take,length_drop]; omega):p:=h
theorem yF {p:Prop} (h:p:=by have pk:=pk_len x0; simp only[length_map,length_append,length_take,length_drop,length_cons] at*; omega):p:=h
theorem yG {p:Prop} (h:p:=by simp only[List.drop_zero,tbr,tsi,ly_y,ly0_y,← List.map_append,List.take_length,List.cons_append,List.nil_append,append_assoc]; done):p:=h
theorem yH {p:Prop} (h:p:=by obtain⟨g0,g1,e0,e1,e2,e3,e4,e5,e6,e7,e8,e9⟩:=nums a0 hy0; simp only[decide_eq_true_eq,bne_iff_ne,ne_eq,beq_iff_eq,Decidable.not_not,length_map,length_take,length_drop,bo_size] at*; omega):p:=h
theorem yI {p:Prop} (h:p:=by simp only[decide_eq_true_eq,length_map] at*; omega):p:=h
theorem yJ {p:Prop} (h:p:=by simp[take_of_length_le,d_y,four_len]; done):p:=h
theorem yK {p:Prop} (h:p:=by simp only[length_map,length_append,length_cons,length_nil,length_take,length_drop]; omega):p:=h
theorem yL {p:Prop} (h:p:=by have q:=rd_ok' (gdr hy0 _) (by assumption); simp only[length_drop] at q; intro z hz; rcases List.mem_append.1 hz with hz | hz; exact hi3 z hz; rw[List.mem_singleton.1 hz]; exact q.2.2):p:=h
theorem yM {p:Prop} (h:p:=by simp; done):p:=h
theorem yN {p:Prop} (h:p:=by simp[take_of_length_le,d_si,d_R,four_len]; done):p:=h
theorem yO {p:Prop} (h:p:=by simp[toBR,toBL,toB,tsi,byteRows_eq,b_y,b_LyE,b_b,b_isii,b_iiLisiiE,b_LyEi,b_iLyEi,b_iLyE,b_i,b_s,b_LiE,b_si,b_R,b_C,b_B,b_LsiE,b_LLyEE,b_LisiiE,b_Q,four_len,high4,high2]; done):p:=h
theorem yP {p:Prop} (h:p:=by have q:=re_ok (d:=v2) (by assumption) (by assumption); intro z hz; rcases List.mem_append.1 hz with hz | hz; exact hi3 z hz; rw[List.mem_singleton.1 hz]; exact q.2.2):p:=h
theorem yQ {p:Prop} (h:p:=by have q:=dk a0 hy0; simp only[decide_eq_true_eq,length_map] at*; have q5:=q.2.2.2.2.1 (by omega); omega):p:=h
theorem yR {p:Prop} (h:p:=by have q:=ix124 a0.f3 a1; simp only[decide_eq_true_eq,length_map] at*; omega):p:=h
theorem yS {p:Prop} (h:p:=by have j:=jn105 (a:=a2) (b:=0) (c:=1000000) ‹_›; have p:=(by with_reducible assumption:0≤a0.f1∧a0.f1≤1000); have q:=fee_ok j.1 j.2 p.1 p.2; omega):p:=h
theorem yT {p:Prop} (h:p:=by have q:=ix60 a0.f4 a1; simp only[decide_eq_true_eq,length_map] at*; omega):p:=h
theorem yU {p:Prop} (h:p:=by have e:wrap .i64 (a1 - 0)=a1:=(by rw[Int.sub_zero]; exact wrap64 (by omega)); rw[e] at h1⊢; simp only[decide_eq_true_eq,length_replicate] at*; omega):p:=h
theorem yV {p:Prop} (h:p:=by exact gtd (bdG (a:=m38 a0) (S_le (S_src a0 hy0 hy1) (by omega))).2 _ _):p:=h
theorem yW {p:Prop} (h:p:=by have q:=adL (a:=a0) hy0 hy1; omega):p:=h
theorem yX {p:Prop} (h:p:=by have z1:=(sz1 (a0:=a0) hy0 hy1).1; simp only[length_nil]; omega):p:=h
theorem yY {p:Prop} (h:p:=by rw[wrap64 (by simp only[decide_eq_true_eq] at*; omega)]; omega):p:=h
theorem yZ {p:Prop} (h:p:=by simp only[List.flatten_cons,List.flatten_nil,List.append_nil,length_append,length_cons,length_nil,strInts_len,high4,high2]; omega):p:=h
theorem yaa {p:Prop} (h:p:=by simp only[List.flatten_cons,length_append,List.flatten_nil,length_nil,length_map] at*; rw[wrap64 (by omega)]; omega):p:=h
theorem yab {p:Prop} (h:p:=by have q:=al125 ‹_›; simp only[decide_eq_true_eq,length_map,length_append,length_nil,length_cons] at*; omega):p:=h
theorem yac {p:Prop} (h:p:=by simp only[← map_drop,← map_take]; exact ints_y _):p:=h
theorem yad {p:Prop} (h:p:=by unfold m99 m157;(repeat' split)<;>simp_all<;>omega):p:=h
theorem yae {p:Prop} (h:p:=by simp only[length_map,apl]; have q:=es110 (K_LyEi.mk a0.f0 v0); omega):p:=h
theorem yaf {p:Prop} (h:p:=by exact(usd (a0:=a0) hy0 hy1 ‹_› ‹_›).2.2.1):p:=h
theorem yag {p:Prop} (h:p:=by simp[four_len]; done):p:=h
theorem yah {p:Prop} (h:p:=by simp only[cp103,length_map,length_append,length_cons,length_nil,length_take,length_drop]; omega):p:=h
theorem yai {p:Prop} (h:p:=by exact(usd (a0:=a0) hy0 hy1 ‹_› ‹_›).1):p:=h
theorem yaj {p:Prop} (h:p:=by simp only[← map_drop,← map_take,fromBR_y]; exact ints_y _):p:=h
theorem yak {p:Prop} (h:p:=by simp only[cp103,length_map]; have q:=ix60 a0.f4 a1; simp only[decide_eq_true_eq] at*; omega):p:=h
theorem yal {p:Prop} (h:p:=by exact le_of ‹_›):p:=h
theorem yam {p:Prop} (h:p:=by decide):p:=h
theorem yan {p:Prop} (h:p:=by have q:=re_ok (d:=v2) (by assumption) (by assumption); rw[wrap64 (by omega)]; omega):p:=h
theorem yao {p:Prop} (h:p:=by have q:=adL (a:=a0) hy0 hy1; have q2:=pk_len (m20_1 a0); simp only[bo_size]; omega):p:=h
theorem yap {p:Prop} (h:p:=by exact apG (by with_reducible assumption) (es110 _) (by with_reducible assumption)):p:=h
theorem yaq {p:Prop} (h:p:=by simp[fullR,fullL,full,pureR,pureL,V.pure,byteRows_eq,four_len,high4,high2]; done):p:=h
theorem yar {p:Prop} (h:p:=by unfold h106_0; simp only[hw]; done):p:=h
theorem yas {p:Prop} (h:p:=by unfold m117;(repeat' split)<;>simp_all<;>omega):p:=h
theorem yat {p:Prop} (h:p:=by exact sz_app hv (hl x (List.mem_cons_self ..))):p:=h
theorem yau {p:Prop} (h:p:=by rw[wrap64 (by omega)]; omega):p:=h
theorem yav {p:Prop} (h:p:=by simp[*,four_len,high4,high2,b_y,byteRows_eq,ints_y]; done):p:=h
theorem yaw {p:Prop} (h:p:=by simp[take_of_length_le,d_isii,four_len,high4,high2]; done):p:=h
theorem yax {p:Prop} (h:p:=by unfold h100_0; simp only[hw]; done):p:=h
theorem yay {p:Prop} (h:p:=by have q:=pk_len (m20_1 a0); omega):p:=h
theorem yaz {p:Prop} (h:p:=by exact glp ‹_›):p:=h
theorem yaA {p:Prop} (h:p:=by exact glo ‹_›):p:=h
theorem yaB {p:Prop} (h:p:=by exact sz_set hv _ (sz_get hv _)):p:=h
theorem yaC {p:Prop} (h:p:=by simp[four_len]; omega):p:=h
theorem yaD {p:Prop} (h:p:=by simp only[length_map]; omega):p:=h
theorem yaE {p:Prop} (h:p:=by simp only[LN]; done):p:=h
theorem T {hs q} (n:Nat) (r:PS F X hs q):PS F X ((n,.b true)::hs) q:=.h n (.b true) r
theorem U {hs q} (n:Nat) (r:PS F X hs q):PS F X ((n,.b false)::hs) q:=.h n (.b false) r
theorem N {hs q} {b:Bool} (h:¬b=true) (r:PS F X hs q):PS F X hs ((b=false)::q):=.f (nt h) r
def m6 (a0:(List Int)):Bool:=
  (decide (((length (map b_y a0)):Int) > 1048576))
theorem e6 {l0_0:Nat} {a0:(List Int)}:Ev F X (.call 6 [(.one (.bor l0_0 (map b_y a0)))] [] [] [(.one (.val (.bool (m6 a0))))]):=by
  exact cp ya .nil
def m38 (a0:(List Int)):K_LyEi:=
  (K_LyEi.mk a0 0)
theorem e38 {l0_0:Nat} {a0:(List Int)}:Ev F X (.call 38 [(.one (.bor (l0_0+1) (map b_y a0)))] [] [] [(.ptr [(.bor l0_0 (map b_y ((m38 a0).f0))),(.val (.int .i64 ((m38 a0).f1)))])]):=by
  exact cp ya .nil
theorem S_src (c:List Int) (h1:∀z∈c,(0:Int)≤z∧z≤255) (h2:length c≤140737488351232):S (m38 c) 1000:=by
  unfold m38
  exact⟨h1,h2,by simp,by simp⟩
def o48_0 (a0:K_LyEi) (a1:Int):K_LyEi:=
  (K_LyEi.mk a0.f0 (wrap .i64 (a0.f1+1)))
def m48 (a0:K_LyEi) (a1:Int):Int:=
  if(decide (a1 < 1))=true then 0 else
  if(((length (map b_y a0.f0)):Int)==0)=true then(Int.tmod (wrap .i64 ((wrap .i64 ((wrap .i64 (a0.f1+1)) - 1))*7)) a1) else
    if(decide (a1 > 200))=true then(Int.tmod (wrap .i64 ((wrap .i64 ((wrap .i64 ((wrap .i64 ((wrap .i64 ((getD a0.f0 (toNat (Int.tmod (wrap .i64 ((wrap .i64 (a0.f1+1)) - 1)) ((length (map b_y a0.f0)):Int))) 0)))+(wrap .i64 ((wrap .i64 (Int.tdiv (wrap .i64 ((wrap .i64 (a0.f1+1)) - 1)) ((length (map b_y a0.f0)):Int)))*37))))*251))+(wrap .i64 ((wrap .i64 ((getD a0.f0 (toNat (Int.tmod (wrap .i64 ((wrap .i64 ((wrap .i64 (a0.f1+1)) - 1))+1)) ((length (map b_y a0.f0)):Int))) 0)))*13))))+(wrap .i64 ((wrap .i64 (a0.f1+1)) - 1)))) a1) else
      (Int.tmod (wrap .i64 ((wrap .i64 ((getD a0.f0 (toNat (Int.tmod (wrap .i64 ((wrap .i64 (a0.f1+1)) - 1)) ((length (map b_y a0.f0)):Int))) 0)))+(wrap .i64 ((wrap .i64 (Int.tdiv (wrap .i64 ((wrap .i64 (a0.f1+1)) - 1)) ((length (map b_y a0.f0)):Int)))*37)))) a1)
theorem e48 {l0_0:Nat} {a0:K_LyEi} {a1:Int} (hy0:S a0 1):Ev F X (.call 48 [(.ptr ⟨(0,0,0),[],0,0,2⟩),(.one (.val (.int .i64 a1)))] [((0,0,0),⟨2,[[(.bor (l0_0+1) (map b_y a0.f0)),(.val (.int .i64 a0.f1))]],[]⟩)] [[[(.bor l0_0 (map b_y a0.f0)),(.val (.int .i64 ((o48_0 a0 a1).f1)))]]] [(.one (.val (.int .i64 (m48 a0 a1))))]):=by
  unfold m48 o48_0
  by_cases h0:(decide (a1 < 1))=true
  · try simp only[if_pos h0]
    exact cq [false] ya (.f trivial (.f h0 (T 24 .nil)))
  try simp only[if_neg h0]
  have P1 {hs q} (r:PS F X hs q):=(PS.f trivial (N h0 (U 24 r)))
  by_cases h1:(((length (map b_y a0.f0)):Int)==0)=true
  · try simp only[if_pos h1]
    have f3:a1≠0:=yr
    exact cq [false] ya (P1 (.f h1 (.f f3 (T 53 .nil))))
  try simp only[if_neg h1]
  have f3:((length (map b_y a0.f0)):Int)≠0:=(by intro q; simp_all; done)
  have f4:0≤(Int.tmod (wrap .i64 ((wrap .i64 (a0.f1+1)) - 1)) ((length (map b_y a0.f0)):Int)):=(by rw[(at_eq a0 hy0).1]; exact Int.tmod_nonneg _ hy0.2.2.1)
  have P2 {hs q} (r:PS F X hs q):=(P1 (N h1 (.f f3 (.f f4 (.f (mp_ b_y (getD_at a0.f0 (toNat (Int.tmod (wrap .i64 ((wrap .i64 (a0.f1+1)) - 1)) ((length (map b_y a0.f0)):Int))) 0 (by rw[(at_eq a0 hy0).1]; exact idx_lt _ _ hy0.2.2.1 (by assumption)))) (.f f3 (.f trivial (U 53 (.h 69 (.row [(.val (.int .u8 (getD a0.f0 (toNat (Int.tmod (wrap .i64 ((wrap .i64 (a0.f1+1)) - 1)) ((length (map b_y a0.f0)):Int))) 0)))]) r)))))))))
  by_cases h2:(decide (a1 > 200))=true
  · try simp only[if_pos h2]
    have f11:0≤(Int.tmod (wrap .i64 ((wrap .i64 ((wrap .i64 (a0.f1+1)) - 1))+1)) ((length (map b_y a0.f0)):Int)):=(by rw[(at_eq a0 hy0).1,(at_eq a0 hy0).2]; exact Int.tmod_nonneg _ (by have:=hy0.2.2.1; omega))
    have f15:a1≠0:=yr
    exact cq [false] ya (P2 (.f h2 (.f trivial (.f f3 (.f f11 (.f (mp_ b_y (getD_at a0.f0 (toNat (Int.tmod (wrap .i64 ((wrap .i64 ((wrap .i64 (a0.f1+1)) - 1))+1)) ((length (map b_y a0.f0)):Int))) 0 (by rw[(at_eq a0 hy0).1,(at_eq a0 hy0).2]; exact idx_lt _ _ (by have:=hy0.2.2.1; omega) (by assumption)))) (.f trivial (.f trivial (.f f15 (T 90 (.h 112 (.row [(.val (.int .u8 (getD a0.f0 (toNat (Int.tmod (wrap .i64 ((wrap .i64 ((wrap .i64 (a0.f1+1)) - 1))+1)) ((length (map b_y a0.f0)):Int))) 0)))]) .nil)))))))))))
  try simp only[if_neg h2]
  have f9:a1≠0:=yr
  exact cq [false] ya (P2 (N h2 (.f f9 (U 90 .nil))))
theorem rng (a:K_LyEi) (k:Int) (h:S a 1) (hk:1≤k) (hk2:k≤1000000000):0≤m48 a k∧m48 a k < k:=by
  have hm:∀x:Int,0≤x→0≤Int.tmod x k∧Int.tmod x k < k:=fun x hx=>⟨Int.tmod_nonneg _ hx,Int.tmod_lt_of_pos _ yb⟩
  obtain⟨e1,e2⟩:=at_eq a h
  obtain⟨hb,hl,h1,h2⟩:=h
  unfold m48
  rw[if_neg (by simp only[decide_eq_true_eq]; omega)]
  rw[e1]
  split
  · apply hm
    rw[wrap64 yb]; omega
  rename_i hn
  have hn':0 <((length (map b_y a.f0)):Int):=by simp at hn⊢; exact List.length_pos_iff.2 hn
  have hq1:0≤Int.tdiv a.f1 ((length (map b_y a.f0)):Int):=Int.tdiv_nonneg h1 yb
  have hq2:Int.tdiv a.f1 ((length (map b_y a.f0)):Int)≤a.f1:=by rw[Int.tdiv_eq_ediv_of_nonneg h1]; exact Int.ediv_le_self _ h1
  have hx:=getD_b a.f0 hb (toNat (Int.tmod a.f1 ((length (map b_y a.f0)):Int)))
  have hy:=getD_b a.f0 hb (toNat (Int.tmod (wrap .i64 (a.f1+1)) ((length (map b_y a.f0)):Int)))
  revert hq1 hq2 hx hy
  generalize Int.tdiv a.f1 _=q
  generalize getD a.f0 (toNat (Int.tmod a.f1 _)) 0=x
  generalize getD a.f0 _ 0=y
  intro hq1 hq2 hx hy
  have g1:wrap .i64 q=q:=wrap64 yb
  have g2:wrap .i64 (q*37)=q*37:=wrap64 yb
  have g3:wrap .i64 x=x:=wrap64 yb
  have g4:wrap .i64 (x+q*37)=x+q*37:=wrap64 yb
  have g5:wrap .i64 ((x+q*37)*251)=(x+q*37)*251:=wrap64 yb
  have g6:wrap .i64 y=y:=wrap64 yb
  have g7:wrap .i64 (y*13)=y*13:=wrap64 yb
  have g8:wrap .i64 ((x+q*37)*251+y*13)=(x+q*37)*251+y*13:=wrap64 yb
  have g9:wrap .i64 ((x+q*37)*251+y*13+a.f1)=(x+q*37)*251+y*13+a.f1:=wrap64 yb
  simp only[g1,g2,g3,g4,g5,g6,g7,g8,g9]
  split
  · apply hm; omega
  apply hm; omega
theorem st48 {a:K_LyEi} {n:Nat} (k:Int) (h:S a (n+1)):S (o48_0 a k) n:=by
  have e:=(at_eq a (S_le h yb)).2
  obtain⟨hb,hl,h1,h2⟩:=h
  unfold o48_0
  refine⟨hb,hl,?_,?_⟩
  · show 0≤wrap .i64 (a.f1+1)
    rw[e]; omega
  show wrap .i64 (a.f1+1)+n≤1000000
  rw[e]; omega
theorem sm48 {a:K_LyEi} {n:Nat} {f:List Int} (k:Int) (h:S a (n+1)) (e:a.f0=f):S (K_LyEi.mk f ((o48_0 a k).f1)) n:=by subst e; exact st48 k h
theorem u8_range (x:Int):0≤wrap .u8 x∧wrap .u8 x≤255:=by
  have h:wrap .u8 x=x % 256:=by rfl
  rw[h]; omega
def o41_0 (a0:K_LyEi) (a1:(List Int)):K_LyEi:=
  (K_LyEi.mk a0.f0 ((o48_0 a0 ((length (map b_i a1)):Int)).f1))
def m41 (a0:K_LyEi) (a1:(List Int)):Int:=
  (getD a1 (toNat (m48 a0 ((length (map b_i a1)):Int))) 0)
theorem e41 {l0_0:Nat} {a0:K_LyEi} {l1_0:Nat} {a1:(List Int)} (hy0:S a0 1) (hy1:0 < length a1) (hy2:length a1≤1000):Ev F X (.call 41 [(.ptr ⟨(0,0,0),[],0,0,2⟩),(.one (.bor l1_0 (map b_i a1)))] [((0,0,0),⟨2,[[(.bor (l0_0+1) (map b_y a0.f0)),(.val (.int .i64 a0.f1))]],[]⟩)] [[[(.bor l0_0 (map b_y a0.f0)),(.val (.int .i64 ((o41_0 a0 a1).f1)))]]] [(.one (.val (.int .i64 (m41 a0 a1))))]):=by
  have f1:0≤(m48 a0 ((length (map b_i a1)):Int)):=(by exact(rng a0 _ hy0 (by simp; omega) (by simp; omega)).1)
  exact cq [false] ya (.r 11 [false] [] (e48 (l0_0:=(l0_0+1)) (a0:=a0) (a1:=((length (map b_i a1)):Int)) ‹_›) (.f f1 (.f (mp_ b_i (getD_at a1 (toNat (m48 a0 ((length (map b_i a1)):Int))) 0 (by have q:=rng a0 ((length (map b_i a1)):Int) hy0 (by simp; omega) (by simp; omega); simp only[length_map] at*; omega))) (.h 13 (.row [(.i (getD a1 (toNat (m48 a0 ((length (map b_i a1)):Int))) 0))]) .nil))))
theorem st41 {a:K_LyEi} {n:Nat} (l:List Int) (h:S a (n+1)):S (o41_0 a l) n:=by
  unfold o41_0; exact sm48 _ h rfl
theorem sm41 {a:K_LyEi} {n:Nat} {f:List Int} (l:List Int) (h:S a (n+1)) (e:a.f0=f):S (K_LyEi.mk f ((o41_0 a l).f1)) n:=by subst e; exact st41 l h
def o64_0 (a0:K_LyEi) (a1:Int):K_LyEi:=
  (K_LyEi.mk a0.f0 ((o48_0 a0 a1).f1))
def m64 (a0:K_LyEi) (a1:Int):Bool:=
  ((m48 a0 a1)==0)
theorem e64 {l0_0:Nat} {a0:K_LyEi} {a1:Int} (hy0:S a0 1):Ev F X (.call 64 [(.ptr ⟨(0,0,0),[],0,0,2⟩),(.one (.val (.int .i64 a1)))] [((0,0,0),⟨2,[[(.bor (l0_0+1) (map b_y a0.f0)),(.val (.int .i64 a0.f1))]],[]⟩)] [[[(.bor l0_0 (map b_y a0.f0)),(.val (.int .i64 ((o64_0 a0 a1).f1)))]]] [(.one (.val (.bool (m64 a0 a1))))]):=by
  exact cq [false] ya (.r 7 [false] [] (e48 (l0_0:=(l0_0+1)) (a0:=a0) (a1:=a1) ‹_›) .nil)
theorem sm64 {a:K_LyEi} {n:Nat} {f:List Int} (k:Int) (h:S a (n+1)) (e:a.f0=f):S (K_LyEi.mk f ((o64_0 a k).f1)) n:=by subst e; exact sm48 k h rfl
def m117 (a0:Int):(List Int):=
  [(wrap .u8 ((Int.fdiv a0 (2 ^(min (toNat 24) (IntKind.bits .i64)))))),(wrap .u8 ((Int.fdiv a0 (2 ^(min (toNat 16) (IntKind.bits .i64)))))),(wrap .u8 ((Int.fdiv a0 (2 ^(min (toNat 8) (IntKind.bits .i64)))))),(wrap .u8 (a0))]
theorem e117 {a0:Int}:Ev F X (.call 117 [(.one (.val (.int .i64 a0)))] [] [] [(.one (.own 1 (map d_y (m117 a0))))]):=by
  have f0:0≤(24:Int):=yb
  have f1:0≤(16:Int):=yb
  have f2:0≤(8:Int):=yb
  have f5:pureR [[(.val (.int .u8 (wrap .u8 ((Int.fdiv a0 (2 ^(min (toNat 24) (IntKind.bits .i64))))))))],[(.val (.int .u8 (wrap .u8 ((Int.fdiv a0 (2 ^(min (toNat 16) (IntKind.bits .i64))))))))],[(.val (.int .u8 (wrap .u8 ((Int.fdiv a0 (2 ^(min (toNat 8) (IntKind.bits .i64))))))))],[(.val (.int .u8 (wrap .u8 (a0))))]]=true:=yd
  exact cp ya (.f f0 (.f f1 (.f f2 (pe 0 (pe 4 (.f f5 .nil))))))
theorem four_len (a:Int):length (m117 a)=4:=rfl
theorem gb {l:List Int} (h:∀z∈l,(0:Int)≤z∧z≤255) (i:Nat):0≤getD l i 0∧getD l i 0≤255:=by
  rw[List.getD_eq_getElem?_getD]
  cases e:l[i]? with
  |none=>exact⟨Int.le_refl _,by decide⟩
  |some z=>exact h z (List.mem_of_getElem? e)
theorem gtd {l:List Int} (h:∀z∈l,(0:Int)≤z∧z≤255) (m n:Nat):∀z∈take m (drop n l),(0:Int)≤z∧z≤255:=fun z hz=>h z (List.mem_of_mem_drop (List.mem_of_mem_take hz))
theorem gdr {l:List Int} (h:∀z∈l,(0:Int)≤z∧z≤255) (n:Nat):∀z∈drop n l,(0:Int)≤z∧z≤255:=fun z hz=>h z (List.mem_of_mem_drop hz)
theorem bo_size (l:List Int):ByteArray.size (bytesOf l)=l.length:=by simp[bytesOf,ByteArray.size]
theorem nums (a0:List Int) (hb:∀z∈a0,(0:Int)≤z∧z≤255):(0≤getD a0 0 0∧getD a0 0 0≤255)∧(0≤getD (take (toNat (wrap .i64 (1+(wrap .i64 ((getD a0 0 0))))) - toNat 1) (drop 1 a0)) 1 0∧getD (take (toNat (wrap .i64 (1+(wrap .i64 ((getD a0 0 0))))) - toNat 1) (drop 1 a0)) 1 0≤255)∧(wrap .i64 ((getD a0 0 0)))=getD a0 0 0∧(wrap .i64 (1+(wrap .i64 ((getD a0 0 0)))))=1+getD a0 0 0∧(wrap .i64 ((wrap .i64 (1+(wrap .i64 ((getD a0 0 0)))))+2))=3+getD a0 0 0∧(wrap .i64 ((wrap .i64 ((getD a0 0 0)))+3))=3+getD a0 0 0∧(wrap .i64 ((getD (take (toNat (wrap .i64 (1+(wrap .i64 ((getD a0 0 0))))) - toNat 1) (drop 1 a0)) 1 0)))=getD (take (toNat (wrap .i64 (1+(wrap .i64 ((getD a0 0 0))))) - toNat 1) (drop 1 a0)) 1 0∧(wrap .i64 (2+(wrap .i64 ((getD (take (toNat (wrap .i64 (1+(wrap .i64 ((getD a0 0 0))))) - toNat 1) (drop 1 a0)) 1 0)))))=2+getD (take (toNat (wrap .i64 (1+(wrap .i64 ((getD a0 0 0))))) - toNat 1) (drop 1 a0)) 1 0∧(wrap .i64 ((wrap .i64 (2+(wrap .i64 ((getD (take (toNat (wrap .i64 (1+(wrap .i64 ((getD a0 0 0))))) - toNat 1) (drop 1 a0)) 1 0)))))+8))=10+getD (take (toNat (wrap .i64 (1+(wrap .i64 ((getD a0 0 0))))) - toNat 1) (drop 1 a0)) 1 0∧(wrap .i64 ((wrap .i64 (2+(wrap .i64 ((getD (take (toNat (wrap .i64 (1+(wrap .i64 ((getD a0 0 0))))) - toNat 1) (drop 1 a0)) 1 0)))))+4))=6+getD (take (toNat (wrap .i64 (1+(wrap .i64 ((getD a0 0 0))))) - toNat 1) (drop 1 a0)) 1 0∧(wrap .i64 (6+(wrap .i64 ((getD (take (toNat (wrap .i64 (1+(wrap .i64 ((getD a0 0 0))))) - toNat 1) (drop 1 a0)) 1 0)))))=6+getD (take (toNat (wrap .i64 (1+(wrap .i64 ((getD a0 0 0))))) - toNat 1) (drop 1 a0)) 1 0∧(wrap .i64 (10+(wrap .i64 ((getD (take (toNat (wrap .i64 (1+(wrap .i64 ((getD a0 0 0))))) - toNat 1) (drop 1 a0)) 1 0)))))=10+getD (take (toNat (wrap .i64 (1+(wrap .i64 ((getD a0 0 0))))) - toNat 1) (drop 1 a0)) 1 0:=by
  have g0:=gb hb 0
  have g1:=gb (gtd hb (toNat (wrap .i64 (1+(wrap .i64 ((getD a0 0 0))))) - toNat 1) 1) 1
  generalize getD a0 0 0=d at*
  generalize getD (take (toNat (wrap .i64 (1+(wrap .i64 (d)))) - toNat 1) (drop 1 a0)) 1 0=b at*
  have e0:wrap .i64 d=d:=wrap64 yb
  have e4:wrap .i64 b=b:=wrap64 yb
  have w1:wrap .i64 (1+d)=1+d:=wrap64 yb
  have w5:wrap .i64 (2+b)=2+b:=wrap64 yb
  rw[e0,e4,w1,w5]
  refine⟨g0,g1,rfl,rfl,?_,?_,rfl,rfl,?_,?_,?_,?_⟩<;>(rw[wrap64 yb]; try omega)
inductive O118_0 where
  |k0 (w0:Int) (w1:Int) (w2:Bool)
def r118_0 (a0:(List Int)):List Int→Int→Int→O118_0
  |x0::y0,i,v0=>
    (r118_0 a0 y0 (i+1) (Int.tmod (wrap .i64 ((wrap .i64 ((wrap .i64 (v0*33))+(wrap .i64 (x0))))+1)) 2147483647))
  |[],i,v0=>(O118_0.k0 v0 i (decide (i <((length (map b_y a0)):Int))))
def h118_0 (l0_0:Nat) (a0:(List Int)) (i:Int) (v0:Int):St:=⟨[(0,(.one (.bor l0_0 (map b_y a0)))),(3,(.one (.val (.int .i64 v0)))),(4,(.one (.val (.int .i64 i))))],[]⟩
def ex118_0:O118_0→VX.Exit
  |.k0 _ _ _=>(.exit 0)
def fin118_0 (l0_0:Nat) (a0:(List Int)):O118_0→St
  |.k0 w0 w1 w2=>⟨[(0,(.one (.bor l0_0 (map b_y a0)))),(3,(.one (.val (.int .i64 w0)))),(4,(.one (.val (.int .i64 w1)))),(8,(.one (.val (.bool w2))))],[]⟩
theorem t118_0 {l0_0:Nat} {a0:(List Int)} (hy0:length a0*1≤140737488351232):∀(y0:List Int) (p:List Int) (v0:Int),p++y0=a0→Ev F X (.code l118_0 (h118_0 l0_0 a0 (length p:Int) v0) (ex118_0 (r118_0 a0 y0 (length p:Int) v0)) (fin118_0 l0_0 a0 (r118_0 a0 y0 (length p:Int) v0)))
  |[],p,v0,hp0=>by
    have hc:¬(decide ((length p:Int) <((length (map b_y a0)):Int)))=true:=by
      rw[← hp0]; simp only[LN,decide_eq_true_eq]; omega
    have st:=ch b118_0 (h118_0 l0_0 a0 (length p:Int) v0) ⟨[(0,(.one (.bor l0_0 (map b_y a0)))),(3,(.oi v0)),(4,(.oi (length p:Int))),(8,(.one (.val (.bool (decide ((length p:Int) <((length (map b_y a0)):Int)))))))],[]⟩ (.exit 0) 9 (by kernel_rfl) (.f (nt hc) (U 8 .nil))
    rw[show (⟨[(0,(.one (.bor l0_0 (map b_y a0)))),(3,(.oi v0)),(4,(.oi (length p:Int))),(8,(.one (.val (.bool (decide ((length p:Int) <((length (map b_y a0)):Int)))))))],[]⟩:St)=fin118_0 l0_0 a0 (.k0 v0 (length p:Int) (decide ((length p:Int) <((length (map b_y a0)):Int)))) from(by rfl)] at st
    exact .loopX st (show ((.exit 0):VX.Exit)≠.normal from by simp)
  |x0::y0,p,v0,hp0=>by
    have hc:(decide ((length p:Int) <((length (map b_y a0)):Int)))=true:=by
      rw[← hp0]; simp only[LN,decide_eq_true_eq]; omega
    have Hx0:(a0)[toNat (length p:Int)]?=some x0:=by
      rw[← hp0,Int.toNat_natCast]; simp
    have hlen:length (a0)=length p+length y0+1:=by rw[← hp0]; simp; omega
    have hw:wrap .i64 ((length p:Int)+1)=(length p:Int)+1:=wrap64 (by omega)
    simp only[r118_0]
    have f1:0≤(length p:Int):=(by omega)
    have f5:(2147483647:Int)≠0:=(by omega)
    have st:=ch b118_0 (h118_0 l0_0 a0 (length p:Int) v0) ⟨[(0,(.one (.bor l0_0 (map b_y a0)))),(3,(.oi (Int.tmod (wrap .i64 ((wrap .i64 ((wrap .i64 (v0*33))+(wrap .i64 (x0))))+1)) 2147483647))),(4,(.oi (wrap .i64 ((length p:Int)+1))))],[]⟩ .normal 37 (by kernel_rfl) (.f hc (.f f1 (.f (mp_ b_y Hx0) (.f trivial (.f trivial (.f f5 (.f trivial (T 8 (.h 18 (.row [(.val (.int .u8 x0))]) .nil)))))))))
    have ih:=t118_0 (l0_0:=l0_0) (a0:=a0) hy0 y0 (p++ [x0]) (Int.tmod (wrap .i64 ((wrap .i64 ((wrap .i64 (v0*33))+(wrap .i64 (x0))))+1)) 2147483647) (by rw[append_assoc]; exact hp0)
    rw[show ((p++ [x0]).length:Int)=(p.length:Int)+1 from by simp] at ih
    rw[show (⟨[(0,(.one (.bor l0_0 (map b_y a0)))),(3,(.oi (Int.tmod (wrap .i64 ((wrap .i64 ((wrap .i64 (v0*33))+(wrap .i64 (x0))))+1)) 2147483647))),(4,(.oi (wrap .i64 ((length p:Int)+1))))],[]⟩:St)=h118_0 l0_0 a0 ((length p:Int)+1) (Int.tmod (wrap .i64 ((wrap .i64 ((wrap .i64 (v0*33))+(wrap .i64 (x0))))+1)) 2147483647) from(by unfold h118_0; simp only[hw]; done)] at st
    exact .loopN st ih
def m118 (a0:(List Int)):Int:=
  (match r118_0 a0 a0 0 5381 with | .k0 w0_0 w1_0 w2_0=>w0_0)
theorem e118 {l0_0:Nat} {a0:(List Int)} (hy0:length a0*1≤140737488351232):Ev F X (.call 118 [(.one (.bor l0_0 (map b_y a0)))] [] [] [(.one (.val (.int .i64 (m118 a0))))]):=by
  unfold m118
  cases h0:r118_0 a0 a0 0 5381 with
  |k0 w0_0 w1_0 w2_0=>
    try dsimp only
    have f0:(⟨[(0,(.one (.bor l0_0 (map b_y a0)))),(3,(.oi 5381)),(4,(.oi 0))],[]⟩:St)=h118_0 l0_0 a0 0 5381:=yv
    exact cp ya (.f f0 (.f (ev_ (e:=ex118_0) (g:=(fin118_0 l0_0 a0)) h0 (t118_0 (l0_0:=l0_0) (a0:=a0) (by assumption) a0 [] 5381 rfl)) (.h 6 (.loop (h118_0 l0_0 a0 0 5381) (.exit 0) ⟨[(0,(.one (.bor l0_0 (map b_y a0)))),(3,(.oi w0_0)),(4,(.oi w1_0)),(8,(.one (.val (.bool w2_0))))],[]⟩) .nil)))
def m70 (a0:K_isii):(List Int):=
  ((([(wrap .u8 (((length ((take (length ((take (length (([[(.val (.int .u8 (wrap .u8 (a0.f0))))],[(.val (.int .u8 (wrap .u8 ((ByteArray.size a0.f1:Int)))))]]:List (List D))++(take (ByteArray.size a0.f1) (drop 0 (byteRows a0.f1))))) (drop 0 (map d_y (([(wrap .u8 (a0.f0)),(wrap .u8 ((ByteArray.size a0.f1:Int)))])++(strInts a0.f1)))))++(take (length (map d_y (m117 a0.f2))) (drop 0 (map d_y (m117 a0.f2)))))) (drop 0 ((take (length (([[(.val (.int .u8 (wrap .u8 (a0.f0))))],[(.val (.int .u8 (wrap .u8 ((ByteArray.size a0.f1:Int)))))]]:List (List D))++(take (ByteArray.size a0.f1) (drop 0 (byteRows a0.f1))))) (drop 0 (map d_y (([(wrap .u8 (a0.f0)),(wrap .u8 ((ByteArray.size a0.f1:Int)))])++(strInts a0.f1)))))++(take (length (map d_y (m117 a0.f2))) (drop 0 (map d_y (m117 a0.f2)))))))++(take (length (map d_y (m117 a0.f3))) (drop 0 (map d_y (m117 a0.f3)))))):Int)))])++(((([(wrap .u8 (a0.f0)),(wrap .u8 ((ByteArray.size a0.f1:Int)))])++(strInts a0.f1))++(m117 a0.f2))++(m117 a0.f3)))++([(wrap .u8 ((Int.fdiv (m118 (((([(wrap .u8 (a0.f0)),(wrap .u8 ((ByteArray.size a0.f1:Int)))])++(strInts a0.f1))++(m117 a0.f2))++(m117 a0.f3))) (2 ^(min (toNat 8) (IntKind.bits .i64)))))),(wrap .u8 ((m118 (((([(wrap .u8 (a0.f0)),(wrap .u8 ((ByteArray.size a0.f1:Int)))])++(strInts a0.f1))++(m117 a0.f2))++(m117 a0.f3)))))]))
theorem e70 {l0:Nat} {a0:K_isii} (hy0:ByteArray.size a0.f1≤1000):Ev F X (.call 70 [(.bptr l0 [(.val (.int .i64 a0.f0)),(.val (.string a0.f1)),(.val (.int .i64 a0.f2)),(.val (.int .i64 a0.f3))])] [] [] [(.one (.own 1 (map d_y (m70 a0))))]):=by
  have f0:ByteArray.size a0.f1≤140737488355328:=yb
  have f1:0+2≤2:=yb
  have f2:0+(ByteArray.size a0.f1)≤(length (byteRows a0.f1)):=(by simp[take_of_length_le,four_len]; done)
  have f3:((take (ByteArray.size a0.f1) (drop 0 (byteRows a0.f1))).all fun x=>x.all copyable)=true:=yd
  have f4:(length (([[(.val (.int .u8 (wrap .u8 (a0.f0))))],[(.val (.int .u8 (wrap .u8 ((ByteArray.size a0.f1:Int)))))]]:List (List D))++(take (ByteArray.size a0.f1) (drop 0 (byteRows a0.f1)))))*1≤70368744177664:=(by simp only[length_append,length_cons,length_nil,length_take,length_drop]; omega)
  have f5:∀r∈((take (ByteArray.size a0.f1) (drop 0 (byteRows a0.f1))):List (List D)),r.length=1:=yk
  have f6:(([[(.val (.int .u8 (wrap .u8 (a0.f0))))],[(.val (.int .u8 (wrap .u8 ((ByteArray.size a0.f1:Int)))))]]:List (List D))++(take (ByteArray.size a0.f1) (drop 0 (byteRows a0.f1))))=(map d_y (([(wrap .u8 (a0.f0)),(wrap .u8 ((ByteArray.size a0.f1:Int)))])++(strInts a0.f1))):=yG
  have f8:0+(length (([[(.val (.int .u8 (wrap .u8 (a0.f0))))],[(.val (.int .u8 (wrap .u8 ((ByteArray.size a0.f1:Int)))))]]:List (List D))++(take (ByteArray.size a0.f1) (drop 0 (byteRows a0.f1)))))≤(length (map d_y (([(wrap .u8 (a0.f0)),(wrap .u8 ((ByteArray.size a0.f1:Int)))])++(strInts a0.f1)))):=yC
  have f9:0+(length (map d_y (m117 a0.f2)))≤(length (map d_y (m117 a0.f2))):=yb
  have f10:((take (length (map d_y (m117 a0.f2))) (drop 0 (map d_y (m117 a0.f2)))).all fun x=>x.all copyable)=true:=(ct_y _ _ _)
  have f11:(length ((take (length (([[(.val (.int .u8 (wrap .u8 (a0.f0))))],[(.val (.int .u8 (wrap .u8 ((ByteArray.size a0.f1:Int)))))]]:List (List D))++(take (ByteArray.size a0.f1) (drop 0 (byteRows a0.f1))))) (drop 0 (map d_y (([(wrap .u8 (a0.f0)),(wrap .u8 ((ByteArray.size a0.f1:Int)))])++(strInts a0.f1)))))++(take (length (map d_y (m117 a0.f2))) (drop 0 (map d_y (m117 a0.f2))))))*1≤70368744177664:=yas
  have f12:∀r∈((take (length (map d_y (m117 a0.f2))) (drop 0 (map d_y (m117 a0.f2)))):List (List D)),r.length=1:=yk
  have f14:0+(length ((take (length (([[(.val (.int .u8 (wrap .u8 (a0.f0))))],[(.val (.int .u8 (wrap .u8 ((ByteArray.size a0.f1:Int)))))]]:List (List D))++(take (ByteArray.size a0.f1) (drop 0 (byteRows a0.f1))))) (drop 0 (map d_y (([(wrap .u8 (a0.f0)),(wrap .u8 ((ByteArray.size a0.f1:Int)))])++(strInts a0.f1)))))++(take (length (map d_y (m117 a0.f2))) (drop 0 (map d_y (m117 a0.f2))))))≤(length ((take (length (([[(.val (.int .u8 (wrap .u8 (a0.f0))))],[(.val (.int .u8 (wrap .u8 ((ByteArray.size a0.f1:Int)))))]]:List (List D))++(take (ByteArray.size a0.f1) (drop 0 (byteRows a0.f1))))) (drop 0 (map d_y (([(wrap .u8 (a0.f0)),(wrap .u8 ((ByteArray.size a0.f1:Int)))])++(strInts a0.f1)))))++(take (length (map d_y (m117 a0.f2))) (drop 0 (map d_y (m117 a0.f2)))))):=yb
  have f15:0+(length (map d_y (m117 a0.f3)))≤(length (map d_y (m117 a0.f3))):=yb
  have f16:((take (length (map d_y (m117 a0.f3))) (drop 0 (map d_y (m117 a0.f3)))).all fun x=>x.all copyable)=true:=(ct_y _ _ _)
  have f17:(length ((take (length ((take (length (([[(.val (.int .u8 (wrap .u8 (a0.f0))))],[(.val (.int .u8 (wrap .u8 ((ByteArray.size a0.f1:Int)))))]]:List (List D))++(take (ByteArray.size a0.f1) (drop 0 (byteRows a0.f1))))) (drop 0 (map d_y (([(wrap .u8 (a0.f0)),(wrap .u8 ((ByteArray.size a0.f1:Int)))])++(strInts a0.f1)))))++(take (length (map d_y (m117 a0.f2))) (drop 0 (map d_y (m117 a0.f2)))))) (drop 0 ((take (length (([[(.val (.int .u8 (wrap .u8 (a0.f0))))],[(.val (.int .u8 (wrap .u8 ((ByteArray.size a0.f1:Int)))))]]:List (List D))++(take (ByteArray.size a0.f1) (drop 0 (byteRows a0.f1))))) (drop 0 (map d_y (([(wrap .u8 (a0.f0)),(wrap .u8 ((ByteArray.size a0.f1:Int)))])++(strInts a0.f1)))))++(take (length (map d_y (m117 a0.f2))) (drop 0 (map d_y (m117 a0.f2)))))))++(take (length (map d_y (m117 a0.f3))) (drop 0 (map d_y (m117 a0.f3))))))*1≤70368744177664:=yas
  have f18:∀r∈((take (length (map d_y (m117 a0.f3))) (drop 0 (map d_y (m117 a0.f3)))):List (List D)),r.length=1:=yk
  have f19:((take (length ((take (length (([[(.val (.int .u8 (wrap .u8 (a0.f0))))],[(.val (.int .u8 (wrap .u8 ((ByteArray.size a0.f1:Int)))))]]:List (List D))++(take (ByteArray.size a0.f1) (drop 0 (byteRows a0.f1))))) (drop 0 (map d_y (([(wrap .u8 (a0.f0)),(wrap .u8 ((ByteArray.size a0.f1:Int)))])++(strInts a0.f1)))))++(take (length (map d_y (m117 a0.f2))) (drop 0 (map d_y (m117 a0.f2)))))) (drop 0 ((take (length (([[(.val (.int .u8 (wrap .u8 (a0.f0))))],[(.val (.int .u8 (wrap .u8 ((ByteArray.size a0.f1:Int)))))]]:List (List D))++(take (ByteArray.size a0.f1) (drop 0 (byteRows a0.f1))))) (drop 0 (map d_y (([(wrap .u8 (a0.f0)),(wrap .u8 ((ByteArray.size a0.f1:Int)))])++(strInts a0.f1)))))++(take (length (map d_y (m117 a0.f2))) (drop 0 (map d_y (m117 a0.f2)))))))++(take (length (map d_y (m117 a0.f3))) (drop 0 (map d_y (m117 a0.f3)))))=(map d_y (((([(wrap .u8 (a0.f0)),(wrap .u8 ((ByteArray.size a0.f1:Int)))])++(strInts a0.f1))++(m117 a0.f2))++(m117 a0.f3))):=yG
  have f20:0+(length ((take (length ((take (length (([[(.val (.int .u8 (wrap .u8 (a0.f0))))],[(.val (.int .u8 (wrap .u8 ((ByteArray.size a0.f1:Int)))))]]:List (List D))++(take (ByteArray.size a0.f1) (drop 0 (byteRows a0.f1))))) (drop 0 (map d_y (([(wrap .u8 (a0.f0)),(wrap .u8 ((ByteArray.size a0.f1:Int)))])++(strInts a0.f1)))))++(take (length (map d_y (m117 a0.f2))) (drop 0 (map d_y (m117 a0.f2)))))) (drop 0 ((take (length (([[(.val (.int .u8 (wrap .u8 (a0.f0))))],[(.val (.int .u8 (wrap .u8 ((ByteArray.size a0.f1:Int)))))]]:List (List D))++(take (ByteArray.size a0.f1) (drop 0 (byteRows a0.f1))))) (drop 0 (map d_y (([(wrap .u8 (a0.f0)),(wrap .u8 ((ByteArray.size a0.f1:Int)))])++(strInts a0.f1)))))++(take (length (map d_y (m117 a0.f2))) (drop 0 (map d_y (m117 a0.f2)))))))++(take (length (map d_y (m117 a0.f3))) (drop 0 (map d_y (m117 a0.f3))))))≤(length (map d_y (((([(wrap .u8 (a0.f0)),(wrap .u8 ((ByteArray.size a0.f1:Int)))])++(strInts a0.f1))++(m117 a0.f2))++(m117 a0.f3)))):=yC
  have f21:fullR (take (length ((take (length ((take (length (([[(.val (.int .u8 (wrap .u8 (a0.f0))))],[(.val (.int .u8 (wrap .u8 ((ByteArray.size a0.f1:Int)))))]]:List (List D))++(take (ByteArray.size a0.f1) (drop 0 (byteRows a0.f1))))) (drop 0 (map d_y (([(wrap .u8 (a0.f0)),(wrap .u8 ((ByteArray.size a0.f1:Int)))])++(strInts a0.f1)))))++(take (length (map d_y (m117 a0.f2))) (drop 0 (map d_y (m117 a0.f2)))))) (drop 0 ((take (length (([[(.val (.int .u8 (wrap .u8 (a0.f0))))],[(.val (.int .u8 (wrap .u8 ((ByteArray.size a0.f1:Int)))))]]:List (List D))++(take (ByteArray.size a0.f1) (drop 0 (byteRows a0.f1))))) (drop 0 (map d_y (([(wrap .u8 (a0.f0)),(wrap .u8 ((ByteArray.size a0.f1:Int)))])++(strInts a0.f1)))))++(take (length (map d_y (m117 a0.f2))) (drop 0 (map d_y (m117 a0.f2)))))))++(take (length (map d_y (m117 a0.f3))) (drop 0 (map d_y (m117 a0.f3)))))) (drop 0 (map d_y (((([(wrap .u8 (a0.f0)),(wrap .u8 ((ByteArray.size a0.f1:Int)))])++(strInts a0.f1))++(m117 a0.f2))++(m117 a0.f3)))))=true:=(ft_y _ _ _)
  have f22:toBR (take (length ((take (length ((take (length (([[(.val (.int .u8 (wrap .u8 (a0.f0))))],[(.val (.int .u8 (wrap .u8 ((ByteArray.size a0.f1:Int)))))]]:List (List D))++(take (ByteArray.size a0.f1) (drop 0 (byteRows a0.f1))))) (drop 0 (map d_y (([(wrap .u8 (a0.f0)),(wrap .u8 ((ByteArray.size a0.f1:Int)))])++(strInts a0.f1)))))++(take (length (map d_y (m117 a0.f2))) (drop 0 (map d_y (m117 a0.f2)))))) (drop 0 ((take (length (([[(.val (.int .u8 (wrap .u8 (a0.f0))))],[(.val (.int .u8 (wrap .u8 ((ByteArray.size a0.f1:Int)))))]]:List (List D))++(take (ByteArray.size a0.f1) (drop 0 (byteRows a0.f1))))) (drop 0 (map d_y (([(wrap .u8 (a0.f0)),(wrap .u8 ((ByteArray.size a0.f1:Int)))])++(strInts a0.f1)))))++(take (length (map d_y (m117 a0.f2))) (drop 0 (map d_y (m117 a0.f2)))))))++(take (length (map d_y (m117 a0.f3))) (drop 0 (map d_y (m117 a0.f3)))))) (drop 0 (map d_y (((([(wrap .u8 (a0.f0)),(wrap .u8 ((ByteArray.size a0.f1:Int)))])++(strInts a0.f1))++(m117 a0.f2))++(m117 a0.f3)))))=(map b_y (((([(wrap .u8 (a0.f0)),(wrap .u8 ((ByteArray.size a0.f1:Int)))])++(strInts a0.f1))++(m117 a0.f2))++(m117 a0.f3))):=yd
  have f24:0+1≤1:=yb
  have f26:((take (length ((take (length ((take (length (([[(.val (.int .u8 (wrap .u8 (a0.f0))))],[(.val (.int .u8 (wrap .u8 ((ByteArray.size a0.f1:Int)))))]]:List (List D))++(take (ByteArray.size a0.f1) (drop 0 (byteRows a0.f1))))) (drop 0 (map d_y (([(wrap .u8 (a0.f0)),(wrap .u8 ((ByteArray.size a0.f1:Int)))])++(strInts a0.f1)))))++(take (length (map d_y (m117 a0.f2))) (drop 0 (map d_y (m117 a0.f2)))))) (drop 0 ((take (length (([[(.val (.int .u8 (wrap .u8 (a0.f0))))],[(.val (.int .u8 (wrap .u8 ((ByteArray.size a0.f1:Int)))))]]:List (List D))++(take (ByteArray.size a0.f1) (drop 0 (byteRows a0.f1))))) (drop 0 (map d_y (([(wrap .u8 (a0.f0)),(wrap .u8 ((ByteArray.size a0.f1:Int)))])++(strInts a0.f1)))))++(take (length (map d_y (m117 a0.f2))) (drop 0 (map d_y (m117 a0.f2)))))))++(take (length (map d_y (m117 a0.f3))) (drop 0 (map d_y (m117 a0.f3)))))) (drop 0 (map d_y (((([(wrap .u8 (a0.f0)),(wrap .u8 ((ByteArray.size a0.f1:Int)))])++(strInts a0.f1))++(m117 a0.f2))++(m117 a0.f3))))).all fun x=>x.all copyable)=true:=(ct_y _ _ _)
  have f27:(length (([[(.val (.int .u8 (wrap .u8 (((length ((take (length ((take (length (([[(.val (.int .u8 (wrap .u8 (a0.f0))))],[(.val (.int .u8 (wrap .u8 ((ByteArray.size a0.f1:Int)))))]]:List (List D))++(take (ByteArray.size a0.f1) (drop 0 (byteRows a0.f1))))) (drop 0 (map d_y (([(wrap .u8 (a0.f0)),(wrap .u8 ((ByteArray.size a0.f1:Int)))])++(strInts a0.f1)))))++(take (length (map d_y (m117 a0.f2))) (drop 0 (map d_y (m117 a0.f2)))))) (drop 0 ((take (length (([[(.val (.int .u8 (wrap .u8 (a0.f0))))],[(.val (.int .u8 (wrap .u8 ((ByteArray.size a0.f1:Int)))))]]:List (List D))++(take (ByteArray.size a0.f1) (drop 0 (byteRows a0.f1))))) (drop 0 (map d_y (([(wrap .u8 (a0.f0)),(wrap .u8 ((ByteArray.size a0.f1:Int)))])++(strInts a0.f1)))))++(take (length (map d_y (m117 a0.f2))) (drop 0 (map d_y (m117 a0.f2)))))))++(take (length (map d_y (m117 a0.f3))) (drop 0 (map d_y (m117 a0.f3)))))):Int)))))]]:List (List D))++(take (length ((take (length ((take (length (([[(.val (.int .u8 (wrap .u8 (a0.f0))))],[(.val (.int .u8 (wrap .u8 ((ByteArray.size a0.f1:Int)))))]]:List (List D))++(take (ByteArray.size a0.f1) (drop 0 (byteRows a0.f1))))) (drop 0 (map d_y (([(wrap .u8 (a0.f0)),(wrap .u8 ((ByteArray.size a0.f1:Int)))])++(strInts a0.f1)))))++(take (length (map d_y (m117 a0.f2))) (drop 0 (map d_y (m117 a0.f2)))))) (drop 0 ((take (length (([[(.val (.int .u8 (wrap .u8 (a0.f0))))],[(.val (.int .u8 (wrap .u8 ((ByteArray.size a0.f1:Int)))))]]:List (List D))++(take (ByteArray.size a0.f1) (drop 0 (byteRows a0.f1))))) (drop 0 (map d_y (([(wrap .u8 (a0.f0)),(wrap .u8 ((ByteArray.size a0.f1:Int)))])++(strInts a0.f1)))))++(take (length (map d_y (m117 a0.f2))) (drop 0 (map d_y (m117 a0.f2)))))))++(take (length (map d_y (m117 a0.f3))) (drop 0 (map d_y (m117 a0.f3)))))) (drop 0 (map d_y (((([(wrap .u8 (a0.f0)),(wrap .u8 ((ByteArray.size a0.f1:Int)))])++(strInts a0.f1))++(m117 a0.f2))++(m117 a0.f3)))))))*1≤70368744177664:=yas
  have f28:∀r∈((take (length ((take (length ((take (length (([[(.val (.int .u8 (wrap .u8 (a0.f0))))],[(.val (.int .u8 (wrap .u8 ((ByteArray.size a0.f1:Int)))))]]:List (List D))++(take (ByteArray.size a0.f1) (drop 0 (byteRows a0.f1))))) (drop 0 (map d_y (([(wrap .u8 (a0.f0)),(wrap .u8 ((ByteArray.size a0.f1:Int)))])++(strInts a0.f1)))))++(take (length (map d_y (m117 a0.f2))) (drop 0 (map d_y (m117 a0.f2)))))) (drop 0 ((take (length (([[(.val (.int .u8 (wrap .u8 (a0.f0))))],[(.val (.int .u8 (wrap .u8 ((ByteArray.size a0.f1:Int)))))]]:List (List D))++(take (ByteArray.size a0.f1) (drop 0 (byteRows a0.f1))))) (drop 0 (map d_y (([(wrap .u8 (a0.f0)),(wrap .u8 ((ByteArray.size a0.f1:Int)))])++(strInts a0.f1)))))++(take (length (map d_y (m117 a0.f2))) (drop 0 (map d_y (m117 a0.f2)))))))++(take (length (map d_y (m117 a0.f3))) (drop 0 (map d_y (m117 a0.f3)))))) (drop 0 (map d_y (((([(wrap .u8 (a0.f0)),(wrap .u8 ((ByteArray.size a0.f1:Int)))])++(strInts a0.f1))++(m117 a0.f2))++(m117 a0.f3))))):List (List D)),r.length=1:=yk
  have f29:0≤(8:Int):=yb
  have f30:0+(length (([[(.val (.int .u8 (wrap .u8 (((length ((take (length ((take (length (([[(.val (.int .u8 (wrap .u8 (a0.f0))))],[(.val (.int .u8 (wrap .u8 ((ByteArray.size a0.f1:Int)))))]]:List (List D))++(take (ByteArray.size a0.f1) (drop 0 (byteRows a0.f1))))) (drop 0 (map d_y (([(wrap .u8 (a0.f0)),(wrap .u8 ((ByteArray.size a0.f1:Int)))])++(strInts a0.f1)))))++(take (length (map d_y (m117 a0.f2))) (drop 0 (map d_y (m117 a0.f2)))))) (drop 0 ((take (length (([[(.val (.int .u8 (wrap .u8 (a0.f0))))],[(.val (.int .u8 (wrap .u8 ((ByteArray.size a0.f1:Int)))))]]:List (List D))++(take (ByteArray.size a0.f1) (drop 0 (byteRows a0.f1))))) (drop 0 (map d_y (([(wrap .u8 (a0.f0)),(wrap .u8 ((ByteArray.size a0.f1:Int)))])++(strInts a0.f1)))))++(take (length (map d_y (m117 a0.f2))) (drop 0 (map d_y (m117 a0.f2)))))))++(take (length (map d_y (m117 a0.f3))) (drop 0 (map d_y (m117 a0.f3)))))):Int)))))]]:List (List D))++(take (length ((take (length ((take (length (([[(.val (.int .u8 (wrap .u8 (a0.f0))))],[(.val (.int .u8 (wrap .u8 ((ByteArray.size a0.f1:Int)))))]]:List (List D))++(take (ByteArray.size a0.f1) (drop 0 (byteRows a0.f1))))) (drop 0 (map d_y (([(wrap .u8 (a0.f0)),(wrap .u8 ((ByteArray.size a0.f1:Int)))])++(strInts a0.f1)))))++(take (length (map d_y (m117 a0.f2))) (drop 0 (map d_y (m117 a0.f2)))))) (drop 0 ((take (length (([[(.val (.int .u8 (wrap .u8 (a0.f0))))],[(.val (.int .u8 (wrap .u8 ((ByteArray.size a0.f1:Int)))))]]:List (List D))++(take (ByteArray.size a0.f1) (drop 0 (byteRows a0.f1))))) (drop 0 (map d_y (([(wrap .u8 (a0.f0)),(wrap .u8 ((ByteArray.size a0.f1:Int)))])++(strInts a0.f1)))))++(take (length (map d_y (m117 a0.f2))) (drop 0 (map d_y (m117 a0.f2)))))))++(take (length (map d_y (m117 a0.f3))) (drop 0 (map d_y (m117 a0.f3)))))) (drop 0 (map d_y (((([(wrap .u8 (a0.f0)),(wrap .u8 ((ByteArray.size a0.f1:Int)))])++(strInts a0.f1))++(m117 a0.f2))++(m117 a0.f3)))))))≤(length (([[(.val (.int .u8 (wrap .u8 (((length ((take (length ((take (length (([[(.val (.int .u8 (wrap .u8 (a0.f0))))],[(.val (.int .u8 (wrap .u8 ((ByteArray.size a0.f1:Int)))))]]:List (List D))++(take (ByteArray.size a0.f1) (drop 0 (byteRows a0.f1))))) (drop 0 (map d_y (([(wrap .u8 (a0.f0)),(wrap .u8 ((ByteArray.size a0.f1:Int)))])++(strInts a0.f1)))))++(take (length (map d_y (m117 a0.f2))) (drop 0 (map d_y (m117 a0.f2)))))) (drop 0 ((take (length (([[(.val (.int .u8 (wrap .u8 (a0.f0))))],[(.val (.int .u8 (wrap .u8 ((ByteArray.size a0.f1:Int)))))]]:List (List D))++(take (ByteArray.size a0.f1) (drop 0 (byteRows a0.f1))))) (drop 0 (map d_y (([(wrap .u8 (a0.f0)),(wrap .u8 ((ByteArray.size a0.f1:Int)))])++(strInts a0.f1)))))++(take (length (map d_y (m117 a0.f2))) (drop 0 (map d_y (m117 a0.f2)))))))++(take (length (map d_y (m117 a0.f3))) (drop 0 (map d_y (m117 a0.f3)))))):Int)))))]]:List (List D))++(take (length ((take (length ((take (length (([[(.val (.int .u8 (wrap .u8 (a0.f0))))],[(.val (.int .u8 (wrap .u8 ((ByteArray.size a0.f1:Int)))))]]:List (List D))++(take (ByteArray.size a0.f1) (drop 0 (byteRows a0.f1))))) (drop 0 (map d_y (([(wrap .u8 (a0.f0)),(wrap .u8 ((ByteArray.size a0.f1:Int)))])++(strInts a0.f1)))))++(take (length (map d_y (m117 a0.f2))) (drop 0 (map d_y (m117 a0.f2)))))) (drop 0 ((take (length (([[(.val (.int .u8 (wrap .u8 (a0.f0))))],[(.val (.int .u8 (wrap .u8 ((ByteArray.size a0.f1:Int)))))]]:List (List D))++(take (ByteArray.size a0.f1) (drop 0 (byteRows a0.f1))))) (drop 0 (map d_y (([(wrap .u8 (a0.f0)),(wrap .u8 ((ByteArray.size a0.f1:Int)))])++(strInts a0.f1)))))++(take (length (map d_y (m117 a0.f2))) (drop 0 (map d_y (m117 a0.f2)))))))++(take (length (map d_y (m117 a0.f3))) (drop 0 (map d_y (m117 a0.f3)))))) (drop 0 (map d_y (((([(wrap .u8 (a0.f0)),(wrap .u8 ((ByteArray.size a0.f1:Int)))])++(strInts a0.f1))++(m117 a0.f2))++(m117 a0.f3))))))):=yb
  have f31:2≤2:=yb
  have f32:((take 2 (drop 0 [[(.val (.int .u8 (wrap .u8 ((Int.fdiv (m118 (((([(wrap .u8 (a0.f0)),(wrap .u8 ((ByteArray.size a0.f1:Int)))])++(strInts a0.f1))++(m117 a0.f2))++(m117 a0.f3))) (2 ^(min (toNat 8) (IntKind.bits .i64))))))))],[(.val (.int .u8 (wrap .u8 ((m118 (((([(wrap .u8 (a0.f0)),(wrap .u8 ((ByteArray.size a0.f1:Int)))])++(strInts a0.f1))++(m117 a0.f2))++(m117 a0.f3)))))))]])).all fun x=>x.all copyable)=true:=(by assumption)
  have f33:(length ((take (length (([[(.val (.int .u8 (wrap .u8 (((length ((take (length ((take (length (([[(.val (.int .u8 (wrap .u8 (a0.f0))))],[(.val (.int .u8 (wrap .u8 ((ByteArray.size a0.f1:Int)))))]]:List (List D))++(take (ByteArray.size a0.f1) (drop 0 (byteRows a0.f1))))) (drop 0 (map d_y (([(wrap .u8 (a0.f0)),(wrap .u8 ((ByteArray.size a0.f1:Int)))])++(strInts a0.f1)))))++(take (length (map d_y (m117 a0.f2))) (drop 0 (map d_y (m117 a0.f2)))))) (drop 0 ((take (length (([[(.val (.int .u8 (wrap .u8 (a0.f0))))],[(.val (.int .u8 (wrap .u8 ((ByteArray.size a0.f1:Int)))))]]:List (List D))++(take (ByteArray.size a0.f1) (drop 0 (byteRows a0.f1))))) (drop 0 (map d_y (([(wrap .u8 (a0.f0)),(wrap .u8 ((ByteArray.size a0.f1:Int)))])++(strInts a0.f1)))))++(take (length (map d_y (m117 a0.f2))) (drop 0 (map d_y (m117 a0.f2)))))))++(take (length (map d_y (m117 a0.f3))) (drop 0 (map d_y (m117 a0.f3)))))):Int)))))]]:List (List D))++(take (length ((take (length ((take (length (([[(.val (.int .u8 (wrap .u8 (a0.f0))))],[(.val (.int .u8 (wrap .u8 ((ByteArray.size a0.f1:Int)))))]]:List (List D))++(take (ByteArray.size a0.f1) (drop 0 (byteRows a0.f1))))) (drop 0 (map d_y (([(wrap .u8 (a0.f0)),(wrap .u8 ((ByteArray.size a0.f1:Int)))])++(strInts a0.f1)))))++(take (length (map d_y (m117 a0.f2))) (drop 0 (map d_y (m117 a0.f2)))))) (drop 0 ((take (length (([[(.val (.int .u8 (wrap .u8 (a0.f0))))],[(.val (.int .u8 (wrap .u8 ((ByteArray.size a0.f1:Int)))))]]:List (List D))++(take (ByteArray.size a0.f1) (drop 0 (byteRows a0.f1))))) (drop 0 (map d_y (([(wrap .u8 (a0.f0)),(wrap .u8 ((ByteArray.size a0.f1:Int)))])++(strInts a0.f1)))))++(take (length (map d_y (m117 a0.f2))) (drop 0 (map d_y (m117 a0.f2)))))))++(take (length (map d_y (m117 a0.f3))) (drop 0 (map d_y (m117 a0.f3)))))) (drop 0 (map d_y (((([(wrap .u8 (a0.f0)),(wrap .u8 ((ByteArray.size a0.f1:Int)))])++(strInts a0.f1))++(m117 a0.f2))++(m117 a0.f3))))))) (drop 0 (([[(.val (.int .u8 (wrap .u8 (((length ((take (length ((take (length (([[(.val (.int .u8 (wrap .u8 (a0.f0))))],[(.val (.int .u8 (wrap .u8 ((ByteArray.size a0.f1:Int)))))]]:List (List D))++(take (ByteArray.size a0.f1) (drop 0 (byteRows a0.f1))))) (drop 0 (map d_y (([(wrap .u8 (a0.f0)),(wrap .u8 ((ByteArray.size a0.f1:Int)))])++(strInts a0.f1)))))++(take (length (map d_y (m117 a0.f2))) (drop 0 (map d_y (m117 a0.f2)))))) (drop 0 ((take (length (([[(.val (.int .u8 (wrap .u8 (a0.f0))))],[(.val (.int .u8 (wrap .u8 ((ByteArray.size a0.f1:Int)))))]]:List (List D))++(take (ByteArray.size a0.f1) (drop 0 (byteRows a0.f1))))) (drop 0 (map d_y (([(wrap .u8 (a0.f0)),(wrap .u8 ((ByteArray.size a0.f1:Int)))])++(strInts a0.f1)))))++(take (length (map d_y (m117 a0.f2))) (drop 0 (map d_y (m117 a0.f2)))))))++(take (length (map d_y (m117 a0.f3))) (drop 0 (map d_y (m117 a0.f3)))))):Int)))))]]:List (List D))++(take (length ((take (length ((take (length (([[(.val (.int .u8 (wrap .u8 (a0.f0))))],[(.val (.int .u8 (wrap .u8 ((ByteArray.size a0.f1:Int)))))]]:List (List D))++(take (ByteArray.size a0.f1) (drop 0 (byteRows a0.f1))))) (drop 0 (map d_y (([(wrap .u8 (a0.f0)),(wrap .u8 ((ByteArray.size a0.f1:Int)))])++(strInts a0.f1)))))++(take (length (map d_y (m117 a0.f2))) (drop 0 (map d_y (m117 a0.f2)))))) (drop 0 ((take (length (([[(.val (.int .u8 (wrap .u8 (a0.f0))))],[(.val (.int .u8 (wrap .u8 ((ByteArray.size a0.f1:Int)))))]]:List (List D))++(take (ByteArray.size a0.f1) (drop 0 (byteRows a0.f1))))) (drop 0 (map d_y (([(wrap .u8 (a0.f0)),(wrap .u8 ((ByteArray.size a0.f1:Int)))])++(strInts a0.f1)))))++(take (length (map d_y (m117 a0.f2))) (drop 0 (map d_y (m117 a0.f2)))))))++(take (length (map d_y (m117 a0.f3))) (drop 0 (map d_y (m117 a0.f3)))))) (drop 0 (map d_y (((([(wrap .u8 (a0.f0)),(wrap .u8 ((ByteArray.size a0.f1:Int)))])++(strInts a0.f1))++(m117 a0.f2))++(m117 a0.f3))))))))++([[(.val (.int .u8 (wrap .u8 ((Int.fdiv (m118 (((([(wrap .u8 (a0.f0)),(wrap .u8 ((ByteArray.size a0.f1:Int)))])++(strInts a0.f1))++(m117 a0.f2))++(m117 a0.f3))) (2 ^(min (toNat 8) (IntKind.bits .i64))))))))],[(.val (.int .u8 (wrap .u8 ((m118 (((([(wrap .u8 (a0.f0)),(wrap .u8 ((ByteArray.size a0.f1:Int)))])++(strInts a0.f1))++(m117 a0.f2))++(m117 a0.f3)))))))]]:List (List D))))*1≤70368744177664:=(by unfold m117 m118;(repeat' split)<;>simp_all<;>omega)
  have f34:∀r∈([[(.val (.int .u8 (wrap .u8 ((Int.fdiv (m118 (((([(wrap .u8 (a0.f0)),(wrap .u8 ((ByteArray.size a0.f1:Int)))])++(strInts a0.f1))++(m117 a0.f2))++(m117 a0.f3))) (2 ^(min (toNat 8) (IntKind.bits .i64))))))))],[(.val (.int .u8 (wrap .u8 ((m118 (((([(wrap .u8 (a0.f0)),(wrap .u8 ((ByteArray.size a0.f1:Int)))])++(strInts a0.f1))++(m117 a0.f2))++(m117 a0.f3)))))))]]:List (List D)),r.length=1:=yk
  have f35:((take (length (([[(.val (.int .u8 (wrap .u8 (((length ((take (length ((take (length (([[(.val (.int .u8 (wrap .u8 (a0.f0))))],[(.val (.int .u8 (wrap .u8 ((ByteArray.size a0.f1:Int)))))]]:List (List D))++(take (ByteArray.size a0.f1) (drop 0 (byteRows a0.f1))))) (drop 0 (map d_y (([(wrap .u8 (a0.f0)),(wrap .u8 ((ByteArray.size a0.f1:Int)))])++(strInts a0.f1)))))++(take (length (map d_y (m117 a0.f2))) (drop 0 (map d_y (m117 a0.f2)))))) (drop 0 ((take (length (([[(.val (.int .u8 (wrap .u8 (a0.f0))))],[(.val (.int .u8 (wrap .u8 ((ByteArray.size a0.f1:Int)))))]]:List (List D))++(take (ByteArray.size a0.f1) (drop 0 (byteRows a0.f1))))) (drop 0 (map d_y (([(wrap .u8 (a0.f0)),(wrap .u8 ((ByteArray.size a0.f1:Int)))])++(strInts a0.f1)))))++(take (length (map d_y (m117 a0.f2))) (drop 0 (map d_y (m117 a0.f2)))))))++(take (length (map d_y (m117 a0.f3))) (drop 0 (map d_y (m117 a0.f3)))))):Int)))))]]:List (List D))++(take (length ((take (length ((take (length (([[(.val (.int .u8 (wrap .u8 (a0.f0))))],[(.val (.int .u8 (wrap .u8 ((ByteArray.size a0.f1:Int)))))]]:List (List D))++(take (ByteArray.size a0.f1) (drop 0 (byteRows a0.f1))))) (drop 0 (map d_y (([(wrap .u8 (a0.f0)),(wrap .u8 ((ByteArray.size a0.f1:Int)))])++(strInts a0.f1)))))++(take (length (map d_y (m117 a0.f2))) (drop 0 (map d_y (m117 a0.f2)))))) (drop 0 ((take (length (([[(.val (.int .u8 (wrap .u8 (a0.f0))))],[(.val (.int .u8 (wrap .u8 ((ByteArray.size a0.f1:Int)))))]]:List (List D))++(take (ByteArray.size a0.f1) (drop 0 (byteRows a0.f1))))) (drop 0 (map d_y (([(wrap .u8 (a0.f0)),(wrap .u8 ((ByteArray.size a0.f1:Int)))])++(strInts a0.f1)))))++(take (length (map d_y (m117 a0.f2))) (drop 0 (map d_y (m117 a0.f2)))))))++(take (length (map d_y (m117 a0.f3))) (drop 0 (map d_y (m117 a0.f3)))))) (drop 0 (map d_y (((([(wrap .u8 (a0.f0)),(wrap .u8 ((ByteArray.size a0.f1:Int)))])++(strInts a0.f1))++(m117 a0.f2))++(m117 a0.f3))))))) (drop 0 (([[(.val (.int .u8 (wrap .u8 (((length ((take (length ((take (length (([[(.val (.int .u8 (wrap .u8 (a0.f0))))],[(.val (.int .u8 (wrap .u8 ((ByteArray.size a0.f1:Int)))))]]:List (List D))++(take (ByteArray.size a0.f1) (drop 0 (byteRows a0.f1))))) (drop 0 (map d_y (([(wrap .u8 (a0.f0)),(wrap .u8 ((ByteArray.size a0.f1:Int)))])++(strInts a0.f1)))))++(take (length (map d_y (m117 a0.f2))) (drop 0 (map d_y (m117 a0.f2)))))) (drop 0 ((take (length (([[(.val (.int .u8 (wrap .u8 (a0.f0))))],[(.val (.int .u8 (wrap .u8 ((ByteArray.size a0.f1:Int)))))]]:List (List D))++(take (ByteArray.size a0.f1) (drop 0 (byteRows a0.f1))))) (drop 0 (map d_y (([(wrap .u8 (a0.f0)),(wrap .u8 ((ByteArray.size a0.f1:Int)))])++(strInts a0.f1)))))++(take (length (map d_y (m117 a0.f2))) (drop 0 (map d_y (m117 a0.f2)))))))++(take (length (map d_y (m117 a0.f3))) (drop 0 (map d_y (m117 a0.f3)))))):Int)))))]]:List (List D))++(take (length ((take (length ((take (length (([[(.val (.int .u8 (wrap .u8 (a0.f0))))],[(.val (.int .u8 (wrap .u8 ((ByteArray.size a0.f1:Int)))))]]:List (List D))++(take (ByteArray.size a0.f1) (drop 0 (byteRows a0.f1))))) (drop 0 (map d_y (([(wrap .u8 (a0.f0)),(wrap .u8 ((ByteArray.size a0.f1:Int)))])++(strInts a0.f1)))))++(take (length (map d_y (m117 a0.f2))) (drop 0 (map d_y (m117 a0.f2)))))) (drop 0 ((take (length (([[(.val (.int .u8 (wrap .u8 (a0.f0))))],[(.val (.int .u8 (wrap .u8 ((ByteArray.size a0.f1:Int)))))]]:List (List D))++(take (ByteArray.size a0.f1) (drop 0 (byteRows a0.f1))))) (drop 0 (map d_y (([(wrap .u8 (a0.f0)),(wrap .u8 ((ByteArray.size a0.f1:Int)))])++(strInts a0.f1)))))++(take (length (map d_y (m117 a0.f2))) (drop 0 (map d_y (m117 a0.f2)))))))++(take (length (map d_y (m117 a0.f3))) (drop 0 (map d_y (m117 a0.f3)))))) (drop 0 (map d_y (((([(wrap .u8 (a0.f0)),(wrap .u8 ((ByteArray.size a0.f1:Int)))])++(strInts a0.f1))++(m117 a0.f2))++(m117 a0.f3))))))))++([[(.val (.int .u8 (wrap .u8 ((Int.fdiv (m118 (((([(wrap .u8 (a0.f0)),(wrap .u8 ((ByteArray.size a0.f1:Int)))])++(strInts a0.f1))++(m117 a0.f2))++(m117 a0.f3))) (2 ^(min (toNat 8) (IntKind.bits .i64))))))))],[(.val (.int .u8 (wrap .u8 ((m118 (((([(wrap .u8 (a0.f0)),(wrap .u8 ((ByteArray.size a0.f1:Int)))])++(strInts a0.f1))++(m117 a0.f2))++(m117 a0.f3)))))))]]:List (List D)))=(map d_y ((([(wrap .u8 (((length ((take (length ((take (length (([[(.val (.int .u8 (wrap .u8 (a0.f0))))],[(.val (.int .u8 (wrap .u8 ((ByteArray.size a0.f1:Int)))))]]:List (List D))++(take (ByteArray.size a0.f1) (drop 0 (byteRows a0.f1))))) (drop 0 (map d_y (([(wrap .u8 (a0.f0)),(wrap .u8 ((ByteArray.size a0.f1:Int)))])++(strInts a0.f1)))))++(take (length (map d_y (m117 a0.f2))) (drop 0 (map d_y (m117 a0.f2)))))) (drop 0 ((take (length (([[(.val (.int .u8 (wrap .u8 (a0.f0))))],[(.val (.int .u8 (wrap .u8 ((ByteArray.size a0.f1:Int)))))]]:List (List D))++(take (ByteArray.size a0.f1) (drop 0 (byteRows a0.f1))))) (drop 0 (map d_y (([(wrap .u8 (a0.f0)),(wrap .u8 ((ByteArray.size a0.f1:Int)))])++(strInts a0.f1)))))++(take (length (map d_y (m117 a0.f2))) (drop 0 (map d_y (m117 a0.f2)))))))++(take (length (map d_y (m117 a0.f3))) (drop 0 (map d_y (m117 a0.f3)))))):Int)))])++(((([(wrap .u8 (a0.f0)),(wrap .u8 ((ByteArray.size a0.f1:Int)))])++(strInts a0.f1))++(m117 a0.f2))++(m117 a0.f3)))++([(wrap .u8 ((Int.fdiv (m118 (((([(wrap .u8 (a0.f0)),(wrap .u8 ((ByteArray.size a0.f1:Int)))])++(strInts a0.f1))++(m117 a0.f2))++(m117 a0.f3))) (2 ^(min (toNat 8) (IntKind.bits .i64)))))),(wrap .u8 ((m118 (((([(wrap .u8 (a0.f0)),(wrap .u8 ((ByteArray.size a0.f1:Int)))])++(strInts a0.f1))++(m117 a0.f2))++(m117 a0.f3)))))]))):=yG
  have f37:(length ((take (length (([[(.val (.int .u8 (wrap .u8 (((length ((take (length ((take (length (([[(.val (.int .u8 (wrap .u8 (a0.f0))))],[(.val (.int .u8 (wrap .u8 ((ByteArray.size a0.f1:Int)))))]]:List (List D))++(take (ByteArray.size a0.f1) (drop 0 (byteRows a0.f1))))) (drop 0 (map d_y (([(wrap .u8 (a0.f0)),(wrap .u8 ((ByteArray.size a0.f1:Int)))])++(strInts a0.f1)))))++(take (length (map d_y (m117 a0.f2))) (drop 0 (map d_y (m117 a0.f2)))))) (drop 0 ((take (length (([[(.val (.int .u8 (wrap .u8 (a0.f0))))],[(.val (.int .u8 (wrap .u8 ((ByteArray.size a0.f1:Int)))))]]:List (List D))++(take (ByteArray.size a0.f1) (drop 0 (byteRows a0.f1))))) (drop 0 (map d_y (([(wrap .u8 (a0.f0)),(wrap .u8 ((ByteArray.size a0.f1:Int)))])++(strInts a0.f1)))))++(take (length (map d_y (m117 a0.f2))) (drop 0 (map d_y (m117 a0.f2)))))))++(take (length (map d_y (m117 a0.f3))) (drop 0 (map d_y (m117 a0.f3)))))):Int)))))]]:List (List D))++(take (length ((take (length ((take (length (([[(.val (.int .u8 (wrap .u8 (a0.f0))))],[(.val (.int .u8 (wrap .u8 ((ByteArray.size a0.f1:Int)))))]]:List (List D))++(take (ByteArray.size a0.f1) (drop 0 (byteRows a0.f1))))) (drop 0 (map d_y (([(wrap .u8 (a0.f0)),(wrap .u8 ((ByteArray.size a0.f1:Int)))])++(strInts a0.f1)))))++(take (length (map d_y (m117 a0.f2))) (drop 0 (map d_y (m117 a0.f2)))))) (drop 0 ((take (length (([[(.val (.int .u8 (wrap .u8 (a0.f0))))],[(.val (.int .u8 (wrap .u8 ((ByteArray.size a0.f1:Int)))))]]:List (List D))++(take (ByteArray.size a0.f1) (drop 0 (byteRows a0.f1))))) (drop 0 (map d_y (([(wrap .u8 (a0.f0)),(wrap .u8 ((ByteArray.size a0.f1:Int)))])++(strInts a0.f1)))))++(take (length (map d_y (m117 a0.f2))) (drop 0 (map d_y (m117 a0.f2)))))))++(take (length (map d_y (m117 a0.f3))) (drop 0 (map d_y (m117 a0.f3)))))) (drop 0 (map d_y (((([(wrap .u8 (a0.f0)),(wrap .u8 ((ByteArray.size a0.f1:Int)))])++(strInts a0.f1))++(m117 a0.f2))++(m117 a0.f3))))))) (drop 0 (([[(.val (.int .u8 (wrap .u8 (((length ((take (length ((take (length (([[(.val (.int .u8 (wrap .u8 (a0.f0))))],[(.val (.int .u8 (wrap .u8 ((ByteArray.size a0.f1:Int)))))]]:List (List D))++(take (ByteArray.size a0.f1) (drop 0 (byteRows a0.f1))))) (drop 0 (map d_y (([(wrap .u8 (a0.f0)),(wrap .u8 ((ByteArray.size a0.f1:Int)))])++(strInts a0.f1)))))++(take (length (map d_y (m117 a0.f2))) (drop 0 (map d_y (m117 a0.f2)))))) (drop 0 ((take (length (([[(.val (.int .u8 (wrap .u8 (a0.f0))))],[(.val (.int .u8 (wrap .u8 ((ByteArray.size a0.f1:Int)))))]]:List (List D))++(take (ByteArray.size a0.f1) (drop 0 (byteRows a0.f1))))) (drop 0 (map d_y (([(wrap .u8 (a0.f0)),(wrap .u8 ((ByteArray.size a0.f1:Int)))])++(strInts a0.f1)))))++(take (length (map d_y (m117 a0.f2))) (drop 0 (map d_y (m117 a0.f2)))))))++(take (length (map d_y (m117 a0.f3))) (drop 0 (map d_y (m117 a0.f3)))))):Int)))))]]:List (List D))++(take (length ((take (length ((take (length (([[(.val (.int .u8 (wrap .u8 (a0.f0))))],[(.val (.int .u8 (wrap .u8 ((ByteArray.size a0.f1:Int)))))]]:List (List D))++(take (ByteArray.size a0.f1) (drop 0 (byteRows a0.f1))))) (drop 0 (map d_y (([(wrap .u8 (a0.f0)),(wrap .u8 ((ByteArray.size a0.f1:Int)))])++(strInts a0.f1)))))++(take (length (map d_y (m117 a0.f2))) (drop 0 (map d_y (m117 a0.f2)))))) (drop 0 ((take (length (([[(.val (.int .u8 (wrap .u8 (a0.f0))))],[(.val (.int .u8 (wrap .u8 ((ByteArray.size a0.f1:Int)))))]]:List (List D))++(take (ByteArray.size a0.f1) (drop 0 (byteRows a0.f1))))) (drop 0 (map d_y (([(wrap .u8 (a0.f0)),(wrap .u8 ((ByteArray.size a0.f1:Int)))])++(strInts a0.f1)))))++(take (length (map d_y (m117 a0.f2))) (drop 0 (map d_y (m117 a0.f2)))))))++(take (length (map d_y (m117 a0.f3))) (drop 0 (map d_y (m117 a0.f3)))))) (drop 0 (map d_y (((([(wrap .u8 (a0.f0)),(wrap .u8 ((ByteArray.size a0.f1:Int)))])++(strInts a0.f1))++(m117 a0.f2))++(m117 a0.f3))))))))++([[(.val (.int .u8 (wrap .u8 ((Int.fdiv (m118 (((([(wrap .u8 (a0.f0)),(wrap .u8 ((ByteArray.size a0.f1:Int)))])++(strInts a0.f1))++(m117 a0.f2))++(m117 a0.f3))) (2 ^(min (toNat 8) (IntKind.bits .i64))))))))],[(.val (.int .u8 (wrap .u8 ((m118 (((([(wrap .u8 (a0.f0)),(wrap .u8 ((ByteArray.size a0.f1:Int)))])++(strInts a0.f1))++(m117 a0.f2))++(m117 a0.f3)))))))]]:List (List D))))=(length (map d_y ((([(wrap .u8 (((length ((take (length ((take (length (([[(.val (.int .u8 (wrap .u8 (a0.f0))))],[(.val (.int .u8 (wrap .u8 ((ByteArray.size a0.f1:Int)))))]]:List (List D))++(take (ByteArray.size a0.f1) (drop 0 (byteRows a0.f1))))) (drop 0 (map d_y (([(wrap .u8 (a0.f0)),(wrap .u8 ((ByteArray.size a0.f1:Int)))])++(strInts a0.f1)))))++(take (length (map d_y (m117 a0.f2))) (drop 0 (map d_y (m117 a0.f2)))))) (drop 0 ((take (length (([[(.val (.int .u8 (wrap .u8 (a0.f0))))],[(.val (.int .u8 (wrap .u8 ((ByteArray.size a0.f1:Int)))))]]:List (List D))++(take (ByteArray.size a0.f1) (drop 0 (byteRows a0.f1))))) (drop 0 (map d_y (([(wrap .u8 (a0.f0)),(wrap .u8 ((ByteArray.size a0.f1:Int)))])++(strInts a0.f1)))))++(take (length (map d_y (m117 a0.f2))) (drop 0 (map d_y (m117 a0.f2)))))))++(take (length (map d_y (m117 a0.f3))) (drop 0 (map d_y (m117 a0.f3)))))):Int)))])++(((([(wrap .u8 (a0.f0)),(wrap .u8 ((ByteArray.size a0.f1:Int)))])++(strInts a0.f1))++(m117 a0.f2))++(m117 a0.f3)))++([(wrap .u8 ((Int.fdiv (m118 (((([(wrap .u8 (a0.f0)),(wrap .u8 ((ByteArray.size a0.f1:Int)))])++(strInts a0.f1))++(m117 a0.f2))++(m117 a0.f3))) (2 ^(min (toNat 8) (IntKind.bits .i64)))))),(wrap .u8 ((m118 (((([(wrap .u8 (a0.f0)),(wrap .u8 ((ByteArray.size a0.f1:Int)))])++(strInts a0.f1))++(m117 a0.f2))++(m117 a0.f3)))))])))):=yd
  exact cp ya (.f f0 (.f f1 (.f f2 (.f f3 (.f f4 (.f f5 (.f f6 (T 37 (.h 40 (.norm (3,0,0) (map d_y (([(wrap .u8 (a0.f0)),(wrap .u8 ((ByteArray.size a0.f1:Int)))])++(strInts a0.f1)))) (.r 52 [] [] (e117 (a0:=a0.f2)) (.f f8 (.f f9 (.f f10 (.f f11 (.f f12 (T 54 (.r 64 [] [] (e117 (a0:=a0.f3)) (.f f14 (.f f15 (.f f16 (.f f17 (.f f18 (.f f19 (.f f20 (.f f21 (.f f22 (T 66 (.h 69 (.norm (3,0,0) (map d_y (((([(wrap .u8 (a0.f0)),(wrap .u8 ((ByteArray.size a0.f1:Int)))])++(strInts a0.f1))++(m117 a0.f2))++(m117 a0.f3)))) (.r 73 [] [(map b_y (((([(wrap .u8 (a0.f0)),(wrap .u8 ((ByteArray.size a0.f1:Int)))])++(strInts a0.f1))++(m117 a0.f2))++(m117 a0.f3)))] (e118 (l0_0:=0) (a0:=(((([(wrap .u8 (a0.f0)),(wrap .u8 ((ByteArray.size a0.f1:Int)))])++(strInts a0.f1))++(m117 a0.f2))++(m117 a0.f3))) (by simp only[length_append,length_cons,length_nil,strInts_len,four_len]; omega)) (.f f24 (.f f20 (.f f26 (.f f27 (.f f28 (.f f29 (.f f30 (.f f31 (.f f32 (.f f33 (.f f34 (.f f35 (pe 0 (.f f37 (.f (pureR_y ((([(wrap .u8 (((length ((take (length ((take (length (([[(.val (.int .u8 (wrap .u8 (a0.f0))))],[(.val (.int .u8 (wrap .u8 ((ByteArray.size a0.f1:Int)))))]]:List (List D))++(take (ByteArray.size a0.f1) (drop 0 (byteRows a0.f1))))) (drop 0 (map d_y (([(wrap .u8 (a0.f0)),(wrap .u8 ((ByteArray.size a0.f1:Int)))])++(strInts a0.f1)))))++(take (length (map d_y (m117 a0.f2))) (drop 0 (map d_y (m117 a0.f2)))))) (drop 0 ((take (length (([[(.val (.int .u8 (wrap .u8 (a0.f0))))],[(.val (.int .u8 (wrap .u8 ((ByteArray.size a0.f1:Int)))))]]:List (List D))++(take (ByteArray.size a0.f1) (drop 0 (byteRows a0.f1))))) (drop 0 (map d_y (([(wrap .u8 (a0.f0)),(wrap .u8 ((ByteArray.size a0.f1:Int)))])++(strInts a0.f1)))))++(take (length (map d_y (m117 a0.f2))) (drop 0 (map d_y (m117 a0.f2)))))))++(take (length (map d_y (m117 a0.f3))) (drop 0 (map d_y (m117 a0.f3)))))):Int)))])++(((([(wrap .u8 (a0.f0)),(wrap .u8 ((ByteArray.size a0.f1:Int)))])++(strInts a0.f1))++(m117 a0.f2))++(m117 a0.f3)))++([(wrap .u8 ((Int.fdiv (m118 (((([(wrap .u8 (a0.f0)),(wrap .u8 ((ByteArray.size a0.f1:Int)))])++(strInts a0.f1))++(m117 a0.f2))++(m117 a0.f3))) (2 ^(min (toNat 8) (IntKind.bits .i64)))))),(wrap .u8 ((m118 (((([(wrap .u8 (a0.f0)),(wrap .u8 ((ByteArray.size a0.f1:Int)))])++(strInts a0.f1))++(m117 a0.f2))++(m117 a0.f3)))))]))) (T 87 (T 101 (.h 104 (.norm (2,0,0) (map d_y ((([(wrap .u8 (((length ((take (length ((take (length (([[(.val (.int .u8 (wrap .u8 (a0.f0))))],[(.val (.int .u8 (wrap .u8 ((ByteArray.size a0.f1:Int)))))]]:List (List D))++(take (ByteArray.size a0.f1) (drop 0 (byteRows a0.f1))))) (drop 0 (map d_y (([(wrap .u8 (a0.f0)),(wrap .u8 ((ByteArray.size a0.f1:Int)))])++(strInts a0.f1)))))++(take (length (map d_y (m117 a0.f2))) (drop 0 (map d_y (m117 a0.f2)))))) (drop 0 ((take (length (([[(.val (.int .u8 (wrap .u8 (a0.f0))))],[(.val (.int .u8 (wrap .u8 ((ByteArray.size a0.f1:Int)))))]]:List (List D))++(take (ByteArray.size a0.f1) (drop 0 (byteRows a0.f1))))) (drop 0 (map d_y (([(wrap .u8 (a0.f0)),(wrap .u8 ((ByteArray.size a0.f1:Int)))])++(strInts a0.f1)))))++(take (length (map d_y (m117 a0.f2))) (drop 0 (map d_y (m117 a0.f2)))))))++(take (length (map d_y (m117 a0.f3))) (drop 0 (map d_y (m117 a0.f3)))))):Int)))])++(((([(wrap .u8 (a0.f0)),(wrap .u8 ((ByteArray.size a0.f1:Int)))])++(strInts a0.f1))++(m117 a0.f2))++(m117 a0.f3)))++([(wrap .u8 ((Int.fdiv (m118 (((([(wrap .u8 (a0.f0)),(wrap .u8 ((ByteArray.size a0.f1:Int)))])++(strInts a0.f1))++(m117 a0.f2))++(m117 a0.f3))) (2 ^(min (toNat 8) (IntKind.bits .i64)))))),(wrap .u8 ((m118 (((([(wrap .u8 (a0.f0)),(wrap .u8 ((ByteArray.size a0.f1:Int)))])++(strInts a0.f1))++(m117 a0.f2))++(m117 a0.f3)))))])))) .nil)))))))))))))))))))))))))))))))))))))))))))))))
theorem pack_len70 (a:K_isii) (h:ByteArray.size a.f1≤1000):length (m70 a)≤2000:=by
  unfold m70
  simp only[length_append,length_cons,length_nil,strInts_len,four_len]; omega
theorem pack_exact (a:K_isii):length (m70 a)=ByteArray.size a.f1+13:=by
  unfold m70
  simp only[length_append,length_cons,length_nil,strInts_len,four_len]; omega
theorem pk_b (a:K_isii):∀z∈m70 a,(0:Int)≤z∧z≤255:=by
  unfold m70
  intro z hz
  simp only[List.mem_append,List.mem_cons,List.not_mem_nil,or_false] at hz
  have f4:∀(x:Int) z,z∈m117 x→(0:Int)≤z∧z≤255:=by
    intro x z hz
    unfold m117 at hz
    simp only[List.mem_append,List.mem_cons,List.not_mem_nil,or_false] at hz
    rcases hz with rfl | rfl | rfl | rfl<;>exact u8_range _
  have fs:∀(s:ByteArray) z,z∈strInts s→(0:Int)≤z∧z≤255:=by
    intro s z hz
    unfold strInts at hz
    obtain⟨b,_,rfl⟩:=List.mem_map.1 hz
    have:=b.toNat_lt; omega
  have fl:∀(x:Int),(0:Int)≤wrap .u8 x∧wrap .u8 x≤255:=u8_range
  rcases hz with hz | hz
  · rcases hz with hz | hz
    · subst hz; exact fl _
    rcases hz with((hz | hz) | hz) | hz
    · rcases hz with rfl | rfl<;>exact fl _
    · exact fs _ z hz
    · exact f4 _ z hz
    exact f4 _ z hz
  rcases hz with rfl | rfl<;>exact fl _
theorem pk_app {l:List Int} (h:∀z∈l,(0:Int)≤z∧z≤255) (a:K_isii):∀z∈(([])++l)++m70 a,(0:Int)≤z∧z≤255:=by
  intro z hz
  rcases List.mem_append.1 hz with hz | hz
  · exact h z (by simpa using hz)
  exact pk_b a z hz
theorem e120 {l0_0:Nat} {a0:(List Int)} (hy0:length a0*1≤70368744177664):Ev F X (.call 120 [(.one (.bor l0_0 (map b_y a0)))] [] [] [(.one (.own 1 (map d_y (([])++a0))))]):=by
  have f0:0+0≤0:=(by omega)
  have f1:(length ([]++(fromBR l0_0 (map b_y a0))))*1≤70368744177664:=(by simp[four_len]; omega)
  have f2:∀r∈((fromBR l0_0 (map b_y a0)):List (List D)),r.length=1:=(by simp[*,four_len,b_y,d_y,byteRows_eq,ints_y]; done)
  have f3:([]++(fromBR l0_0 (map b_y a0)))=(map d_y (([])++a0)):=(by simp[byteRows_eq,ints_y,take_of_length_le,d_y,d_LyE,d_b,d_isii,d_iiLisiiE,d_LyEi,d_iLyEi,d_iLyE,d_i,d_s,d_LiE,d_si,d_R,d_C,d_B,d_LsiE,d_LLyEE,d_LisiiE,d_Q,fromBR_y,fromBR_b,fromBR_isii,fromBR_i,fromBR_s,fromBR_si,four_len]; done)
  have f5:(length ([]++(fromBR l0_0 (map b_y a0))))=(length (map d_y (([])++a0))):=(by simp[four_len]; done)
  exact cp (by kernel_rfl) (.f f0 (.f f1 (.f f2 (.f f3 (pe 0 (.f f5 (.f (pureR_y (([])++a0)) (.h 10 (.norm (2,0,0) (map d_y (([])++a0))) .nil))))))))
def m74_0 (a0:K_LyEi) (a1:K_isii):K_LyEi:=
  (K_LyEi.mk ((([])++a0.f0)++(m70 a1)) a0.f1)
def m74_1 (a0:K_LyEi) (a1:K_isii):Bool:=
  (decide (((length (map d_y ((([])++a0.f0)++(m70 a1)))):Int)≤1200))
theorem e74 {l0_0:Nat} {a0:K_LyEi} {l1:Nat} {a1:K_isii} (hy0:length a0.f0≤1200) (hy1:ByteArray.size a1.f1≤1000):Ev F X (.call 74 [(.agg (k_LyEi l0_0 a0)),(.bptr l1 [(.val (.int .i64 a1.f0)),(.val (.string a1.f1)),(.val (.int .i64 a1.f2)),(.val (.int .i64 a1.f3))])] [] [] [(.agg (d_LyEi (m74_0 a0 a1))),(.one (.val (.bool (m74_1 a0 a1))))]):=by
  have f2:0+(length (map d_y (([])++a0.f0)))≤(length (map d_y (([])++a0.f0))):=yb
  have f3:0+(length (map d_y (m70 a1)))≤(length (map d_y (m70 a1))):=yb
  have f4:((take (length (map d_y (m70 a1))) (drop 0 (map d_y (m70 a1)))).all fun x=>x.all copyable)=true:=(ct_y _ _ _)
  have f5:(length ((take (length (map d_y (([])++a0.f0))) (drop 0 (map d_y (([])++a0.f0))))++(take (length (map d_y (m70 a1))) (drop 0 (map d_y (m70 a1))))))*1≤70368744177664:=(by have q:=pack_len70 a1 yb; simp only[length_map,length_append,length_take,length_drop,List.nil_append]; omega)
  have f6:∀r∈((take (length (map d_y (m70 a1))) (drop 0 (map d_y (m70 a1)))):List (List D)),r.length=1:=yk
  have f9:([[(.own 1 ((take (length (map d_y (([])++a0.f0))) (drop 0 (map d_y (([])++a0.f0))))++(take (length (map d_y (m70 a1))) (drop 0 (map d_y (m70 a1)))))),(.i a0.f1)]]:List (List D))=[[(.own 1 (map d_y ((([])++a0.f0)++(m70 a1)))),(.i a0.f1)]]:=yJ
  exact cp ya (.r 11 [] [] (e120 (l0_0:=(l0_0+1)) (a0:=a0.f0) yb) (.r 15 [] [] (e70 (l0:=(l1+1)) (a0:=a1) ‹_›) (.f f2 (.f f3 (.f f4 (.f f5 (.f f6 (pe 0 (pe (length ((take (length (map d_y (([])++a0.f0))) (drop 0 (map d_y (([])++a0.f0))))++(take (length (map d_y (m70 a1))) (drop 0 (map d_y (m70 a1)))))) (.f f9 (pe 0 (pe (length (map d_y ((([])++a0.f0)++(m70 a1)))) (.f (pureR_y ((([])++a0.f0)++(m70 a1))) (T 17 (.h 28 (.norm (6,0,0) [[(.own 1 (map d_y ((([])++a0.f0)++(m70 a1)))),(.i a0.f1)]]) .nil)))))))))))))))
theorem apl (d:K_LyEi) (e:K_isii):length (m74_0 d e).f0=d.f0.length+(ByteArray.size e.f1+13):=by
  unfold m74_0
  simp only[List.nil_append,length_append,pack_exact]
theorem apb (d:K_LyEi) (e:K_isii) (h:∀z∈d.f0,(0:Int)≤z∧z≤255):∀z∈(m74_0 d e).f0,(0:Int)≤z∧z≤255:=by
  unfold m74_0
  exact pk_app h e
def o40_0 (a0:K_LyEi):K_LyEi:=
  (K_LyEi.mk a0.f0 ((o48_0 a0 4).f1))
def m40 (a0:K_LyEi):ByteArray:=
  (getD ([(⟨#[98,111,98]⟩:ByteArray),(⟨#[97,110,110]⟩:ByteArray),(⟨#[101,118,101]⟩:ByteArray),(⟨#[120,49]⟩:ByteArray)]) (toNat (m48 a0 4)) (⟨#[]⟩:ByteArray))
theorem e40 {l0_0:Nat} {a0:K_LyEi} (hy0:S a0 1):Ev F X (.call 40 [(.ptr ⟨(0,0,0),[],0,0,2⟩)] [((0,0,0),⟨2,[[(.bor (l0_0+1) (map b_y a0.f0)),(.val (.int .i64 a0.f1))]],[]⟩)] [[[(.bor l0_0 (map b_y a0.f0)),(.val (.int .i64 ((o40_0 a0).f1)))]]] [(.one (.val (.string (m40 a0))))]):=by
  have f1:4≤4:=yb
  have f2:0≤(m48 a0 4)∧(m48 a0 4) <(4:Int):=(by have q:=rng a0 4 hy0 yb yb; omega)
  have f3:([[(.val (.string (⟨#[98,111,98]⟩:ByteArray)))],[(.val (.string (⟨#[97,110,110]⟩:ByteArray)))],[(.val (.string (⟨#[101,118,101]⟩:ByteArray)))],[(.val (.string (⟨#[120,49]⟩:ByteArray)))]]:List (List D))[(0+(toNat (m48 a0 4)))]?=some [(.val (.string (getD ([(⟨#[98,111,98]⟩:ByteArray),(⟨#[97,110,110]⟩:ByteArray),(⟨#[101,118,101]⟩:ByteArray),(⟨#[120,49]⟩:ByteArray)]) (toNat (m48 a0 4)) (⟨#[]⟩:ByteArray))))]:=(show (map d_s [(⟨#[98,111,98]⟩:ByteArray),(⟨#[97,110,110]⟩:ByteArray),(⟨#[101,118,101]⟩:ByteArray),(⟨#[120,49]⟩:ByteArray)])[(0+(toNat (m48 a0 4)))]?=some [(.val (.string (getD ([(⟨#[98,111,98]⟩:ByteArray),(⟨#[97,110,110]⟩:ByteArray),(⟨#[101,118,101]⟩:ByteArray),(⟨#[120,49]⟩:ByteArray)]) (toNat (m48 a0 4)) (⟨#[]⟩:ByteArray))))] from(by rw[Nat.zero_add,getElem?_map,getD_at ([(⟨#[98,111,98]⟩:ByteArray),(⟨#[97,110,110]⟩:ByteArray),(⟨#[101,118,101]⟩:ByteArray),(⟨#[120,49]⟩:ByteArray)]) (toNat (m48 a0 4)) (⟨#[]⟩:ByteArray) (by first | exact True.intro | with_reducible rfl | with_reducible assumption | omega |(have q:=rng a0 4 hy0 yb yb; omega) |(have q:=rng a0 4 hy0 yb yb; simp only[length_cons,length_nil]; omega) |(unfold m48;(repeat' split)<;>simp_all<;>omega) |(simp only[decide_eq_true_eq] at*; omega) |(simp only[length_cons,length_nil]; omega) |(simp[four_len]; omega) |(simp[take_of_length_le,four_len]; done) | assumption | trivial |(simp[*,four_len,byteRows_eq,ints_y]; done))]; rfl))
  exact cq [false] ya (.r 7 [false] [] (e48 (l0_0:=(l0_0+1)) (a0:=a0) (a1:=4) ‹_›) (.f f1 (.f f2 (.f f3 (.h 11 (.rowD [(.val (.string (getD ([(⟨#[98,111,98]⟩:ByteArray),(⟨#[97,110,110]⟩:ByteArray),(⟨#[101,118,101]⟩:ByteArray),(⟨#[120,49]⟩:ByteArray)]) (toNat (m48 a0 4)) (⟨#[]⟩:ByteArray))))]) .nil)))))
theorem st40 {a:K_LyEi} {n:Nat} (h:S a (n+1)):S (o40_0 a) n:=by
  unfold o40_0; exact sm48 _ h rfl
theorem sm40 {a:K_LyEi} {n:Nat} {f:List Int} (h:S a (n+1)) (e:a.f0=f):S (K_LyEi.mk f ((o40_0 a).f1)) n:=by subst e; exact st40 h
theorem gsz (l:List ByteArray) (h:∀s∈l,ByteArray.size s≤3) (i:Nat):ByteArray.size (getD l i (⟨#[]⟩:ByteArray))≤3:=by
  rw[List.getD_eq_getElem?_getD]
  cases e:l[i]? with
  |none=>simp[ByteArray.size]
  |some z=>exact h z (List.mem_of_getElem? e)
theorem wsz (a:K_LyEi):ByteArray.size (m40 a)≤3:=by
  unfold m40
  exact gsz _ yam _
def m114_0 (a0:Int):Bool:=
  if(a0==1)=true then true else
  (a0==5)
def m114_1 (a0:Int):Bool:=
  if(a0==1)=true then false else
  (!(a0==5))
def m114_2 (a0:Int):Bool:=
  if(a0==1)=true then true else
  if(a0==5)=true then true else
    (a0==2)
theorem e114 {a0:Int}:Ev F X (.call 114 [(.one (.val (.int .i64 a0)))] [] [] [(.one (.val (.bool (m114_0 a0)))),(.one (.val (.bool (m114_1 a0)))),(.one (.val (.bool (m114_2 a0))))]):=by
  unfold m114_0 m114_1 m114_2
  by_cases h0:(a0==1)=true
  · try simp only[if_pos h0]
    exact cp ya (.f h0 (.f h0 (.f h0 (T 12 (T 14 (T 17 .nil))))))
  try simp only[if_neg h0]
  have P1 {hs q} (r:PS F X hs q):=(PS.f (nt h0) (N h0 (N h0 (U 12 (U 14 (U 17 r))))))
  by_cases h1:(a0==5)=true
  · try simp only[if_pos h1]
    exact cp ya (P1 (.f h1 (.f h1 (.f h1 (T 30 (T 32 (T 35 .nil)))))))
  try simp only[if_neg h1]
  exact cp ya (P1 (N h1 (N h1 (N h1 (U 30 (U 32 (U 35 .nil)))))))
def o110_0 (a0:K_LyEi):K_LyEi:=
  if (m114_0 (m41 a0 [1, 1, 1, 2, 3, 4, 5])) = true then (if (m114_1 (m41 a0 [1, 1, 1, 2, 3, 4, 5])) = true then (if (m114_2 (m41 a0 [1, 1, 1, 2, 3, 4, 5])) = true then (K_LyEi.mk a0.f0 ((o41_0 (K_LyEi.mk a0.f0 ((o41_0 (K_LyEi.mk a0.f0 ((o40_0 (K_LyEi.mk a0.f0 ((o41_0 a0 [1, 1, 1, 2, 3, 4, 5]).f1))).f1)) [0, 1, 2, 300]).f1)) [1, 2, 50, 9]).f1)) else
      (K_LyEi.mk a0.f0 ((o41_0 (K_LyEi.mk a0.f0 ((o40_0 (K_LyEi.mk a0.f0 ((o41_0 a0 [1,1,1,2,3,4,5]).f1))).f1)) [0,1,2,300]).f1))) else
    if(m114_2 (m41 a0 [1,1,1,2,3,4,5]))=true then(K_LyEi.mk a0.f0 ((o41_0 (K_LyEi.mk a0.f0 ((o40_0 (K_LyEi.mk a0.f0 ((o41_0 a0 [1,1,1,2,3,4,5]).f1))).f1)) [1,2,50,9]).f1)) else
      (K_LyEi.mk a0.f0 ((o40_0 (K_LyEi.mk a0.f0 ((o41_0 a0 [1,1,1,2,3,4,5]).f1))).f1))) else
  if (m114_1 (m41 a0 [1, 1, 1, 2, 3, 4, 5])) = true then (if (m114_2 (m41 a0 [1, 1, 1, 2, 3, 4, 5])) = true then (K_LyEi.mk a0.f0 ((o41_0 (K_LyEi.mk a0.f0 ((o41_0 (K_LyEi.mk a0.f0 ((o41_0 a0 [1, 1, 1, 2, 3, 4, 5]).f1)) [0, 1, 2, 300]).f1)) [1, 2, 50, 9]).f1)) else
      (K_LyEi.mk a0.f0 ((o41_0 (K_LyEi.mk a0.f0 ((o41_0 a0 [1,1,1,2,3,4,5]).f1)) [0,1,2,300]).f1))) else
    if(m114_2 (m41 a0 [1,1,1,2,3,4,5]))=true then(K_LyEi.mk a0.f0 ((o41_0 (K_LyEi.mk a0.f0 ((o41_0 a0 [1,1,1,2,3,4,5]).f1)) [1,2,50,9]).f1)) else
      (K_LyEi.mk a0.f0 ((o41_0 a0 [1,1,1,2,3,4,5]).f1))
def m110 (a0:K_LyEi):K_isii:=
  if (m114_0 (m41 a0 [1, 1, 1, 2, 3, 4, 5])) = true then (if (m114_1 (m41 a0 [1, 1, 1, 2, 3, 4, 5])) = true then (if (m114_2 (m41 a0 [1, 1, 1, 2, 3, 4, 5])) = true then (K_isii.mk (m41 a0 [1, 1, 1, 2, 3, 4, 5]) (m40 (K_LyEi.mk a0.f0 ((o41_0 a0 [1, 1, 1, 2, 3, 4, 5]).f1))) (m41 (K_LyEi.mk a0.f0 ((o40_0 (K_LyEi.mk a0.f0 ((o41_0 a0 [1, 1, 1, 2, 3, 4, 5]).f1))).f1)) [0, 1, 2, 300]) (m41 (K_LyEi.mk a0.f0 ((o41_0 (K_LyEi.mk a0.f0 ((o40_0 (K_LyEi.mk a0.f0 ((o41_0 a0 [1, 1, 1, 2, 3, 4, 5]).f1))).f1)) [0, 1, 2, 300]).f1)) [1, 2, 50, 9])) else
      (K_isii.mk (m41 a0 [1,1,1,2,3,4,5]) (m40 (K_LyEi.mk a0.f0 ((o41_0 a0 [1,1,1,2,3,4,5]).f1))) (m41 (K_LyEi.mk a0.f0 ((o40_0 (K_LyEi.mk a0.f0 ((o41_0 a0 [1,1,1,2,3,4,5]).f1))).f1)) [0,1,2,300]) 0)) else
    if(m114_2 (m41 a0 [1,1,1,2,3,4,5]))=true then(K_isii.mk (m41 a0 [1,1,1,2,3,4,5]) (m40 (K_LyEi.mk a0.f0 ((o41_0 a0 [1,1,1,2,3,4,5]).f1))) 0 (m41 (K_LyEi.mk a0.f0 ((o40_0 (K_LyEi.mk a0.f0 ((o41_0 a0 [1,1,1,2,3,4,5]).f1))).f1)) [1,2,50,9])) else
      (K_isii.mk (m41 a0 [1,1,1,2,3,4,5]) (m40 (K_LyEi.mk a0.f0 ((o41_0 a0 [1,1,1,2,3,4,5]).f1))) 0 0)) else
  if (m114_1 (m41 a0 [1, 1, 1, 2, 3, 4, 5])) = true then (if (m114_2 (m41 a0 [1, 1, 1, 2, 3, 4, 5])) = true then (K_isii.mk (m41 a0 [1, 1, 1, 2, 3, 4, 5]) (⟨#[]⟩ : ByteArray) (m41 (K_LyEi.mk a0.f0 ((o41_0 a0 [1, 1, 1, 2, 3, 4, 5]).f1)) [0, 1, 2, 300]) (m41 (K_LyEi.mk a0.f0 ((o41_0 (K_LyEi.mk a0.f0 ((o41_0 a0 [1, 1, 1, 2, 3, 4, 5]).f1)) [0, 1, 2, 300]).f1)) [1, 2, 50, 9])) else
      (K_isii.mk (m41 a0 [1,1,1,2,3,4,5]) (⟨#[]⟩:ByteArray) (m41 (K_LyEi.mk a0.f0 ((o41_0 a0 [1,1,1,2,3,4,5]).f1)) [0,1,2,300]) 0)) else
    if(m114_2 (m41 a0 [1,1,1,2,3,4,5]))=true then(K_isii.mk (m41 a0 [1,1,1,2,3,4,5]) (⟨#[]⟩:ByteArray) 0 (m41 (K_LyEi.mk a0.f0 ((o41_0 a0 [1,1,1,2,3,4,5]).f1)) [1,2,50,9])) else
      (K_isii.mk (m41 a0 [1,1,1,2,3,4,5]) (⟨#[]⟩:ByteArray) 0 0)
theorem e110 {l0_0:Nat} {a0:K_LyEi} (hy0:S a0 6):Ev F X (.call 110 [(.ptr ⟨(0,0,0),[],0,0,2⟩)] [((0,0,0),⟨2,[[(.bor (l0_0+1) (map b_y a0.f0)),(.val (.int .i64 a0.f1))]],[]⟩)] [[[(.bor l0_0 (map b_y a0.f0)),(.val (.int .i64 ((o110_0 a0).f1)))]]] [(.agg [(.val (.int .i64 ((m110 a0).f0))),(.val (.string ((m110 a0).f1))),(.val (.int .i64 ((m110 a0).f2))),(.val (.int .i64 ((m110 a0).f3)))])]):=by
  unfold m110 o110_0
  have f0:7≤7:=yb
  have f1:fullR (take 7 (drop 0 [[(.i 1)],[(.i 1)],[(.i 1)],[(.i 2)],[(.i 3)],[(.i 4)],[(.i 5)]]))=true:=yA
  have f2:toBR (take 7 (drop 0 [[(.i 1)],[(.i 1)],[(.i 1)],[(.i 2)],[(.i 3)],[(.i 4)],[(.i 5)]]))=[[(.i 1)],[(.i 1)],[(.i 1)],[(.i 2)],[(.i 3)],[(.i 4)],[(.i 5)]]:=yA
  have P0 {hs q} (r:PS F X hs q):=(PS.f f0 (.f f1 (.f f2 (.r 7 [false] [[[(.i 1)],[(.i 1)],[(.i 1)],[(.i 2)],[(.i 3)],[(.i 4)],[(.i 5)]]] (e41 (l0_0:=(l0_0+1)) (l1_0:=0) (a0:=a0) (a1:=[1,1,1,2,3,4,5]) yf yM yM) (.r 19 [] [] (e114 (a0:=(m41 a0 [1,1,1,2,3,4,5]))) r)))))
  by_cases h0:(m114_0 (m41 a0 [1,1,1,2,3,4,5]))=true
  · try simp only[if_pos h0]
    have P1 {hs q} (r:PS F X hs q):=(P0 (.f h0 (T 36 (.r 40 [false] [] (e40 (l0_0:=(l0_0+1)) (a0:=(zz a0 (o41_0 a0 [1,1,1,2,3,4,5]))) yf) r))))
    by_cases h1:(m114_1 (m41 a0 [1,1,1,2,3,4,5]))=true
    · try simp only[if_pos h1]
      have f8:4≤4:=yb
      have f9:fullR (take 4 (drop 0 [[(.i 0)],[(.i 1)],[(.i 2)],[(.i 300)]]))=true:=(by assumption)
      have f10:toBR (take 4 (drop 0 [[(.i 0)],[(.i 1)],[(.i 2)],[(.i 300)]]))=[[(.i 0)],[(.i 1)],[(.i 2)],[(.i 300)]]:=yA
      have P2 {hs q} (r:PS F X hs q):=(P1 (.f h1 (.f f8 (.f f9 (.f f10 (T 47 (.r 53 [false] [[[(.i 0)],[(.i 1)],[(.i 2)],[(.i 300)]]] (e41 (l0_0:=(l0_0+1)) (l1_0:=0) (a0:=(zz a0 (o40_0 (zz a0 (o41_0 a0 [1,1,1,2,3,4,5]))))) (a1:=[0,1,2,300]) yf yM yM) r)))))))
      by_cases h2:(m114_2 (m41 a0 [1,1,1,2,3,4,5]))=true
      · try simp only[if_pos h2]
        have f14:fullR (take 4 (drop 0 [[(.i 1)],[(.i 2)],[(.i 50)],[(.i 9)]]))=true:=(by assumption)
        have f15:toBR (take 4 (drop 0 [[(.i 1)],[(.i 2)],[(.i 50)],[(.i 9)]]))=[[(.i 1)],[(.i 2)],[(.i 50)],[(.i 9)]]:=yA
        exact cq [false] ya (P2 (.f h2 (.f f8 (.f f14 (.f f15 (T 60 (.r 66 [false] [[[(.i 1)],[(.i 2)],[(.i 50)],[(.i 9)]]] (e41 (l0_0:=(l0_0+1)) (l1_0:=0) (a0:=(zz a0 (o41_0 (zz a0 (o40_0 (zz a0 (o41_0 a0 [1,1,1,2,3,4,5])))) [0,1,2,300]))) (a1:=[1,2,50,9]) yf yM yM) .nil)))))))
      try simp only[if_neg h2]
      exact cq [false] ya (P2 (N h2 (U 60 .nil)))
    try simp only[if_neg h1]
    by_cases h2:(m114_2 (m41 a0 [1,1,1,2,3,4,5]))=true
    · try simp only[if_pos h2]
      have f9:4≤4:=yb
      have f10:fullR (take 4 (drop 0 [[(.i 1)],[(.i 2)],[(.i 50)],[(.i 9)]]))=true:=(by assumption)
      have f11:toBR (take 4 (drop 0 [[(.i 1)],[(.i 2)],[(.i 50)],[(.i 9)]]))=[[(.i 1)],[(.i 2)],[(.i 50)],[(.i 9)]]:=yA
      exact cq [false] ya (P1 (N h1 (.f h2 (.f f9 (.f f10 (.f f11 (U 47 (T 50 (.r 56 [false] [[[(.i 1)],[(.i 2)],[(.i 50)],[(.i 9)]]] (e41 (l0_0:=(l0_0+1)) (l1_0:=0) (a0:=(zz a0 (o40_0 (zz a0 (o41_0 a0 [1,1,1,2,3,4,5]))))) (a1:=[1,2,50,9]) yf yM yM) .nil)))))))))
    try simp only[if_neg h2]
    exact cq [false] ya (P1 (N h1 (N h2 (U 47 (U 50 .nil)))))
  try simp only[if_neg h0]
  have P1 {hs q} (r:PS F X hs q):=(P0 (N h0 (U 36 r)))
  by_cases h1:(m114_1 (m41 a0 [1,1,1,2,3,4,5]))=true
  · try simp only[if_pos h1]
    have f7:4≤4:=yb
    have f8:fullR (take 4 (drop 0 [[(.i 0)],[(.i 1)],[(.i 2)],[(.i 300)]]))=true:=(by assumption)
    have f9:toBR (take 4 (drop 0 [[(.i 0)],[(.i 1)],[(.i 2)],[(.i 300)]]))=[[(.i 0)],[(.i 1)],[(.i 2)],[(.i 300)]]:=yA
    have P2 {hs q} (r:PS F X hs q):=(P1 (.f h1 (.f f7 (.f f8 (.f f9 (T 39 (.r 45 [false] [[[(.i 0)],[(.i 1)],[(.i 2)],[(.i 300)]]] (e41 (l0_0:=(l0_0+1)) (l1_0:=0) (a0:=(zz a0 (o41_0 a0 [1,1,1,2,3,4,5]))) (a1:=[0,1,2,300]) yf yM yM) r)))))))
    by_cases h2:(m114_2 (m41 a0 [1,1,1,2,3,4,5]))=true
    · try simp only[if_pos h2]
      have f13:fullR (take 4 (drop 0 [[(.i 1)],[(.i 2)],[(.i 50)],[(.i 9)]]))=true:=(by assumption)
      have f14:toBR (take 4 (drop 0 [[(.i 1)],[(.i 2)],[(.i 50)],[(.i 9)]]))=[[(.i 1)],[(.i 2)],[(.i 50)],[(.i 9)]]:=yA
      exact cq [false] ya (P2 (.f h2 (.f f7 (.f f13 (.f f14 (T 52 (.r 58 [false] [[[(.i 1)],[(.i 2)],[(.i 50)],[(.i 9)]]] (e41 (l0_0:=(l0_0+1)) (l1_0:=0) (a0:=(zz a0 (o41_0 (zz a0 (o41_0 a0 [1,1,1,2,3,4,5])) [0,1,2,300]))) (a1:=[1,2,50,9]) yf yM yM) .nil)))))))
    try simp only[if_neg h2]
    exact cq [false] ya (P2 (N h2 (U 52 .nil)))
  try simp only[if_neg h1]
  by_cases h2:(m114_2 (m41 a0 [1,1,1,2,3,4,5]))=true
  · try simp only[if_pos h2]
    have f8:4≤4:=yb
    have f9:fullR (take 4 (drop 0 [[(.i 1)],[(.i 2)],[(.i 50)],[(.i 9)]]))=true:=(by assumption)
    have f10:toBR (take 4 (drop 0 [[(.i 1)],[(.i 2)],[(.i 50)],[(.i 9)]]))=[[(.i 1)],[(.i 2)],[(.i 50)],[(.i 9)]]:=yA
    exact cq [false] ya (P1 (N h1 (.f h2 (.f f8 (.f f9 (.f f10 (U 39 (T 42 (.r 48 [false] [[[(.i 1)],[(.i 2)],[(.i 50)],[(.i 9)]]] (e41 (l0_0:=(l0_0+1)) (l1_0:=0) (a0:=(zz a0 (o41_0 a0 [1,1,1,2,3,4,5]))) (a1:=[1,2,50,9]) yf yM yM) .nil)))))))))
  try simp only[if_neg h2]
  exact cq [false] ya (P1 (N h1 (N h2 (U 39 (U 42 .nil)))))
theorem st110 {a:K_LyEi} {n:Nat} (h:S a (n+4)):S (o110_0 a) n:=by
  unfold o110_0
  (repeat' split)<;>((repeat (first | with_reducible refine sm41 _ ?_ rfl | with_reducible refine sm48 _ ?_ rfl | with_reducible refine sm40 ?_ rfl)); exact S_le h yb)
theorem sm110 {a:K_LyEi} {n:Nat} {f:List Int} (h:S a (n+4)) (e:a.f0=f):S (K_LyEi.mk f ((o110_0 a).f1)) n:=by
  have e2:(o110_0 a).f0=a.f0:=by unfold o110_0;(repeat' split)<;>rfl
  rw[← e,← e2]; exact st110 h
theorem es110 (a:K_LyEi):ByteArray.size (m110 a).f1≤3:=by
  unfold m110
  (repeat' split)<;>first | exact wsz _ | exact(by decide:ByteArray.size (⟨#[]⟩:ByteArray)≤3)
theorem e52 {a0:Int}:Ev F X (.call 52 [(.one (.val (.int .i64 a0)))] [] [] [(.agg (d_C (K_C.mk a0 0 0 0 [] [] [] 0 0 0)))]):=by
  have f0:pureR []=true:=yA
  exact cp ya (.f f0 (.f f0 (.f f0 .nil)))
def m105 (a0:Int) (a1:Int) (a2:Int):Bool:=
  if(decide (a0≥a1))=true then(decide (a0≤a2)) else
  false
theorem e105 {a0:Int} {a1:Int} {a2:Int}:Ev F X (.call 105 [(.one (.val (.int .i64 a0))),(.one (.val (.int .i64 a1))),(.one (.val (.int .i64 a2)))] [] [] [(.one (.val (.bool (m105 a0 a1 a2))))]):=by
  unfold m105
  by_cases h0:(decide (a0≥a1))=true
  · try simp only[if_pos h0]
    exact cp ya (.f h0 (.f h0 (.f h0 (.f h0 (T 10 (T 12 (T 14 (T 17 .nil))))))))
  try simp only[if_neg h0]
  exact cp ya (N h0 (N h0 (N h0 (N h0 (U 10 (U 12 (U 14 (U 17 .nil))))))))
theorem jn105 {a b c:Int} (h:¬(!(m105 a b c))=true):b≤a∧a≤c:=by
  simp only[Bool.not_eq_true',Bool.not_eq_false] at h
  unfold m105 at h; split at h<;>simp_all<;>omega
theorem fee_ok {t p:Int} (h1:0≤t) (h2:t≤1000000) (h3:0≤p) (h4:p≤1000):0≤wrap .i64 (t - wrap .i64 (Int.tdiv (wrap .i64 (t*p)) 1000))∧wrap .i64 (t - wrap .i64 (Int.tdiv (wrap .i64 (t*p)) 1000))≤1000000:=by
  have q1:=Int.mul_nonneg h1 h3
  have q2:t*p≤t*1000:=Int.mul_le_mul_of_nonneg_left h4 h1
  rw[wrap64 (x:=t*p) yb,Int.tdiv_eq_ediv_of_nonneg q1,wrap64 (x:=t*p / 1000) yb,wrap64 yb]
  omega
def m140 (a0:Int):Bool:=
  if (decide (a0 ≥ 97)) = true then (if (decide (a0 ≤ 122)) = true then true else
    if (decide (a0 ≥ 65)) = true then (if (decide (a0 ≤ 90)) = true then true else
        if(decide (a0≥48))=true then(decide (a0≤57)) else
          false) else
      if(decide (a0≥48))=true then(decide (a0≤57)) else
        false) else
  if (decide (a0 ≥ 65)) = true then (if (decide (a0 ≤ 90)) = true then true else
      if(decide (a0≥48))=true then(decide (a0≤57)) else
        false) else
    if(decide (a0≥48))=true then(decide (a0≤57)) else
      false
theorem e140 {a0:Int}:Ev F X (.call 140 [(.one (.val (.int .u8 a0)))] [] [] [(.one (.val (.bool (m140 a0))))]):=by
  unfold m140
  by_cases h0:(decide (a0≥97))=true
  · try simp only[if_pos h0]
    have P1 {hs q} (r:PS F X hs q):=(PS.f h0 (.f h0 (.f h0 (T 8 (T 10 (T 13 r))))))
    by_cases h1:(decide (a0≤122))=true
    · try simp only[if_pos h1]
      exact cp ya (P1 (.f h1 (.f h1 (.f h1 (.f h1 (.f h1 (T 16 (T 18 (T 20 (T 26 (T 29 .nil)))))))))))
    try simp only[if_neg h1]
    have P2 {hs q} (r:PS F X hs q):=(P1 (N h1 (N h1 (N h1 (U 16 (U 18 (U 20 r)))))))
    by_cases h2:(decide (a0≥65))=true
    · try simp only[if_pos h2]
      have P3 {hs q} (r:PS F X hs q):=(P2 (.f h2 (.f h2 (N h1 (.f h2 (N h1 (T 22 (T 24 (U 26 (T 27 (U 29 r)))))))))))
      by_cases h3:(decide (a0≤90))=true
      · try simp only[if_pos h3]
        exact cp ya (P3 (.f h3 (.f h3 (.f h3 (.f h3 (.f h3 (T 32 (T 34 (T 36 (T 42 (T 45 .nil)))))))))))
      try simp only[if_neg h3]
      have P4 {hs q} (r:PS F X hs q):=(P3 (N h3 (N h3 (N h3 (U 32 (U 34 (U 36 r)))))))
      by_cases h4:(decide (a0≥48))=true
      · try simp only[if_pos h4]
        exact cp ya (P4 (.f h4 (.f h4 (N h3 (.f h4 (N h3 (T 38 (T 40 (U 42 (T 43 (U 45 .nil)))))))))))
      try simp only[if_neg h4]
      exact cp ya (P4 (N h4 (N h4 (N h3 (N h4 (N h3 (U 38 (U 40 (U 42 (U 43 (U 45 .nil)))))))))))
    try simp only[if_neg h2]
    have P3 {hs q} (r:PS F X hs q):=(P2 (N h2 (N h2 (N h1 (N h2 (N h1 (U 22 (U 24 (U 26 (U 27 (U 29 r)))))))))))
    by_cases h3:(decide (a0≥48))=true
    · try simp only[if_pos h3]
      exact cp ya (P3 (.f h3 (.f h3 (.f h3 (T 38 (T 40 (T 43 .nil)))))))
    try simp only[if_neg h3]
    exact cp ya (P3 (N h3 (N h3 (N h3 (U 38 (U 40 (U 43 .nil)))))))
  try simp only[if_neg h0]
  have P1 {hs q} (r:PS F X hs q):=(PS.f (nt h0) (N h0 (N h0 (U 8 (U 10 (U 13 r))))))
  by_cases h1:(decide (a0≥65))=true
  · try simp only[if_pos h1]
    have P2 {hs q} (r:PS F X hs q):=(P1 (.f h1 (.f h1 (.f h1 (T 22 (T 24 (T 27 r)))))))
    by_cases h2:(decide (a0≤90))=true
    · try simp only[if_pos h2]
      exact cp ya (P2 (.f h2 (.f h2 (.f h2 (.f h2 (.f h2 (T 32 (T 34 (T 36 (T 42 (T 45 .nil)))))))))))
    try simp only[if_neg h2]
    have P3 {hs q} (r:PS F X hs q):=(P2 (N h2 (N h2 (N h2 (U 32 (U 34 (U 36 r)))))))
    by_cases h3:(decide (a0≥48))=true
    · try simp only[if_pos h3]
      exact cp ya (P3 (.f h3 (.f h3 (N h2 (.f h3 (N h2 (T 38 (T 40 (U 42 (T 43 (U 45 .nil)))))))))))
    try simp only[if_neg h3]
    exact cp ya (P3 (N h3 (N h3 (N h2 (N h3 (N h2 (U 38 (U 40 (U 42 (U 43 (U 45 .nil)))))))))))
  try simp only[if_neg h1]
  have P2 {hs q} (r:PS F X hs q):=(P1 (N h1 (N h1 (N h1 (U 22 (U 24 (U 27 r)))))))
  by_cases h2:(decide (a0≥48))=true
  · try simp only[if_pos h2]
    exact cp ya (P2 (.f h2 (.f h2 (.f h2 (T 38 (T 40 (T 43 .nil)))))))
  try simp only[if_neg h2]
  exact cp ya (P2 (N h2 (N h2 (N h2 (U 38 (U 40 (U 43 .nil)))))))
inductive O115_0 where
  |k0 (w0:Int) (w1:Bool)
  |k1
def r115_0 (a0:ByteArray):Nat→Int→O115_0
  |n+1,i=>
    if(!(m140 (byteAt a0 i)))=true then(O115_0.k1) else
    (r115_0 a0 n (i+1))
  |0,i=>(O115_0.k0 i (decide (i <(ByteArray.size a0:Int))))
def h115_0 (a0:ByteArray) (i:Int) :St:=⟨[(0,(.one (.val (.string a0)))),(3,(.one (.val (.int .i64 i))))],[]⟩
def ex115_0:O115_0→VX.Exit
  |.k0 _ _=>(.exit 0)
  |.k1=>.ret
def fin115_0 (a0:ByteArray):O115_0→St
  |.k0 w0 w1=>⟨[(0,(.one (.val (.string a0)))),(3,(.one (.val (.int .i64 w0)))),(7,(.one (.val (.bool w1))))],[]⟩
  |.k1=>⟨[(2,(.one (.val (.bool false))))],[]⟩
theorem t115_0 {a0:ByteArray} (hy0:ByteArray.size a0≤140737488351232):∀(n:Nat) (i:Int),0≤i→n=toNat ((ByteArray.size a0:Int) - i)→(ByteArray.size a0:Int)≤9223372036854775807→Ev F X (.code l115_0 (h115_0 a0 i) (ex115_0 (r115_0 a0 n i)) (fin115_0 a0 (r115_0 a0 n i)))
  |0,i,hn0,hn,hi0=>by
    have hc:¬(decide (i <(ByteArray.size a0:Int)))=true:=by
      simp only[decide_eq_true_eq]; omega
    have st:=ch b115_0 (h115_0 a0 i) ⟨[(0,(.one (.val (.string a0)))),(3,(.oi i)),(7,(.one (.val (.bool (decide (i <(ByteArray.size a0:Int)))))))],[]⟩ (.exit 0) 9 (by kernel_rfl) (.f (nt hc) (U 8 .nil))
    rw[show (⟨[(0,(.one (.val (.string a0)))),(3,(.oi i)),(7,(.one (.val (.bool (decide (i <(ByteArray.size a0:Int)))))))],[]⟩:St)=fin115_0 a0 (.k0 i (decide (i <(ByteArray.size a0:Int)))) from(by rfl)] at st
    exact .loopX st (show ((.exit 0):VX.Exit)≠.normal from by simp)
  |n+1,i,hn0,hn,hi0=>by
    have hc:(decide (i <(ByteArray.size a0:Int)))=true:=by
      simp only[decide_eq_true_eq]; omega
    have hw:wrap .i64 (i+1)=i+1:=wrap64 (by omega)
    have hj0:=hi0; try simp only[LN,Int.toNat_natCast] at hj0
    simp only[r115_0]
    have f1:0≤i∧i <(ByteArray.size a0:Int):=(by omega)
    have P1 {hs q} (r:PS F X hs q):=(PS.f hc (.f f1 (T 8 (.r 16 [] [] (e140 (a0:=(byteAt a0 i))) r))))
    by_cases h_1:(!(m140 (byteAt a0 i)))=true
    · try simp only[if_pos h_1]
      have st:=ch b115_0 (h115_0 a0 i) ⟨[(2,(.one (.val (.bool false))))],[]⟩ .ret 22 (by kernel_rfl) (P1 (.f h_1 (T 19 .nil)))
      rw[show (⟨[(2,(.one (.val (.bool false))))],[]⟩:St)=fin115_0 a0 (.k1) from(by rfl)] at st
      exact .loopX st (show (.ret:VX.Exit)≠.normal from by simp)
    try simp only[if_neg h_1]
    have st:=ch b115_0 (h115_0 a0 i) ⟨[(0,(.one (.val (.string a0)))),(3,(.oi (wrap .i64 (i+1))))],[]⟩ .normal 26 (by kernel_rfl) (P1 (.f (nt h_1) (.f trivial (U 19 .nil))))
    have ih:=t115_0 (a0:=a0) hy0 n (i+1) (by omega) (by omega) (by omega)
    rw[show (⟨[(0,(.one (.val (.string a0)))),(3,(.oi (wrap .i64 (i+1))))],[]⟩:St)=h115_0 a0 (i+1)  from(by unfold h115_0; simp only[hw]; done)] at st
    exact .loopN st ih
def m115 (a0:ByteArray):Bool:=
  (match r115_0 a0 (toNat (ByteArray.size a0:Int)) 0 with | .k0 w0_0 w1_0=>(decide ((ByteArray.size a0:Int)≤12)) | .k1=>false)
theorem e115 {a0:ByteArray} (hy0:ByteArray.size a0≤140737488351232):Ev F X (.call 115 [(.one (.val (.string a0)))] [] [] [(.one (.val (.bool (m115 a0))))]):=by
  unfold m115
  cases h0:r115_0 a0 (toNat (ByteArray.size a0:Int)) 0 with
  |k0 w0_0 w1_0=>
    try dsimp only
    have f0:(⟨[(0,(.one (.val (.string a0)))),(3,(.oi 0))],[]⟩:St)=h115_0 a0 0 :=yv
    exact cp ya (.f f0 (.f (ev_ (e:=ex115_0) (g:=(fin115_0 a0)) h0 (t115_0 (a0:=a0) (by assumption) _ 0 yb yb yb)) (.h 4 (.loop (h115_0 a0 0) (.exit 0) ⟨[(0,(.one (.val (.string a0)))),(3,(.oi w0_0)),(7,(.one (.val (.bool w1_0))))],[]⟩) .nil)))
  |k1=>
    try dsimp only
    have f0:(⟨[(0,(.one (.val (.string a0)))),(3,(.oi 0))],[]⟩:St)=h115_0 a0 0 :=yv
    exact cp ya (.f f0 (.f (ev_ (e:=ex115_0) (g:=(fin115_0 a0)) h0 (t115_0 (a0:=a0) (by assumption) _ 0 yb yb yb)) (.h 4 (.loop (h115_0 a0 0) .ret ⟨[(2,(.one (.val (.bool false))))],[]⟩) .nil)))
theorem arg_len115 {a:ByteArray} (h:m115 a=true):ByteArray.size a≤12:=by
  unfold m115 at h
  split at h
  · simp only[decide_eq_true_eq] at h; omega
  cases h
def m102 (a0:K_si):Int:=
  if(a0.f0.toList==(⟨#[]⟩:ByteArray).toList)=true then 5 else
  if(!(m115 a0.f0))=true then 5 else
    if(!(m105 a0.f1 1 9999))=true then 3 else
      0
theorem e102 {l0:Nat} {a0:K_si} (hy0:ByteArray.size a0.f0≤140737488351232):Ev F X (.call 102 [(.bptr l0 [(.val (.string a0.f0)),(.val (.int .i64 a0.f1))])] [] [] [(.one (.val (.int .i64 (m102 a0))))]):=by
  unfold m102
  by_cases h0:(a0.f0.toList==(⟨#[]⟩:ByteArray).toList)=true
  · try simp only[if_pos h0]
    exact cp ya (.f h0 (.f h0 (.f h0 (.f h0 (.f h0 (.f h0 (.f h0 (T 14 (T 16 (T 18 (T 20 (T 22 (T 24 (T 27 .nil))))))))))))))
  try simp only[if_neg h0]
  have P1 {hs q} (r:PS F X hs q):=(PS.f (nt h0) (N h0 (N h0 (N h0 (N h0 (U 14 (U 16 (U 18 (U 20 (U 22 (.r 23 [] [] (e115 (a0:=a0.f0) ‹_›) (N h0 (N h0 (U 24 (U 27 r)))))))))))))))
  by_cases h1:(!(m115 a0.f0))=true
  · try simp only[if_pos h1]
    exact cp ya (P1 (.f h1 (T 28 .nil)))
  try simp only[if_neg h1]
  have P2 {hs q} (r:PS F X hs q):=(P1 (N h1 (U 28 (.r 38 [] [] (e105 (a0:=a0.f1) (a1:=1) (a2:=9999)) r))))
  by_cases h2:(!(m105 a0.f1 1 9999))=true
  · try simp only[if_pos h2]
    exact cp ya (P2 (.f h2 (T 41 .nil)))
  try simp only[if_neg h2]
  exact cp ya (P2 (N h2 (U 41 .nil)))
theorem e137 {l0_0:Nat} {a0:(List K_si)} (hy0:length a0*24≤70368744177664):Ev F X (.call 137 [(.one (.bor l0_0 (map b_si a0)))] [] [] [(.one (.own 2 (map d_si (([])++a0))))]):=by
  have f0:0+0≤0:=yb
  have f1:(length ([]++(fromBR l0_0 (map b_si a0))))*24≤70368744177664:=yaC
  have f2:∀r∈((fromBR l0_0 (map b_si a0)):List (List D)),r.length=2:=(by simp[*,four_len,b_si,d_si,byteRows_eq,ints_y]; done)
  have f3:([]++(fromBR l0_0 (map b_si a0)))=(map d_si (([])++a0)):=yD
  have f5:(length ([]++(fromBR l0_0 (map b_si a0))))=(length (map d_si (([])++a0))):=yag
  exact cp ya (.f f0 (.f f1 (.f f2 (.f f3 (pe 0 (.f f5 (.f (pureR_si (([])++a0)) (.h 10 (.norm (2,0,0) (map d_si (([])++a0))) .nil))))))))
inductive O103_0 where
  |k0 (w0:List K_R) (w1:Int) (w2:Bool)
def r103_0 (a0:K_B):List K_R→Int→List K_R→O103_0
  |x0::y0,i,v0=>
    (r103_0 a0 y0 (i+1) (v0++([(K_R.mk x0.f0 x0.f1 x0.f2 (([])++x0.f3) x0.f4)])))
  |[],i,v0=>(O103_0.k0 v0 i (decide (i <((length (map b_R a0.f3)):Int))))
def h103_0 (l0_2:Nat) (l0_3:Nat) (l0_4:Nat) (a0:K_B) (i:Int) (v0:List K_R):St:=⟨[(1,(.ptr ⟨(1,0,0),[],0,0,8⟩)),(2,(.ptr ⟨(2,0,0),[],0,0,8⟩)),(3,(.ptr ⟨(3,0,0),[],0,0,8⟩)),(4,(.one (.val (.int .i64 i))))],[((1,0,0),.live ⟨8,[[(.val (.int .i64 a0.f0)),(.val (.int .i64 a0.f1)),(.bor l0_2 (map b_si a0.f2)),(.bor l0_3 (map b_R a0.f3)),(.bor l0_4 (map b_si a0.f4)),(.val (.int .i64 a0.f5)),(.val (.int .i64 a0.f6)),(.val (.int .i64 a0.f7))]],[]⟩),((2,0,0),.live ⟨8,[[(.val (.int .i64 0)),(.val (.int .i64 0)),(.own 2 []),(.own 5 []),(.own 2 []),(.val (.int .i64 0)),(.val (.int .i64 0)),(.val (.int .i64 0))]],[]⟩),((3,0,0),.live ⟨8,[[(.val (.int .i64 a0.f0)),(.val (.int .i64 a0.f1)),(.own 2 (map d_si (([])++a0.f2))),(.own 5 (map d_R v0)),(.own 2 (map d_si (([])++a0.f4))),(.val (.int .i64 a0.f5)),(.val (.int .i64 a0.f6)),(.val (.int .i64 a0.f7))]],[]⟩)]⟩
def ex103_0:O103_0→VX.Exit
  |.k0 _ _ _=>(.exit 0)
def fin103_0 (l0_2:Nat) (l0_3:Nat) (l0_4:Nat) (a0:K_B):O103_0→St
  |.k0 w0 w1 w2=>⟨[(1,(.ptr ⟨(1,0,0),[],0,0,8⟩)),(2,(.ptr ⟨(2,0,0),[],0,0,8⟩)),(3,(.ptr ⟨(3,0,0),[],0,0,8⟩)),(4,(.one (.val (.int .i64 w1)))),(20,(.one (.val (.bool w2))))],[((1,0,0),.live ⟨8,[[(.val (.int .i64 a0.f0)),(.val (.int .i64 a0.f1)),(.bor l0_2 (map b_si a0.f2)),(.bor l0_3 (map b_R a0.f3)),(.bor l0_4 (map b_si a0.f4)),(.val (.int .i64 a0.f5)),(.val (.int .i64 a0.f6)),(.val (.int .i64 a0.f7))]],[]⟩),((2,0,0),.live ⟨8,[[(.val (.int .i64 0)),(.val (.int .i64 0)),(.own 2 []),(.own 5 []),(.own 2 []),(.val (.int .i64 0)),(.val (.int .i64 0)),(.val (.int .i64 0))]],[]⟩),((3,0,0),.live ⟨8,[[(.val (.int .i64 a0.f0)),(.val (.int .i64 a0.f1)),(.own 2 (map d_si (([])++a0.f2))),(.own 5 (map d_R w0)),(.own 2 (map d_si (([])++a0.f4))),(.val (.int .i64 a0.f5)),(.val (.int .i64 a0.f6)),(.val (.int .i64 a0.f7))]],[]⟩)]⟩
theorem t103_0 {l0_2:Nat} {l0_3:Nat} {l0_4:Nat} {a0:K_B} (hy0:length a0.f2≤100) (hy1:length a0.f3≤100) (hy2:∀z∈a0.f3,length z.f3≤100) (hy3:length a0.f4≤100) (hy4:∀z∈a0.f3,ok_R z):∀(y0:List K_R) (p:List K_R) (v0:List K_R),p++y0=a0.f3→(length v0+length y0)*56≤70368744177664→Ev F X (.code l103_0 (h103_0 l0_2 l0_3 l0_4 a0 (length p:Int) v0) (ex103_0 (r103_0 a0 y0 (length p:Int) v0)) (fin103_0 l0_2 l0_3 l0_4 a0 (r103_0 a0 y0 (length p:Int) v0)))
  |[],p,v0,hp0,hi0=>by
    have hc:¬(decide ((length p:Int) <((length (map b_R a0.f3)):Int)))=true:=by
      rw[← hp0]; simp only[LN,decide_eq_true_eq]; omega
    have hj0:=hi0; try simp only[LN,Int.toNat_natCast] at hj0
    have st:=ch b103_0 (h103_0 l0_2 l0_3 l0_4 a0 (length p:Int) v0) ⟨[(1,(.ptr ⟨(1,0,0),[],0,0,8⟩)),(2,(.ptr ⟨(2,0,0),[],0,0,8⟩)),(3,(.ptr ⟨(3,0,0),[],0,0,8⟩)),(4,(.oi (length p:Int))),(20,(.one (.val (.bool (decide ((length p:Int) <((length (map b_R a0.f3)):Int)))))))],[((1,0,0),.live ⟨8,[[(.i a0.f0),(.i a0.f1),(.bor l0_2 (map b_si a0.f2)),(.bor l0_3 (map b_R a0.f3)),(.bor l0_4 (map b_si a0.f4)),(.i a0.f5),(.i a0.f6),(.i a0.f7)]],[]⟩),((2,0,0),.live ⟨8,[[(.i 0),(.i 0),(.own 2 []),(.own 5 []),(.own 2 []),(.i 0),(.i 0),(.i 0)]],[]⟩),((3,0,0),.live ⟨8,[[(.i a0.f0),(.i a0.f1),(.own 2 (map d_si (([])++a0.f2))),(.own 5 (map d_R v0)),(.own 2 (map d_si (([])++a0.f4))),(.i a0.f5),(.i a0.f6),(.i a0.f7)]],[]⟩)]⟩ (.exit 0) 11 (by kernel_rfl) (.f (nt hc) (U 10 .nil))
    rw[show (⟨[(1,(.ptr ⟨(1,0,0),[],0,0,8⟩)),(2,(.ptr ⟨(2,0,0),[],0,0,8⟩)),(3,(.ptr ⟨(3,0,0),[],0,0,8⟩)),(4,(.oi (length p:Int))),(20,(.one (.val (.bool (decide ((length p:Int) <((length (map b_R a0.f3)):Int)))))))],[((1,0,0),.live ⟨8,[[(.i a0.f0),(.i a0.f1),(.bor l0_2 (map b_si a0.f2)),(.bor l0_3 (map b_R a0.f3)),(.bor l0_4 (map b_si a0.f4)),(.i a0.f5),(.i a0.f6),(.i a0.f7)]],[]⟩),((2,0,0),.live ⟨8,[[(.i 0),(.i 0),(.own 2 []),(.own 5 []),(.own 2 []),(.i 0),(.i 0),(.i 0)]],[]⟩),((3,0,0),.live ⟨8,[[(.i a0.f0),(.i a0.f1),(.own 2 (map d_si (([])++a0.f2))),(.own 5 (map d_R v0)),(.own 2 (map d_si (([])++a0.f4))),(.i a0.f5),(.i a0.f6),(.i a0.f7)]],[]⟩)]⟩:St)=fin103_0 l0_2 l0_3 l0_4 a0 (.k0 v0 (length p:Int) (decide ((length p:Int) <((length (map b_R a0.f3)):Int)))) from(by rfl)] at st
    exact .loopX st (show ((.exit 0):VX.Exit)≠.normal from by simp)
  |x0::y0,p,v0,hp0,hi0=>by
    have hc:(decide ((length p:Int) <((length (map b_R a0.f3)):Int)))=true:=by
      rw[← hp0]; simp only[LN,decide_eq_true_eq]; omega
    have Hx0:(a0.f3)[toNat (length p:Int)]?=some x0:=by
      rw[← hp0,Int.toNat_natCast]; simp
    have Nx0_2:=hy2 x0 (List.mem_of_getElem? Hx0)
    have Mx0_0:=hy4 x0 (List.mem_of_getElem? Hx0)
    have hlen:length (a0.f3)=length p+length y0+1:=by rw[← hp0]; simp; omega
    have hw:wrap .i64 ((length p:Int)+1)=(length p:Int)+1:=wrap64 (by omega)
    have hj0:=hi0; try simp only[LN,Int.toNat_natCast] at hj0
    simp only[r103_0]
    have f1:0≤(length p:Int):=(by omega)
    have f8:0+(length (map d_R v0))≤(length (map d_R v0)):=(by omega)
    have f9:1≤1:=(by omega)
    have f10:((take 1 (drop 0 [[(.i x0.f0),(.i x0.f1),(.i x0.f2),(.own 2 (map d_si (([])++x0.f3))),(.i x0.f4)]])).all fun x=>x.all copyable)=false:=(by trivial)
    have f13:(length ((take (length (map d_R v0)) (drop 0 (map d_R v0)))++([[(.i x0.f0),(.i x0.f1),(.i x0.f2),(.own 2 (map d_si (([])++x0.f3))),(.i x0.f4)]]:List (List D))))*56≤70368744177664:=(by simp only[length_map,length_append,length_cons,length_nil,length_take,length_drop]; omega)
    have f14:∀r∈([[(.i x0.f0),(.i x0.f1),(.i x0.f2),(.own 2 (map d_si (([])++x0.f3))),(.i x0.f4)]]:List (List D)),r.length=5:=(by simp[four_len]; done)
    have f17:([[(.i a0.f0),(.i a0.f1),(.own 2 (map d_si (([])++a0.f2))),(.own 5 ((take (length (map d_R v0)) (drop 0 (map d_R v0)))++([[(.i x0.f0),(.i x0.f1),(.i x0.f2),(.own 2 (map d_si (([])++x0.f3))),(.i x0.f4)]]:List (List D)))),(.own 2 (map d_si (([])++a0.f4))),(.i a0.f5),(.i a0.f6),(.i a0.f7)]]:List (List D))=[[(.i a0.f0),(.i a0.f1),(.own 2 (map d_si (([])++a0.f2))),(.own 5 (map d_R (v0++([(K_R.mk x0.f0 x0.f1 x0.f2 (([])++x0.f3) x0.f4)])))),(.own 2 (map d_si (([])++a0.f4))),(.i a0.f5),(.i a0.f6),(.i a0.f7)]]:=(by simp[take_of_length_le,d_si,d_R,four_len]; done)
    have st:=ch b103_0 (h103_0 l0_2 l0_3 l0_4 a0 (length p:Int) v0) ⟨[(1,(.ptr ⟨(1,0,0),[],0,0,8⟩)),(2,(.ptr ⟨(2,0,0),[],0,0,8⟩)),(3,(.ptr ⟨(3,0,0),[],0,0,8⟩)),(4,(.oi (wrap .i64 ((length p:Int)+1))))],[((1,0,0),.live ⟨8,[[(.i a0.f0),(.i a0.f1),(.bor l0_2 (map b_si a0.f2)),(.bor l0_3 (map b_R a0.f3)),(.bor l0_4 (map b_si a0.f4)),(.i a0.f5),(.i a0.f6),(.i a0.f7)]],[]⟩),((2,0,0),.live ⟨8,[[(.i 0),(.i 0),(.own 2 []),(.own 5 []),(.own 2 []),(.i 0),(.i 0),(.i 0)]],[]⟩),((3,0,0),.live ⟨8,[[(.i a0.f0),(.i a0.f1),(.own 2 (map d_si (([])++a0.f2))),(.own 5 (map d_R (v0++([(K_R.mk x0.f0 x0.f1 x0.f2 (([])++x0.f3) x0.f4)])))),(.own 2 (map d_si (([])++a0.f4))),(.i a0.f5),(.i a0.f6),(.i a0.f7)]],[]⟩)]⟩ .normal 56 (by kernel_rfl) (.f hc (.f f1 (.f (mp_ b_R Hx0) (T 10 (.h 18 (.row (b_R x0)) (.r 30 [] [] (e137 (l0_0:=(l0_3+1)) (a0:=x0.f3) (by omega)) (pe 0 (pe (length (map d_si (([])++x0.f3))) (pe 0 (pe (length (map d_si (([])++x0.f3))) (.f f8 (.f f9 (.f f10 (pe 0 (pe 1 (.f f13 (.f f14 (pe 0 (pe (length ((take (length (map d_R v0)) (drop 0 (map d_R v0)))++([[(.i x0.f0),(.i x0.f1),(.i x0.f2),(.own 2 (map d_si (([])++x0.f3))),(.i x0.f4)]]:List (List D)))) (.f f17 (.f trivial (U 44 (.h 49 (.norm (3,0,0) [[(.i a0.f0),(.i a0.f1),(.own 2 (map d_si (([])++a0.f2))),(.own 5 (map d_R (v0++([(K_R.mk x0.f0 x0.f1 x0.f2 (([])++x0.f3) x0.f4)])))),(.own 2 (map d_si (([])++a0.f4))),(.i a0.f5),(.i a0.f6),(.i a0.f7)]]) .nil)))))))))))))))))))))))
    have ih:=t103_0 (l0_2:=l0_2) (l0_3:=l0_3) (l0_4:=l0_4) (a0:=a0) hy0 hy1 hy2 hy3 hy4 y0 (p++ [x0]) (v0++([(K_R.mk x0.f0 x0.f1 x0.f2 (([])++x0.f3) x0.f4)])) (by rw[append_assoc]; exact hp0) (by simp only[LN]; omega)
    rw[show ((p++ [x0]).length:Int)=(p.length:Int)+1 from by simp] at ih
    rw[show (⟨[(1,(.ptr ⟨(1,0,0),[],0,0,8⟩)),(2,(.ptr ⟨(2,0,0),[],0,0,8⟩)),(3,(.ptr ⟨(3,0,0),[],0,0,8⟩)),(4,(.oi (wrap .i64 ((length p:Int)+1))))],[((1,0,0),.live ⟨8,[[(.i a0.f0),(.i a0.f1),(.bor l0_2 (map b_si a0.f2)),(.bor l0_3 (map b_R a0.f3)),(.bor l0_4 (map b_si a0.f4)),(.i a0.f5),(.i a0.f6),(.i a0.f7)]],[]⟩),((2,0,0),.live ⟨8,[[(.i 0),(.i 0),(.own 2 []),(.own 5 []),(.own 2 []),(.i 0),(.i 0),(.i 0)]],[]⟩),((3,0,0),.live ⟨8,[[(.i a0.f0),(.i a0.f1),(.own 2 (map d_si (([])++a0.f2))),(.own 5 (map d_R (v0++([(K_R.mk x0.f0 x0.f1 x0.f2 (([])++x0.f3) x0.f4)])))),(.own 2 (map d_si (([])++a0.f4))),(.i a0.f5),(.i a0.f6),(.i a0.f7)]],[]⟩)]⟩:St)=h103_0 l0_2 l0_3 l0_4 a0 ((length p:Int)+1) (v0++([(K_R.mk x0.f0 x0.f1 x0.f2 (([])++x0.f3) x0.f4)])) from(by unfold h103_0; simp only[hw]; done)] at st
    exact .loopN st ih
def post103_0 (n0:Nat):O103_0→Prop
  |.k0 w0 _ _=>length w0=n0
theorem z103_0 {a0:K_B}:∀(y0:List K_R) (i:Int) (v0:List K_R),post103_0 (length v0+length y0) (r103_0 a0 y0 i v0)
  |[],i,v0=>by
    first | trivial |(simp only[post103_0,length_nil,Nat.add_zero]; done) |(simp[post103_0]; done)
  |x0::y0,i,v0=>by
    simp only[r103_0]
    have z:=z103_0 (a0:=a0) y0 (i+1) (v0++([(K_R.mk x0.f0 x0.f1 x0.f2 (([])++x0.f3) x0.f4)]))
    rw[show (length v0+length (x0::y0))=(length (v0++([(K_R.mk x0.f0 x0.f1 x0.f2 (([])++x0.f3) x0.f4)]))+length y0) from by first | omega |(simp only[LN]; done) |(simp only[LN]; omega)]
    exact z
def m103 (a0:K_B):K_B:=
  (match r103_0 a0 a0.f3 0 [] with | .k0 w0_2 w1_2 w2_2=>(K_B.mk a0.f0 a0.f1 (([])++a0.f2) w0_2 (([])++a0.f4) a0.f5 a0.f6 a0.f7))
theorem e103 {l0_2:Nat} {l0_3:Nat} {l0_4:Nat} {a0:K_B} (hy0:length a0.f2≤100) (hy1:length a0.f3≤100) (hy2:∀z∈a0.f3,length z.f3≤100) (hy3:length a0.f4≤100) (hy4:∀z∈a0.f3,ok_R z):Ev F X (.call 103 [(.agg (k_B l0_2 l0_3 l0_4 a0))] [] [] [(.agg (d_B (m103 a0)))]):=by
  unfold m103
  cases h0:r103_0 a0 a0.f3 0 [] with
  |k0 w0_2 w1_2 w2_2=>
    try dsimp only
    have zh0:=z103_0 (a0:=a0) a0.f3 0 []; rw[h0] at zh0; simp only[post103_0,length_map,length_set,length_append,length_replicate,length_cons,length_nil,Int.toNat_natCast] at zh0
    have f6:(⟨[(1,(.ptr ⟨(1,0,0),[],0,0,8⟩)),(2,(.ptr ⟨(2,0,0),[],0,0,8⟩)),(3,(.ptr ⟨(3,0,0),[],0,0,8⟩)),(4,(.oi 0))],[((1,0,0),.live ⟨8,[[(.i a0.f0),(.i a0.f1),(.bor l0_2 (map b_si a0.f2)),(.bor l0_3 (map b_R a0.f3)),(.bor l0_4 (map b_si a0.f4)),(.i a0.f5),(.i a0.f6),(.i a0.f7)]],[]⟩),((2,0,0),.live ⟨8,[[(.i 0),(.i 0),(.own 2 []),(.own 5 []),(.own 2 []),(.i 0),(.i 0),(.i 0)]],[]⟩),((3,0,0),.live ⟨8,[[(.i a0.f0),(.i a0.f1),(.own 2 (map d_si (([])++a0.f2))),(.own 5 []),(.own 2 (map d_si (([])++a0.f4))),(.i a0.f5),(.i a0.f6),(.i a0.f7)]],[]⟩)]⟩:St)=h103_0 l0_2 l0_3 l0_4 a0 0 []:=yv
    exact cp ya (.r 15 [] [] (e137 (l0_0:=(l0_2+1)) (a0:=a0.f2) yb) (pe 0 (pe (length (map d_si (([])++a0.f2))) (.r 25 [] [] (e137 (l0_0:=(l0_4+1)) (a0:=a0.f4) yb) (pe 0 (pe (length (map d_si (([])++a0.f4))) (.f f6 (.f (ev_ (e:=ex103_0) (g:=(fin103_0 l0_2 l0_3 l0_4 a0)) h0 (t103_0 (l0_2:=l0_2) (l0_3:=l0_3) (l0_4:=l0_4) (a0:=a0) (by assumption) (by assumption) (by assumption) (by assumption) (by assumption) a0.f3 [] [] rfl yw)) (p3 (([])++a0.f2) w0_2 (([])++a0.f4) (.f (pureR_si (([])++a0.f2)) (.f (pureR_R w0_2) (.f (pureR_si (([])++a0.f4)) (.h 36 (.loop (h103_0 l0_2 l0_3 l0_4 a0 0 []) (.exit 0) ⟨[(1,(.ptr ⟨(1,0,0),[],0,0,8⟩)),(2,(.ptr ⟨(2,0,0),[],0,0,8⟩)),(3,(.ptr ⟨(3,0,0),[],0,0,8⟩)),(4,(.oi w1_2)),(20,(.one (.val (.bool w2_2))))],[((1,0,0),.live ⟨8,[[(.i a0.f0),(.i a0.f1),(.bor l0_2 (map b_si a0.f2)),(.bor l0_3 (map b_R a0.f3)),(.bor l0_4 (map b_si a0.f4)),(.i a0.f5),(.i a0.f6),(.i a0.f7)]],[]⟩),((2,0,0),.live ⟨8,[[(.i 0),(.i 0),(.own 2 []),(.own 5 []),(.own 2 []),(.i 0),(.i 0),(.i 0)]],[]⟩),((3,0,0),.live ⟨8,[[(.i a0.f0),(.i a0.f1),(.own 2 (map d_si (([])++a0.f2))),(.own 5 (map d_R w0_2)),(.own 2 (map d_si (([])++a0.f4))),(.i a0.f5),(.i a0.f6),(.i a0.f7)]],[]⟩)]⟩) .nil)))))))))))))
theorem cl103 (a0:K_B):∀(l:List K_R) (i:Int) (v:List K_R),∃j b,r103_0 a0 l i v=.k0 (v++l) j b
  |[],i,v=>⟨_,_,by rw[List.append_nil]; rfl⟩
  |x::l,i,v=>by
    obtain⟨j,b,h⟩:=cl103 a0 l (i+1) (v++ [x])
    refine⟨j,b,?_⟩
    simp only[r103_0]
    rw[show v++x::l=(v++ [x])++l by simp,← h]
    first | rfl |(simp only[List.nil_append]; done)
theorem cp103 (a0:K_B):m103 a0=a0:=by
  unfold m103
  obtain⟨j,b,h⟩:=cl103 a0 a0.f3 0 []
  rw[h]; rfl
inductive O104_0 where
  |k0 (w0:Nat) (w1:Nat) (w2:Bool)
def r104_0 (a2:Int):Nat→Nat→Nat→O104_0
  |n+1,v0,v1=>
    if(decide ((v0:Int) > a2))=true then(r104_0 a2 n (toNat (v0:Int) - toNat 1) (v1+1)) else
    (O104_0.k0 v1 v0 (decide ((v0:Int) > a2)))
  |0,v0,v1=>(O104_0.k0 v1 v0 (decide ((v0:Int) > a2)))
def h104_0 (l0_0:Nat) (a0:(List K_si)) (a1:K_si) (a2:Int) (v0:Nat) (v1:Nat):St:=⟨[(2,(.one (.val (.int .i64 a2)))),(7,(.one (.ref ⟨(7,0,0),[],v1,v0⟩)))],[((7,0,0),.live ⟨2,(map d_si ((([])++a0)++([a1]))),[]⟩)]⟩
def ex104_0:O104_0→VX.Exit
  |.k0 _ _ _=>(.exit 0)
def fin104_0 (l0_0:Nat) (a0:(List K_si)) (a1:K_si) (a2:Int):O104_0→St
  |.k0 w0 w1 w2=>⟨[(2,(.one (.val (.int .i64 a2)))),(7,(.one (.ref ⟨(7,0,0),[],w0,w1⟩))),(17,(.one (.val (.bool w2))))],[((7,0,0),.live ⟨2,(map d_si ((([])++a0)++([a1]))),[]⟩)]⟩
theorem t104_0 {l0_0:Nat} {a0:(List K_si)} {a1:K_si} {a2:Int} (hy0:length a0≤1000) (hy1:0≤a2):∀(n:Nat) (v0:Nat) (v1:Nat),v1+v0≤(length (map d_si ((([])++a0)++([a1]))))→v0≤n→Ev F X (.code l104_0 (h104_0 l0_0 a0 a1 a2 v0 v1) (ex104_0 (r104_0 a2 n v0 v1)) (fin104_0 l0_0 a0 a1 a2 (r104_0 a2 n v0 v1)))
  |0,v0,v1,hi0,hn=>by
    have hc:¬(decide ((v0:Int) > a2))=true:=by first |(exact fuel64_zero hn) |(simp only[decide_eq_true_eq] at*; omega) |(simp at*; omega)
    have st:=ch b104_0 (h104_0 l0_0 a0 a1 a2 v0 v1) ⟨[(2,(.oi a2)),(7,(.one (.ref ⟨(7,0,0),[],v1,v0⟩))),(17,(.one (.val (.bool (decide ((v0:Int) > a2))))))],[((7,0,0),.live ⟨2,(map d_si ((([])++a0)++([a1]))),[]⟩)]⟩ (.exit 0) 9 (by kernel_rfl) (.f (nt hc) (U 8 .nil))
    rw[show (⟨[(2,(.oi a2)),(7,(.one (.ref ⟨(7,0,0),[],v1,v0⟩))),(17,(.one (.val (.bool (decide ((v0:Int) > a2))))))],[((7,0,0),.live ⟨2,(map d_si ((([])++a0)++([a1]))),[]⟩)]⟩:St)=fin104_0 l0_0 a0 a1 a2 (.k0 v1 v0 (decide ((v0:Int) > a2))) from(by rfl)] at st
    exact .loopX st (show ((.exit 0):VX.Exit)≠.normal from by simp)
  |n+1,v0,v1,hi0,hn=>by
    simp only[r104_0]
    by_cases h_0:(decide ((v0:Int) > a2))=true
    · try simp only[if_pos h_0]
      have f1:v1+v0≤(length (map d_si ((([])++a0)++([a1])))):=‹_›
      have f2:0≤(1:Int)∧(1:Int)≤(v0:Int)∧(v0:Int)≤(v0:Int):=(by simp only[decide_eq_true_eq] at*; omega)
      have st:=ch b104_0 (h104_0 l0_0 a0 a1 a2 v0 v1) ⟨[(2,(.oi a2)),(7,(.one (.ref ⟨(7,0,0),[],(v1+1),(toNat (v0:Int) - toNat 1)⟩)))],[((7,0,0),.live ⟨2,(map d_si ((([])++a0)++([a1]))),[]⟩)]⟩ .normal 15 (by kernel_rfl) (.f h_0 (.f f1 (.f f2 (T 8 .nil))))
      have ih:=t104_0 (l0_0:=l0_0) (a0:=a0) (a1:=a1) (a2:=a2) hy0 hy1 n (toNat (v0:Int) - toNat 1) (v1+1) (by omega) (by omega)
      rw[show (⟨[(2,(.oi a2)),(7,(.one (.ref ⟨(7,0,0),[],(v1+1),(toNat (v0:Int) - toNat 1)⟩)))],[((7,0,0),.live ⟨2,(map d_si ((([])++a0)++([a1]))),[]⟩)]⟩:St)=h104_0 l0_0 a0 a1 a2 (toNat (v0:Int) - toNat 1) (v1+1) from(by rfl)] at st
      exact .loopN st ih
    try simp only[if_neg h_0]
    have st:=ch b104_0 (h104_0 l0_0 a0 a1 a2 v0 v1) ⟨[(2,(.oi a2)),(7,(.one (.ref ⟨(7,0,0),[],v1,v0⟩))),(17,(.one (.val (.bool (decide ((v0:Int) > a2))))))],[((7,0,0),.live ⟨2,(map d_si ((([])++a0)++([a1]))),[]⟩)]⟩ (.exit 0) 9 (by kernel_rfl) (.f (nt h_0) (U 8 .nil))
    rw[show (⟨[(2,(.oi a2)),(7,(.one (.ref ⟨(7,0,0),[],v1,v0⟩))),(17,(.one (.val (.bool (decide ((v0:Int) > a2))))))],[((7,0,0),.live ⟨2,(map d_si ((([])++a0)++([a1]))),[]⟩)]⟩:St)=fin104_0 l0_0 a0 a1 a2 (.k0 v1 v0 (decide ((v0:Int) > a2))) from(by rfl)] at st
    exact .loopX st (show ((.exit 0):VX.Exit)≠.normal from by simp)
def post104_0 (a0:(List K_si)) (a1:K_si) (a2:Int):O104_0→Prop
  |.k0 w0 w1 _=>w0+w1≤(length (map d_si ((([])++a0)++([a1]))))
theorem z104_0 {a0:(List K_si)} {a1:K_si} {a2:Int} (hy0:length a0≤1000) (hy1:0≤a2):∀(n:Nat) (v0:Nat) (v1:Nat),v1+v0≤(length (map d_si ((([])++a0)++([a1]))))→post104_0 a0 a1 a2 (r104_0 a2 n v0 v1)
  |0,v0,v1,hi0=>by
    simp only[r104_0]
    first | trivial |(show _ ; simp only[post104_0]; omega) |(simp only[post104_0] at*; omega) |(simp only[decide_eq_true_eq] at*; omega)
  |n+1,v0,v1,hi0=>by
    simp only[r104_0]
    by_cases h_0:(decide ((v0:Int) > a2))=true
    · try simp only[if_pos h_0]
      exact z104_0 (a0:=a0) (a1:=a1) (a2:=a2) hy0 hy1 n (toNat (v0:Int) - toNat 1) (v1+1) yr
    try simp only[if_neg h_0]
    first | trivial |(show _ ; simp only[post104_0]; omega) |(simp only[post104_0] at*; omega) |(simp only[decide_eq_true_eq] at*; omega)
end Go.Proofs.YtihjlmgakpgkeaaDoor.Journals
