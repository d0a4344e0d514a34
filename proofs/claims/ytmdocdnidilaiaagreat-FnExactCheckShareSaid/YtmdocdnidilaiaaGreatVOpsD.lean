/- V: fields, cuts, lengths, functions, strings out of bytes. -/
import Derived.Test.YtmdocdnidilaiaaGreatVOpsC
namespace Go.Proofs.YtmdocdnidilaiaaGreat.V
open Go Frag Go.RowKit
set_option linter.unusedSimpArgs false
section
variable {P:Program} {X:Ctx} {ρ:Operand→Value} {w:World} {dst:Option Tmp} {type:TypeId} {pos:String} {af:Array Edge} {gd:Option (Nat × Bool)}
structure FieldT (P:Program) (t:TypeId) (f off n:Nat) (agg:Bool):Prop where
 h:∃fs fd,P.underlying t=some (.struct fs)∧fs[f]?=some fd∧fd.offset=off∧Sized P fd.type agg n
theorem run_sliceBound {x:Value} {k:IntKind} {i:Int} {y:Nat} {code:BoundsCode} (hx:x=.int k i) (h0:0≤i) (h1:i≤y):(Instr.sliceBound x y code).run P w=.ok i.toNat w:=by
 subst hx
 simp only[Instr.sliceBound,run_bind,asIntOf,run_pure]
 rw[if_pos ⟨h0,h1⟩]; rfl
def Bnd (ρ:Operand→Value) (x:Option Operand) (d:Int) (l:Int):Prop:=
 match x with
 |none=>l=d
 |some y=>∃k,ρ y=.int k l
theorem lowE_bnd {S:Nat→SV} {x:Option VX} {y:Option Operand} {d l:Int} (h:lowE S x d=some l) (hm:mXo x y=true) (hr:∀a b,mX a b=true→SVRel X (evx S a) (ρ b)):Bnd ρ y d l:=by
 cases x with
 |none=>cases y with
  |none=>simp only[lowE,Option.some.injEq] at h; exact h.symm
  |some _=>simp[mXo] at hm
 |some x=>cases y with
  |none=>simp[mXo] at hm
  |some y=>
   simp only[mXo] at hm
   have:=hr _ _ hm
   simp only[lowE] at h
   split at h
   ·rename_i k n e
    injection h with h; subst h
    rw[e,one_val] at this
    exact⟨k,this.1⟩
   ·cases h
theorem run_sliceBounds {isSlice:Bool} {len cap:Nat} {lo hi:Option Operand} {l h:Int} (hl:Bnd ρ lo 0 l) (hh:Bnd ρ hi len h) (h0:0≤l) (h1:l≤h) (h2:h≤len) (h3:len≤cap):
  (Instr.sliceBounds isSlice len cap (lo.map ρ) (hi.map ρ) none).run P w=.ok (l.toNat,h.toNat,cap) w:=by
 simp only[Instr.sliceBounds,run_bind,run_pure,Option.isSome_none,Bool.false_eq_true,if_false]
 cases hi with
 |none=>
  simp only[Bnd] at hh; subst hh
  simp only[Option.map_none,run_pure]
  cases lo with
  |none=>simp only[Bnd] at hl; subst hl; simp only[Option.map_none,run_pure]; simp
  |some y=>
   obtain⟨k,e⟩:=hl
   simp only[Option.map_some,run_bind,run_pure,run_sliceBound e h0 h1]; simp
 |some z=>
  obtain⟨k',e'⟩:=hh
  have hb:=run_sliceBound (P:=P) (w:=w) (y:=cap) (code:=if isSlice=true then .sliceAcap else .sliceAlen) e' (by omega) (by omega)
  simp only[Option.map_some,run_bind,hb]
  cases lo with
  |none=>simp only[Bnd] at hl; subst hl; simp only[Option.map_none,run_bind,run_pure]; simp
  |some y=>
   obtain⟨k,e⟩:=hl
   have hb2:=run_sliceBound (P:=P) (w:=w) (y:=h.toNat) (code:=.sliceB) e h0 (by omega)
   simp only[Option.map_some,run_bind,run_pure,hb2]
theorem y_cut_str {t:TypeId} {x:Operand} {lo hi:Option Operand} {s:ByteArray} {l h:Int} (ht:P.underlying t=some .string) (hx:ρ x=.string s) (hl:Bnd ρ lo 0 l) (hh:Bnd ρ hi s.size h) (h0:0≤l) (h1:l≤h) (h2:h≤s.size):
  Yields_ P ρ ⟨dst,.slice t x lo hi none,type,pos,af,gd⟩ w X (strV (s.extract l.toNat h.toNat)):=by
 refine⟨_,?_,strV_rel.2 rfl⟩
 simp only[execOp,hx]
 refine run_v ?_
 simp only[Instr.sliceAt,Instr.slice,run_bind,run_underlying ht,Option.map_none,Option.isSome_none,Bool.false_eq_true,if_false,run_sliceBounds hl hh h0 h1 h2 (Nat.le_refl _),run_pure]
theorem cut_run {t e k:Nat} {x:Operand} {lo hi:Option Operand} {a:Option Addr} {len cap:Nat} {l h:Int} (he:ElemAt P t e k) (hx:ρ x=.slice a len cap) (hl:Bnd ρ lo 0 l) (hh:Bnd ρ hi len h) (h0:0≤l) (h1:l≤h) (h2:h≤len) (h3:len≤cap):
  (execOp ρ ⟨dst,.slice t x lo hi none,type,pos,af,gd⟩).run P w=.ok (.value (.slice (if cap=l.toNat then a else a.map (·.add (l.toNat*k))) (h.toNat - l.toNat) (cap - l.toNat))) w:=by
 obtain⟨i,ht,hi',hk⟩:=he.h
 simp only[execOp,hx]
 refine run_v ?_
 simp only[Instr.sliceAt,Instr.slice,run_bind,run_underlying ht,Option.map_none,run_sliceBounds hl hh h0 h1 h2 h3,run_sizeOf hi',run_pure,hk]
theorem y_cut_nl {t e k q:Nat} {x:Operand} {lo hi:Option Operand} {l h:Int} (he:ElemAt P t e k) (hx:SVRel X (.one (.nl q)) (ρ x)) (hl:Bnd ρ lo 0 l) (hh:Bnd ρ hi 0 h) (h0:0≤l) (h1:l≤h) (h2:h≤0):
  Yields_ P ρ ⟨dst,.slice t x lo hi none,type,pos,af,gd⟩ w X (.one (.nl q)):=by
 simp only[SVRel,CVRel] at hx
 obtain⟨a,ev⟩:=hx
 refine⟨_,cut_run he ev hl hh h0 h1 (by omega) (Nat.le_refl _),?_⟩
 have e1:l.toNat=0:=by omega
 have e2:h.toNat=0:=by omega
 rw[e1,e2]
 simp only[SVRel,CVRel,if_true]
 exact⟨_,rfl⟩
theorem BRepR.drop {hp:Frag} {k:Nat}:∀ {rows:List (List B)} {vs:List Value} (n:Nat),BRepR hp rows vs→(∀r∈rows,r.length=k)→BRepR hp (rows.drop n) (vs.drop (n*k))
 |[],vs,n,h,_=>by simp only[BRepR] at h; subst h; simp[BRepR]
 |r::rs,vs,0,h,_=>by simpa using h
 |r::rs,vs,n+1,h,hk=>by
  simp only[BRepR] at h
  obtain⟨v1,v2,rfl,h1,h2⟩:=h
  have l1:v1.length=k:=by rw[h1.length]; exact hk r (List.mem_cons_self ..)
  have:(v1++v2).drop ((n+1)*k)=v2.drop (n*k):=by
   rw[Nat.succ_mul,Nat.add_comm,← List.drop_drop,← l1]; simp
  rw[this,List.drop_succ_cons]
  exact BRepR.drop n h2 (fun r hr=>hk r (List.mem_cons_of_mem _ hr))
theorem BRepR.take {hp:Frag} {k:Nat}:∀ {rows:List (List B)} {vs:List Value} (n:Nat),BRepR hp rows vs→(∀r∈rows,r.length=k)→BRepR hp (rows.take n) (vs.take (n*k))
 |[],vs,n,h,_=>by simp only[BRepR] at h; subst h; simp[BRepR]
 |r::rs,vs,0,h,_=>by simp[BRepR]
 |r::rs,vs,n+1,h,hk=>by
  simp only[BRepR] at h
  obtain⟨v1,v2,rfl,h1,h2⟩:=h
  have l1:v1.length=k:=by rw[h1.length]; exact hk r (List.mem_cons_self ..)
  have:(v1++v2).take ((n+1)*k)=v1++v2.take (n*k):=by
   rw[Nat.succ_mul,Nat.add_comm,← l1,List.take_append,List.take_of_length_le (by omega)]; simp
  rw[this,List.take_succ_cons]
  simp only[BRepR]
  exact⟨v1,_,rfl,h1,BRepR.take n h2 (fun r hr=>hk r (List.mem_cons_of_mem _ hr))⟩
theorem y_cut_bor {t e k m:Nat} {x:Operand} {lo hi:Option Operand} {rows:List (List B)} {l h:Int} (he:ElemAt P t e k) (hx:SVRel X (.one (.bor m rows)) (ρ x)) (hl:Bnd ρ lo 0 l) (hh:Bnd ρ hi rows.length h) (h0:0≤l) (h1:l≤h) (h2:h≤rows.length)
  (hk:∀r∈rows,r.length=k):
  Yields_ P ρ ⟨dst,.slice t x lo hi none,type,pos,af,gd⟩ w X (.one (.bor m ((rows.drop l.toNat).take (h.toNat - l.toNat)))):=by
 simp only[SVRel,CVRel,BRep] at hx
 rcases hx with⟨rfl,a,cap,ev⟩ |⟨b,off,cap,k',arr,t',fz,ev,hb,hc,hu,ha,hr⟩
 ·simp only[List.length_nil] at h2 hh
  refine⟨_,cut_run he ev hl hh h0 h1 h2 (Nat.zero_le _),?_⟩
  have e1:l.toNat=0:=by omega
  have e2:h.toNat=0:=by omega
  rw[e1,e2]
  simp only[SVRel,CVRel,BRep]
  exact .inl ⟨by simp,_,_,rfl⟩
 ·refine⟨_,cut_run he ev hl hh h0 h1 h2 hc,?_⟩
  simp only[SVRel,CVRel,BRep]
  have hlen:((rows.drop l.toNat).take (h.toNat - l.toNat)).length=h.toNat - l.toNat:=by rw[List.length_take,List.length_drop]; omega
  by_cases e:cap=l.toNat
  ·have:h.toNat - l.toNat=0:=by omega
   rw[this]
   exact .inl ⟨by simp,_,_,rfl⟩
  ·rw[if_neg e]
   by_cases hz:rows=[]
   ·subst hz
    simp only[List.length_nil] at h2
    have:h.toNat - l.toNat=0:=by omega
    rw[this]
    exact .inl ⟨by simp,_,_,rfl⟩
   ·have hkk:k'=k:=by
     obtain⟨r,hr'⟩:=List.exists_mem_of_ne_nil _ hz
     rw[← hu r hr',hk r hr']
    subst hkk
    refine .inr ⟨b,off+l.toNat*k',_,k',arr,t',fz,by rw[hlen,Option.map_some,addr_add],hb,by rw[hlen]; omega,fun r hr'=>hu r (List.mem_of_mem_drop (List.mem_of_mem_take hr')),?_,?_⟩
    ·rw[hlen]
     have:(l.toNat+(h.toNat - l.toNat))*k'≤rows.length*k':=Nat.mul_le_mul_right k' (by omega)
     rw[Nat.add_mul] at this; omega
    ·rw[hlen]
     have:=(hr.drop l.toNat hu).take (h.toNat - l.toNat) (fun r hr'=>hu r (List.mem_of_mem_drop hr'))
     rwa [drop_take_drop] at this
     have:(l.toNat+(h.toNat - l.toNat))*k'≤rows.length*k':=Nat.mul_le_mul_right k' (by omega)
     rw[Nat.add_mul] at this; omega
theorem rowsAt_parts {O:Id→OS} {r:Ref} {o:VObj} {k:Nat} {rows:List (List D)} (h:rowsAt O r=some (o,k,rows)):
  (O r.id).look r.path=some o∧nav o.k o.rows r.path=some (k,rows)∧r.lo+r.n≤rows.length:=by
 unfold rowsAt at h
 split at h
 ·rename_i o' ho
  split at h
  ·rename_i k' rows' hn
   split at h
   ·simp only[Option.some.injEq,Prod.mk.injEq] at h
    obtain⟨rfl,rfl,rfl⟩:=h
    exact⟨ho,hn,by assumption⟩
   ·cases h
  ·cases h
 ·cases h
theorem ref_view {r:Ref} {o:VObj} {k:Nat} {rows:List (List D)} {v:Value} (h:CVRel X (.ref r) v) (hr:rowsAt X.O r=some (o,k,rows)):
  X.O r.id=.live o∧∃v',At (X.G r.id) (.own o.k o.rows) (X.hv r.id) r.path (.own k rows) v'∧ViewOf v' k r.lo r.n v:=by
 obtain⟨hl,hn,hle⟩:=rowsAt_parts hr
 obtain⟨_,_,h3⟩:=h
 obtain⟨k',rows',v',nv,_,hw⟩:=h3 o hl
 have:=nv.nav
 rw[hn] at this
 simp only[Option.some.injEq,Prod.mk.injEq] at this
 obtain⟨rfl,rfl⟩:=this
 exact⟨look_live hl,v',nv,hw⟩
theorem y_cut_ref {t e k:Nat} {x:Operand} {lo hi:Option Operand} {r:Ref} {o:VObj} {k':Nat} {rows:List (List D)} {l h:Int} (he:ElemAt P t e k) (hx:SVRel X (.one (.ref r)) (ρ x)) (hl:Bnd ρ lo 0 l) (hh:Bnd ρ hi r.n h) (h0:0≤l) (h1:l≤h) (h2:h≤r.n)
  (hr:rowsAt X.O r=some (o,k',rows)) (hk:k'=k):
  Yields_ P ρ ⟨dst,.slice t x lo hi none,type,pos,af,gd⟩ w X (.one (.ref {r with lo:=r.lo+l.toNat,n:=h.toNat - l.toNat})):=by
 subst hk
 simp only[SVRel] at hx
 obtain⟨hlook,hnav,hle⟩:=rowsAt_parts hr
 obtain⟨hlive,v',nv,hw⟩:=ref_view hx hr
 have hne:X.O r.id≠.none:=by rw[hlive]; simp
 have fin:∀a n c,n=h.toNat - l.toNat→ViewOf v' k' (r.lo+l.toNat) (h.toNat - l.toNat) (.slice a n c)→SVRel X (.one (.ref {r with lo:=r.lo+l.toNat,n:=h.toNat - l.toNat})) (.slice a n c):=by
  intro a n c hn hv
  simp only[SVRel,CVRel]
  refine⟨⟨a,c,by rw[hn]⟩,hne,fun ob hob=>?_⟩
  rw[hlook] at hob; cases hob
  exact⟨k',rows,v',nv,by omega,hv⟩
 rcases hw with⟨b,off,len,cap,c,rfl,e2,e3,e4,e5⟩ |⟨e1,a,e2,e3⟩
 ·refine⟨_,cut_run he e2 hl hh h0 h1 h2 e4,fin _ _ _ rfl ?_⟩
  by_cases e:c=l.toNat
  ·rw[if_pos e]
   refine .inr ⟨by omega,_,by rw[e]; congr 1<;>omega,fun hz=>?_⟩
   have z1:r.lo=0:=by omega
   have z2:l.toNat=0:=by omega
   have z3:c=0:=by omega
   have z4:cap=0:=by omega
   have z5:len=0:=by omega
   have z6:h.toNat=0:=by omega
   subst z4
   rw[z1,z2,z5,z6]
   simp
   omega
  ·rw[if_neg e]
   exact .inl ⟨b,off,len,cap,c - l.toNat,rfl,by rw[Option.map_some,addr_add,Nat.add_mul,Nat.add_assoc],by omega,by omega,e5⟩
 ·rw[e1] at hh h2
  refine⟨_,cut_run he e2 hl hh h0 h1 h2 (Nat.le_refl _),fin _ _ _ rfl ?_⟩
  have z1:l.toNat=0:=by omega
  have z2:h.toNat=0:=by omega
  rw[z1,z2]
  exact .inr ⟨rfl,_,rfl,fun hz=>by rw[e3 (by omega),e2]; rfl⟩
theorem len_run {t:TypeId} {x:Operand} {el:TypeId} {a:Option Addr} {n c:Nat} {k:Array Bool} (ht:P.underlying t=some (.slice el)) (hx:ρ x=.slice a n c):
  (builtin .len #[t] type k #[ρ x]).run P w=.ok (.value (.int .i64 n)) w:=by
 simp only[builtin,hx]
 refine run_v ?_
 simp[Builtin.len_,run_bind,run_underlying ht,run_pure,goInt]
theorem len_str_run {t:TypeId} {x:Operand} {s:ByteArray} {k:Array Bool} (ht:P.underlying t=some .string) (hx:ρ x=.string s):
  (builtin .len #[t] type k #[ρ x]).run P w=.ok (.value (.int .i64 s.size)) w:=by
 simp only[builtin,hx]
 refine run_v ?_
 simp[Builtin.len_,run_bind,run_underlying ht,run_pure,goInt]
theorem y_fn {f:FuncId} {first caps:Array Operand} {a b:List SV} (ha:SVRels X a (first.map ρ).toList) (hb:SVRels X b (caps.map ρ).toList):
  Yields_ P ρ ⟨dst,.makeFunc (.func f) first caps,type,pos,af,gd⟩ w X (.clo f a b):=by
 refine⟨.func (.func f) (first.map ρ) (caps.map ρ),?_,?_⟩
 ·simp only[execOp]
  refine run_v ?_
  simp only[Instr.makeFunc,run_pure]
 ·simp only[SVRel]
  exact⟨_,_,by simp only[Array.toArray_toList],ha,hb⟩
end
end Go.Proofs.YtmdocdnidilaiaaGreat.V
