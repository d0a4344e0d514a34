/- V: the operations that only compute or look, against the machine. -/
import Derived.Test.YtmdocdnidilaiaaGreatVOpsA
namespace Go.Proofs.YtmdocdnidilaiaaGreat.V
open Go Frag Go.RowKit
section
variable {P:Program} {X:Ctx} {ρ:Operand→Value} {w:World} {dst:Option Tmp} {type:TypeId} {pos:String} {af:Array Edge} {gd:Option (Nat × Bool)}
def Yields_ (P:Program) (ρ:Operand→Value) (o:Oper) (w:World) (X:Ctx) (sv:SV):Prop:=∃v,(execOp ρ o).run P w=.ok (.value v) w∧SVRel X sv v
theorem one_val {x v:Value}:SVRel X (.one (.val x)) v↔v=x∧flat x=true:=by simp only[SVRel,CVRel]
theorem intV_rel {k:IntKind} {n:Int} {v:Value}:SVRel X (intV k n) v↔v=.int k n:=by simp[intV,one_val,flat]
theorem boolV_rel {b:Bool} {v:Value}:SVRel X (boolV b) v↔v=.bool b:=by simp[boolV,one_val,flat]
theorem strV_rel {s:ByteArray} {v:Value}:SVRel X (strV s) v↔v=.string s:=by simp[strV,one_val,flat]
theorem y_mov {x:Operand} {sv:SV} (hx:SVRel X sv (ρ x)):Yields_ P ρ ⟨dst,.move x,type,pos,af,gd⟩ w X sv:=
 ⟨ρ x,by simp[execOp,go_sem],hx⟩
theorem y_asg {x:Operand} {sv:SV} (hx:SVRel X sv (ρ x)):Yields_ P ρ ⟨dst,.assign x,type,pos,af,gd⟩ w X sv:=
 ⟨ρ x,by simp[execOp,go_sem],hx⟩
theorem y_pick {c x y:Operand} {b:Bool} {sv:SV} (hc:SVRel X (.one (.val (.bool b))) (ρ c)) (hx:SVRel X sv (if b then ρ x else ρ y)):Yields_ P ρ ⟨dst,.pick c x y,type,pos,af,gd⟩ w X sv:=by
 rw[one_val] at hc
 refine⟨if b then ρ x else ρ y,?_,hx⟩
 cases b<;>simp[execOp,go_sem,hc.1]
theorem bitsV_bits (k:IntKind) (a b:Int):bits .and k a b=bitsV .and k a b∧bits .or k a b=bitsV .or k a b∧bits .xor k a b=bitsV .xor k a b∧bits .andNot k a b=bitsV .andNot k a b:=by
 refine⟨?_,?_,?_,?_⟩<;>simp[bits,bitsV]
theorem y_int {op:BinOp} {t ty:TypeId} {x y:Operand} {k:IntKind} {a b:Int} {e:Eff} (hx:ρ x=.int k a) (hy:ρ y=.int k b) (he:intE op k a b=some e) (hr:e.req):
  Yields_ P ρ ⟨dst,.binOp op t x y ty,type,pos,af,gd⟩ w X e.sv∧e.objs=[]:=by
 obtain⟨b1,b2,b3,b4⟩:=bitsV_bits k a b
 cases op<;>simp only[intE,okE,Option.some.injEq,reduceCtorEq] at he<;>subst he<;>refine⟨?_,rfl⟩<;>simp only[ne_eq] at hr
 all_goals (first | refine⟨_,?_,intV_rel.2 rfl⟩ | refine⟨_,?_,boolV_rel.2 rfl⟩)
 all_goals simp[execOp,go_sem,hx,hy,hr,← b1,← b2,← b3,← b4]
theorem y_shift {op:BinOp} {t ty:TypeId} {x y:Operand} {k k':IntKind} {a b:Int} {e:Eff} (hx:ρ x=.int k a) (hy:ρ y=.int k' b) (he:shiftE op k a b=some e) (hr:e.req):
  Yields_ P ρ ⟨dst,.binOp op t x y ty,type,pos,af,gd⟩ w X e.sv∧e.objs=[]:=by
 cases op<;>simp only[shiftE,Option.some.injEq,reduceCtorEq] at he<;>subst he<;>refine⟨?_,rfl⟩
 all_goals refine⟨_,?_,intV_rel.2 rfl⟩
 all_goals (have hr':¬b < 0:=Int.not_lt.2 hr; simp[execOp,binOp,eqGuard,hx,hy,Op.shift,hr'])
theorem run_underlying {t:TypeId} {d:TypeDesc} (h:P.underlying t=some d):(Go.underlying t).run P w=.ok d w:=by
 simp[Go.underlying,go_sem,h]
theorem run_typeInfo {t:TypeId} {i:TypeInfo} (h:P.info? t=some i):(typeInfo t).run P w=.ok i w:=by
 simp[typeInfo,Go.program,Sem.run,h]
theorem run_sizeOf {t:TypeId} {i:TypeInfo} (h:P.info? t=some i):(sizeOf t).run P w=.ok i.size w:=by
 simp only[sizeOf,run_bind,run_typeInfo h]; rfl
theorem run_zero {t:TypeId} {i:TypeInfo} {z:Value} (h:P.info? t=some i) (hz:i.zero=some z):(zeroValue t).run P w=.ok z w:=by
 simp only[zeroValue,run_bind,run_typeInfo h,hz]; rfl
def aggT (P:Program) (t:TypeId):Option Bool:=
 match P.underlying t with
 |some (.struct _) | some (.array _ _)=>some true
 |some _=>some false
 |none=>none
theorem run_isAgg {t:TypeId} {b:Bool} (h:aggT P t=some b):(isAgg t).run P w=.ok b w:=by
 unfold aggT at h
 simp only[isAgg,run_bind]
 split at h
 ·rename_i e; cases h; rw[run_underlying e]; rfl
 ·rename_i e; cases h; rw[run_underlying e]; rfl
 ·rename_i d h1 h2 e
  cases h; rw[run_underlying e]
  simp only[]
  cases d<;>first | rfl |(exact absurd rfl (h1 _)) |(exact absurd rfl (h2 _ _)) |(simp_all; done)
 ·cases h
theorem run_eq_bool {t:TypeId} {a b:Bool} (n:Nat) (ht:P.underlying t=some .bool):(Op.equalIn (n+1) t (.bool a) (.bool b)).run P w=.ok (a==b) w:=by
 unfold Op.equalIn
 rw[run_bind,run_underlying ht]
 rfl
theorem run_eq_int {t:TypeId} {q k:IntKind} {a b:Int} (n:Nat) (ht:P.underlying t=some (.int q)):(Op.equalIn (n+1) t (.int k a) (.int k b)).run P w=.ok (a==b) w:=by
 unfold Op.equalIn
 rw[run_bind,run_underlying ht]
 simp only[if_true]
 rfl
theorem run_eq_str {t:TypeId} {a b:ByteArray} (n:Nat) (ht:P.underlying t=some .string):(Op.equalIn (n+1) t (.string a) (.string b)).run P w=.ok (a==b) w:=by
 unfold Op.equalIn
 rw[run_bind,run_underlying ht]
 rfl
theorem run_v {s:Sem Value} {x:Value} (h:s.run P w=.ok x w):((do Pure.pure (Next.value (← s)):Sem Next)).run P w=.ok (.value x) w:=by
 rw[run_bind,h]; rfl
theorem y_bool {op:BinOp} {t ty:TypeId} {x y:Operand} {a b:Bool} {e:Eff} (ht:P.underlying t=some .bool) (hx:ρ x=.bool a) (hy:ρ y=.bool b)
  (he:(match op with | .eql=>okE (boolV (a==b)) | .neq=>okE (boolV (!(a==b))) | _=>none)=some e):
  Yields_ P ρ ⟨dst,.binOp op t x y ty,type,pos,af,gd⟩ w X e.sv∧e.objs=[]:=by
 cases op<;>simp only[okE,Option.some.injEq,reduceCtorEq] at he<;>subst he<;>refine⟨?_,rfl⟩
 all_goals refine⟨_,?_,boolV_rel.2 rfl⟩
 all_goals
  simp only[execOp,hx,hy]
  refine run_v ?_
  simp only[binOp,eqGuard,run_bind,Op.equal,show Op.maxDepth=9999+1 from rfl]
  simp[run_eq_bool _ ht]
theorem y_str {op:BinOp} {t ty:TypeId} {x y:Operand} {a b:ByteArray} {e:Eff} (hx:ρ x=.string a) (hy:ρ y=.string b) (he:strE op a b=some e) (hr:e.req):
  Yields_ P ρ ⟨dst,.binOp op t x y ty,type,pos,af,gd⟩ w X e.sv∧e.objs=[]:=by
 cases op<;>simp only[strE,okE,Option.some.injEq,reduceCtorEq] at he<;>subst he<;>refine⟨?_,rfl⟩
 all_goals (first | refine⟨_,?_,strV_rel.2 rfl⟩ | refine⟨_,?_,boolV_rel.2 rfl⟩)
 ·have hr':¬((a.size+b.size:Nat):Int) > IntKind.i64.max:=by
   have:(IntKind.i64.max:Int)=9223372036854775807:=by decide
   rw[this]; simp only at hr; omega
  simp only[execOp,hx,hy]
  refine run_v ?_
  simp only[binOp,eqGuard,run_bind,Op.stringOp,if_neg hr']
  simp
 all_goals simp[execOp,binOp,eqGuard,hx,hy,Op.stringOp]
theorem y_un {op:UnOp} {t:TypeId} {x:Operand} {sv:SV} {e:Eff} (hx:SVRel X sv (ρ x)) (he:unE op sv=some e):
  Yields_ P ρ ⟨dst,.unOp op t x,type,pos,af,gd⟩ w X e.sv∧e.objs=[]:=by
 unfold unE at he
 split at he
 ·rw[one_val] at hx
  cases op<;>simp only[okE,Option.some.injEq,reduceCtorEq] at he<;>subst he
  exact⟨⟨_,by simp[execOp,Op.unary,hx.1],boolV_rel.2 rfl⟩,rfl⟩
 ·rw[one_val] at hx
  cases op<;>simp only[okE,Option.some.injEq,reduceCtorEq] at he<;>subst he
  exact⟨⟨_,by simp[execOp,Op.unary,Op.intArith,hx.1],intV_rel.2 rfl⟩,rfl⟩
 ·cases he
theorem y_conv {s d:TypeId} {k k':IntKind} {x:Operand} {n:Int} {sd:TypeDesc} (hs:P.underlying s=some sd) (hd:P.underlying d=some (.int k)) (hx:ρ x=.int k' n):
  Yields_ P ρ ⟨dst,.convert s d x,type,pos,af,gd⟩ w X (intV k (k.wrap n)):=
 ⟨_,by simp[execOp,go_sem,hx,hs,hd],intV_rel.2 rfl⟩
theorem y_nilc {x:Operand} {sv:SV} (hx:SVRel X sv (ρ x)) (h:(∃p,sv=.ptr p)∨(∃l cs,sv=.bptr l cs)∨(∃f a b,sv=.clo f a b)):
  Yields_ P ρ ⟨dst,.nilCheck x,type,pos,af,gd⟩ w X sv:=by
 refine⟨ρ x,?_,hx⟩
 rcases h with⟨p,rfl⟩ |⟨l,cs,rfl⟩ |⟨f,a,b,rfl⟩
 ·simp only[SVRel,PtrRel] at hx
  obtain⟨⟨a,e⟩,_⟩:=hx
  simp[execOp,go_sem,e]
 ·simp only[SVRel,BptrRel] at hx
  obtain⟨b,o,arr,t,fz,e,_⟩:=hx
  simp[execOp,go_sem,e]
 ·simp only[SVRel] at hx
  obtain⟨us,vs,e,_⟩:=hx
  simp[execOp,go_sem,e]
theorem y_ext {x:Operand} {vs:List SV} {i:Nat} {v:SV} (hx:SVRel X (.tup vs) (ρ x)) (hi:vs[i]?=some v):Yields_ P ρ ⟨dst,.extract x i,type,pos,af,gd⟩ w X v:=by
 simp only[SVRel] at hx
 obtain⟨us,e,hu⟩:=hx
 obtain⟨u,hu1,hu2⟩:=hu.at_ hi
 refine⟨u,?_,hu2⟩
 simp[execOp,Instr.extract,e,hu1]
abbrev Mem (X:Ctx) (w:World):Prop:=ObjsOK X.H X.O X.hv X.G w
theorem fieldAddr_run {t:TypeId} {f off n:Nat} {fs:Array Field} {fd:Field} {x:Operand} {b o:Nat} {i:TypeInfo} (ht:P.underlying t=some (.struct fs)) (hf:fs[f]?=some fd) (ho:fd.offset=off)
  (hi:P.info? fd.type=some i) (hn:i.size=n) (h0:n≠0) (hx:ρ x=.pointer (some ⟨b,o,none⟩)):
  (execOp ρ ⟨dst,.fieldAddr t x f,type,pos,af,gd⟩).run P w=.ok (.value (.pointer (some ⟨b,o+off,none⟩))) w:=by
 subst ho hn
 have h0':¬i.size=0:=h0
 simp only[execOp,hx]
 refine run_v ?_
 simp only[Instr.fieldAt,run_bind,run_underlying ht,hf,Instr.sureAddr,fieldPlace,run_sizeOf hi,if_neg h0',addr_add,run_pure]
end
end Go.Proofs.YtmdocdnidilaiaaGreat.V
