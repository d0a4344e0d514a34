/- V: a function of the library that takes and hands back values without addresses: its contract serves. -/
import Derived.Test.YtaomcjbjgdihhaaDoorVCode
import Derived.Lib.SlTrimSet
import Derived.Lib.Bytealg
namespace Go.Proofs.YtaomcjbjgdihhaaDoor.V
open Go Frag Go.RowKit
def flatSV (v:Value):SV:=.one (.val v)
def flatRet (v:Value):Ret:=.one (.val v)
theorem flat_vals {X:Ctx}:∀ {l:List Value} {vals:List Value},SVRels X (l.map flatSV) vals→vals=l
 |[],vals,h=>by simpa[SVRels] using h
 |v::l,vals,h=>by
  simp only[List.map_cons,SVRels] at h
  obtain⟨u,us,rfl,h1,h2⟩:=h
  have:u=v:=by
   simp only[flatSV,SVRel,CVRel] at h1
   exact h1.1
  rw[this,flat_vals h2]
theorem flat_rets {H:Nat→Frag}:∀ {l:List Value},(∀v∈l,flat v=true)→RetsRel H (l.map flatRet) l emp
 |[],_=>by simp[RetsRel]
 |v::l,h=>by
  simp only[List.map_cons,RetsRel]
  refine⟨v,l,emp,emp,rfl,(emp_un _).symm,emp_disj _,?_,flat_rets fun x hx=>h x (List.mem_cons_of_mem _ hx)⟩
  simp only[flatRet,RetRel,ORep]
  simpa using h v (List.mem_cons_self ..)
theorem emp_inW (w:World):emp.inW w:=fun b o e=>by simp[emp] at e
theorem flat_ok {P:Program} {f:FuncId} {args rets:List Value} (he:Enter P f) (hf:∀v∈rets,flat v=true)
  (h:∀w:World,Calls P f args.toArray w fun e w'=>(∃v,e=.returned v∧ResV rets v)∧Below w.heap.size w w'):CallOK P f (args.map flatSV) [] [] [] (rets.map flatRet):=by
 intro H hc Gc w vals hobjs hargs
 have hv:vals=args.toArray:=by
  have:=flat_vals hargs
  cases vals; simp at this⊢; exact this
 subst hv
 refine .inl ⟨he,(h w).mono fun e w' ⟨⟨v,h1,h2⟩,hb⟩=>⟨v,h1,rets,fun _=>emp,emp,h2,hb.mono (Nat.zero_le _),fun l b o e=>?_,rfl,flat_rets hf,fun _=>emp_inW _,emp_inW _,fun _ _ _=>emp_disj _,fun _=>emp_disj _,fun _ _=>emp_disj _,fun _=>emp_disj _⟩⟩
 have h0:=hobjs.prot l b o e
 have hlt:b < w.heap.size:=(Array.getElem?_eq_some_iff.1 h0).1
 rw[hb.block b hlt]; exact h0
def trimB (s c:ByteArray):ByteArray:=⟨(Lib.trimS s.data.toList c.data.toList).toArray⟩
def asciiB (c:ByteArray):Bool:=c.data.toList.all fun b=>decide (b.toNat < 128)
def TrimX (args:List SV) (rs:List Ret):Prop:=∃s c:ByteArray,s.size≤9223372036854775807∧c.size < 4294967281∧asciiB c=true∧args=[.one (.val (.string s)),.one (.val (.string c))]∧rs=[.one (.val (.string (trimB s c)))]
def idxB (s:ByteArray) (c:Int):Int:=Lib.indexByte s.data.toList c.toNat.toUInt8
def IdxX (args:List SV) (rs:List Ret):Prop:=∃(s:ByteArray) (c:Int),args=[.one (.val (.string s)),.one (.val (.int .u8 c))]∧rs=[.one (.val (.int .i64 (idxB s c)))]
end Go.Proofs.YtaomcjbjgdihhaaDoor.V
