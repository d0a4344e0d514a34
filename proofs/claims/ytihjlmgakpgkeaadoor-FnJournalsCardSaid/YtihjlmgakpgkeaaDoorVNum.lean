/- V: plain laws of whole numbers, lists and strings. -/
import Derived.Test.YtihjlmgakpgkeaaDoorVPathC
import Derived.Test.YtihjlmgakpgkeaaDoorVArgs
namespace Go.Proofs.YtihjlmgakpgkeaaDoor.V
open Go
theorem wrap64 {x:Int} (h: -9223372036854775808≤x∧x≤9223372036854775807):IntKind.wrap .i64 x=x:=by
 simp only[IntKind.wrap,IntKind.bits,IntKind.signed,Bool.true_and]
 have e:(2:Int) ^ 64=18446744073709551616:=by decide
 have e':(2:Int) ^(64 - 1)=9223372036854775808:=by decide
 simp only[e,e',decide_eq_true_eq]
 split<;>omega
theorem wrap64_range (x:Int): -9223372036854775808≤IntKind.wrap .i64 x∧IntKind.wrap .i64 x≤9223372036854775807:=by
 simp only[IntKind.wrap,IntKind.bits,IntKind.signed,Bool.true_and]
 have e:(2:Int) ^ 64=18446744073709551616:=by decide
 have e':(2:Int) ^(64 - 1)=9223372036854775808:=by decide
 simp only[e,e',decide_eq_true_eq]
 split<;>omega
theorem getD_at {α:Type} (l:List α) (i:Nat) (d:α) (h:i < l.length):l[i]?=some (List.getD l i d):=by
 rw[List.getD_eq_getElem?_getD,List.getElem?_eq_getElem h]; rfl
def fuel64 (x:Int):Nat:=if x≤9223372036854775807 then x.toNat else 9223372036854775808
theorem fuel64_zero {x:Int} (h:fuel64 x≤0):¬decide (x > 0)=true:=by
 unfold fuel64 at h
 simp only[decide_eq_true_eq]
 split at h<;>omega
theorem fuel64_tdiv {x:Int} {n:Nat} (h:decide (x > 0)=true) (hn:fuel64 x≤n+1):fuel64 (IntKind.wrap .i64 (Int.tdiv x 10))≤n:=by
 have hw:=wrap64_range (Int.tdiv x 10)
 simp only[decide_eq_true_eq] at h
 unfold fuel64 at hn⊢
 rw[if_pos hw.2]
 split at hn
 ·have h1:Int.tdiv x 10=x / 10:=Int.tdiv_eq_ediv_of_nonneg (by omega)
  rw[h1,wrap64 (by omega)]
  omega
 ·omega
theorem ba_eq (x y:ByteArray):(x.toList==y.toList)=decide (x=y):=by
 rw[Bool.eq_iff_iff]
 simp only[beq_iff_eq,decide_eq_true_eq]
 constructor
 ·intro h
  have hl:∀b:ByteArray,b.toList=b.data.toList:=fun b=>by
   have hs:b.size=b.data.toList.length:=by
    rw[Array.length_toList]; rfl
   have key:∀(n i:Nat) (r:List UInt8),b.size - i=n→ByteArray.toList.loop b i r=r.reverse++b.data.toList.drop i:=by
    intro n
    induction n with
    |zero=>
     intro i r h
     unfold ByteArray.toList.loop
     rw[if_neg (by omega),List.drop_eq_nil_of_le (by omega)]
     simp
    |succ n ih=>
     intro i r h
     unfold ByteArray.toList.loop
     have hi:i < b.data.toList.length:=by omega
     rw[if_pos (by omega),ih (i+1) _ (by omega),List.drop_eq_getElem_cons hi]
     have:b.get! i=b.data.toList[i]:=by
      have hi2:i < b.data.size:=by simpa using hi
      show b.data[i]! =_
      rw[getElem!_pos b.data i hi2]; simp
     rw[this]; simp
   show ByteArray.toList.loop b 0 []=_
   rw[key _ 0 [] rfl]; simp
  rw[hl,hl] at h
  cases x; cases y
  congr 1
  exact Array.toList_inj.1 h
 ·rintro rfl; rfl
theorem wf8 {x:Int} (h:(Lit.int .u8 x).wf=true):0≤x∧x≤255:=by
 simp[Lit.wf,IntKind.min,IntKind.max,IntKind.bits,IntKind.signed] at h
 omega
end Go.Proofs.YtihjlmgakpgkeaaDoor.V
