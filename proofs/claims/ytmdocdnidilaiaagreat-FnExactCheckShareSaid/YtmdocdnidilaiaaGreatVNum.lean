/- V: plain laws of whole numbers, lists and strings. -/
import Derived.Test.YtmdocdnidilaiaaGreatVPathC
import Derived.Test.YtmdocdnidilaiaaGreatVArgs
namespace Go.Proofs.YtmdocdnidilaiaaGreat.V
open Go
theorem wrap64 {x:Int} (h: -9223372036854775808≤x∧x≤9223372036854775807):IntKind.wrap .i64 x=x:=by
 simp only[IntKind.wrap,IntKind.bits,IntKind.signed,Bool.true_and]
 have e:(2:Int) ^ 64=18446744073709551616:=by decide
 have e':(2:Int) ^(64 - 1)=9223372036854775808:=by decide
 simp only[e,e',decide_eq_true_eq]
 split<;>omega
theorem wrap64d {x:Int} (h1: -9223372036854775808≤x) (h2:x≤9223372036854775807):IntKind.wrap .i64 x=x:=wrap64 ⟨h1,h2⟩
theorem wrap64_range (x:Int): -9223372036854775808≤IntKind.wrap .i64 x∧IntKind.wrap .i64 x≤9223372036854775807:=by
 simp only[IntKind.wrap,IntKind.bits,IntKind.signed,Bool.true_and]
 have e:(2:Int) ^ 64=18446744073709551616:=by decide
 have e':(2:Int) ^(64 - 1)=9223372036854775808:=by decide
 simp only[e,e',decide_eq_true_eq]
 split<;>omega
theorem wrap64_sub (x:Int) (n:Nat) (h0:0≤x) (h1:x≤1048576) (h2:n≤140737488351232):IntKind.wrap .i64 (x - n) < 0∨(IntKind.wrap .i64 (x - n)=x - n∧(n:Int)≤x):=by
 rw[wrap64 (by omega)]
 by_cases h3:(n:Int)≤x
 ·exact .inr ⟨rfl,h3⟩
 ·exact .inl (by omega)
theorem getD_at {α:Type} (l:List α) (i:Nat) (d:α) (h:i < l.length):l[i]?=some (List.getD l i d):=by
 rw[List.getD_eq_getElem?_getD,List.getElem?_eq_getElem h]; rfl
theorem drop_next {α:Type} {v l:List α} {x:α} {n:Nat} (h:List.drop n v=x::l):List.drop (n+1) v=l:=by
 rw[← List.drop_drop,h]; rfl
theorem drop_set_next {α:Type} {v l:List α} {x:α} {n:Nat} (h:List.drop n v=x::l) (y:α):List.drop (n+1) (List.set v n y)=l:=by
 rw[List.drop_set_of_lt (by omega)]; exact drop_next h
theorem drop_at {α:Type} {v l:List α} {x:α} {n:Nat} (h:List.drop n v=x::l):v[n]?=some x:=by
 have e:(List.drop n v)[0]?=some x:=by rw[h]; rfl
 rwa [List.getElem?_drop,Nat.add_zero] at e
theorem modify_at {α:Type} {l:List α} {i:Nat} {x:α} {f:α→α} (h:l[i]?=some x):l.modify i f=l.set i (f x):=by
 apply List.ext_getElem?
 intro j
 rw[List.getElem?_modify,List.getElem?_set]
 by_cases e:i=j
 ·subst e
  rw[if_pos rfl,h,if_pos (List.getElem?_eq_some_iff.1 h).1]; simp
 ·rw[if_neg e]; simp[e]
theorem setCellAt {rows:List (List D)} {i j:Nat} {row:List D} (h:rows[i]?=some row) (d:D):setCell rows [(i,j)] d=rows.set i (row.set j d):=by
 simp only[setCell]
 rw[modify_at h]
 congr 1
 apply List.ext_getElem?
 intro n
 rw[List.getElem?_modify,List.getElem?_set]
 by_cases e:j=n
 ·subst e
  simp
  cases hr:row[j]? with
  |none=>rw[if_neg (by intro hl; rw[List.getElem?_eq_getElem hl] at hr; cases hr)]; rfl
  |some z=>rw[if_pos (List.getElem?_eq_some_iff.1 hr).1]; rfl
 ·simp[e]
theorem setCell2At {rows:List (List D)} {i j:Nat} {row:List D} (h:rows[i]?=some row) (x d:D):setCell (setCell rows [(i,j)] x) [(i,j)] d=rows.set i (row.set j d):=by
 have hi:=(List.getElem?_eq_some_iff.1 h).1
 rw[setCellAt h,setCellAt (row:=row.set j x) (by rw[List.getElem?_set_self hi]),List.set_set,List.set_set]
theorem setNavAt {rows:List (List D)} {i j k:Nat} {row:List D} {w new:List (List D)} (h:rows[i]?=some row) (h2:row[j]?=some (.own k w)):setNav rows [(i,j)] new=rows.set i (row.set j (.own k new)):=by
 simp only[setNav]
 rw[modify_at h]
 congr 1
 rw[modify_at h2]
def fuel64 (x:Int):Nat:=if x≤9223372036854775807 then x.toNat else 9223372036854775808
theorem fuel64_zero {x:Int} (h:fuel64 x≤0):¬decide (x > 0)=true:=by
 unfold fuel64 at h
 simp only[decide_eq_true_eq]
 split at h<;>omega
theorem fuel64_tdiv {x:Int} {n:Nat} (h:decide (x > 0)=true) (hn:fuel64 x≤n+1):fuel64 (IntKind.wrap .i64 (Int.tdiv x 10))≤n:=by
 have hw:=wrap64_range (Int.tdiv x 10)
 simp only[decide_eq_true_eq] at h
 unfold fuel64 at hn⊢
 rw[if_pos hw.2]
 split at hn
 ·have h1:Int.tdiv x 10=x / 10:=Int.tdiv_eq_ediv_of_nonneg (by omega)
  rw[h1,wrap64 (by omega)]
  omega
 ·omega
theorem ba_eq (x y:ByteArray):(x.toList==y.toList)=decide (x=y):=by
 rw[Bool.eq_iff_iff]
 simp only[beq_iff_eq,decide_eq_true_eq]
 constructor
 ·intro h
  have hl:∀b:ByteArray,b.toList=b.data.toList:=fun b=>by
   have hs:b.size=b.data.toList.length:=by
    rw[Array.length_toList]; rfl
   have key:∀(n i:Nat) (r:List UInt8),b.size - i=n→ByteArray.toList.loop b i r=r.reverse++b.data.toList.drop i:=by
    intro n
    induction n with
    |zero=>
     intro i r h
     unfold ByteArray.toList.loop
     rw[if_neg (by omega),List.drop_eq_nil_of_le (by omega)]
     simp
    |succ n ih=>
     intro i r h
     unfold ByteArray.toList.loop
     have hi:i < b.data.toList.length:=by omega
     rw[if_pos (by omega),ih (i+1) _ (by omega),List.drop_eq_getElem_cons hi]
     have:b.get! i=b.data.toList[i]:=by
      have hi2:i < b.data.size:=by simpa using hi
      show b.data[i]! =_
      rw[getElem!_pos b.data i hi2]; simp
     rw[this]; simp
   show ByteArray.toList.loop b 0 []=_
   rw[key _ 0 [] rfl]; simp
  rw[hl,hl] at h
  cases x; cases y
  congr 1
  exact Array.toList_inj.1 h
 ·rintro rfl; rfl
end Go.Proofs.YtmdocdnidilaiaaGreat.V
