/- V: plain laws of whole numbers, lists and strings. -/
import Derived.Test.YthpmfdcmnnbjcaaVPathC
import Derived.Test.YthpmfdcmnnbjcaaVArgs
namespace Go.Proofs.Ythpmfdcmnnbjcaa.V
open Go

theorem wrap64 {x : Int} (h : -9223372036854775808 ≤ x ∧ x ≤ 9223372036854775807) : IntKind.wrap .i64 x = x := by
  simp only [IntKind.wrap, IntKind.bits, IntKind.signed, Bool.true_and]
  have e : (2 : Int) ^ 64 = 18446744073709551616 := by decide
  have e' : (2 : Int) ^ (64 - 1) = 9223372036854775808 := by decide
  simp only [e, e', decide_eq_true_eq]
  split <;> omega
theorem wrap64_range (x : Int) : -9223372036854775808 ≤ IntKind.wrap .i64 x ∧ IntKind.wrap .i64 x ≤ 9223372036854775807 := by
  simp only [IntKind.wrap, IntKind.bits, IntKind.signed, Bool.true_and]
  have e : (2 : Int) ^ 64 = 18446744073709551616 := by decide
  have e' : (2 : Int) ^ (64 - 1) = 9223372036854775808 := by decide
  simp only [e, e', decide_eq_true_eq]
  split <;> omega
theorem wrap64_sub (x : Int) (n : Nat) (h0 : 0 ≤ x) (h1 : x ≤ 1048576) (h2 : n ≤ 140737488351232) : IntKind.wrap .i64 (x - n) < 0 ∨ (IntKind.wrap .i64 (x - n) = x - n ∧ (n : Int) ≤ x) := by
  rw [wrap64 (by omega)]
  by_cases h3 : (n : Int) ≤ x
  · exact .inr ⟨rfl, h3⟩
  · exact .inl (by omega)
theorem getD_at {α : Type} (l : List α) (i : Nat) (d : α) (h : i < l.length) : l[i]? = some (List.getD l i d) := by
  rw [List.getD_eq_getElem?_getD, List.getElem?_eq_getElem h]; rfl
theorem wf64 {x : Int} (h : (Lit.int .i64 x).wf = true) : -9223372036854775808 ≤ x ∧ x ≤ 9223372036854775807 := by
  simp [Lit.wf, IntKind.min, IntKind.max, IntKind.bits, IntKind.signed] at h
  omega
theorem wf8 {x : Int} (h : (Lit.int .u8 x).wf = true) : 0 ≤ x ∧ x ≤ 255 := by
  simp [Lit.wf, IntKind.min, IntKind.max, IntKind.bits, IntKind.signed] at h
  omega
end Go.Proofs.Ythpmfdcmnnbjcaa.V
