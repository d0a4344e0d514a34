/- ShareTarget of the program and of the reference give the same for each level. -/
import Derived.Test.YtkbkdndaohdhfaaPFnExactShareTargetx1
namespace Go.Proofs.Ytkbkdndaohdhfaa.Pure
open Go.RowKit Go.Proofs.Ytkbkdndaohdhfaa.PFnExactShareTarget Go.Proofs.YtkbkdndaohdhfaaW.PrintWords Go.Proofs.YtkbkdndaohdhfaaW.PrintLast

/-- The law's own function answers yes for each whole number. -/
theorem FnExactShareTarget : laws_FnExactShareTarget.Pure := by
  intro a0 _
  unfold laws_FnExactShareTarget.f spec_ShareTarget.f impl_ShareTarget.f impl_isLevel.f impl_in.f spec_l1In.f laws_eqIntResult.f
  by_cases h1 : a0 ≥ 1
  · by_cases h2 : a0 ≤ 9999
    · have h3 : a0 ≠ 0 := by omega
      simp [h1, h2, h3]
    · simp [h1, h2]
  · simp [h1]

end Go.Proofs.Ytkbkdndaohdhfaa.Pure
