/- WithMask of the program and of the reference give the same pair for every mode and mask: no condition. -/
import Derived.Test.YtpgdgkogllalnaaPFnExactWithMaskx1
namespace Go.Proofs.Ytpgdgkogllalnaa.Pure
open Go.RowKit Go.Proofs.Ytpgdgkogllalnaa.PFnExactWithMask

theorem FnExactWithMask : laws_FnExactWithMask.Pure := by
  intro a b _ _
  unfold laws_FnExactWithMask.f spec_WithMask.f impl_WithMask.f spec_l1Mode.f impl_isMode.f spec_l1In.f impl_within.f
  by_cases h1 : a ≥ 0 <;> by_cases h2 : b ≥ 0 <;> by_cases h3 : a ≤ 511 <;> by_cases h4 : b ≤ 511 <;> simp [h1, h2, h3, h4]

end Go.Proofs.Ytpgdgkogllalnaa.Pure
