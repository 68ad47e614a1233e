/- GoodCred of the program and of the reference agree at every cred: no condition. -/
import Derived.Test.YtpgdgkogllalnaaPFnExactGoodCredx1
namespace Go.Proofs.Ytpgdgkogllalnaa.Pure
open Go.RowKit Go.Proofs.Ytpgdgkogllalnaa.PFnExactGoodCred Go.Proofs.YtpgdgkogllalnaaW.PrintWords
theorem FnExactGoodCred : laws_FnExactGoodCred.Pure := by
  intro a b _ _
  unfold laws_FnExactGoodCred.f laws_toCred.f spec_GoodCred.f impl_GoodCred.f spec_l1Cred.f impl_isId.f spec_l1In.f impl_within.f
  by_cases h1 : a ≥ 0 <;> by_cases h2 : b ≥ 0 <;> by_cases h3 : a ≤ 99 <;> by_cases h4 : b ≤ 99 <;> simp [h1, h2, h3, h4]
end Go.Proofs.Ytpgdgkogllalnaa.Pure

