/- CodeText of the program and of the reference give the same text for every code: no condition. -/
import Derived.Test.YtpgdgkogllalnaaPFnExactCodeTextx1
namespace Go.Proofs.Ytpgdgkogllalnaa.Pure
open Go.RowKit Go.Proofs.Ytpgdgkogllalnaa.PFnExactCodeText Go.Proofs.YtpgdgkogllalnaaW.PrintWords

theorem FnExactCodeText : laws_FnExactCodeText.Pure := by
  intro a _
  unfold laws_FnExactCodeText.f spec_CodeText.f impl_CodeText.f impl_codeText.f spec_l4Words.f spec_l1In.f impl_within.f
  by_cases h1 : a ≥ 0
  · by_cases h2 : a ≤ 10
    · have h3 : a < 11 := by omega
      have h4 : 0 ≤ a := h1
      simp [h2, h3, h4]
    · simp [h1, h2]
  · simp [h1]

end Go.Proofs.Ytpgdgkogllalnaa.Pure
