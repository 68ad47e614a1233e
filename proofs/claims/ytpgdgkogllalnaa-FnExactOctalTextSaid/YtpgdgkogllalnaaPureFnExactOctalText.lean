/- OctalText of the program and of the reference give the same three digits for every mode: no condition. -/
import Derived.Test.YtpgdgkogllalnaaPFnExactOctalTextx1
namespace Go.Proofs.Ytpgdgkogllalnaa.Pure
open Go.RowKit Go.Proofs.Ytpgdgkogllalnaa.PFnExactOctalText Go.Proofs.YtpgdgkogllalnaaW.PrintWords

theorem octal_all : ∀ n : Fin 512, (spec_l1Octal.f 3 (n.val : Int)).isSome = true ∧ spec_l1Octal.f 3 (n.val : Int) = impl_octalText.f (n.val : Int) := by
  decide +kernel

theorem FnExactOctalText : laws_FnExactOctalText.Pure := by
  intro a _
  refine ⟨3, ?_⟩
  unfold laws_FnExactOctalText.f spec_OctalText.f impl_OctalText.f spec_l1Mode.f impl_isMode.f spec_l1In.f impl_within.f
  by_cases h1 : a ≥ 0
  · by_cases h2 : a ≤ 511
    · obtain ⟨n, rfl⟩ := Int.eq_ofNat_of_zero_le h1
      have h := octal_all ⟨n, by omega⟩
      obtain ⟨t, ht⟩ := Option.isSome_iff_exists.mp h.1
      have h' := h.2
      simp only at ht h'
      rw [ht] at h'
      simp [h2, ht, ← h']
    · simp [h1, h2]
  · simp [h1]

end Go.Proofs.Ytpgdgkogllalnaa.Pure
