/- ModeText of the program and of the reference give the same nine signs for every mode: no condition. -/
import Derived.Test.YtpgdgkogllalnaaAid
import Derived.Test.YtpgdgkogllalnaaPFnExactModeTextx1
namespace Go.Proofs.Ytpgdgkogllalnaa.PFnExactModeText
open Go.RowKit Go.Proofs.YtpgdgkogllalnaaW.PrintWords Go.Proofs.Ytpgdgkogllalnaa.Aid
theorem signs_all : ∀ n : Fin 512, spec_l1Signs.f 10 (n.val : Int) = impl_modeText.f (n.val : Int) := by decide +kernel
theorem spec_l1Signs.is {x : Int} (h0 : 0 ≤ x) (h1 : x < 512) : Ev (fun k => spec_l1Signs.f k x) (strOfNums (impl_modeText.list x)) := by
  obtain ⟨n, rfl⟩ := Int.eq_ofNat_of_zero_le h0
  exact Ev.of (spec_l1Signs.mono _) (signs_all ⟨n, by omega⟩)
theorem mode_within (n a b : Int) : impl_within.f n a b = some (decide (a ≤ n ∧ n ≤ b)) := by
  unfold impl_within.f
  by_cases h : n ≥ a
  · rw [if_pos h]; simp [show a ≤ n from h]
  · rw [if_neg h]; simp [show ¬ a ≤ n from h]
theorem mode_l1In (n a b : Int) : spec_l1In.f n a b = some (decide (a ≤ n ∧ n ≤ b)) := by
  unfold spec_l1In.f
  by_cases h : n ≥ a
  · rw [if_pos h]; simp [show a ≤ n from h]
  · rw [if_neg h]; simp [show ¬ a ≤ n from h]
end Go.Proofs.Ytpgdgkogllalnaa.PFnExactModeText
namespace Go.Proofs.Ytpgdgkogllalnaa.Pure
open Go.RowKit Go.Proofs.Ytpgdgkogllalnaa.PFnExactModeText Go.Proofs.YtpgdgkogllalnaaW.PrintWords Go.Proofs.Ytpgdgkogllalnaa.Aid
theorem FnExactModeText : laws_FnExactModeText.Pure := by
  intro a _
  refine Ev.rounds (r := true) ?_
  unfold laws_FnExactModeText.f spec_ModeText.f impl_ModeText.f spec_l1Mode.f impl_isMode.f
  simp only [mode_within, mode_l1In, Option.bind_some]
  by_cases h : 0 ≤ a ∧ a ≤ 511
  · simp only [decide_eq_true h, if_true]
    refine ev_bind (a := (strOfNums (impl_modeText.list a), true)) (ev_bind (spec_l1Signs.is h.1 (by omega)) (Ev.now _)) ?_
    refine ev_bind0 (a := (strOfNums (impl_modeText.list a), true)) rfl (ev_of ?_)
    rw [if_pos rfl, bne_self_eq_false]; rfl
  · simp only [decide_eq_false h, Bool.false_eq_true, if_false]
    refine ev_bind0 rfl (ev_bind0 rfl (ev_of ?_))
    rw [if_pos rfl, bne_self_eq_false]; rfl
end Go.Proofs.Ytpgdgkogllalnaa.Pure

