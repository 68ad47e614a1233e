/- IsForm of the program and of the reference agree at every two texts: no condition. -/
import Derived.Test.YtkkcpgahgehedaaFormFits
import Derived.Test.YtkkcpgahgehedaaNameC
namespace Go.Proofs.Ytkkcpgahgehedaa.Pure
open Go.RowKit Go.Proofs.Ytkkcpgahgehedaa.PForm Go.Proofs.YtkkcpgahgehedaaW.PrintWords Go.Proofs.Ytkkcpgahgehedaa.Aid Go.Proofs.Ytkkcpgahgehedaa.Form
/-- What both answer. -/
def formV (a s : ByteArray) : Bool × Bool := if formB a = true then (if nameB s = true then (isF a.toList s.toList, true) else (false, false)) else (false, false)
theorem spec_IsForm.is (a s : ByteArray) (ha : a.size ≤ 1048576) (hs : s.size ≤ 1048576) : Ev (fun k => spec_IsForm.f k a s) (formV a s) := by
  unfold spec_IsForm.f formV
  refine ev_bind (spec_l11Form.is a ha) ?_
  refine ev_ite (fun h => ?_) (fun h => ?_)
  · rw [if_pos h]
    refine ev_bind (spec_l2Name.is s (by omega)) ?_
    refine ev_ite (fun h => ?_) (fun h => ?_)
    · rw [if_pos h]
      exact ev_bind (spec_l11Is.is a s) (Ev.now _)
    · rw [if_neg h]; exact Ev.now _
  · rw [if_neg h]; exact Ev.now _
theorem impl_IsForm.is (a s : ByteArray) (ha : a.size ≤ 1048576) (hs : s.size ≤ 1048576) : Ev (fun k => impl_IsForm.f k a s) (formV a s) := by
  unfold impl_IsForm.f formV
  refine ev_bind (impl_isPattern.is a) ?_
  refine ev_ite (fun h => ?_) (fun h => ?_)
  · rw [if_pos h]
    refine ev_bind (impl_GoodName.is s) ?_
    refine ev_ite (fun h => ?_) (fun h => ?_)
    · rw [if_pos h]
      exact ev_bind (impl_fitsForm.is a s ha hs) (Ev.now _)
    · rw [if_neg h]; exact Ev.now _
  · rw [if_neg h]; exact Ev.now _
theorem FnExactIsForm : laws_FnExactIsForm.Pure := by
  intro a s _ _
  refine Ev.rounds (r := true) ?_
  unfold laws_FnExactIsForm.f
  refine ev_ite (fun _ => Ev.now _) (fun h1 => ev_ite (fun _ => Ev.now _) (fun h2 => ?_))
  refine ev_bind (spec_IsForm.is a s (by omega) (by omega)) (ev_bind (impl_IsForm.is a s (by omega) (by omega)) ?_)
  exact ev_neg (by rw [bne_self_eq_false]; exact Bool.false_ne_true) (ev_neg (by rw [bne_self_eq_false]; exact Bool.false_ne_true) (Ev.now _))
end Go.Proofs.Ytkkcpgahgehedaa.Pure

