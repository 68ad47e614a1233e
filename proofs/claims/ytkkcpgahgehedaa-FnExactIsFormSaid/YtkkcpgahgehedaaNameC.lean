/- impl.isDots, impl.GoodName. -/
import Derived.Test.YtkkcpgahgehedaaPFormx4
import Derived.Test.YtkkcpgahgehedaaFormA
namespace Go.Proofs.Ytkkcpgahgehedaa.PForm
open Go.RowKit Go.Proofs.YtkkcpgahgehedaaW.PrintWords Go.Proofs.YtkkcpgahgehedaaW.PrintLast Go.Proofs.YtkkcpgahgehedaaW.PrintMore Go.Proofs.Ytkkcpgahgehedaa.Aid
theorem impl_isDots.is (s : ByteArray) : impl_isDots.f s = some (dotsB s) := by
  unfold impl_isDots.f dotsB
  by_cases h : s.toList = ([46] : List UInt8)
  · rw [if_pos h]; simp [h]
  · rw [if_neg h]; simp [h]
theorem impl_GoodName.is (s : ByteArray) : Ev (fun k => impl_GoodName.f k s) (nameB s) := by
  unfold impl_GoodName.f nameB
  refine ev_bind (impl_isPart.is s) ?_
  refine ev_ite (fun h => ?_) (fun h => ?_)
  · rw [impl_isDots.is, h]; exact Ev.now _
  · exact ev_some (by rw [Bool.eq_false_iff.mpr h]; rfl)
end Go.Proofs.Ytkkcpgahgehedaa.PForm

