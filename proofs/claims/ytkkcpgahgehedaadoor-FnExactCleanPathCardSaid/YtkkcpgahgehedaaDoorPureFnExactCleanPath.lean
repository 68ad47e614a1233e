/- CleanPath of the program and of the reference agree at every text: no condition. -/
import Derived.Test.YtkkcpgahgehedaaDoorPathB
namespace Go.Proofs.YtkkcpgahgehedaaDoor.Pure
open Go.RowKit Go.Proofs.YtkkcpgahgehedaaDoor.PPath Go.Proofs.YtkkcpgahgehedaaDoorW.PrintWords Go.Proofs.YtkkcpgahgehedaaDoor.Aid
theorem FnExactCleanPath : laws_FnExactCleanPath.Pure := by
  intro s hs
  refine Ev.rounds (r := true) ?_
  unfold laws_FnExactCleanPath.f
  refine ev_ite (fun _ => Ev.now _) (fun h => ?_)
  refine ev_bind (spec_CleanPath.is s (by omega)) (ev_bind (impl_CleanPath.is s) ?_)
  exact ev_pos rfl (ev_neg (by rw [bne_self_eq_false]; exact Bool.false_ne_true) (Ev.now _))
end Go.Proofs.YtkkcpgahgehedaaDoor.Pure

