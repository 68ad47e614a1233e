/- FromTo of the program and of the reference agree at every pair of texts: no condition. -/
import Derived.Test.YtkkcpgahgehedaaDoorPathD
namespace Go.Proofs.YtkkcpgahgehedaaDoor.Pure
open Go.RowKit Go.Proofs.YtkkcpgahgehedaaDoor.PPath Go.Proofs.YtkkcpgahgehedaaDoorW.PrintWords Go.Proofs.YtkkcpgahgehedaaDoor.Aid
theorem FnExactFromTo : laws_FnExactFromTo.Pure := by
  intro d s hd hs
  refine Ev.rounds (r := true) ?_
  unfold laws_FnExactFromTo.f
  refine ev_ite (fun _ => Ev.now _) (fun h => ev_ite (fun _ => Ev.now _) (fun h' => ?_))
  refine ev_bind (spec_FromTo.is d s (by omega) (by omega)) (ev_bind (impl_FromTo.is d s) ?_)
  exact ev_pos rfl (ev_neg (by rw [bne_self_eq_false]; exact Bool.false_ne_true) (Ev.now _))
end Go.Proofs.YtkkcpgahgehedaaDoor.Pure

