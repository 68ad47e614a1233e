/- GoodPath of the program and of the reference agree at every text: no condition. -/
import Derived.Test.YtkkcpgahgehedaaDoorPathA
namespace Go.Proofs.YtkkcpgahgehedaaDoor.Pure
open Go.RowKit Go.Proofs.YtkkcpgahgehedaaDoor.PPath Go.Proofs.YtkkcpgahgehedaaDoorW.PrintWords Go.Proofs.YtkkcpgahgehedaaDoor.Aid
theorem FnExactGoodPath : laws_FnExactGoodPath.Pure := by
  intro s hs
  refine Ev.rounds (r := true) ?_
  unfold laws_FnExactGoodPath.f
  refine ev_ite (fun _ => Ev.now _) (fun h => ?_)
  refine ev_bind (spec_GoodPath.is s (by omega)) (ev_bind (impl_GoodPath.is s) ?_)
  exact ev_neg (by rw [bne_self_eq_false]; exact Bool.false_ne_true) (Ev.now _)
end Go.Proofs.YtkkcpgahgehedaaDoor.Pure

