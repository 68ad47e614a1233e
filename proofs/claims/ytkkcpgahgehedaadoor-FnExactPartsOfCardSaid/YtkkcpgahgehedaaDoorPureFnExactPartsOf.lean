/- PartsOf of the program and of the reference agree at every text; a second call answers anew: no condition. -/
import Derived.Test.YtkkcpgahgehedaaDoorHar
namespace Go.Proofs.YtkkcpgahgehedaaDoor.PPath
open Go.RowKit Go.Proofs.YtkkcpgahgehedaaDoorW.PrintWords Go.Proofs.YtkkcpgahgehedaaDoorW.PrintLast Go.Proofs.YtkkcpgahgehedaaDoorW.PrintMore Go.Proofs.YtkkcpgahgehedaaDoor.Aid
def partsR (s : ByteArray) : List ByteArray × Bool := if pathB s = true then (parts s, true) else ([], false)
theorem spec_PartsOf.is (s : ByteArray) (hs : s.size < 4294967281) : Ev (fun k => spec_PartsOf.f k s) (partsR s) := by
  refine ev_bind (spec_l2Path.is s hs) (ev_ite (fun h => ?_) (fun h => ?_))
  · exact ev_bind (spec_l2Parts.is s hs) (ev_some (by unfold partsR; rw [if_pos h]))
  · exact ev_some (by unfold partsR; rw [if_neg h])
theorem impl_PartsOf.is (s : ByteArray) : Ev (fun k => impl_PartsOf.f k s) (partsR s) := by
  refine ev_bind (impl_GoodPath.is s) (ev_ite (fun h => ?_) (fun h => ?_))
  · obtain ⟨h1, h2⟩ := pathB_size h
    have hl := parts_length s
    refine ev_bind0 (impl_partsOf.is s (by omega)) (ev_bind0 (a := parts s) ?_ (ev_some (by unfold partsR; rw [if_pos h])))
    unfold slices_Clone_string_string.f; rw [if_pos (by omega)]
  · exact ev_some (by unfold partsR; rw [if_neg h])
theorem partsR_length (s : ByteArray) : (partsR s).1.length ≤ 61 := by
  unfold partsR
  split
  · rename_i h
    have := pathB_size h
    have hl := parts_length s
    show (parts s).length ≤ 61
    omega
  · show 0 ≤ 61; omega
end Go.Proofs.YtkkcpgahgehedaaDoor.PPath
namespace Go.Proofs.YtkkcpgahgehedaaDoor.Pure
open Go.RowKit Go.Proofs.YtkkcpgahgehedaaDoor.PPath Go.Proofs.YtkkcpgahgehedaaDoorW.PrintWords Go.Proofs.YtkkcpgahgehedaaDoor.Aid
theorem FnExactPartsOf : laws_FnExactPartsOf.Pure := by
  intro s hs
  refine Ev.rounds (r := true) ?_
  unfold laws_FnExactPartsOf.f
  refine ev_ite (fun _ => Ev.now _) (fun h => ?_)
  have hz := partsR_length s
  have hi := impl_PartsOf.is s
  refine ev_bind (spec_PartsOf.is s (by omega)) (ev_bind hi ?_)
  generalize partsR s = r at hz hi ⊢
  refine ev_bind (laws_eqStringS.same r.1 (by omega)) (ev_pos rfl ?_)
  refine Ev.step (fun k => by rw [bne_self_eq_false, laws_FnExactPartsOf.j0, if_neg Bool.false_ne_true]) ?_
  have hheld := laws_heldStringS.is r.1.length (by omega) 1 (by omega) (by omega)
  refine ev_bind (laws_markStringS.is r.1 (by omega) 1 (by omega) (by omega)) (ev_bind hheld (ev_neg (by omega) (ev_pos rfl ?_)))
  refine ev_bind hi (ev_bind (laws_eqStringS.same r.1 (by omega)) (ev_pos rfl ?_))
  refine Ev.step (fun k => by rw [bne_self_eq_false, laws_FnExactPartsOf.j1, if_neg Bool.false_ne_true]) ?_
  exact ev_bind hheld (ev_neg (by omega) (ev_pos rfl (Ev.now _)))
end Go.Proofs.YtkkcpgahgehedaaDoor.Pure

