/- JoinPath of the program and of the reference agree at every pair of texts: no condition. -/
import Derived.Test.YtkkcpgahgehedaaDoorPathB
namespace Go.Proofs.YtkkcpgahgehedaaDoor.PPath
open Go.RowKit Go.Proofs.YtkkcpgahgehedaaDoorW.PrintWords Go.Proofs.YtkkcpgahgehedaaDoorW.PrintLast Go.Proofs.YtkkcpgahgehedaaDoorW.PrintMore Go.Proofs.YtkkcpgahgehedaaDoor.Aid
def joinR (d s : ByteArray) : ByteArray × Bool := if pathB d = true ∧ pathB s = true then (if bt s 0 = 47 then cleanR s else cleanR ((d ++ ⟨#[47]⟩) ++ s)) else (⟨#[]⟩, false)
theorem app_size (d s : ByteArray) : ((d ++ (⟨#[47]⟩ : ByteArray)) ++ s).size = d.size + 1 + s.size := by
  rw [size_eq, toList_append, toList_append, List.length_append, List.length_append, ← size_eq, ← size_eq, ← size_eq]; rfl
theorem spec_JoinPath.is (d s : ByteArray) (hd : d.size < 4294967281) (hs : s.size < 4294967281) : Ev (fun k => spec_JoinPath.f k d s) (joinR d s) := by
  have hbad : ¬ (pathB d = true ∧ pathB s = true) → Ev (fun k => spec_JoinPath.j0 k d s true) (joinR d s) := fun h =>
    Ev.step (fun k => by rw [spec_JoinPath.j0, if_pos rfl]) (ev_some (by unfold joinR; rw [if_neg h]))
  refine ev_bind (spec_l2Path.is d hd) (ev_ite (fun h1 => ?_) (fun h1 => hbad (fun h => h1 h.1)))
  refine ev_bind (spec_l2Path.is s hs) ?_
  by_cases h2 : pathB s = true
  · obtain ⟨a1, a2⟩ := pathB_size h1
    obtain ⟨b1, b2⟩ := pathB_size h2
    have hz := app_size d s
    rw [h2]
    refine Ev.step (fun k => by rw [Bool.not_true, spec_JoinPath.j0, if_neg (by simp), if_pos (by omega)]) ?_
    refine ev_ite (fun h3 => ?_) (fun h3 => ?_)
    · exact ev_bind (spec_CleanPath.is s hs) (ev_some (by unfold joinR; rw [if_pos ⟨h1, h2⟩, if_pos h3]))
    · refine ev_pos (by omega) (ev_pos (by omega) (ev_bind (spec_CleanPath.is _ (by omega)) (ev_some ?_)))
      unfold joinR; rw [if_pos ⟨h1, h2⟩, if_neg h3]
  · rw [Bool.eq_false_iff.mpr h2]; exact hbad (fun h => h2 h.2)
theorem impl_JoinPath.is (d s : ByteArray) : Ev (fun k => impl_JoinPath.f k d s) (joinR d s) := by
  have hbad : ¬ (pathB d = true ∧ pathB s = true) → Ev (fun k => impl_JoinPath.j0 k d s true) (joinR d s) := fun h =>
    Ev.step (fun k => by rw [impl_JoinPath.j0, if_pos rfl]) (ev_some (by unfold joinR; rw [if_neg h]))
  refine ev_bind (impl_GoodPath.is d) (ev_ite (fun h1 => ?_) (fun h1 => hbad (fun h => h1 h.1)))
  refine ev_bind (impl_GoodPath.is s) ?_
  by_cases h2 : pathB s = true
  · obtain ⟨a1, a2⟩ := pathB_size h1
    obtain ⟨b1, b2⟩ := pathB_size h2
    have hz := app_size d s
    rw [h2]
    refine Ev.step (fun k => by rw [Bool.not_true, impl_JoinPath.j0, if_neg (by simp), if_pos (by omega)]) ?_
    refine ev_ite (fun h3 => ?_) (fun h3 => ?_)
    · exact ev_bind (impl_CleanPath.is s) (ev_some (by unfold joinR; rw [if_pos ⟨h1, h2⟩, if_pos h3]))
    · refine ev_pos (by omega) (ev_pos (by omega) (ev_bind (impl_CleanPath.is _) (ev_some ?_)))
      unfold joinR; rw [if_pos ⟨h1, h2⟩, if_neg h3]
  · rw [Bool.eq_false_iff.mpr h2]; exact hbad (fun h => h2 h.2)
end Go.Proofs.YtkkcpgahgehedaaDoor.PPath
namespace Go.Proofs.YtkkcpgahgehedaaDoor.Pure
open Go.RowKit Go.Proofs.YtkkcpgahgehedaaDoor.PPath Go.Proofs.YtkkcpgahgehedaaDoorW.PrintWords Go.Proofs.YtkkcpgahgehedaaDoor.Aid
theorem FnExactJoinPath : laws_FnExactJoinPath.Pure := by
  intro d s hd hs
  refine Ev.rounds (r := true) ?_
  unfold laws_FnExactJoinPath.f
  refine ev_ite (fun _ => Ev.now _) (fun h => ev_ite (fun _ => Ev.now _) (fun h' => ?_))
  refine ev_bind (spec_JoinPath.is d s (by omega) (by omega)) (ev_bind (impl_JoinPath.is d s) ?_)
  exact ev_pos rfl (ev_neg (by rw [bne_self_eq_false]; exact Bool.false_ne_true) (Ev.now _))
end Go.Proofs.YtkkcpgahgehedaaDoor.Pure

