/- BaseOf of the program and of the reference agree at every text: no condition. -/
import Derived.Test.YtkkcpgahgehedaaDoorPathC
namespace Go.Proofs.YtkkcpgahgehedaaDoor.PPath
open Go.RowKit Go.Proofs.YtkkcpgahgehedaaDoorW.PrintWords Go.Proofs.YtkkcpgahgehedaaDoorW.PrintLast Go.Proofs.YtkkcpgahgehedaaDoorW.PrintMore Go.Proofs.YtkkcpgahgehedaaDoor.Aid
/-- What BaseOf tells. -/
def baseR (s : ByteArray) : ByteArray × Bool := if pathB s = true ∧ (lastT (cl s)).toList ≠ [] then (lastT (cl s), true) else (⟨#[]⟩, false)
theorem spec_BaseOf.is (s : ByteArray) (hs : s.size < 4294967281) : Ev (fun k => spec_BaseOf.f k s) (baseR s) := by
  refine ev_bind (spec_l2Path.is s hs) (ev_ite (fun h => ?_) (fun h => ev_some (by unfold baseR; rw [if_neg (fun h' => h h'.1)])))
  refine ev_bind (spec_l2Last.is h) (ev_ite (fun h2 => ?_) (fun h2 => ?_))
  · exact ev_some (by unfold baseR; rw [if_neg (fun h' => h'.2 h2)])
  · exact ev_bind (spec_l2Last.is h) (ev_some (by unfold baseR; rw [if_pos ⟨h, h2⟩]))
theorem lastT_snoc (init : List ByteArray) (p : ByteArray) : lastT (init ++ [p]) = if dots p then ⟨#[]⟩ else p := by
  unfold lastT; rw [List.getLast?_append]; rfl
theorem impl_BaseOf.is (s : ByteArray) : Ev (fun k => impl_BaseOf.f k s) (baseR s) := by
  by_cases h : pathB s = true
  · rcases List.eq_nil_or_concat (cl s) with e | ⟨init, p, e⟩
    · obtain ⟨x, y, hc⟩ := cut_empty h e
      refine ev_bind hc (ev_neg (by simp) (ev_some ?_))
      unfold baseR; rw [if_neg]; rw [e]; exact fun h' => h'.2 nil_toList
    · rw [List.concat_eq_append] at e
      have hp : Part p := parts_part (cl_mem (s := s) (p := p) (by rw [e]; simp)).1
      have hn := nameB_cl h (p := p) (by rw [e]; simp)
      refine ev_bind (cut_good h e) ?_
      unfold baseR
      rw [e, lastT_snoc, hn]
      by_cases hd : dots p
      · refine ev_neg (by simp [hd]) (ev_some ?_)
        rw [if_pos hd, if_neg (fun h' => h'.2 nil_toList)]
      · refine ev_pos (by simp [hd]) (ev_some ?_)
        rw [if_neg hd, if_pos ⟨h, hp.2⟩]
  · refine ev_bind (a := (⟨#[]⟩, ⟨#[]⟩, false)) (ev_bind (impl_GoodPath.is s) (ev_neg h (Ev.now _))) (ev_neg (by simp) (ev_some ?_))
    unfold baseR; rw [if_neg (fun h' => h h'.1)]
end Go.Proofs.YtkkcpgahgehedaaDoor.PPath
namespace Go.Proofs.YtkkcpgahgehedaaDoor.Pure
open Go.RowKit Go.Proofs.YtkkcpgahgehedaaDoor.PPath Go.Proofs.YtkkcpgahgehedaaDoorW.PrintWords Go.Proofs.YtkkcpgahgehedaaDoor.Aid
theorem FnExactBaseOf : laws_FnExactBaseOf.Pure := by
  intro s hs
  refine Ev.rounds (r := true) ?_
  unfold laws_FnExactBaseOf.f
  refine ev_ite (fun _ => Ev.now _) (fun h => ?_)
  refine ev_bind (spec_BaseOf.is s (by omega)) (ev_bind (impl_BaseOf.is s) ?_)
  exact ev_pos rfl (ev_neg (by rw [bne_self_eq_false]; exact Bool.false_ne_true) (Ev.now _))
end Go.Proofs.YtkkcpgahgehedaaDoor.Pure

