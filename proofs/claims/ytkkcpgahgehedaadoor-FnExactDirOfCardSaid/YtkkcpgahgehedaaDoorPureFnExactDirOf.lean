/- DirOf of the program and of the reference agree at every text: no condition. -/
import Derived.Test.YtkkcpgahgehedaaDoorPathC
namespace Go.Proofs.YtkkcpgahgehedaaDoor.PPath
open Go.RowKit Go.Proofs.YtkkcpgahgehedaaDoorW.PrintWords Go.Proofs.YtkkcpgahgehedaaDoorW.PrintLast Go.Proofs.YtkkcpgahgehedaaDoorW.PrintMore Go.Proofs.YtkkcpgahgehedaaDoor.Aid
/-- What DirOf tells. -/
def dirR (s : ByteArray) : ByteArray × Bool := if pathB s = true ∧ (lastT (cl s)).toList ≠ [] then (cleanText (wh s) (cl s).dropLast, true) else (⟨#[]⟩, false)
theorem spec_l2Dir.is {s : ByteArray} (h : pathB s = true) (hl : cl s ≠ []) : Ev (fun k => spec_l2Dir.f k s) (cleanText (wh s) (cl s).dropLast) := by
  obtain ⟨h1, h2⟩ := pathB_size h
  have hz := cl_length s
  have hpos : 0 < (cl s).length := List.length_pos_iff.mpr hl
  refine ev_bind (spec_l2Clean.is s h1 (by omega)) ?_
  rw [wrap_id (by omega) (by omega), show (cl s).take ((cl s).length - 1 : Int).toNat = (cl s).dropLast by rw [List.dropLast_eq_take, show (((cl s).length : Int) - 1).toNat = (cl s).length - 1 by omega]]
  refine ev_pos (by omega) (ev_pos (by omega) ?_)
  refine ev_bind (spec_l2Of.is _ (by rw [List.length_dropLast]; omega) (fun p hp => by have := cl_size ((List.dropLast_sublist _).subset hp); omega)) (ev_pos (by omega) (ev_ite (fun hw => ?_) (fun hw => ?_)))
  · have hwh : wh s = true := by unfold wh; rw [hw]; rfl
    exact ev_some (by unfold cleanText; rw [if_pos hwh])
  · have hwh : wh s = false := by unfold wh; simpa using hw
    rw [hwh]
    refine ev_ite (fun h' => ?_) (fun h' => ?_)
    · have hn : (cl s).dropLast = [] := List.eq_nil_of_length_eq_zero (by rw [List.length_dropLast]; omega)
      exact ev_some (by unfold cleanText; rw [if_neg (by simp), if_pos hn]; rfl)
    · refine ev_pos (by have := pathText_size (cl s).dropLast; omega) (ev_some ?_)
      have hn : (cl s).dropLast ≠ [] := fun e => by
        have := congrArg List.length e
        rw [List.length_dropLast, List.length_nil] at this; omega
      unfold cleanText; rw [if_neg (by simp), if_neg hn, pathText_rest]
theorem lastT_nil : lastT [] = ⟨#[]⟩ := rfl
theorem spec_DirOf.is (s : ByteArray) (hs : s.size < 4294967281) : Ev (fun k => spec_DirOf.f k s) (dirR s) := by
  refine ev_bind (spec_l2Path.is s hs) (ev_ite (fun h => ?_) (fun h => ev_some (by unfold dirR; rw [if_neg (fun h' => h h'.1)])))
  refine ev_bind (spec_l2Last.is h) (ev_ite (fun h2 => ?_) (fun h2 => ?_))
  · exact ev_some (by unfold dirR; rw [if_neg (fun h' => h'.2 h2)])
  · exact ev_bind (spec_l2Dir.is h (fun e => h2 (by rw [e, lastT_nil, nil_toList]))) (ev_some (by unfold dirR; rw [if_pos ⟨h, h2⟩]))
theorem lastT_snoc' (init : List ByteArray) (p : ByteArray) : lastT (init ++ [p]) = if dots p then ⟨#[]⟩ else p := by
  unfold lastT; rw [List.getLast?_append]; rfl
theorem impl_DirOf.is (s : ByteArray) : Ev (fun k => impl_DirOf.f k s) (dirR s) := by
  by_cases h : pathB s = true
  · obtain ⟨h1, h2⟩ := pathB_size h
    rcases List.eq_nil_or_concat (cl s) with e | ⟨init, p, e⟩
    · obtain ⟨x, y, hc⟩ := cut_empty h e
      refine ev_bind hc (ev_neg (by simp) (ev_some ?_))
      unfold dirR; rw [if_neg]; rw [e]; exact fun h' => h'.2 nil_toList
    · rw [List.concat_eq_append] at e
      have hp : Part p := parts_part (cl_mem (s := s) (p := p) (by rw [e]; simp)).1
      have hn := nameB_cl h (p := p) (by rw [e]; simp)
      have hne : init ≠ [] → joinL init ≠ [] := fun hi => by
        cases init with
        | nil => exact absurd rfl hi
        | cons q qs => exact joinL_ne (parts_part (cl_mem (s := s) (p := q) (by rw [e]; simp)).1).2
      refine ev_bind (cut_good h e) ?_
      unfold dirR
      rw [e, lastT_snoc', hn, List.dropLast_concat]
      by_cases hd : dots p
      · refine ev_neg (by simp [hd]) (ev_some ?_)
        rw [if_pos hd, if_neg (fun h' => h'.2 nil_toList)]
      · refine ev_pos (by simp [hd]) ?_
        rw [if_neg hd, if_pos (show pathB s = true ∧ p.toList ≠ [] from ⟨h, hp.2⟩)]
        simp only [toList_mk]
        refine ev_ite (fun h3 => ?_) (fun h3 => ?_)
        · have hi : init = [] := Decidable.byContradiction fun hi => by
            unfold dirL at h3
            rw [if_neg hi] at h3
            split at h3
            · cases h3
            · exact hne hi h3
          subst hi
          refine ev_pos (by omega) (ev_ite (fun hw => ?_) (fun hw => ?_))
          · have hwh : wh s = true := by unfold wh; rw [hw]; rfl
            exact ev_some (by unfold cleanText; rw [if_pos hwh]; rfl)
          · have hwh : wh s = false := by unfold wh; simpa using hw
            exact ev_some (by unfold cleanText; rw [hwh, if_neg (by simp), if_pos rfl]; rfl)
        · have hi : init ≠ [] := fun hi => h3 (by unfold dirL; rw [if_pos hi])
          refine ev_some ?_
          unfold dirL cleanText
          rw [if_neg hi, if_neg hi]
          split <;> rfl
  · refine ev_bind (a := (⟨#[]⟩, ⟨#[]⟩, false)) (ev_bind (impl_GoodPath.is s) (ev_neg h (Ev.now _))) (ev_neg (by simp) (ev_some ?_))
    unfold dirR; rw [if_neg (fun h' => h h'.1)]
end Go.Proofs.YtkkcpgahgehedaaDoor.PPath
namespace Go.Proofs.YtkkcpgahgehedaaDoor.Pure
open Go.RowKit Go.Proofs.YtkkcpgahgehedaaDoor.PPath Go.Proofs.YtkkcpgahgehedaaDoorW.PrintWords Go.Proofs.YtkkcpgahgehedaaDoor.Aid
theorem FnExactDirOf : laws_FnExactDirOf.Pure := by
  intro s hs
  refine Ev.rounds (r := true) ?_
  unfold laws_FnExactDirOf.f
  refine ev_ite (fun _ => Ev.now _) (fun h => ?_)
  refine ev_bind (spec_DirOf.is s (by omega)) (ev_bind (impl_DirOf.is s) ?_)
  exact ev_pos rfl (ev_neg (by rw [bne_self_eq_false]; exact Bool.false_ne_true) (Ev.now _))
end Go.Proofs.YtkkcpgahgehedaaDoor.Pure

