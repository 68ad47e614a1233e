/- LinksOf of the program and of the reference agree at every file system: no condition. -/
import Derived.Test.YteffcglgdfhkmaaDoorGood
import Derived.Test.YteffcglgdfhkmaaDoorPFsx15
import Derived.Test.YteffcglgdfhkmaaDoorPFsx16
namespace Go.Proofs.YteffcglgdfhkmaaDoor.PFs
open Go.RowKit Go.Proofs.YteffcglgdfhkmaaDoorW.PrintWords Go.Proofs.YteffcglgdfhkmaaDoorW.PrintLast Go.Proofs.YteffcglgdfhkmaaDoorW.PrintMore Go.Proofs.YteffcglgdfhkmaaDoor.Aid Go.Proofs.YteffcglgdfhkmaaDoor.AllLoop Go.Proofs.YteffcglgdfhkmaaDoor.Loops Go.Proofs.YteffcglgdfhkmaaDoor.Put Go.Proofs.YteffcglgdfhkmaaDoor.Graph
set_option linter.unusedSimpArgs false
set_option linter.unusedVariables false
theorem impl_isGoodAt_is (ns : List S53) (room a : Int) (hn' : ns.length ≤ 1048576) {r : Bool} (hi : Ev (fun k => impl_GoodFs.f k ns room) r) (e : r = true ↔ SpecGood ns room) {q : Bool} (hq : r = true → impl_Fs_isThere.f ns room a = some q) : Ev (fun k => impl_isGoodAt.f k ns room a) (r && q) := by
  unfold impl_isGoodAt.f
  cases r with
  | true => exact ev_bind hi (ev_pos rfl (ev_bind0 (hq rfl) (Ev.now _)))
  | false => exact ev_bind hi (ev_neg (by simp) (Ev.now _))
theorem LinksOf.same (ns : List S53) (room a : Int) (hn' : ns.length ≤ 1048576) (hs : ∀ v ∈ ns, Small1 v) : ∃ v b, Ev (fun k => spec_LinksOf.f k ns room a) (v, b) ∧ Ev (fun k => impl_LinksOf.f k ns room a) (v, b) := by
  obtain ⟨r, hr, hi, e⟩ := good_both ns room hn' hs
  cases r with
  | false =>
    have h2 := impl_isGoodAt_is ns room a hn' (q := false) hi e (fun h => by cases h)
    exact ⟨0, false, ev_bind hr (ev_neg (by simp) (Ev.now _)), ev_bind h2 (ev_neg (by simp) (Ev.now _))⟩
  | true =>
    have hg := e.1 rfl
    have hn := hg.1.1.1
    obtain ⟨q, hq, eq⟩ := spec_l3Is_same (a := a) hn hn'
    obtain ⟨q', hq', eq'⟩ := impl_Fs_isThere.is ns room a hn hn'
    have e2 : q' = q := by rw [Bool.eq_iff_iff, eq, eq']
    subst e2
    have h2 := impl_isGoodAt_is ns room a hn' hi e (fun _ => hq')
    have h1 : spec_l3Is.f ns room a = some q' := hq
    cases q' with
    | false => exact ⟨0, false, ev_bind hr (ev_pos rfl (ev_bind0 h1 (ev_neg (by simp) (Ev.now _)))), ev_bind h2 (ev_neg (by simp) (Ev.now _))⟩
    | true =>
      have ha := eq.1 rfl
      obtain ⟨out, ho, hol, hov⟩ := impl_Fs_links.is ns room hn' (small_lists hs) (rows_in hg)
      refine ⟨_, true, ev_bind hr (ev_pos rfl (ev_bind0 h1 (ev_pos rfl (ev_bind (spec_l3Links.is ns room a hn' (small_lists hs)) (Ev.now _))))), ev_bind h2 (ev_pos rfl (ev_bind ho (ev_pos ha.1 (ev_pos (by rw [hol]; exact ha.2.1) (ev_some ?_)))))⟩
      rw [hov a ha.1 ha.2.1]
end Go.Proofs.YteffcglgdfhkmaaDoor.PFs
namespace Go.Proofs.YteffcglgdfhkmaaDoor.Pure
open Go.RowKit Go.Proofs.YteffcglgdfhkmaaDoor.PFs Go.Proofs.YteffcglgdfhkmaaDoorW.PrintWords Go.Proofs.YteffcglgdfhkmaaDoor.Aid
theorem FnExactLinksOf : laws_FnExactLinksOf.Pure := by
  intro a n x ha hn hx
  refine Ev.rounds (r := true) ?_
  unfold laws_FnExactLinksOf.f
  obtain ⟨r, hr, e⟩ := laws_szFs.is a n ha.1 (fun x hx => ⟨(ha.2 x hx).2.2.2.2.2.1, (ha.2 x hx).2.2.2.2.2.2.1, fun y hy => ((ha.2 x hx).2.2.2.2.2.2.2 y hy).1⟩) 1048576 (by omega) (by omega)
  rcases e with e | ⟨e1, e2, e3, e4⟩
  · exact ev_bind hr (ev_pos e (Ev.now _))
  refine ev_bind hr (ev_neg (by omega) ?_)
  have ta := laws_toFs.is a n e3 e4
  have oa := nodC_ok e4
  have sa := small_of e4
  have la : (a.map nodC).length ≤ 1048576 := by rw [List.length_map]; omega
  generalize a.map nodC = A at ta oa sa la
  obtain ⟨v, b, hs, ht⟩ := LinksOf.same A n x la sa
  refine ev_bind ta (ev_bind hs (ev_bind ta (ev_bind ht (ev_pos rfl ?_))))
  show Ev (fun k => laws_FnExactLinksOf.j0 k (b != b) a n A n) true
  rw [bne_self_eq_false]
  exact Ev.step (fun k => by rw [laws_FnExactLinksOf.j0, if_neg (by decide)]) (ev_bind ta (ev_bind (laws_eqFs.same A n (by omega) oa) (ev_pos rfl (Ev.now _))))
end Go.Proofs.YteffcglgdfhkmaaDoor.Pure

