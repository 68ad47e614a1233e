/- ParentOf of the program and of the reference agree at every file system: no condition. -/
import Derived.Test.YteffcglgdfhkmaaDoorGood
import Derived.Test.YteffcglgdfhkmaaDoorPFsx17
import Derived.Test.YteffcglgdfhkmaaDoorPFsx18
import Derived.Test.YteffcglgdfhkmaaDoorPFsx19
namespace Go.Proofs.YteffcglgdfhkmaaDoor.PFs
open Go.RowKit Go.Proofs.YteffcglgdfhkmaaDoorW.PrintWords Go.Proofs.YteffcglgdfhkmaaDoorW.PrintLast Go.Proofs.YteffcglgdfhkmaaDoorW.PrintMore Go.Proofs.YteffcglgdfhkmaaDoor.Aid Go.Proofs.YteffcglgdfhkmaaDoor.AllLoop Go.Proofs.YteffcglgdfhkmaaDoor.Loops Go.Proofs.YteffcglgdfhkmaaDoor.Put Go.Proofs.YteffcglgdfhkmaaDoor.Graph
set_option linter.unusedSimpArgs false
set_option linter.unusedVariables false
theorem impl_isGoodAt_is (ns : List S53) (room a : Int) (hn' : ns.length ≤ 1048576) {r : Bool} (hi : Ev (fun k => impl_GoodFs.f k ns room) r) (e : r = true ↔ SpecGood ns room) {q : Bool} (hq : r = true → impl_Fs_isThere.f ns room a = some q) : Ev (fun k => impl_isGoodAt.f k ns room a) (r && q) := by
  unfold impl_isGoodAt.f
  cases r with
  | true => exact ev_bind hi (ev_pos rfl (ev_bind0 (hq rfl) (Ev.now _)))
  | false => exact ev_bind hi (ev_neg (by simp) (Ev.now _))
theorem par_row (ns : List S53) (a i : Int) (l : List S60) (hl : l.length ≤ 1048576) {p : Int} {nm : ByteArray} (hp : Ev (fun k => spec_l3Parent.l0 k a ns (ns.length : Int) (wrap64 (i + 1))) p) (hq : Ev (fun k => impl_Fs_parent.l0 k a ns (ns.length : Int) (wrap64 (i + 1))) (p, nm)) (d : Nat) : ∀ j : Int, 0 ≤ j → j ≤ l.length → (l.length : Int) - j = d →
    ∃ p' nm', Ev (fun k => spec_l3Parent.l1 k a i ns (ns.length : Int) i l (l.length : Int) j) p' ∧ Ev (fun k => impl_Fs_parent.l1 k a i ns (ns.length : Int) i l (l.length : Int) j) (p', nm') := by
  induction d with
  | zero =>
    intro j h0 hj hd
    exact ⟨p, nm, Ev.step (fun k => by rw [spec_l3Parent.l1, if_neg (by omega)]) hp, Ev.step (fun k => by rw [impl_Fs_parent.l1, if_neg (by omega)]) hq⟩
  | succ d ih =>
    intro j h0 hj hd
    have hlt : j < (l.length : Int) := by omega
    have hw : wrap64 (j + 1) = j + 1 := wrap_id (by omega) (by omega)
    by_cases h : (rd_T60 l j).f1 = a
    · exact ⟨i, _, Ev.step (fun k => by rw [spec_l3Parent.l1, if_pos hlt, if_pos h0, if_pos hlt, if_pos h]) (Ev.now _), Ev.step (fun k => by rw [impl_Fs_parent.l1, if_pos hlt, if_pos h0, if_pos hlt, if_pos h]) (Ev.now _)⟩
    · obtain ⟨p', nm', e1, e2⟩ := ih (j + 1) (by omega) (by omega) (by omega)
      exact ⟨p', nm', Ev.step (fun k => by rw [spec_l3Parent.l1, if_pos hlt, if_pos h0, if_pos hlt, if_neg h, hw]) e1, Ev.step (fun k => by rw [impl_Fs_parent.l1, if_pos hlt, if_pos h0, if_pos hlt, if_neg h, hw]) e2⟩
theorem par_all (ns : List S53) (a : Int) (hn' : ns.length ≤ 1048576) (hs : ∀ v ∈ ns, v.f6.length ≤ 1048576) (d : Nat) : ∀ i : Int, 0 ≤ i → i ≤ ns.length → (ns.length : Int) - i = d →
    ∃ p nm, Ev (fun k => spec_l3Parent.l0 k a ns (ns.length : Int) i) p ∧ Ev (fun k => impl_Fs_parent.l0 k a ns (ns.length : Int) i) (p, nm) := by
  induction d with
  | zero =>
    intro i h0 hi hd
    exact ⟨0, _, Ev.step (fun k => by rw [spec_l3Parent.l0, if_neg (by omega)]) (Ev.now _), Ev.step (fun k => by rw [impl_Fs_parent.l0, if_neg (by omega)]) (Ev.now _)⟩
  | succ d ih =>
    intro i h0 hi hd
    have hlt : i < (ns.length : Int) := by omega
    have hw : wrap64 (i + 1) = i + 1 := wrap_id (by omega) (by omega)
    obtain ⟨p, nm, e1, e2⟩ := ih (i + 1) (by omega) (by omega) (by omega)
    obtain ⟨p', nm', e3, e4⟩ := par_row ns a i (rd_T53 ns i).f6 (hs _ (nd_mem ns i h0 hlt)) (by rw [hw]; exact e1) (by rw [hw]; exact e2) (rd_T53 ns i).f6.length 0 (by omega) (by omega) (by omega)
    exact ⟨p', nm', Ev.step (fun k => by rw [spec_l3Parent.l0, if_pos hlt, if_pos h0, if_pos hlt]) e3, Ev.step (fun k => by rw [impl_Fs_parent.l0, if_pos hlt, if_pos h0, if_pos hlt]) e4⟩
theorem ParentOf.same (ns : List S53) (room a : Int) (hn' : ns.length ≤ 1048576) (hs : ∀ v ∈ ns, Small1 v) : ∃ v b, Ev (fun k => spec_ParentOf.f k ns room a) (v, b) ∧ Ev (fun k => impl_ParentOf.f k ns room a) (v, b) := by
  obtain ⟨r, hr, hi, e⟩ := good_both ns room hn' hs
  cases r with
  | false =>
    have h2 := impl_isGoodAt_is ns room a hn' (q := false) hi e (fun h => by cases h)
    exact ⟨0, false, ev_bind hr (ev_neg (by simp) (Ev.now _)), ev_bind h2 (ev_neg (by simp) (Ev.now _))⟩
  | true =>
    have hg := e.1 rfl
    have hn := hg.1.1.1
    obtain ⟨q, hq, eq⟩ := spec_l3Is_same (a := a) hn hn'
    obtain ⟨q', hq', eq'⟩ := impl_Fs_isThere.is ns room a hn hn'
    have e2 : q' = q := by rw [Bool.eq_iff_iff, eq, eq']
    subst e2
    have h2 := impl_isGoodAt_is ns room a hn' hi e (fun _ => hq')
    have h1 : spec_l3Is.f ns room a = some q' := hq
    cases q' with
    | false =>
      have h3 : spec_l3IsDir.f ns room a = some false := by unfold spec_l3IsDir.f; rw [h1]; rfl
      exact ⟨0, false, ev_bind hr (ev_pos rfl (ev_bind0 h3 (ev_neg (by simp) (Ev.now _)))), ev_bind h2 (ev_neg (by simp) (Ev.now _))⟩
    | true =>
      have ha := eq.1 rfl
      have h3 : spec_l3IsDir.f ns room a = some ((rd_T53 ns a).f0 == 2) := by unfold spec_l3IsDir.f; rw [h1, Option.bind_some, if_pos rfl, if_pos ha.1, if_pos ha.2.1]
      have h4 : impl_Fs_isDir.f ns room a = some ((rd_T53 ns a).f0 == 2) := by unfold impl_Fs_isDir.f; rw [if_pos ha.1, if_pos ha.2.1]
      by_cases hd : ((rd_T53 ns a).f0 == 2) = true
      · obtain ⟨p, nm, e5, e6⟩ := par_all ns a hn' (small_lists hs) ns.length 0 (by omega) (by omega) (by omega)
        exact ⟨p, true, ev_bind hr (ev_pos rfl (ev_bind0 h3 (ev_pos hd (ev_bind (g := fun k => spec_l3Parent.f k ns room a) e5 (Ev.now _))))), ev_bind h2 (ev_pos rfl (ev_bind0 h4 (ev_pos hd (ev_bind (g := fun k => impl_Fs_parent.f k ns room a) e6 (Ev.now _)))))⟩
      · exact ⟨0, false, ev_bind hr (ev_pos rfl (ev_bind0 h3 (ev_neg hd (Ev.now _)))), ev_bind h2 (ev_pos rfl (ev_bind0 h4 (ev_neg hd (Ev.now _))))⟩
end Go.Proofs.YteffcglgdfhkmaaDoor.PFs
namespace Go.Proofs.YteffcglgdfhkmaaDoor.Pure
open Go.RowKit Go.Proofs.YteffcglgdfhkmaaDoor.PFs Go.Proofs.YteffcglgdfhkmaaDoorW.PrintWords Go.Proofs.YteffcglgdfhkmaaDoor.Aid
theorem FnExactParentOf : laws_FnExactParentOf.Pure := by
  intro a n x ha hn hx
  refine Ev.rounds (r := true) ?_
  unfold laws_FnExactParentOf.f
  obtain ⟨r, hr, e⟩ := laws_szFs.is a n ha.1 (fun x hx => ⟨(ha.2 x hx).2.2.2.2.2.1, (ha.2 x hx).2.2.2.2.2.2.1, fun y hy => ((ha.2 x hx).2.2.2.2.2.2.2 y hy).1⟩) 1048576 (by omega) (by omega)
  rcases e with e | ⟨e1, e2, e3, e4⟩
  · exact ev_bind hr (ev_pos e (Ev.now _))
  refine ev_bind hr (ev_neg (by omega) ?_)
  have ta := laws_toFs.is a n e3 e4
  have oa := nodC_ok e4
  have sa := small_of e4
  have la : (a.map nodC).length ≤ 1048576 := by rw [List.length_map]; omega
  generalize a.map nodC = A at ta oa sa la
  obtain ⟨v, b, hs, ht⟩ := ParentOf.same A n x la sa
  refine ev_bind ta (ev_bind hs (ev_bind ta (ev_bind ht (ev_pos rfl ?_))))
  show Ev (fun k => laws_FnExactParentOf.j0 k (b != b) a n A n) true
  rw [bne_self_eq_false]
  exact Ev.step (fun k => by rw [laws_FnExactParentOf.j0, if_neg (by decide)]) (ev_bind ta (ev_bind (laws_eqFs.same A n (by omega) oa) (ev_pos rfl (Ev.now _))))
end Go.Proofs.YteffcglgdfhkmaaDoor.Pure

