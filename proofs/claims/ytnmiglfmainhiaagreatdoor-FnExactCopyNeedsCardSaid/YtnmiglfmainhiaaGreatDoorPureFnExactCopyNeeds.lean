/- CopyNeeds of the program and of the reference agree at every file system: no condition. -/
import Derived.Test.YtnmiglfmainhiaaGreatDoorNb
import Derived.Test.YtnmiglfmainhiaaGreatDoorPNbx17
namespace Go.Proofs.YtnmiglfmainhiaaGreatDoor.PNb
open Go.RowKit Go.Proofs.YtnmiglfmainhiaaGreatDoorW.PrintWords Go.Proofs.YtnmiglfmainhiaaGreatDoorW.PrintLast Go.Proofs.YtnmiglfmainhiaaGreatDoorW.PrintMore Go.Proofs.YtnmiglfmainhiaaGreatDoor.Aid
set_option linter.unusedVariables false
set_option linter.unusedSimpArgs false
theorem spec_needs_loop (ns : List S74) (room : Int) (hn' : ns.length ≤ 1048576) (hs : ∀ v ∈ ns, Small1 v) (l : List Int) (hl : l.length ≤ 1048576) (hb : ∀ x ∈ l, 0 ≤ x ∧ x < (ns.length : Int)) (d : Nat) : ∀ (j s : Int), 0 ≤ j → j ≤ l.length → (l.length : Int) - j = d → 0 ≤ s → s + 1048577 * (d : Int) ≤ 4611686018427387904 → Ev (fun k => spec_l10Needs.l0 k j s l (l.length : Int) j ns room) ((l.length : Int), s + szL ns 0 (l.drop j.toNat)) := by
  induction d with
  | zero =>
    intro j s h0 hj hd hs0 hs1
    rw [List.drop_eq_nil_iff.mpr (by omega)]
    exact Ev.step (fun k => by rw [spec_l10Needs.l0, if_neg (by omega)]) (ev_some (by rw [show j = (l.length : Int) by omega]; simp [szL]))
  | succ d ih =>
    intro j s h0 hj hd hs0 hs1
    have hlt : j < (l.length : Int) := by omega
    have hx := hb _ (rdI_mem l j h0 hlt)
    have hz := (hs _ (nd_mem ns _ hx.1 hx.2)).1
    rw [rdI_drop l j h0 hlt, szL]
    refine Ev.step (fun k => by rw [spec_l10Needs.l0, if_pos hlt, if_pos h0, if_pos hlt, if_pos hx.1, if_pos hx.2, wrap_id (x := s + _) (by omega) (by omega), wrap_id (x := j + 1) (by omega) (by omega)]) ?_
    exact ev_eq (ih (j + 1) _ (by omega) (by omega) (by omega) (by omega) (by omega)) (by rw [Int.zero_add, Int.add_assoc])
theorem impl_needs_loop (ns : List S74) (room : Int) (hn' : ns.length ≤ 1048576) (hs : ∀ v ∈ ns, Small1 v) (l : List Int) (hl : l.length ≤ 1048576) (hb : ∀ x ∈ l, 0 ≤ x ∧ x < (ns.length : Int)) (d : Nat) : ∀ (j s : Int), 0 ≤ j → j ≤ l.length → (l.length : Int) - j = d → 0 ≤ s → s + 1048577 * (d : Int) ≤ 4611686018427387904 → Ev (fun k => impl_CopyNeeds.l0 k l s l (l.length : Int) j ns room) ((l.length : Int), s + szL ns 0 (l.drop j.toNat), true) := by
  induction d with
  | zero =>
    intro j s h0 hj hd hs0 hs1
    rw [List.drop_eq_nil_iff.mpr (by omega)]
    exact Ev.step (fun k => by rw [impl_CopyNeeds.l0, if_neg (by omega)]) (ev_some (by simp [szL]))
  | succ d ih =>
    intro j s h0 hj hd hs0 hs1
    have hlt : j < (l.length : Int) := by omega
    have hx := hb _ (rdI_mem l j h0 hlt)
    have hz := (hs _ (nd_mem ns _ hx.1 hx.2)).1
    rw [rdI_drop l j h0 hlt, szL]
    refine Ev.step (fun k => by rw [impl_CopyNeeds.l0, if_pos hlt, if_pos h0, if_pos hlt, if_pos hx.1, if_pos hx.2, wrap_id (x := s + _) (by omega) (by omega), wrap_id (x := j + 1) (by omega) (by omega)]) ?_
    exact ev_eq (ih (j + 1) _ (by omega) (by omega) (by omega) (by omega) (by omega)) (by rw [Int.zero_add, Int.add_assoc])
theorem CopyNeeds.same (ns : List S74) (room a : Int) (hn' : ns.length ≤ 1048576) (hs : ∀ v ∈ ns, Small1 v) : ∃ (u v : Int) (b : Bool), Ev (fun k => spec_CopyNeeds.f k ns room a) (u, v, b) ∧ Ev (fun k => impl_CopyNeeds.f k ns room a) (u, v, b) := by
  rcases nodes_at ns room a hn' hs with ⟨h1, h2⟩ | ⟨h1, h2, l, h3, h4, hl, hb⟩
  · exact ⟨0, 0, false, ev_bind h1 (ev_neg (by simp) (Ev.now _)), ev_bind h2 (ev_neg (by simp) (Ev.now _))⟩
  · have e1 := spec_needs_loop ns room hn' hs l (by omega) hb l.length 0 0 (by omega) (by omega) (by omega) (by omega) (by omega)
    have e2 := impl_needs_loop ns room hn' hs l (by omega) hb l.length 0 0 (by omega) (by omega) (by omega) (by omega) (by omega)
    rw [show (0 : Int).toNat = 0 from rfl, List.drop_zero, Int.zero_add] at e1 e2
    exact ⟨(l.length : Int), szL ns 0 l, true, ev_bind h1 (ev_pos rfl (ev_bind (g := fun k => spec_l10Needs.f k ns room a) (ev_bind h3 e1) (Ev.now _))), ev_bind h2 (ev_pos rfl (ev_bind h4 e2))⟩
end Go.Proofs.YtnmiglfmainhiaaGreatDoor.PNb
namespace Go.Proofs.YtnmiglfmainhiaaGreatDoor.Pure
open Go.RowKit Go.Proofs.YtnmiglfmainhiaaGreatDoor.PNb Go.Proofs.YtnmiglfmainhiaaGreatDoorW.PrintWords Go.Proofs.YtnmiglfmainhiaaGreatDoor.Aid
theorem FnExactCopyNeeds : laws_FnExactCopyNeeds.Pure := by
  intro a n x ha hn hx
  refine Ev.rounds (r := true) ?_
  unfold laws_FnExactCopyNeeds.f
  obtain ⟨r, hr, e⟩ := laws_szFs.is a n ha.1 (fun x hx => ⟨(ha.2 x hx).2.2.2.2.2.1, (ha.2 x hx).2.2.2.2.2.2.1, fun y hy => ((ha.2 x hx).2.2.2.2.2.2.2 y hy).1⟩) 1048576 (by omega) (by omega)
  rcases e with e | ⟨e1, e2, e3, e4⟩
  · exact ev_bind hr (ev_pos e (Ev.now _))
  refine ev_bind hr (ev_neg (by omega) ?_)
  have ta := laws_toFs.is a n e3 e4
  have oa := nodC_ok e4
  have sa := small_of e4
  have la : (a.map nodC).length ≤ 1048576 := by rw [List.length_map]; omega
  generalize a.map nodC = A at ta oa sa la
  obtain ⟨u, v, b, hs, ht⟩ := CopyNeeds.same A n x la sa
  refine ev_bind ta (ev_bind hs (ev_bind ta (ev_bind ht (ev_pos rfl (ev_pos rfl ?_)))))
  show Ev (fun k => laws_FnExactCopyNeeds.j0 k (b != b) a n A n) true
  rw [bne_self_eq_false]
  exact Ev.step (fun k => by rw [laws_FnExactCopyNeeds.j0, if_neg (by decide)]) (ev_bind ta (ev_bind (laws_eqFs.same A n (by omega) oa) (ev_pos rfl (Ev.now _))))
end Go.Proofs.YtnmiglfmainhiaaGreatDoor.Pure

