/- What the program's and the reference's functions on names tell. -/
import Derived.Test.YtkkcpgahgehedaaPFormx3
import Derived.Test.YtkkcpgahgehedaaPathM
import Derived.Test.YtkkcpgahgehedaaForm
namespace Go.Proofs.Ytkkcpgahgehedaa.PForm
open Go.RowKit Go.Proofs.YtkkcpgahgehedaaW.PrintWords Go.Proofs.YtkkcpgahgehedaaW.PrintLast Go.Proofs.YtkkcpgahgehedaaW.PrintMore Go.Proofs.Ytkkcpgahgehedaa.Aid

theorem impl_within.is (n a b : Int) : impl_within.f n a b = some (decide (a ≤ n ∧ n ≤ b)) := by
  unfold impl_within.f
  by_cases h : n ≥ a
  · rw [if_pos h]; simp [show a ≤ n from h]
  · rw [if_neg h]; simp [show ¬ a ≤ n from h]
theorem spec_l1In.is (n a b : Int) : spec_l1In.f n a b = some (decide (a ≤ n ∧ n ≤ b)) := by
  unfold spec_l1In.f
  by_cases h : n ≥ a
  · rw [if_pos h]; simp [show a ≤ n from h]
  · rw [if_neg h]; simp [show ¬ a ≤ n from h]
theorem impl_isNameByte.is (c : Int) : impl_isNameByte.f c = some (nb c) := by
  unfold impl_isNameByte.f nb
  by_cases h : nbP c
  · rw [decide_eq_true h]
    unfold nbP at h
    repeat' split
    all_goals first | rfl | (congr 1; simp; omega) | (exfalso; omega)
  · rw [decide_eq_false h]
    unfold nbP at h
    repeat' split
    all_goals first | rfl | (congr 1; simp; omega) | (exfalso; omega)
theorem impl_isPart_1.is (c : Int) : impl_isPart_1.f c = some (!nb c) := by
  unfold impl_isPart_1.f
  rw [impl_isNameByte.is]; rfl

theorem spec_l2Name.round (k : Nat) (s : ByteArray) (i : Int) (h0 : 0 ≤ i) (h1 : i < (s.size : Int)) :
    spec_l2Name.l0 (k + 1) s i = if nb (bt s i) = true then spec_l2Name.l0 k s (wrap64 (i + 1)) else some false := by
  rw [spec_l2Name.l0]
  rw [if_pos h1, if_pos h0]
  generalize bt s i = c
  generalize spec_l2Name.l0 k s (wrap64 (i + 1)) = R
  by_cases h : nbP c
  · rw [show nb c = true from decide_eq_true h]
    simp only [if_true]
    unfold nbP at h
    repeat' split
    all_goals first | rfl | (exfalso; omega)
  · rw [show nb c = false from decide_eq_false h]
    simp only [Bool.false_eq_true, if_false]
    unfold nbP at h
    repeat' split
    all_goals first | rfl | (exfalso; omega)
theorem spec_l2Name.loop (s : ByteArray) (hs : s.size ≤ 9223372036854775807) (d : Nat) : ∀ i : Int, 0 ≤ i → i ≤ s.size → (s.size : Int) - i = d →
    Ev (fun k => spec_l2Name.l0 k s i) (((bytesOf s).drop i.toNat).all nb && (decide (1 ≤ s.size ∧ s.size ≤ 8) && !dotsB s)) := by
  induction d with
  | zero =>
    intro i h0 h1 hd
    refine Ev.step (fun k => by rw [spec_l2Name.l0, if_neg (by omega), spec_l1In.is]) ?_
    rw [drop_all s i (by omega)]
    simp only [Option.bind_some, List.all_nil, Bool.true_and, decide_eq_true_eq]
    unfold dotsB
    refine ev_ite (fun h => ?_) (fun h => ?_)
    · rw [decide_eq_true (show 1 ≤ s.size ∧ s.size ≤ 8 by omega)]
      refine ev_ite (fun h => ?_) (fun h => ?_)
      · exact ev_some (by simp [h])
      · exact ev_some (by simp [h, bne])
    · exact ev_some (by rw [decide_eq_false (show ¬ (1 ≤ s.size ∧ s.size ≤ 8) by omega)]; rfl)
  | succ d ih =>
    intro i h0 h1 hd
    have hlt : i < (s.size : Int) := by omega
    refine Ev.step (fun k => spec_l2Name.round k s i h0 hlt) ?_
    rw [drop_bytes s i h0 hlt, List.all_cons, wrap_id (by omega) (by omega)]
    refine ev_ite (fun h => ?_) (fun h => ?_)
    · refine ev_eq (ih (i + 1) (by omega) (by omega) (by omega)) (by rw [h]; rfl)
    · exact ev_some (by rw [Bool.eq_false_iff.mpr h]; rfl)
theorem spec_l2Name.is (s : ByteArray) (hs : s.size ≤ 9223372036854775807) : Ev (fun k => spec_l2Name.f k s) (nameB s) := by
  refine ev_eq (spec_l2Name.loop s hs s.size 0 (by omega) (by omega) (by omega)) ?_
  unfold nameB partB
  show ((bytesOf s).all nb && _) = _
  cases decide (1 ≤ s.size ∧ s.size ≤ 8) <;> cases (bytesOf s).all nb <;> rfl
theorem indexName.loop (l : List Int) (hl : l.length ≤ 9223372036854775807) (d : Nat) : ∀ i : Int, 0 ≤ i → i ≤ l.length → (l.length : Int) - i = d →
    ∃ r : Int, Ev (fun k => slices_IndexFunc_byte_byte__impl_isPart_1.l0 k l (l.length : Int) i) r ∧ decide (r ≥ 0) = !(l.drop i.toNat).all nb := by
  induction d with
  | zero =>
    intro i h0 h1 hd
    refine ⟨-1, Ev.step (fun k => by rw [slices_IndexFunc_byte_byte__impl_isPart_1.l0, if_neg (by omega)]) (Ev.now _), ?_⟩
    rw [show l.drop i.toNat = [] by rw [List.drop_eq_nil_iff]; omega]; rfl
  | succ d ih =>
    intro i h0 h1 hd
    have hlt : i < (l.length : Int) := by omega
    have hstep : ∀ k, slices_IndexFunc_byte_byte__impl_isPart_1.l0 (k + 1) l (l.length : Int) i = if (!nb (rd l i)) = true then some i else slices_IndexFunc_byte_byte__impl_isPart_1.l0 k l (l.length : Int) (i + 1) := fun k => by
      rw [slices_IndexFunc_byte_byte__impl_isPart_1.l0, if_pos hlt, if_pos h0, if_pos hlt, impl_isPart_1.is, wrap_id (by omega) (by omega)]; rfl
    rw [drop_list l 0 i h0 hlt, List.all_cons]
    show ∃ r, _ ∧ decide (r ≥ 0) = !(nb (rd l i) && _)
    cases hb : nb (rd l i) with
    | false => exact ⟨i, Ev.step hstep (ev_pos (by rw [hb]; rfl) (Ev.now _)), by simp [h0]⟩
    | true =>
      obtain ⟨r, h, e⟩ := ih (i + 1) (by omega) (by omega) (by omega)
      exact ⟨r, Ev.step hstep (ev_neg (by rw [hb]; simp) h), by rw [e]; rfl⟩
theorem impl_isPart.is (s : ByteArray) : Ev (fun k => impl_isPart.f k s) (partB s) := by
  unfold impl_isPart.f partB
  refine ev_bind0 (impl_within.is _ _ _) ?_
  refine ev_ite (fun h => ?_) (fun h => ?_)
  · have h' : 1 ≤ s.size ∧ s.size ≤ 8 := by simp at h; omega
    obtain ⟨r, hr, e⟩ := indexName.loop (bytesOf s) (by rw [bytesOf_length]; omega) s.size 0 (by omega) (by rw [bytesOf_length]; omega) (by rw [bytesOf_length]; omega)
    refine ev_bind (a := decide (r ≥ 0)) (ev_bind hr (Ev.now _)) ?_
    refine ev_some ?_
    rw [e, decide_eq_true h']; simp
  · refine ev_some ?_
    have h' : ¬ (1 ≤ s.size ∧ s.size ≤ 8) := by simp at h; omega
    rw [decide_eq_false h']; rfl
end Go.Proofs.Ytkkcpgahgehedaa.PForm

