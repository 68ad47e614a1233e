/- Good decks: what the program's and the reference's functions tell. -/
import Derived.Test.YtehgojpiahmalaaIntHar
namespace Go.Proofs.Ytehgojpiahmalaa.PStl
open Go.RowKit Go.Proofs.YtehgojpiahmalaaW.PrintWords Go.Proofs.YtehgojpiahmalaaW.PrintLast Go.Proofs.YtehgojpiahmalaaW.PrintMore Go.Proofs.Ytehgojpiahmalaa.Aid Go.Proofs.Ytehgojpiahmalaa.Loops Go.Proofs.Ytehgojpiahmalaa.Put
set_option linter.unusedSimpArgs false
set_option linter.unusedVariables false
structure deckOk (d : List (List Int)) : Prop where
  few : d.length ≤ 1048576
  short : ∀ e ∈ d, e.length ≤ 1048576
def good (d : List (List Int)) : Prop := (1 ≤ d.length ∧ d.length ≤ 8) ∧ d.flatten.length ≤ 60 ∧ (∀ x ∈ d.flatten, 0 ≤ x ∧ x ≤ 999) ∧ d.flatten.Nodup
theorem flat_le : ∀ {d : List (List Int)}, (∀ e ∈ d, e.length ≤ 1048576) → d.flatten.length ≤ d.length * 1048576
  | [], _ => by simp
  | a :: d, h => by
    have := flat_le (d := d) (fun e he => h e (List.mem_cons_of_mem _ he))
    have := h a List.mem_cons_self
    rw [List.flatten_cons, List.length_append, List.length_cons]; omega
theorem deckOk.flat {d : List (List Int)} (h : deckOk d) : d.flatten.length ≤ 1099511627776 := by
  have := flat_le h.short
  have h2 : d.length * 1048576 ≤ 1048576 * 1048576 := Nat.mul_le_mul_right _ h.few
  omega
theorem L_drop (l : List (List Int)) (i : Int) (h0 : 0 ≤ i) (h1 : i < (l.length : Int)) : l.drop i.toNat = rd_L1 l i :: l.drop (i + 1).toNat := drop_list l [] i h0 h1
theorem L_mem (l : List (List Int)) (i : Int) (h0 : 0 ≤ i) (h1 : i < (l.length : Int)) : rd_L1 l i ∈ l := getD_mem l [] i h0 h1
theorem spec_l12Good.row (x0 d row met : List Int) (D X : List (List Int)) (m i : Int) (r : Bool) (hrow : row.length ≤ 1048576) (e : Nat) : ∀ (met : List Int) (n j : Int), 0 ≤ j → j ≤ row.length → (row.length : Int) - j = e → met.length + row.length ≤ 4398046511104 + j → 0 ≤ n → n + row.length ≤ 4398046511104 + j →
    Ev (fun k => spec_l12Good.l0 k X (putEach (row.drop j.toNat) met) (n + (row.length - j)) D m (i + 1)) r → 0 ≤ i → i < 4398046511104 →
    Ev (fun k => spec_l12Good.l1 k X met n D m i row (row.length : Int) j) r := by
  induction e with
  | zero =>
    intro met n j h0 h1 hd hm hn hn2 h hi0 hi
    have e1 : row.drop j.toNat = [] := List.drop_eq_nil_iff.mpr (by omega)
    rw [e1] at h
    refine Ev.step (fun k => by rw [spec_l12Good.l1, if_neg (by omega), wrap_id (by omega) (by omega)]) ?_
    rw [show n + ((row.length : Int) - j) = n by omega] at h
    exact h
  | succ e ih =>
    intro met n j h0 h1 hd hm hn hn2 h hi0 hi
    have hlt : j < (row.length : Int) := by omega
    rw [rd_drop row j h0 hlt] at h
    have hp := @put_length_le (rd row j) met
    refine Ev.step (fun k => by rw [spec_l12Good.l1, if_pos hlt, if_pos h0, if_pos hlt]) (ev_bind (spec_l1Put.is met (rd row j) (by omega)) ?_)
    rw [wrap_id (by omega) (by omega), wrap_id (by omega) (by omega)]
    refine ih _ (n + 1) (j + 1) (by omega) (by omega) (by omega) (by omega) (by omega) (by omega) ?_ hi0 hi
    rw [show n + 1 + ((row.length : Int) - (j + 1)) = n + ((row.length : Int) - j) by omega]
    exact h
theorem spec_l12Good.loop (X D : List (List Int)) (hX : X.length ≤ 1048576) (hD : deckOk D) (e : Nat) : ∀ (met : List Int) (n i : Int), 0 ≤ i → i ≤ D.length → (D.length : Int) - i = e → Rising met → (met.length : Int) ≤ i * 1048576 → 0 ≤ n → n ≤ i * 1048576 →
    ∃ r, Ev (fun k => spec_l12Good.l0 k X met n D (D.length : Int) i) r ∧ (r = true ↔ (∀ x ∈ (D.drop i.toNat).flatten, 0 ≤ x ∧ x ≤ 999) ∧ (1 ≤ X.length ∧ X.length ≤ 8) ∧ n + ((D.drop i.toNat).flatten.length : Int) ≤ 60 ∧ ((putEach (D.drop i.toNat).flatten met).length : Int) = n + ((D.drop i.toNat).flatten.length : Int)) := by
  induction e with
  | zero =>
    intro met n i h0 h1 hd hr hm hn hn2
    have e1 : D.drop i.toNat = [] := List.drop_eq_nil_iff.mpr (by omega)
    rw [e1]
    obtain ⟨b, hb, eb⟩ := spec_l1In.is' (X.length : Int) 1 8
    have hs : ∀ k, spec_l12Good.l0 (k + 1) X met n D (D.length : Int) i = (if b = true then (if n ≤ 60 then (some ((met.length : Int) == n)) else (some false)) else (some false)) := fun k => by rw [spec_l12Good.l0, if_neg (by omega), hb, Option.bind_some]
    cases b with
    | false => exact ⟨false, Ev.step hs (Ev.now _), fun x => (by cases x), fun x => eb.2 (by omega)⟩
    | true =>
      have hb8 := eb.1 rfl
      by_cases h60 : n ≤ 60
      · refine ⟨_, Ev.step hs (ev_pos rfl (ev_pos h60 (Ev.now _))), ?_⟩
        rw [beq_iff_eq]
        simp only [List.flatten_nil, putEach, List.foldl_nil, List.length_nil]
        constructor
        · intro x; exact ⟨fun x hx => (by cases hx), by omega, by omega, by omega⟩
        · rintro ⟨_, _, _, x⟩; omega
      · refine ⟨false, Ev.step hs (ev_pos rfl (ev_neg h60 (Ev.now _))), fun x => (by cases x), fun x => ?_⟩
        have := x.2.2.1
        simp at this; omega
  | succ e ih =>
    intro met n i h0 h1 hd hr hm hn hn2
    have hlt : i < (D.length : Int) := by omega
    have hrow := hD.short _ (L_mem D i h0 hlt)
    have hfew := hD.few
    rw [L_drop D i h0 hlt, List.flatten_cons]
    generalize hrw : rd_L1 D i = row at hrow ⊢
    obtain ⟨b, hb, eb⟩ := spec_l1All.is row 0 999 hrow
    have hs : ∀ k, spec_l12Good.l0 (k + 1) X met n D (D.length : Int) i = (spec_l1All.f k row 0 999).bind fun t => (if t = true then (spec_l12Good.l1 k X met n D (D.length : Int) i row (row.length : Int) 0) else (some false)) := fun k => by rw [spec_l12Good.l0, if_pos hlt, if_pos h0, if_pos hlt, hrw]
    have hi20 : i * 1048576 ≤ 1048576 * 1048576 := Int.mul_le_mul_of_nonneg_right (by omega) (by omega)
    cases b with
    | false =>
      refine ⟨false, Ev.step hs (ev_bind hb (ev_neg (by simp) (Ev.now _))), fun x => (by cases x), fun x => eb.2 fun y hy => x.1 y (List.mem_append.2 (Or.inl hy))⟩
    | true =>
      have hle := @putEach_le row met
      obtain ⟨r, hr', er⟩ := ih (putEach row met) (n + row.length) (i + 1) (by omega) (by omega) (by omega) (putEach_rising hr) (by omega) (by omega) (by omega)
      have hgo := spec_l12Good.row [] [] row [] D X (D.length : Int) i r hrow row.length met n 0 (by omega) (by omega) (by omega) (by omega) (by omega) (by omega) (by
        rw [Int.toNat_zero, List.drop_zero, Int.sub_zero]; exact hr') h0 (by omega)
      refine ⟨r, Ev.step hs (ev_bind hb (ev_pos rfl hgo)), ?_⟩
      rw [er, List.length_append]
      have hpa : putEach (row ++ (D.drop (i + 1).toNat).flatten) met = putEach (D.drop (i + 1).toNat).flatten (putEach row met) := by unfold putEach; rw [List.foldl_append]
      rw [hpa]
      constructor
      · rintro ⟨g1, g2, g3, g4⟩
        refine ⟨fun x hx => ?_, g2, by omega, by omega⟩
        rcases List.mem_append.1 hx with hx | hx
        · exact eb.1 rfl x hx
        · exact g1 x hx
      · rintro ⟨g1, g2, g3, g4⟩
        exact ⟨fun x hx => g1 x (List.mem_append.2 (Or.inr hx)), g2, by omega, by omega⟩
theorem spec_l12Good.is (d : List (List Int)) (h : deckOk d) : ∃ r, Ev (fun k => spec_l12Good.f k d) r ∧ (r = true ↔ good d) := by
  obtain ⟨r, hr, e⟩ := spec_l12Good.loop d d h.few h d.length [] 0 0 (by omega) (by omega) (by omega) List.Pairwise.nil (by simp) (by omega) (by omega)
  refine ⟨r, hr, ?_⟩
  rw [e]
  simp only [Int.toNat_zero, List.drop_zero]
  have hp := putEach_len (l := d.flatten) (met := []) List.Pairwise.nil
  rw [List.length_nil, Nat.add_zero] at hp
  unfold good
  constructor
  · rintro ⟨g1, g2, g3, g4⟩
    exact ⟨g2, by omega, g1, (hp.1 (by omega)).1⟩
  · rintro ⟨g1, g2, g3, g4⟩
    have := hp.2 ⟨g4, by simp⟩
    exact ⟨g3, g1, by omega, by omega⟩
/- the program's -/
theorem slices_Concat_int_int.more (X D : List (List Int)) (hD : deckOk D) (e : Nat) : ∀ (acc : List Int) (i : Int), 0 ≤ i → i ≤ D.length → (D.length : Int) - i = e → (acc.length : Int) ≤ i * 1048576 →
    Ev (fun k => slices_Concat_int_int.l1 k acc D (D.length : Int) i) (acc ++ (D.drop i.toNat).flatten) := by
  induction e with
  | zero =>
    intro acc i h0 h1 hd hm
    refine Ev.step (fun k => by rw [slices_Concat_int_int.l1, if_neg (by omega)]) (ev_some ?_)
    rw [List.drop_eq_nil_iff.mpr (by omega)]; simp
  | succ e ih =>
    intro acc i h0 h1 hd hm
    have hlt : i < (D.length : Int) := by omega
    have hrow := hD.short _ (L_mem D i h0 hlt)
    have hfew := hD.few
    have hi20 : i * 1048576 ≤ 1048576 * 1048576 := Int.mul_le_mul_of_nonneg_right (by omega) (by omega)
    refine Ev.step (fun k => by rw [slices_Concat_int_int.l1, if_pos hlt, if_pos h0, if_pos hlt, if_pos (by omega), wrap_id (by omega) (by omega)]) ?_
    refine ev_eq (ih _ (i + 1) (by omega) (by omega) (by omega) (by rw [List.length_append]; omega)) ?_
    rw [L_drop D i h0 hlt]; simp
theorem slices_Concat_int_int.size (D : List (List Int)) (hD : deckOk D) (e : Nat) : ∀ (n i : Int), 0 ≤ i → i ≤ D.length → (D.length : Int) - i = e → 0 ≤ n → n ≤ i * 1048576 →
    Ev (fun k => slices_Concat_int_int.l0 k D n D (D.length : Int) i) D.flatten := by
  induction e with
  | zero =>
    intro n i h0 h1 hd hn hn2
    have hfew := hD.few
    have hi20 : i * 1048576 ≤ 1048576 * 1048576 := Int.mul_le_mul_of_nonneg_right (by omega) (by omega)
    refine Ev.step (fun k => by rw [slices_Concat_int_int.l0, if_neg (by omega)]) (ev_bind0 (a := []) (by unfold slices_Grow_int_int__nil.f; rw [if_pos (by omega)]) ?_)
    exact ev_eq (slices_Concat_int_int.more D D hD D.length [] 0 (by omega) (by omega) (by omega) (by simp)) (by simp)
  | succ e ih =>
    intro n i h0 h1 hd hn hn2
    have hlt : i < (D.length : Int) := by omega
    have hrow := hD.short _ (L_mem D i h0 hlt)
    have hfew := hD.few
    have hi20 : i * 1048576 ≤ 1048576 * 1048576 := Int.mul_le_mul_of_nonneg_right (by omega) (by omega)
    refine Ev.step (fun k => by rw [slices_Concat_int_int.l0, if_pos hlt, if_pos h0, if_pos hlt, wrap_id (x := n + _) (by omega) (by omega), if_neg (by omega), wrap_id (by omega) (by omega)]) ?_
    exact ih _ (i + 1) (by omega) (by omega) (by omega) (by omega) (by omega)
theorem slices_Concat_int_int.is (D : List (List Int)) (hD : deckOk D) : Ev (fun k => slices_Concat_int_int.f k D) D.flatten := slices_Concat_int_int.size D hD D.length 0 0 (by omega) (by omega) (by omega) (by omega) (by omega)
theorem impl_isTask.is (n : Int) : ∃ r, impl_isTask.f n = some r ∧ (r = true ↔ 0 ≤ n ∧ n ≤ 999) := by
  obtain ⟨r, hr, e⟩ := impl_within.is' n 0 999
  exact ⟨r, by unfold impl_isTask.f; rw [hr]; rfl, e⟩
theorem slices_Index_int_int.loop (l : List Int) (n : Int) (hM : l.length ≤ 4398046511104) (e : Nat) : ∀ i : Int, 0 ≤ i → i ≤ l.length → (l.length : Int) - i = e →
    ∃ r, Ev (fun k => slices_Index_int_int.l0 k l n (l.length : Int) i) r ∧ (r ≥ 0 ↔ n ∈ l.drop i.toNat) := by
  induction e with
  | zero =>
    intro i h0 h1 hd
    refine ⟨-1, Ev.step (fun k => by rw [slices_Index_int_int.l0, if_neg (by omega)]) (Ev.now _), ?_⟩
    rw [List.drop_eq_nil_iff.mpr (by omega)]; simp
  | succ e ih =>
    intro i h0 h1 hd
    have hlt : i < (l.length : Int) := by omega
    rw [rd_drop l i h0 hlt]
    by_cases hc : n = rd l i
    · exact ⟨i, Ev.step (fun k => by rw [slices_Index_int_int.l0, if_pos hlt, if_pos h0, if_pos hlt, if_pos hc]) (Ev.now _), fun _ => by rw [hc]; exact List.mem_cons_self, fun _ => h0⟩
    · obtain ⟨r, hr, er⟩ := ih (i + 1) (by omega) (by omega) (by omega)
      refine ⟨r, Ev.step (fun k => by rw [slices_Index_int_int.l0, if_pos hlt, if_pos h0, if_pos hlt, if_neg hc, wrap_id (by omega) (by omega)]) hr, ?_⟩
      rw [er, List.mem_cons]
      exact ⟨Or.inr, fun h => h.resolve_left hc⟩
theorem slices_Contains_int_int.is (l : List Int) (n : Int) (hM : l.length ≤ 4398046511104) : ∃ r, Ev (fun k => slices_Contains_int_int.f k l n) r ∧ (r = true ↔ n ∈ l) := by
  obtain ⟨r, hr, e⟩ := slices_Index_int_int.loop l n hM l.length 0 (by omega) (by omega) (by omega)
  refine ⟨_, ev_bind hr (Ev.now _), ?_⟩
  rw [decide_eq_true_iff]; simpa using e
theorem impl_GoodDecks.loop (l : List Int) (hM : l.length ≤ 60) (e : Nat) : ∀ i : Int, 0 ≤ i → i ≤ l.length → (l.length : Int) - i = e →
    ∃ r, Ev (fun k => impl_GoodDecks.l0 k l l (l.length : Int) i) r ∧ (r = true ↔ (∀ x ∈ l.drop i.toNat, 0 ≤ x ∧ x ≤ 999) ∧ (l.drop i.toNat).Nodup ∧ ∀ x ∈ l.drop i.toNat, x ∉ l.take i.toNat) := by
  induction e with
  | zero =>
    intro i h0 h1 hd
    refine ⟨true, Ev.step (fun k => by rw [impl_GoodDecks.l0, if_neg (by omega)]) (Ev.now _), ?_⟩
    rw [List.drop_eq_nil_iff.mpr (by omega)]; simp
  | succ e ih =>
    intro i h0 h1 hd
    have hlt : i < (l.length : Int) := by omega
    obtain ⟨b, hb, eb⟩ := impl_isTask.is (rd l i)
    obtain ⟨c, hc, ec⟩ := slices_Contains_int_int.is (l.take i.toNat) (rd l i) (by rw [List.length_take]; omega)
    have hs : ∀ k, impl_GoodDecks.l0 (k + 1) l l (l.length : Int) i = (if b = true then ((slices_Contains_int_int.f k (l.take i.toNat) (rd l i)).bind fun t => (if t = true then (some false) else (impl_GoodDecks.l0 k l l (l.length : Int) (i + 1)))) else some false) := fun k => by rw [impl_GoodDecks.l0, if_pos hlt, if_pos h0, if_pos hlt, hb, Option.bind_some, if_pos h1, wrap_id (by omega) (by omega)]
    have hdr := rd_drop l i h0 hlt
    have htk := rd_take l i h0 hlt
    rw [hdr]
    cases b with
    | false => exact ⟨false, Ev.step hs (ev_neg (by simp) (Ev.now _)), fun x => (by cases x), fun x => eb.2 (x.1 _ List.mem_cons_self)⟩
    | true =>
      cases c with
      | true => exact ⟨false, Ev.step hs (ev_pos rfl (ev_bind hc (ev_pos rfl (Ev.now _)))), fun x => (by cases x), fun x => absurd (ec.1 rfl) (x.2.2 _ List.mem_cons_self)⟩
      | false =>
        obtain ⟨r, hr, er⟩ := ih (i + 1) (by omega) (by omega) (by omega)
        refine ⟨r, Ev.step hs (ev_pos rfl (ev_bind hc (ev_neg (by simp) hr))), ?_⟩
        have hno : rd l i ∉ l.take i.toNat := fun h => by have := ec.2 h; cases this
        rw [er, htk, List.nodup_cons]
        constructor
        · rintro ⟨g1, g2, g3⟩
          refine ⟨fun x hx => ?_, ⟨fun hm => g3 _ hm (List.mem_append.2 (Or.inr (List.mem_singleton.2 rfl))), g2⟩, fun x hx hxt => ?_⟩
          · rcases List.mem_cons.1 hx with rfl | hx
            · exact eb.1 rfl
            · exact g1 x hx
          · rcases List.mem_cons.1 hx with rfl | hx
            · exact hno hxt
            · exact g3 x hx (List.mem_append.2 (Or.inl hxt))
        · rintro ⟨g1, ⟨g2, g3⟩, g4⟩
          refine ⟨fun x hx => g1 x (List.mem_cons_of_mem _ hx), g3, fun x hx hxt => ?_⟩
          rcases List.mem_append.1 hxt with hxt | hxt
          · exact g4 x (List.mem_cons_of_mem _ hx) hxt
          · rw [List.mem_singleton.1 hxt] at hx; exact g2 hx
theorem impl_GoodDecks.is (d : List (List Int)) (h : deckOk d) : ∃ r, Ev (fun k => impl_GoodDecks.f k d) r ∧ (r = true ↔ good d) := by
  have hc := slices_Concat_int_int.is d h
  obtain ⟨b, hb, eb⟩ := impl_within.is' (d.length : Int) 1 8
  unfold impl_GoodDecks.f good
  cases b with
  | false => exact ⟨false, ev_bind hc (ev_bind0 hb (ev_neg (by simp) (Ev.step (fun k => by rw [impl_GoodDecks.j0, if_pos rfl]) (Ev.now _)))), fun x => (by cases x), fun x => eb.2 (by have := x.1; omega)⟩
  | true =>
    have hb8 := eb.1 rfl
    by_cases h60 : (d.flatten.length : Int) > 60
    · exact ⟨false, ev_bind hc (ev_bind0 hb (ev_pos rfl (Ev.step (fun k => by rw [impl_GoodDecks.j0, if_pos (by simpa using h60)]) (Ev.now _)))), fun x => (by cases x), fun x => absurd x.2.1 (by omega)⟩
    · obtain ⟨r, hr, er⟩ := impl_GoodDecks.loop d.flatten (by omega) d.flatten.length 0 (by omega) (by omega) (by omega)
      refine ⟨r, ev_bind hc (ev_bind0 hb (ev_pos rfl (Ev.step (fun k => by rw [impl_GoodDecks.j0, if_neg (by simpa using h60)]) hr))), ?_⟩
      rw [er]
      simp only [Int.toNat_zero, List.drop_zero, List.take_zero]
      constructor
      · rintro ⟨g1, g2, _⟩; exact ⟨by omega, by omega, g1, g2⟩
      · rintro ⟨_, _, g1, g2⟩; exact ⟨g1, g2, by simp⟩
end Go.Proofs.Ytehgojpiahmalaa.PStl

