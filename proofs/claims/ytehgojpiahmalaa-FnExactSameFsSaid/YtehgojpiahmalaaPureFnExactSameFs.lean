/- SameFs of the program and of the reference agree at every two file systems: no condition. -/
import Derived.Test.YtehgojpiahmalaaFsHar
namespace Go.Proofs.Ytehgojpiahmalaa.PSame
open Go.RowKit Go.Proofs.YtehgojpiahmalaaW.PrintWords Go.Proofs.YtehgojpiahmalaaW.PrintLast Go.Proofs.YtehgojpiahmalaaW.PrintMore Go.Proofs.Ytehgojpiahmalaa.Aid Go.Proofs.Ytehgojpiahmalaa.Loops
theorem ent_bool (x y : S77) : (!((x.f0.toList) == (y.f0.toList)) || (!(x.f1 == y.f1))) = true ↔ ¬ x = y := by
  cases x with | mk a b => cases y with | mk c d =>
  by_cases h : a.toList = c.toList
  · have h' := eq_of_toList h
    by_cases h2 : b = d
    · simp [h2, h']
    · simp [h2]
  · simp [h]
    intro e; exact absurd (by rw [e]) h
theorem impl_Entry.is (a b : List S77) (hM : a.length ≤ 9223372036854775806) : ∃ r, Ev (fun k => impl_Entry.f k a b) r ∧ (r = true ↔ a = b) :=
  eq_all z77 a b hM _ (fun k i => impl_Entry.l0 k a b (a.length : Int) i) (fun _ x y => some (!(!((x.f0.toList) == (y.f0.toList)) || (!(x.f1 == y.f1))))) (fun k => rfl)
    (fun hl k i h0 h1 => by
      show impl_Entry.l0 (k + 1) a b (a.length : Int) i = _
      rw [impl_Entry.l0, if_pos h1, if_pos h0, if_pos h1, if_pos (by omega), Option.bind_some]
      show (if (!(((rd_T77 a i).f0.toList) == ((rd_T77 b i).f0.toList)) || !((rd_T77 a i).f1 == (rd_T77 b i).f1)) = true then some false else _) = if (!(!(((rd_T77 a i).f0.toList) == ((rd_T77 b i).f0.toList)) || !((rd_T77 a i).f1 == (rd_T77 b i).f1))) = true then _ else _
      cases (!(((rd_T77 a i).f0.toList) == ((rd_T77 b i).f0.toList)) || !((rd_T77 a i).f1 == (rd_T77 b i).f1)) <;> rfl)
    (fun k i h => by show impl_Entry.l0 (k + 1) a b (a.length : Int) i = _; rw [impl_Entry.l0, if_neg h])
    (fun x _ y _ => ⟨_, Ev.now _, by rw [Bool.not_eq_true', Bool.eq_false_iff, ne_eq, ent_bool]; exact Classical.not_not⟩)
theorem spec_l3SameNode.list (x y : S68) (hl : x.f6.length = y.f6.length) (hM : x.f6.length ≤ 1048576) (d : Nat) : ∀ i : Int, 0 ≤ i → i ≤ x.f6.length → (x.f6.length : Int) - i = d →
    ∃ r, Ev (fun k => spec_l3SameNode.l0 k (x.f6.length : Int) i x.f0 x.f1 x.f2 x.f3 x.f4 x.f5 x.f6 y.f0 y.f1 y.f2 y.f3 y.f4 y.f5 y.f6) r ∧ (r = true ↔ x.f6.drop i.toNat = y.f6.drop i.toNat ∧ x.f0 = y.f0 ∧ x.f1 = y.f1 ∧ x.f2 = y.f2 ∧ x.f3 = y.f3 ∧ x.f4 = y.f4 ∧ x.f5 = y.f5) := by
  induction d with
  | zero =>
    intro i h0 h1 hd
    have e1 : x.f6.drop i.toNat = [] := List.drop_eq_nil_iff.mpr (by omega)
    have e2 : y.f6.drop i.toNat = [] := List.drop_eq_nil_iff.mpr (by omega)
    rw [e1, e2]
    have hs : ∀ k, spec_l3SameNode.l0 (k + 1) (x.f6.length : Int) i x.f0 x.f1 x.f2 x.f3 x.f4 x.f5 x.f6 y.f0 y.f1 y.f2 y.f3 y.f4 y.f5 y.f6 = (if x.f0 = y.f0 then (if x.f1 = y.f1 then (if x.f2 = y.f2 then (if x.f3 = y.f3 then (if x.f4 = y.f4 then (some (x.f5.toList == y.f5.toList)) else (some false)) else (some false)) else (some false)) else (some false)) else (some false)) := fun k => by rw [spec_l3SameNode.l0, if_neg (by omega)]
    by_cases g0 : x.f0 = y.f0
    rotate_left
    · exact ⟨false, Ev.step hs (ev_neg g0 (Ev.now _)), by simp [g0]⟩
    by_cases g1 : x.f1 = y.f1
    rotate_left
    · exact ⟨false, Ev.step hs (ev_pos g0 (ev_neg g1 (Ev.now _))), by simp [g1]⟩
    by_cases g2 : x.f2 = y.f2
    rotate_left
    · exact ⟨false, Ev.step hs (ev_pos g0 (ev_pos g1 (ev_neg g2 (Ev.now _)))), by simp [g2]⟩
    by_cases g3 : x.f3 = y.f3
    rotate_left
    · exact ⟨false, Ev.step hs (ev_pos g0 (ev_pos g1 (ev_pos g2 (ev_neg g3 (Ev.now _))))), by simp [g3]⟩
    by_cases g4 : x.f4 = y.f4
    rotate_left
    · exact ⟨false, Ev.step hs (ev_pos g0 (ev_pos g1 (ev_pos g2 (ev_pos g3 (ev_neg g4 (Ev.now _)))))), by simp [g4]⟩
    refine ⟨_, Ev.step hs (ev_pos g0 (ev_pos g1 (ev_pos g2 (ev_pos g3 (ev_pos g4 (Ev.now _)))))), ?_⟩
    rw [beq_iff_eq, toList_eq_iff]
    simp [g0, g1, g2, g3, g4]
  | succ d ih =>
    intro i h0 h1 hd
    have hlt : i < (x.f6.length : Int) := by omega
    have hlt' : i < (y.f6.length : Int) := by omega
    obtain ⟨r, hr, e⟩ := ih (i + 1) (by omega) (by omega) (by omega)
    rw [drop_list x.f6 z77 i h0 hlt, drop_list y.f6 z77 i h0 hlt', List.cons.injEq]
    have hb := ent_bool (rd_T77 x.f6 i) (rd_T77 y.f6 i)
    by_cases hc : (!(((rd_T77 x.f6 i).f0.toList) == ((rd_T77 y.f6 i).f0.toList)) || !((rd_T77 x.f6 i).f1 == (rd_T77 y.f6 i).f1)) = true
    · refine ⟨false, Ev.step (fun k => by rw [spec_l3SameNode.l0, if_pos hlt, if_pos h0, if_pos hlt, if_pos hlt', if_pos hc]) (Ev.now _), fun h => (by cases h), fun h => absurd h.1.1 (hb.1 hc)⟩
    · refine ⟨r, Ev.step (fun k => by rw [spec_l3SameNode.l0, if_pos hlt, if_pos h0, if_pos hlt, if_pos hlt', if_neg hc, wrap_id (by omega) (by omega)]) hr, ?_⟩
      have he : rd_T77 x.f6 i = rd_T77 y.f6 i := Classical.not_not.1 (fun h => hc (hb.2 h))
      rw [e]
      exact ⟨fun h => ⟨⟨he, h.1⟩, h.2⟩, fun h => ⟨h.1.2, h.2⟩⟩
theorem node_ext {x y : S68} (h : x.f6 = y.f6 ∧ x.f0 = y.f0 ∧ x.f1 = y.f1 ∧ x.f2 = y.f2 ∧ x.f3 = y.f3 ∧ x.f4 = y.f4 ∧ x.f5 = y.f5) : x = y := by
  cases x; cases y; obtain ⟨h6, h0, h1, h2, h3, h4, h5⟩ := h; simp only at h0 h1 h2 h3 h4 h5 h6; subst h0 h1 h2 h3 h4 h5 h6; rfl
theorem spec_l3SameNode.is (x y : S68) (hx : nodeOk x) : ∃ r, Ev (fun k => spec_l3SameNode.f k x.f0 x.f1 x.f2 x.f3 x.f4 x.f5 x.f6 y.f0 y.f1 y.f2 y.f3 y.f4 y.f5 y.f6) r ∧ (r = true ↔ x = y) := by
  unfold spec_l3SameNode.f
  by_cases h : x.f6.length = y.f6.length
  · obtain ⟨r, hr, e⟩ := spec_l3SameNode.list x y h hx x.f6.length 0 (by omega) (by omega) (by omega)
    refine ⟨r, ev_pos (by omega) hr, ?_⟩
    rw [e]
    simp only [Int.toNat_zero, List.drop_zero]
    exact ⟨node_ext, fun e => by subst e; simp⟩
  · exact ⟨false, ev_neg (by omega) (Ev.now _), fun e => (by cases e), fun e => absurd (by rw [e]) h⟩
theorem impl_SameFs_1.is (x y : S68) (hx : nodeOk x) : ∃ r, Ev (fun k => impl_SameFs_1.f k x.f0 x.f1 x.f2 x.f3 x.f4 x.f5 x.f6 y.f0 y.f1 y.f2 y.f3 y.f4 y.f5 y.f6) r ∧ (r = true ↔ x = y) := by
  cases x with | mk a0 a1 a2 a3 a4 a5 a6 => cases y with | mk b0 b1 b2 b3 b4 b5 b6 =>
  unfold nodeOk at hx
  simp only at hx
  unfold impl_SameFs_1.f
  by_cases h0 : a0 = b0
  rotate_left
  · exact ⟨false, ev_neg h0 (Ev.now _), by simp [h0]⟩
  by_cases h1 : a1 = b1
  rotate_left
  · exact ⟨false, ev_pos h0 (ev_neg h1 (Ev.now _)), by simp [h1]⟩
  by_cases h2 : a2 = b2
  rotate_left
  · exact ⟨false, ev_pos h0 (ev_pos h1 (ev_neg h2 (Ev.now _))), by simp [h2]⟩
  by_cases h3 : a3 = b3
  rotate_left
  · exact ⟨false, ev_pos h0 (ev_pos h1 (ev_pos h2 (ev_neg h3 (Ev.now _)))), by simp [h3]⟩
  by_cases h4 : a4 = b4
  rotate_left
  · exact ⟨false, ev_pos h0 (ev_pos h1 (ev_pos h2 (ev_pos h3 (ev_neg h4 (Ev.now _))))), by simp [h4]⟩
  by_cases h5 : a5.toList = b5.toList
  rotate_left
  · exact ⟨false, ev_pos h0 (ev_pos h1 (ev_pos h2 (ev_pos h3 (ev_pos h4 (ev_neg h5 (Ev.now _)))))), by simp; intro _ _ _ _ _ e; exact absurd (by rw [e]) h5⟩
  obtain ⟨r, hr, e⟩ := impl_Entry.is a6 b6 (by omega)
  have h5' := eq_of_toList h5
  exact ⟨r, ev_pos h0 (ev_pos h1 (ev_pos h2 (ev_pos h3 (ev_pos h4 (ev_pos h5 (ev_bind hr (Ev.now _))))))), by rw [e]; simp [h0, h1, h2, h3, h4, h5']⟩
theorem impl_SameFs.is (a b : List S68) (n m : Int) (hM : a.length ≤ 9223372036854775806) (ha : ∀ x ∈ a, nodeOk x) : ∃ r, Ev (fun k => impl_SameFs.f k a n b m) r ∧ (r = true ↔ a = b ∧ n = m) := by
  unfold impl_SameFs.f
  by_cases h : n = m
  · obtain ⟨r, hr, e⟩ := eq_all z68 a b hM (fun k => impl_Node__impl_SameFs_1.f k a b) (fun k i => impl_Node__impl_SameFs_1.l0 k b a (a.length : Int) i) (fun k x y => impl_SameFs_1.f k x.f0 x.f1 x.f2 x.f3 x.f4 x.f5 x.f6 y.f0 y.f1 y.f2 y.f3 y.f4 y.f5 y.f6) (fun k => rfl)
      (fun hl k i h0 h1 => by show impl_Node__impl_SameFs_1.l0 (k + 1) b a (a.length : Int) i = _; rw [impl_Node__impl_SameFs_1.l0, if_pos h1, if_pos h0, if_pos h1, if_pos (by omega)]; rfl)
      (fun k i h => by show impl_Node__impl_SameFs_1.l0 (k + 1) b a (a.length : Int) i = _; rw [impl_Node__impl_SameFs_1.l0, if_neg h]) (fun x hx y _ => impl_SameFs_1.is x y (ha x hx))
    exact ⟨r, ev_pos h (ev_bind hr (Ev.now _)), by rw [e]; simp [h]⟩
  · exact ⟨false, ev_neg h (Ev.now _), by simp [h]⟩
theorem spec_SameFs.is (a b : List S68) (n m : Int) (hM : a.length ≤ 9223372036854775806) (ha : ∀ x ∈ a, nodeOk x) : ∃ r, Ev (fun k => spec_SameFs.f k a n b m) r ∧ (r = true ↔ a = b ∧ n = m) := by
  unfold spec_SameFs.f
  by_cases hl : a.length = b.length
  · by_cases h : n = m
    · obtain ⟨r, hr, e⟩ := eq_loop z68 a b hl hM (fun k i => spec_SameFs.l0 k (a.length : Int) i a n b m) (fun k x y => spec_l3SameNode.f k x.f0 x.f1 x.f2 x.f3 x.f4 x.f5 x.f6 y.f0 y.f1 y.f2 y.f3 y.f4 y.f5 y.f6)
        (fun k i h0 h1 => by show spec_SameFs.l0 (k + 1) (a.length : Int) i a n b m = _; rw [spec_SameFs.l0, if_pos h1, if_pos h0, if_pos h1, if_pos (by omega)]; rfl)
        (fun k i h => by show spec_SameFs.l0 (k + 1) (a.length : Int) i a n b m = _; rw [spec_SameFs.l0, if_neg h]) (fun x hx y _ => spec_l3SameNode.is x y (ha x hx)) a.length 0 (by omega) (by omega) (by omega)
      refine ⟨r, ev_pos (by omega) (Ev.step (fun k => by rw [spec_SameFs.j0, if_neg (by simp [h])]) hr), by simpa [h] using e⟩
    · exact ⟨false, ev_pos (by omega) (Ev.step (fun k => by rw [spec_SameFs.j0, if_pos (by simp [h])]) (Ev.now _)), by simp [h]⟩
  · refine ⟨false, ev_neg (by omega) (Ev.step (fun k => by rw [spec_SameFs.j0, if_pos rfl]) (Ev.now _)), fun e => (by cases e), fun e => absurd (by rw [e.1]) hl⟩
end Go.Proofs.Ytehgojpiahmalaa.PSame
namespace Go.Proofs.Ytehgojpiahmalaa.Pure
open Go.RowKit Go.Proofs.Ytehgojpiahmalaa.PSame Go.Proofs.YtehgojpiahmalaaW.PrintWords Go.Proofs.Ytehgojpiahmalaa.Aid
theorem FnExactSameFs : laws_FnExactSameFs.Pure := by
  intro a n b m ha hn hb hm
  refine Ev.rounds (r := true) ?_
  unfold laws_FnExactSameFs.f
  obtain ⟨r, hr, e⟩ := laws_szFs.is a n ha.1 (fun x hx => ⟨(ha.2 x hx).2.2.2.2.2.1, (ha.2 x hx).2.2.2.2.2.2.1, fun y hy => ((ha.2 x hx).2.2.2.2.2.2.2 y hy).1⟩) 1048576 (by omega) (by omega)
  rcases e with e | ⟨e1, e2, e3, e4⟩
  · exact ev_bind hr (ev_pos e (Ev.now _))
  obtain ⟨q, hq, f⟩ := laws_szFs.is b m hb.1 (fun x hx => ⟨(hb.2 x hx).2.2.2.2.2.1, (hb.2 x hx).2.2.2.2.2.2.1, fun y hy => ((hb.2 x hx).2.2.2.2.2.2.2 y hy).1⟩) r e1 e2
  refine ev_bind hr (ev_neg (by omega) ?_)
  rcases f with f | ⟨f1, f2, f3, f4⟩
  · exact ev_bind hq (ev_pos f (Ev.now _))
  refine ev_bind hq (ev_neg (by omega) ?_)
  have ta := laws_toFs.is a n e3 e4
  have tb := laws_toFs.is b m f3 f4
  have oa := nodC_ok e4
  have ob := nodC_ok f4
  have la : (a.map nodC).length ≤ 9223372036854775806 := by rw [List.length_map]; omega
  have lb : (b.map nodC).length ≤ 9223372036854775806 := by rw [List.length_map]; omega
  generalize a.map nodC = A at ta oa la
  generalize b.map nodC = B at tb ob lb
  obtain ⟨s, hs, es⟩ := spec_SameFs.is A B n m la oa
  obtain ⟨t, ht, et⟩ := impl_SameFs.is A B n m la oa
  have hst : t = s := by rw [Bool.eq_iff_iff, es, et]
  subst hst
  refine ev_bind ta (ev_bind tb (ev_bind hs (ev_bind ta (ev_bind tb (ev_bind ht (ev_neg (by simp) ?_))))))
  refine ev_bind ta (ev_bind (laws_eqFs.same A n la oa) (ev_pos rfl ?_))
  exact ev_bind tb (ev_bind (laws_eqFs.same B m lb ob) (ev_pos rfl (Ev.now _)))
end Go.Proofs.Ytehgojpiahmalaa.Pure

