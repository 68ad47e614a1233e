/- What the law's own helpers over lists of lists of numbers tell: sizes, copies, equality. -/
import Derived.Test.YtehgojpiahmalaaLoops
import Derived.Test.YtehgojpiahmalaaPut
import Derived.Test.YtehgojpiahmalaaPStlx4
namespace Go.Proofs.Ytehgojpiahmalaa.PStl
open Go.RowKit Go.Proofs.YtehgojpiahmalaaW.PrintWords Go.Proofs.YtehgojpiahmalaaW.PrintLast Go.Proofs.YtehgojpiahmalaaW.PrintMore Go.Proofs.Ytehgojpiahmalaa.Aid Go.Proofs.Ytehgojpiahmalaa.Loops
set_option linter.unusedSimpArgs false
set_option linter.unusedVariables false
theorem laws_eqIntS.is (a b : List Int) (hM : a.length ≤ 9223372036854775806) : ∃ r, Ev (fun k => laws_eqIntS.f k a b) r ∧ (r = true ↔ a = b) :=
  eq_all 0 a b hM _ (fun k i => laws_eqIntS.l0 k a b i) (fun _ x y => some (decide (x = y))) (fun k => rfl)
    (fun hl k i h0 h1 => by
      show laws_eqIntS.l0 (k + 1) a b i = _
      rw [laws_eqIntS.l0, if_pos h1, if_pos h0, if_pos (by omega), Option.bind_some]
      show (if rd a i = rd b i then _ else _) = if decide (rd a i = rd b i) = true then _ else _
      by_cases h : rd a i = rd b i
      · rw [if_pos h, if_pos (decide_eq_true h)]
      · rw [if_neg h, if_neg (by simpa using h)])
    (fun k i h => by show laws_eqIntS.l0 (k + 1) a b i = _; rw [laws_eqIntS.l0, if_neg h]) (fun x _ y _ => ⟨_, Ev.now _, decide_eq_true_iff⟩)
theorem laws_eqIntSS.is (a b : List (List Int)) (hM : a.length ≤ 9223372036854775806) (ha : ∀ x ∈ a, x.length ≤ 1048576) : ∃ r, Ev (fun k => laws_eqIntSS.f k a b) r ∧ (r = true ↔ a = b) :=
  eq_all [] a b hM _ (fun k i => laws_eqIntSS.l0 k a b i) (fun k x y => laws_eqIntS.f k x y) (fun k => rfl)
    (fun hl k i h0 h1 => by show laws_eqIntSS.l0 (k + 1) a b i = _; rw [laws_eqIntSS.l0, if_pos h1, if_pos h0, if_pos (by omega)]; rfl)
    (fun k i h => by show laws_eqIntSS.l0 (k + 1) a b i = _; rw [laws_eqIntSS.l0, if_neg h]) (fun x hx y _ => laws_eqIntS.is x y (by have := ha x hx; omega))
theorem laws_eqIntSS.same (a : List (List Int)) (hM : a.length ≤ 9223372036854775806) (ha : ∀ x ∈ a, x.length ≤ 1048576) : Ev (fun k => laws_eqIntSS.f k a a) true := by
  obtain ⟨r, hr, e⟩ := laws_eqIntSS.is a a hM ha
  rwa [e.2 rfl] at hr
theorem laws_szIntS.is (l : List Int) (hl : l.length ≤ 9223372036854775807) (x : Int) (h0 : 0 ≤ x) (h1 : x ≤ 1048576) : ∃ r, Ev (fun _ => laws_szIntS.f l x) r ∧ (r < 0 ∨ (0 ≤ r ∧ r ≤ x ∧ l.length ≤ 1048576)) := by
  have hw : wrap64 (x - (l.length : Int)) = x - (l.length : Int) := wrap_id (by omega) (by omega)
  unfold laws_szIntS.f
  rw [hw]
  by_cases h : x - (l.length : Int) < 0
  · exact ⟨-1, ev_pos h (Ev.now _), .inl (by omega)⟩
  · exact ⟨_, ev_neg h (Ev.now _), .inr ⟨by omega, by omega, by omega⟩⟩
theorem laws_szIntSS.is (l : List (List Int)) (hl : l.length ≤ 9223372036854775807) (hg : ∀ e ∈ l, e.length ≤ 9223372036854775807) (x : Int) (h0 : 0 ≤ x) (h1 : x ≤ 1048576) : ∃ r, Ev (fun k => laws_szIntSS.f k l x) r ∧ (r < 0 ∨ (0 ≤ r ∧ r ≤ x ∧ l.length ≤ 1048576 ∧ ∀ e ∈ l, e.length ≤ 1048576)) := by
  have hw : wrap64 (x - (l.length : Int)) = x - (l.length : Int) := wrap_id (by omega) (by omega)
  unfold laws_szIntSS.f
  rw [hw]
  by_cases h : x - (l.length : Int) < 0
  · exact ⟨-1, ev_pos h (Ev.now _), .inl (by omega)⟩
  · obtain ⟨r, hr, e⟩ := sz_loop [] l (by omega) (fun k x i => laws_szIntSS.l0 k l x i) (fun _ e x => laws_szIntS.f e x) (fun e => e.length ≤ 1048576) 1048576
      (fun k x i h0 h1 => by show laws_szIntSS.l0 (k + 1) l x i = _; rw [laws_szIntSS.l0, if_pos h1, if_pos h0]; rfl)
      (fun k x i h => by show laws_szIntSS.l0 (k + 1) l x i = _; rw [laws_szIntSS.l0, if_neg h]) (fun e he x h0 h1 => laws_szIntS.is e (hg e he) x h0 h1)
      l.length (x - (l.length : Int)) 0 (by omega) (by omega) (by omega) (by omega) (by omega)
    refine ⟨r, ev_neg h hr, ?_⟩
    rcases e with e | ⟨e1, e2, e3⟩
    · exact .inl e
    · exact .inr ⟨e1, by omega, by omega, by simpa using e3⟩
theorem laws_toIntS.is (l : List Int) (hl : l.length ≤ 1048576) : Ev (fun k => laws_toIntS.f k l) l := by
  unfold laws_toIntS.f
  refine ev_pos (by omega) (ev_pos (by omega) ?_)
  have h := to_loop 0 l (by omega) (fun k acc i => laws_toIntS.l0 k l acc i) (fun _ e => some e) (fun y : Int => y) (fun e : Int => e)
    (fun k acc i h0 h1 hz => by
      show laws_toIntS.l0 (k + 1) l acc i = _
      have hz' : i < (acc.length : Int) := by omega
      rw [laws_toIntS.l0, if_pos h1, if_pos h0, if_pos hz']; rfl)
    (fun k acc i h => by show laws_toIntS.l0 (k + 1) l acc i = _; rw [laws_toIntS.l0, if_neg h]) (fun e _ => Ev.now _) l.length (List.replicate ((l.length : Int) : Int).toNat 0) 0 (by simp) (by omega) (by omega) (by simp) (by omega)
  simpa using h
theorem laws_toIntSS.is (l : List (List Int)) (hl : l.length ≤ 1048576) (hs : ∀ e ∈ l, e.length ≤ 1048576) : Ev (fun k => laws_toIntSS.f k l) l := by
  unfold laws_toIntSS.f
  refine ev_pos (by omega) (ev_pos (by omega) ?_)
  have h := to_loop [] l (by omega) (fun k acc i => laws_toIntSS.l0 k l acc i) (fun k e => laws_toIntS.f k e) (fun y : List Int => y) (fun e : List Int => e)
    (fun k acc i h0 h1 hz => by
      show laws_toIntSS.l0 (k + 1) l acc i = _
      have hz' : i < (acc.length : Int) := by omega
      rw [laws_toIntSS.l0, if_pos h1, if_pos h0]
      simp only [if_pos hz']; rfl)
    (fun k acc i h => by show laws_toIntSS.l0 (k + 1) l acc i = _; rw [laws_toIntSS.l0, if_neg h]) (fun e he => laws_toIntS.is e (hs e he)) l.length (List.replicate ((l.length : Int) : Int).toNat []) 0 (by simp) (by omega) (by omega) (by simp) (by omega)
  simpa using h
/- putting numbers to their places -/
open Go.Proofs.Ytehgojpiahmalaa.Put
theorem rd_drop (l : List Int) (i : Int) (h0 : 0 ≤ i) (h1 : i < (l.length : Int)) : l.drop i.toNat = rd l i :: l.drop (i + 1).toNat := drop_list l 0 i h0 h1
theorem rd_take (l : List Int) (i : Int) (h0 : 0 ≤ i) (h1 : i < (l.length : Int)) : l.take (i + 1).toNat = l.take i.toNat ++ [rd l i] := by
  have hl : i.toNat < l.length := by omega
  rw [show (i + 1).toNat = i.toNat + 1 by omega, List.take_add_one, List.getElem?_eq_getElem hl]
  unfold rd
  rw [List.getD_eq_getElem?_getD, List.getElem?_eq_getElem hl]; rfl
theorem spec_l1Put.loop (l : List Int) (n : Int) (hM : l.length ≤ 8796093022208) (d : Nat) : ∀ i : Int, 0 ≤ i → i ≤ l.length → (l.length : Int) - i = d → Ev (fun k => spec_l1Put.l0 k l n i) (l.take i.toNat ++ put (l.drop i.toNat) n) := by
  induction d with
  | zero =>
    intro i h0 hi hd
    have e : l.drop i.toNat = [] := List.drop_eq_nil_iff.mpr (by omega)
    refine Ev.step (fun k => by rw [spec_l1Put.l0, if_neg (by omega)]) ?_
    rw [e]
    refine ev_bind0 rfl (ev_pos h0 (ev_pos hi (ev_bind0 rfl (ev_pos (by simp; omega) (ev_bind0 rfl (ev_pos (by simp; omega) (ev_bind0 rfl (ev_bind0 rfl (ev_pos (by simp; omega) (ev_some ?_))))))))))
    simp [put]
  | succ d ih =>
    intro i h0 hi hd
    have hlt : i < (l.length : Int) := by omega
    rw [rd_drop l i h0 hlt]
    by_cases h1 : rd l i < n
    · refine Ev.step (fun k => by rw [spec_l1Put.l0, if_pos hlt, if_pos h0, if_pos h1, wrap_id (by omega) (by omega)]) ?_
      refine ev_eq (ih (i + 1) (by omega) (by omega) (by omega)) ?_
      rw [put, if_pos h1, rd_take l i h0 hlt, List.append_assoc]; rfl
    · by_cases h2 : rd l i = n
      · refine Ev.step (fun k => by rw [spec_l1Put.l0, if_pos hlt, if_pos h0, if_neg h1, if_pos h2]) (ev_some ?_)
        rw [put, if_neg h1, if_pos h2, ← rd_drop l i h0 hlt, List.take_append_drop]
      · refine Ev.step (fun k => by rw [spec_l1Put.l0, if_pos hlt, if_pos h0, if_neg h1, if_neg h2]) ?_
        refine ev_bind0 rfl (ev_pos hi (ev_bind0 rfl (ev_pos (by simp; omega) (ev_bind0 rfl (ev_pos (by simp; omega) (ev_bind0 rfl (ev_bind0 rfl (ev_pos (by simp; omega) (ev_some ?_)))))))))
        rw [put, if_neg h1, if_neg h2, rd_drop l i h0 hlt]; simp
theorem spec_l1Put.is (l : List Int) (n : Int) (hM : l.length ≤ 8796093022208) : Ev (fun k => spec_l1Put.f k l n) (put l n) := by
  exact ev_eq (spec_l1Put.loop l n hM l.length 0 (by omega) (by omega) (by omega)) (by simp)
theorem spec_l1In.is' (a b c : Int) : ∃ r, spec_l1In.f a b c = some r ∧ (r = true ↔ b ≤ a ∧ a ≤ c) := by
  unfold spec_l1In.f
  by_cases h : a ≥ b
  · exact ⟨_, if_pos h, by rw [decide_eq_true_iff]; exact ⟨fun x => ⟨h, x⟩, fun x => x.2⟩⟩
  · exact ⟨_, if_neg h, fun x => (by cases x), fun x => absurd x.1 (by omega)⟩
theorem impl_within.is' (a b c : Int) : ∃ r, impl_within.f a b c = some r ∧ (r = true ↔ b ≤ a ∧ a ≤ c) := by
  unfold impl_within.f
  by_cases h : a ≥ b
  · exact ⟨_, if_pos h, by rw [decide_eq_true_iff]; exact ⟨fun x => ⟨h, x⟩, fun x => x.2⟩⟩
  · exact ⟨_, if_neg h, fun x => (by cases x), fun x => absurd x.1 (by omega)⟩
theorem spec_l1All.loop (l : List Int) (lo hi : Int) (hM : l.length ≤ 1048576) (d : Nat) : ∀ i : Int, 0 ≤ i → i ≤ l.length → (l.length : Int) - i = d → ∃ r, Ev (fun k => spec_l1All.l0 k lo hi l (l.length : Int) i) r ∧ (r = true ↔ ∀ x ∈ l.drop i.toNat, lo ≤ x ∧ x ≤ hi) := by
  induction d with
  | zero =>
    intro i h0 hi' hd
    refine ⟨true, Ev.step (fun k => by rw [spec_l1All.l0, if_neg (by omega)]) (Ev.now _), ?_⟩
    rw [List.drop_eq_nil_iff.mpr (by omega)]; simp
  | succ d ih =>
    intro i h0 hi' hd
    have hlt : i < (l.length : Int) := by omega
    obtain ⟨b, hb, eb⟩ := spec_l1In.is' (rd l i) lo hi
    rw [rd_drop l i h0 hlt]
    cases b with
    | false => exact ⟨false, Ev.step (fun k => by rw [spec_l1All.l0, if_pos hlt, if_pos h0, if_pos hlt, hb, Option.bind_some, if_neg (by simp)]) (Ev.now _), fun x => (by cases x), fun x => eb.2 (x _ List.mem_cons_self)⟩
    | true =>
      obtain ⟨r, hr, e⟩ := ih (i + 1) (by omega) (by omega) (by omega)
      refine ⟨r, Ev.step (fun k => by rw [spec_l1All.l0, if_pos hlt, if_pos h0, if_pos hlt, hb, Option.bind_some, if_pos rfl, wrap_id (by omega) (by omega)]) hr, ?_⟩
      rw [e]
      refine ⟨fun h x hx => ?_, fun h x hx => h x (List.mem_cons_of_mem _ hx)⟩
      rcases List.mem_cons.1 hx with rfl | hx
      · exact eb.1 rfl
      · exact h x hx
theorem spec_l1All.is (l : List Int) (lo hi : Int) (hM : l.length ≤ 1048576) : ∃ r, Ev (fun k => spec_l1All.f k l lo hi) r ∧ (r = true ↔ ∀ x ∈ l, lo ≤ x ∧ x ≤ hi) := by
  obtain ⟨r, hr, e⟩ := spec_l1All.loop l lo hi hM l.length 0 (by omega) (by omega) (by omega)
  exact ⟨r, hr, by simpa using e⟩
end Go.Proofs.Ytehgojpiahmalaa.PStl

