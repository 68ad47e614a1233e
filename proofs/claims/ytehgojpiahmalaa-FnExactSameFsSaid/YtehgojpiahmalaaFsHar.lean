/- What the law's own helpers over file systems tell: sizes, copies, equality. -/
import Derived.Test.YtehgojpiahmalaaLoops
import Derived.Test.YtehgojpiahmalaaPSamex7
namespace Go.Proofs.Ytehgojpiahmalaa.PSame
open Go.RowKit Go.Proofs.YtehgojpiahmalaaW.PrintWords Go.Proofs.YtehgojpiahmalaaW.PrintLast Go.Proofs.YtehgojpiahmalaaW.PrintMore Go.Proofs.Ytehgojpiahmalaa.Aid Go.Proofs.Ytehgojpiahmalaa.Loops
set_option linter.unusedSimpArgs false
set_option linter.unusedVariables false
def ME : Nat := 1048576
def nodeOk (x : S68) : Prop := x.f6.length ≤ 1048576
theorem laws_eqEntry.is (x y : S77) : ∃ r, Ev (fun _ => laws_eqEntry.f x.f0 x.f1 y.f0 y.f1) r ∧ (r = true ↔ x = y) := by
  cases x with | mk a b => cases y with | mk c d =>
  unfold laws_eqEntry.f
  by_cases h : a.toList = c.toList
  · by_cases h2 : b = d
    · exact ⟨true, ev_pos h (ev_pos h2 (Ev.now _)), by simp [h2, eq_of_toList h]⟩
    · exact ⟨false, ev_pos h (ev_neg h2 (Ev.now _)), by simp [h2]⟩
  · exact ⟨false, ev_neg h (Ev.now _), by simp; intro e; exact absurd (by rw [e]) h⟩
theorem laws_eqEntryS.is (a b : List S77) (hM : a.length ≤ 9223372036854775806) : ∃ r, Ev (fun k => laws_eqEntryS.f k a b) r ∧ (r = true ↔ a = b) :=
  eq_all z77 a b hM _ (fun k i => laws_eqEntryS.l0 k a b i) (fun _ x y => laws_eqEntry.f x.f0 x.f1 y.f0 y.f1) (fun k => rfl)
    (fun hl k i h0 h1 => by show laws_eqEntryS.l0 (k + 1) a b i = _; rw [laws_eqEntryS.l0, if_pos h1, if_pos h0, if_pos (by omega)]; rfl)
    (fun k i h => by show laws_eqEntryS.l0 (k + 1) a b i = _; rw [laws_eqEntryS.l0, if_neg h]) (fun x _ y _ => laws_eqEntry.is x y)
theorem laws_eqNode.is (x y : S68) (hx : nodeOk x) : ∃ r, Ev (fun k => laws_eqNode.f k x.f0 x.f1 x.f2 x.f3 x.f4 x.f5 x.f6 y.f0 y.f1 y.f2 y.f3 y.f4 y.f5 y.f6) r ∧ (r = true ↔ x = y) := by
  cases x with | mk a0 a1 a2 a3 a4 a5 a6 => cases y with | mk b0 b1 b2 b3 b4 b5 b6 =>
  unfold nodeOk at hx
  simp only at hx
  unfold laws_eqNode.f
  by_cases h0 : a0 = b0
  rotate_left
  · exact ⟨false, ev_neg h0 (Ev.now _), by simp [h0]⟩
  by_cases h1 : a1 = b1
  rotate_left
  · exact ⟨false, ev_pos h0 (ev_neg h1 (Ev.now _)), by simp [h1]⟩
  by_cases h2 : a2 = b2
  rotate_left
  · exact ⟨false, ev_pos h0 (ev_pos h1 (ev_neg h2 (Ev.now _))), by simp [h2]⟩
  by_cases h3 : a3 = b3
  rotate_left
  · exact ⟨false, ev_pos h0 (ev_pos h1 (ev_pos h2 (ev_neg h3 (Ev.now _)))), by simp [h3]⟩
  by_cases h4 : a4 = b4
  rotate_left
  · exact ⟨false, ev_pos h0 (ev_pos h1 (ev_pos h2 (ev_pos h3 (ev_neg h4 (Ev.now _))))), by simp [h4]⟩
  by_cases h5 : a5.toList = b5.toList
  rotate_left
  · exact ⟨false, ev_pos h0 (ev_pos h1 (ev_pos h2 (ev_pos h3 (ev_pos h4 (ev_neg h5 (Ev.now _)))))), by simp; intro _ _ _ _ _ e; exact absurd (by rw [e]) h5⟩
  obtain ⟨r, hr, e⟩ := laws_eqEntryS.is a6 b6 (by omega)
  have h5' := eq_of_toList h5
  refine ⟨r, ev_pos h0 (ev_pos h1 (ev_pos h2 (ev_pos h3 (ev_pos h4 (ev_pos h5 (ev_bind hr ?_)))))), by rw [e]; simp [h0, h1, h2, h3, h4, h5']⟩
  cases r with
  | true => exact ev_pos rfl (Ev.now _)
  | false => exact ev_neg (by simp) (Ev.now _)
theorem laws_eqNodeS.is (a b : List S68) (hM : a.length ≤ 9223372036854775806) (ha : ∀ x ∈ a, nodeOk x) : ∃ r, Ev (fun k => laws_eqNodeS.f k a b) r ∧ (r = true ↔ a = b) :=
  eq_all z68 a b hM _ (fun k i => laws_eqNodeS.l0 k a b i) (fun k x y => laws_eqNode.f k x.f0 x.f1 x.f2 x.f3 x.f4 x.f5 x.f6 y.f0 y.f1 y.f2 y.f3 y.f4 y.f5 y.f6) (fun k => rfl)
    (fun hl k i h0 h1 => by show laws_eqNodeS.l0 (k + 1) a b i = _; rw [laws_eqNodeS.l0, if_pos h1, if_pos h0, if_pos (by omega)]; rfl)
    (fun k i h => by show laws_eqNodeS.l0 (k + 1) a b i = _; rw [laws_eqNodeS.l0, if_neg h]) (fun x hx y _ => laws_eqNode.is x y (ha x hx))
theorem laws_eqFs.is (a b : List S68) (n m : Int) (hM : a.length ≤ 9223372036854775806) (ha : ∀ x ∈ a, nodeOk x) : ∃ r, Ev (fun k => laws_eqFs.f k a n b m) r ∧ (r = true ↔ a = b ∧ n = m) := by
  obtain ⟨r, hr, e⟩ := laws_eqNodeS.is a b hM ha
  unfold laws_eqFs.f
  cases r with
  | false => exact ⟨false, ev_bind hr (ev_neg (by simp) (Ev.now _)), fun h => (by cases h), fun h => e.2 h.1⟩
  | true =>
    by_cases h : n = m
    · exact ⟨true, ev_bind hr (ev_pos rfl (ev_pos h (Ev.now _))), fun _ => ⟨e.1 rfl, h⟩, fun _ => rfl⟩
    · exact ⟨false, ev_bind hr (ev_pos rfl (ev_neg h (Ev.now _))), fun h => (by cases h), fun h' => absurd h'.2 h⟩
theorem laws_eqFs.same (a : List S68) (n : Int) (hM : a.length ≤ 9223372036854775806) (ha : ∀ x ∈ a, nodeOk x) : Ev (fun k => laws_eqFs.f k a n a n) true := by
  obtain ⟨r, hr, e⟩ := laws_eqFs.is a a n n hM ha
  rwa [e.2 ⟨rfl, rfl⟩] at hr
/- sizes -/
def entGood (e : S109) : Prop := e.f0.size ≤ 9223372036854775807
def nodGood (x : S93) : Prop := x.f5.size ≤ 9223372036854775807 ∧ x.f6.length ≤ 9223372036854775807 ∧ ∀ e ∈ x.f6, entGood e
def entSmall (e : S109) : Prop := e.f0.size ≤ 1048576
def nodSmall (x : S93) : Prop := x.f5.size ≤ 1048576 ∧ x.f6.length ≤ 1048576 ∧ ∀ e ∈ x.f6, entSmall e
theorem laws_szEntry.is (e : S109) (he : entGood e) (x : Int) (h0 : 0 ≤ x) (h1 : x ≤ 1048576) : ∃ r, Ev (fun _ => laws_szEntry.f e.f0 e.f1 x) r ∧ (r < 0 ∨ (0 ≤ r ∧ r ≤ x ∧ entSmall e)) := by
  unfold entGood at he
  have hw : wrap64 (x - (e.f0.size : Int)) = x - (e.f0.size : Int) := wrap_id (by omega) (by omega)
  unfold laws_szEntry.f
  rw [hw]
  by_cases h : x - (e.f0.size : Int) < 0
  · exact ⟨-1, ev_pos h (Ev.now _), .inl (by omega)⟩
  · exact ⟨_, ev_neg h (Ev.now _), .inr ⟨by omega, by omega, by unfold entSmall; omega⟩⟩
theorem laws_szEntryS.is (l : List S109) (hl : l.length ≤ 9223372036854775807) (hg : ∀ e ∈ l, entGood e) (x : Int) (h0 : 0 ≤ x) (h1 : x ≤ 1048576) : ∃ r, Ev (fun k => laws_szEntryS.f k l x) r ∧ (r < 0 ∨ (0 ≤ r ∧ r ≤ x ∧ l.length ≤ 1048576 ∧ ∀ e ∈ l, entSmall e)) := by
  have hw : wrap64 (x - (l.length : Int)) = x - (l.length : Int) := wrap_id (by omega) (by omega)
  unfold laws_szEntryS.f
  rw [hw]
  by_cases h : x - (l.length : Int) < 0
  · exact ⟨-1, ev_pos h (Ev.now _), .inl (by omega)⟩
  · obtain ⟨r, hr, e⟩ := sz_loop z109 l (by omega) (fun k x i => laws_szEntryS.l0 k l x i) (fun _ e x => laws_szEntry.f e.f0 e.f1 x) entSmall 1048576
      (fun k x i h0 h1 => by show laws_szEntryS.l0 (k + 1) l x i = _; rw [laws_szEntryS.l0, if_pos h1, if_pos h0]; rfl)
      (fun k x i h => by show laws_szEntryS.l0 (k + 1) l x i = _; rw [laws_szEntryS.l0, if_neg h]) (fun e he x h0 h1 => laws_szEntry.is e (hg e he) x h0 h1)
      l.length (x - (l.length : Int)) 0 (by omega) (by omega) (by omega) (by omega) (by omega)
    refine ⟨r, ev_neg h hr, ?_⟩
    rcases e with e | ⟨e1, e2, e3⟩
    · exact .inl e
    · exact .inr ⟨e1, by omega, by omega, by simpa using e3⟩
theorem laws_szNode.is (n : S93) (hn : nodGood n) (x : Int) (h0 : 0 ≤ x) (h1 : x ≤ 1048576) : ∃ r, Ev (fun k => laws_szNode.f k n.f0 n.f1 n.f2 n.f3 n.f4 n.f5 n.f6 x) r ∧ (r < 0 ∨ (0 ≤ r ∧ r ≤ x ∧ nodSmall n)) := by
  obtain ⟨g1, g2, g3⟩ := hn
  have hw : wrap64 (x - (n.f5.size : Int)) = x - (n.f5.size : Int) := wrap_id (by omega) (by omega)
  unfold laws_szNode.f
  rw [hw]
  by_cases h : x - (n.f5.size : Int) < 0
  · exact ⟨-1, ev_pos h (Ev.now _), .inl (by omega)⟩
  · obtain ⟨r, hr, e⟩ := laws_szEntryS.is n.f6 g2 g3 (x - (n.f5.size : Int)) (by omega) (by omega)
    rcases e with e | ⟨e1, e2, e3, e4⟩
    · exact ⟨-1, ev_neg h (ev_bind hr (ev_pos e (Ev.now _))), .inl (by omega)⟩
    · exact ⟨r, ev_neg h (ev_bind hr (ev_neg (by omega) (Ev.now _))), .inr ⟨e1, by omega, by omega, e3, e4⟩⟩
theorem laws_szNodeS.is (l : List S93) (hl : l.length ≤ 9223372036854775807) (hg : ∀ n ∈ l, nodGood n) (x : Int) (h0 : 0 ≤ x) (h1 : x ≤ 1048576) : ∃ r, Ev (fun k => laws_szNodeS.f k l x) r ∧ (r < 0 ∨ (0 ≤ r ∧ r ≤ x ∧ l.length ≤ 1048576 ∧ ∀ n ∈ l, nodSmall n)) := by
  have hw : wrap64 (x - (l.length : Int)) = x - (l.length : Int) := wrap_id (by omega) (by omega)
  unfold laws_szNodeS.f
  rw [hw]
  by_cases h : x - (l.length : Int) < 0
  · exact ⟨-1, ev_pos h (Ev.now _), .inl (by omega)⟩
  · obtain ⟨r, hr, e⟩ := sz_loop z93 l (by omega) (fun k x i => laws_szNodeS.l0 k l x i) (fun k n x => laws_szNode.f k n.f0 n.f1 n.f2 n.f3 n.f4 n.f5 n.f6 x) nodSmall 1048576
      (fun k x i h0 h1 => by show laws_szNodeS.l0 (k + 1) l x i = _; rw [laws_szNodeS.l0, if_pos h1, if_pos h0]; rfl)
      (fun k x i h => by show laws_szNodeS.l0 (k + 1) l x i = _; rw [laws_szNodeS.l0, if_neg h]) (fun n hn x h0 h1 => laws_szNode.is n (hg n hn) x h0 h1)
      l.length (x - (l.length : Int)) 0 (by omega) (by omega) (by omega) (by omega) (by omega)
    refine ⟨r, ev_neg h hr, ?_⟩
    rcases e with e | ⟨e1, e2, e3⟩
    · exact .inl e
    · exact .inr ⟨e1, by omega, by omega, by simpa using e3⟩
theorem laws_szFs.is (l : List S93) (m : Int) (hl : l.length ≤ 9223372036854775807) (hg : ∀ n ∈ l, nodGood n) (x : Int) (h0 : 0 ≤ x) (h1 : x ≤ 1048576) : ∃ r, Ev (fun k => laws_szFs.f k l m x) r ∧ (r < 0 ∨ (0 ≤ r ∧ r ≤ x ∧ l.length ≤ 1048576 ∧ ∀ n ∈ l, nodSmall n)) := by
  obtain ⟨r, hr, e⟩ := laws_szNodeS.is l hl hg x h0 h1
  unfold laws_szFs.f
  rcases e with e | e
  · exact ⟨-1, ev_bind hr (ev_pos e (Ev.now _)), .inl (by omega)⟩
  · exact ⟨r, ev_bind hr (ev_neg (by omega) (Ev.now _)), .inr e⟩
/- copies -/
def entC (e : S109) : S77 := ⟨e.f0, e.f1⟩
def nodC (n : S93) : S68 := ⟨n.f0, n.f1, n.f2, n.f3, n.f4, n.f5, n.f6.map entC⟩
theorem laws_toEntryS.is (l : List S109) (hl : l.length ≤ 1048576) : Ev (fun k => laws_toEntryS.f k l) (l.map entC) := by
  unfold laws_toEntryS.f
  refine ev_pos (by omega) (ev_pos (by omega) ?_)
  have h := to_loop z109 l (by omega) (fun k acc i => laws_toEntryS.l0 k l acc i) (fun _ e => laws_toEntry.f e.f0 e.f1) (fun y => (⟨y.1, y.2⟩ : S77)) (fun e => (e.f0, e.f1))
    (fun k acc i h0 h1 hz => by
      show laws_toEntryS.l0 (k + 1) l acc i = _
      rw [laws_toEntryS.l0, if_pos h1, if_pos h0]
      have hz' : i < (acc.length : Int) := by omega
      simp only [if_pos hz']; rfl)
    (fun k acc i h => by show laws_toEntryS.l0 (k + 1) l acc i = _; rw [laws_toEntryS.l0, if_neg h]) (fun e _ => Ev.now _) l.length (List.replicate ((l.length : Int) : Int).toNat z77) 0 (by simp) (by omega) (by omega) (by simp) (by omega)
  exact h
theorem laws_toNode.is (n : S93) (hn : nodSmall n) : Ev (fun k => laws_toNode.f k n.f0 n.f1 n.f2 n.f3 n.f4 n.f5 n.f6) (n.f0, n.f1, n.f2, n.f3, n.f4, n.f5, n.f6.map entC) := ev_bind (laws_toEntryS.is n.f6 hn.2.1) (Ev.now _)
theorem laws_toNodeS.is (l : List S93) (hl : l.length ≤ 1048576) (hs : ∀ n ∈ l, nodSmall n) : Ev (fun k => laws_toNodeS.f k l) (l.map nodC) := by
  unfold laws_toNodeS.f
  refine ev_pos (by omega) (ev_pos (by omega) ?_)
  have h := to_loop z93 l (by omega) (fun k acc i => laws_toNodeS.l0 k l acc i) (fun k n => laws_toNode.f k n.f0 n.f1 n.f2 n.f3 n.f4 n.f5 n.f6) (fun y => (⟨y.1, y.2.1, y.2.2.1, y.2.2.2.1, y.2.2.2.2.1, y.2.2.2.2.2.1, y.2.2.2.2.2.2⟩ : S68)) (fun n => (n.f0, n.f1, n.f2, n.f3, n.f4, n.f5, n.f6.map entC))
    (fun k acc i h0 h1 hz => by
      show laws_toNodeS.l0 (k + 1) l acc i = _
      rw [laws_toNodeS.l0, if_pos h1, if_pos h0]
      have hz' : i < (acc.length : Int) := by omega
      simp only [if_pos hz']; rfl)
    (fun k acc i h => by show laws_toNodeS.l0 (k + 1) l acc i = _; rw [laws_toNodeS.l0, if_neg h]) (fun n hn => laws_toNode.is n (hs n hn)) l.length (List.replicate ((l.length : Int) : Int).toNat z68) 0 (by simp) (by omega) (by omega) (by simp) (by omega)
  exact h
theorem laws_toFs.is (l : List S93) (m : Int) (hl : l.length ≤ 1048576) (hs : ∀ n ∈ l, nodSmall n) : Ev (fun k => laws_toFs.f k l m) (l.map nodC, m) := ev_bind (laws_toNodeS.is l hl hs) (Ev.now _)
theorem nodC_ok {l : List S93} (hs : ∀ n ∈ l, nodSmall n) : ∀ x ∈ l.map nodC, nodeOk x := by
  intro x hx
  obtain ⟨n, hn, rfl⟩ := List.mem_map.1 hx
  show (n.f6.map entC).length ≤ 1048576
  rw [List.length_map]; exact (hs n hn).2.1
end Go.Proofs.Ytehgojpiahmalaa.PSame

