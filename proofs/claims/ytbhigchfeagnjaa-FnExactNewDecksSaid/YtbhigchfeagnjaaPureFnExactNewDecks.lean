/- NewDecks of the program and of the reference agree at every number; a second call answers anew: no condition. -/
import Derived.Test.YtbhigchfeagnjaaLoops
import Derived.Test.YtbhigchfeagnjaaPNewx2
namespace Go.Proofs.Ytbhigchfeagnjaa.PNew
open Go.RowKit Go.Proofs.YtbhigchfeagnjaaW.PrintWords Go.Proofs.YtbhigchfeagnjaaW.PrintLast Go.Proofs.YtbhigchfeagnjaaW.PrintMore Go.Proofs.Ytbhigchfeagnjaa.Aid Go.Proofs.Ytbhigchfeagnjaa.Loops
set_option linter.unusedSimpArgs false
set_option linter.unusedVariables false
theorem laws_eqIntS.is (a b : List Int) (hM : a.length ≤ 9223372036854775806) : ∃ r, Ev (fun k => laws_eqIntS.f k a b) r ∧ (r = true ↔ a = b) :=
  eq_all 0 a b hM _ (fun k i => laws_eqIntS.l0 k a b i) (fun _ x y => some (decide (x = y))) (fun k => rfl)
    (fun hl k i h0 h1 => by
      show laws_eqIntS.l0 (k + 1) a b i = _
      rw [laws_eqIntS.l0, if_pos h1, if_pos h0, if_pos (by omega), Option.bind_some]
      show (if rd a i = rd b i then _ else _) = if decide (rd a i = rd b i) = true then _ else _
      by_cases h : rd a i = rd b i
      · rw [if_pos h, if_pos (decide_eq_true h)]
      · rw [if_neg h, if_neg (by simpa using h)])
    (fun k i h => by show laws_eqIntS.l0 (k + 1) a b i = _; rw [laws_eqIntS.l0, if_neg h]) (fun x _ y _ => ⟨_, Ev.now _, decide_eq_true_iff⟩)
theorem laws_eqIntSS.is (a b : List (List Int)) (hM : a.length ≤ 9223372036854775806) (ha : ∀ x ∈ a, x.length ≤ 1048576) : ∃ r, Ev (fun k => laws_eqIntSS.f k a b) r ∧ (r = true ↔ a = b) :=
  eq_all [] a b hM _ (fun k i => laws_eqIntSS.l0 k a b i) (fun k x y => laws_eqIntS.f k x y) (fun k => rfl)
    (fun hl k i h0 h1 => by show laws_eqIntSS.l0 (k + 1) a b i = _; rw [laws_eqIntSS.l0, if_pos h1, if_pos h0, if_pos (by omega)]; rfl)
    (fun k i h => by show laws_eqIntSS.l0 (k + 1) a b i = _; rw [laws_eqIntSS.l0, if_neg h]) (fun x hx y _ => laws_eqIntS.is x y (by have := ha x hx; omega))
theorem laws_eqIntSS.same (a : List (List Int)) (hM : a.length ≤ 9223372036854775806) (ha : ∀ x ∈ a, x.length ≤ 1048576) : Ev (fun k => laws_eqIntSS.f k a a) true := by
  obtain ⟨r, hr, e⟩ := laws_eqIntSS.is a a hM ha
  rwa [e.2 rfl] at hr
theorem spec_l1In.is' (a b c : Int) : ∃ r, spec_l1In.f a b c = some r ∧ (r = true ↔ b ≤ a ∧ a ≤ c) := by
  unfold spec_l1In.f
  by_cases h : a ≥ b
  · exact ⟨_, if_pos h, by rw [decide_eq_true_iff]; exact ⟨fun x => ⟨h, x⟩, fun x => x.2⟩⟩
  · exact ⟨_, if_neg h, fun x => (by cases x), fun x => absurd x.1 (by omega)⟩
theorem impl_within.is' (a b c : Int) : ∃ r, impl_within.f a b c = some r ∧ (r = true ↔ b ≤ a ∧ a ≤ c) := by
  unfold impl_within.f
  by_cases h : a ≥ b
  · exact ⟨_, if_pos h, by rw [decide_eq_true_iff]; exact ⟨fun x => ⟨h, x⟩, fun x => x.2⟩⟩
  · exact ⟨_, if_neg h, fun x => (by cases x), fun x => absurd x.1 (by omega)⟩
theorem rd_nil {l : List (List Int)} (hl : ∀ e ∈ l, e = []) (i : Int) (h0 : 0 ≤ i) (h1 : i < (l.length : Int)) : rd_L1 l i = [] := hl _ (getD_mem l [] i h0 h1)
theorem laws_markIntSS.loop (l : List (List Int)) (hl : ∀ e ∈ l, e = []) (hM : l.length ≤ 1048576) (a : Int) (d : Nat) : ∀ i : Int, 0 ≤ i → i ≤ l.length → (l.length : Int) - i = d → Ev (fun k => laws_markIntSS.l0 k l a i) a := by
  induction d with
  | zero =>
    intro i h0 hi hd
    exact Ev.step (fun k => by rw [laws_markIntSS.l0, if_neg (by omega)]) (Ev.now _)
  | succ d ih =>
    intro i h0 hi hd
    have hlt : i < (l.length : Int) := by omega
    have hs : ∀ k, laws_markIntSS.l0 (k + 1) l a i = laws_markIntSS.l0 k l a (i + 1) := fun k => by
      rw [laws_markIntSS.l0, if_pos hlt, if_pos h0, rd_nil hl i h0 hlt, wrap_id (x := i + 1) (by omega) (by omega)]; rfl
    refine Ev.step hs ?_
    exact ih (i + 1) (by omega) (by omega) (by omega)
theorem laws_heldIntS.nil (a : Int) : Ev (fun k => laws_heldIntS.f k [] a) a := Ev.step (fun k => by rw [laws_heldIntS.f, laws_heldIntS.l0, if_neg (by simp)]) (Ev.now _)
theorem laws_heldIntSS.loop (l : List (List Int)) (hl : ∀ e ∈ l, e = []) (hM : l.length ≤ 1048576) (a : Int) (ha : 0 ≤ a) (d : Nat) : ∀ i : Int, 0 ≤ i → i ≤ l.length → (l.length : Int) - i = d → Ev (fun k => laws_heldIntSS.l0 k l a i) a := by
  induction d with
  | zero =>
    intro i h0 hi hd
    exact Ev.step (fun k => by rw [laws_heldIntSS.l0, if_neg (by omega)]) (Ev.now _)
  | succ d ih =>
    intro i h0 hi hd
    have hlt : i < (l.length : Int) := by omega
    refine Ev.step (fun k => by rw [laws_heldIntSS.l0, if_pos hlt, if_pos h0, rd_nil hl i h0 hlt, wrap_id (x := i + 1) (by omega) (by omega)]) (ev_bind (laws_heldIntS.nil a) (ev_neg (show ¬ a < 0 by omega) ?_))
    exact ih (i + 1) (by omega) (by omega) (by omega)
def newR (n : Int) : List (List Int) × Bool := if 1 ≤ n ∧ n ≤ 8 then (List.replicate n.toNat [], true) else ([], false)
theorem newR_nil (n : Int) : ∀ e ∈ (newR n).1, e = [] := by
  unfold newR; split
  · intro e he; exact (List.mem_replicate.1 he).2
  · intro e he; cases he
theorem newR_len (n : Int) : (newR n).1.length ≤ 8 := by
  unfold newR; split
  · show (List.replicate n.toNat []).length ≤ 8
    rw [List.length_replicate]; omega
  · exact Nat.zero_le _
theorem spec_NewDecks.is (n : Int) : spec_NewDecks.f n = some (newR n) := by
  obtain ⟨b, hb, eb⟩ := spec_l1In.is' n 1 8
  unfold spec_NewDecks.f newR
  rw [hb, Option.bind_some]
  cases b with
  | true => have := eb.1 rfl; rw [if_pos rfl, if_pos (by omega), if_pos (by omega), if_pos this]
  | false => rw [if_neg (by simp), if_neg (fun h => by have := eb.2 h; cases this)]
theorem impl_NewDecks.is (n : Int) : impl_NewDecks.f n = some (newR n) := by
  obtain ⟨b, hb, eb⟩ := impl_within.is' n 1 8
  unfold impl_NewDecks.f newR
  rw [hb, Option.bind_some]
  cases b with
  | true => have := eb.1 rfl; rw [if_pos rfl, if_pos (by omega), if_pos (by omega), if_pos this]
  | false => rw [if_neg (by simp), if_neg (fun h => by have := eb.2 h; cases this)]
end Go.Proofs.Ytbhigchfeagnjaa.PNew
namespace Go.Proofs.Ytbhigchfeagnjaa.Pure
open Go.RowKit Go.Proofs.Ytbhigchfeagnjaa.PNew Go.Proofs.YtbhigchfeagnjaaW.PrintWords Go.Proofs.Ytbhigchfeagnjaa.Aid
theorem FnExactNewDecks : laws_FnExactNewDecks.Pure := by
  intro n _
  refine Ev.rounds (r := true) ?_
  unfold laws_FnExactNewDecks.f
  have hs := spec_NewDecks.is n
  have hi := impl_NewDecks.is n
  have hnil := newR_nil n
  have hlen := newR_len n
  generalize newR n = v at hs hi hnil hlen
  have he : Ev (fun k => laws_eqIntSS.f k v.1 v.1) true := by
    obtain ⟨r, hr, e⟩ := laws_eqIntSS.is v.1 v.1 (by omega) (fun x hx => by rw [hnil x hx]; simp)
    rwa [e.2 rfl] at hr
  have hm := laws_markIntSS.loop v.1 hnil (by omega) 1 v.1.length 0 (by omega) (by omega) (by omega)
  have hh := laws_heldIntSS.loop v.1 hnil (by omega) 1 (by omega) v.1.length 0 (by omega) (by omega) (by omega)
  refine ev_bind0 hs (ev_bind0 hi (ev_bind he (ev_pos rfl ?_)))
  refine Ev.step (fun k => by rw [laws_FnExactNewDecks.j0, if_neg (by simp)]) ?_
  refine ev_bind hm (ev_bind hh (ev_neg (by omega) (ev_pos rfl (ev_bind0 hi (ev_bind he (ev_pos rfl ?_))))))
  refine Ev.step (fun k => by rw [laws_FnExactNewDecks.j1, if_neg (by simp)]) ?_
  exact ev_bind hh (ev_neg (by omega) (ev_pos rfl (Ev.now _)))
end Go.Proofs.Ytbhigchfeagnjaa.Pure

