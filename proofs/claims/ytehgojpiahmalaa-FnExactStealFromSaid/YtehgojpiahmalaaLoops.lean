/- Loops that scan lists: equality, sizes, copies, whatever the elements. No condition. -/
import Derived.Test.YtehgojpiahmalaaWMore
import Derived.Test.YtehgojpiahmalaaWNEv
import Derived.Test.YtehgojpiahmalaaAid
namespace Go.Proofs.Ytehgojpiahmalaa.Loops
open Go.RowKit Go.Proofs.YtehgojpiahmalaaW.PrintWords Go.Proofs.YtehgojpiahmalaaW.PrintLast Go.Proofs.YtehgojpiahmalaaW.PrintMore Go.Proofs.Ytehgojpiahmalaa.Aid
set_option linter.unusedSimpArgs false
set_option linter.unusedVariables false
variable {α β γ : Type}

theorem getD_mem (l : List α) (z : α) (i : Int) (h0 : 0 ≤ i) (h1 : i < (l.length : Int)) : l.getD i.toNat z ∈ l := by
  have hl : i.toNat < l.length := by omega
  rw [List.getD_eq_getElem?_getD, List.getElem?_eq_getElem hl]; exact List.getElem_mem hl
theorem eq_loop (z : α) (a b : List α) (hab : a.length = b.length) (hM : a.length ≤ 9223372036854775806) (L : Nat → Int → Option Bool) (G : Nat → α → α → Option Bool)
    (h1 : ∀ k i, 0 ≤ i → i < (a.length : Int) → L (k + 1) i = (G k (a.getD i.toNat z) (b.getD i.toNat z)).bind fun t => if t = true then L k (wrap64 (i + 1)) else some false)
    (h2 : ∀ k i, ¬ i < (a.length : Int) → L (k + 1) i = some true)
    (hG : ∀ x ∈ a, ∀ y ∈ b, ∃ r, Ev (fun k => G k x y) r ∧ (r = true ↔ x = y)) (d : Nat) : ∀ i : Int, 0 ≤ i → i ≤ a.length → (a.length : Int) - i = d →
    ∃ r, Ev (fun k => L k i) r ∧ (r = true ↔ a.drop i.toNat = b.drop i.toNat) := by
  induction d with
  | zero =>
    intro i h0 hi hd
    refine ⟨true, Ev.step (fun k => h2 k i (by omega)) (Ev.now _), ?_⟩
    rw [List.drop_eq_nil_iff.mpr (show a.length ≤ i.toNat by omega), List.drop_eq_nil_iff.mpr (show b.length ≤ i.toNat by omega)]
    simp
  | succ d ih =>
    intro i h0 hi hd
    have hlt : i < (a.length : Int) := by omega
    have hlt' : i < (b.length : Int) := by omega
    obtain ⟨r, hr, e⟩ := hG _ (getD_mem a z i h0 hlt) _ (getD_mem b z i h0 hlt')
    rw [drop_list a z i h0 hlt, drop_list b z i h0 hlt']
    cases r with
    | true =>
      obtain ⟨r', hr', e'⟩ := ih (i + 1) (by omega) (by omega) (by omega)
      refine ⟨r', Ev.step (fun k => h1 k i h0 hlt) (ev_bind hr (ev_pos rfl ?_)), ?_⟩
      · rw [wrap_id (by omega) (by omega)]; exact hr'
      · rw [e', List.cons.injEq]
        exact ⟨fun h => ⟨e.1 rfl, h⟩, fun h => h.2⟩
    | false =>
      refine ⟨false, Ev.step (fun k => h1 k i h0 hlt) (ev_bind hr (ev_neg (by simp) (Ev.now _))), ?_⟩
      rw [List.cons.injEq]
      exact ⟨fun h => (by cases h), fun h => absurd (e.2 h.1) (by simp)⟩
theorem eq_all (z : α) (a b : List α) (hM : a.length ≤ 9223372036854775806) (F : Nat → Option Bool) (L : Nat → Int → Option Bool) (G : Nat → α → α → Option Bool)
    (h0 : ∀ k, F k = if (a.length : Int) = (b.length : Int) then L k 0 else some false)
    (h1 : a.length = b.length → ∀ k i, 0 ≤ i → i < (a.length : Int) → L (k + 1) i = (G k (a.getD i.toNat z) (b.getD i.toNat z)).bind fun t => if t = true then L k (wrap64 (i + 1)) else some false)
    (h2 : ∀ k i, ¬ i < (a.length : Int) → L (k + 1) i = some true)
    (hG : ∀ x ∈ a, ∀ y ∈ b, ∃ r, Ev (fun k => G k x y) r ∧ (r = true ↔ x = y)) : ∃ r, Ev F r ∧ (r = true ↔ a = b) := by
  by_cases h : a.length = b.length
  · obtain ⟨r, hr, e⟩ := eq_loop z a b h hM L G (h1 h) h2 hG a.length 0 (by omega) (by omega) (by omega)
    refine ⟨r, ?_, by simpa using e⟩
    rw [show F = fun k => if (a.length : Int) = (b.length : Int) then L k 0 else some false from funext h0]
    exact ev_pos (by omega) hr
  · refine ⟨false, ?_, fun e => (by cases e), fun e => absurd (by rw [e]) h⟩
    rw [show F = fun k => if (a.length : Int) = (b.length : Int) then L k 0 else some false from funext h0]
    exact ev_neg (by omega) (Ev.now _)
theorem sz_loop (z : α) (l : List α) (hM : l.length ≤ 9223372036854775806) (L : Nat → Int → Int → Option Int) (G : Nat → α → Int → Option Int) (Q : α → Prop) (N : Int)
    (h1 : ∀ k x i, 0 ≤ i → i < (l.length : Int) → L (k + 1) x i = (G k (l.getD i.toNat z) x).bind fun t => if t < 0 then some (-1) else L k t (wrap64 (i + 1)))
    (h2 : ∀ k x i, ¬ i < (l.length : Int) → L (k + 1) x i = some x)
    (hG : ∀ a ∈ l, ∀ x, 0 ≤ x → x ≤ N → ∃ r, Ev (fun k => G k a x) r ∧ (r < 0 ∨ (0 ≤ r ∧ r ≤ x ∧ Q a))) (d : Nat) : ∀ (x i : Int), 0 ≤ i → i ≤ l.length → 0 ≤ x → x ≤ N → (l.length : Int) - i = d →
    ∃ r, Ev (fun k => L k x i) r ∧ (r < 0 ∨ (0 ≤ r ∧ r ≤ x ∧ ∀ a ∈ l.drop i.toNat, Q a)) := by
  induction d with
  | zero =>
    intro x i h0 hi hx hx2 hd
    refine ⟨x, Ev.step (fun k => h2 k x i (by omega)) (Ev.now _), .inr ⟨hx, by omega, ?_⟩⟩
    rw [List.drop_eq_nil_iff.mpr (by omega)]; simp
  | succ d ih =>
    intro x i h0 hi hx hx2 hd
    have hlt : i < (l.length : Int) := by omega
    obtain ⟨t, ht, e⟩ := hG _ (getD_mem l z i h0 hlt) x hx hx2
    rw [drop_list l z i h0 hlt]
    rcases e with hneg | ⟨e1, e2, e3⟩
    · exact ⟨-1, Ev.step (fun k => h1 k x i h0 hlt) (ev_bind ht (ev_pos hneg (Ev.now _))), .inl (by omega)⟩
    · obtain ⟨r, hr, e'⟩ := ih t (i + 1) (by omega) (by omega) e1 (by omega) (by omega)
      refine ⟨r, Ev.step (fun k => h1 k x i h0 hlt) (ev_bind ht (ev_neg (by omega) ?_)), ?_⟩
      · rw [wrap_id (by omega) (by omega)]; exact hr
      · rcases e' with h | ⟨h3, h4, h5⟩
        · exact .inl h
        · refine .inr ⟨h3, by omega, fun q hq => ?_⟩
          rcases List.mem_cons.1 hq with rfl | hq
          · exact e3
          · exact h5 q hq
theorem to_loop (z : α) (l : List α) (hM : l.length ≤ 9223372036854775806) (L : Nat → List β → Int → Option (List β)) (G : Nat → α → Option γ) (c : γ → β) (g : α → γ)
    (h1 : ∀ k acc i, 0 ≤ i → i < (l.length : Int) → acc.length = l.length → L (k + 1) acc i = (G k (l.getD i.toNat z)).bind fun y => L k (acc.set i.toNat (c y)) (wrap64 (i + 1)))
    (h2 : ∀ k acc i, ¬ i < (l.length : Int) → L (k + 1) acc i = some acc)
    (hG : ∀ a ∈ l, Ev (fun k => G k a) (g a)) (d : Nat) : ∀ (acc : List β) (i : Int), acc.length = l.length → 0 ≤ i → i ≤ l.length → acc.take i.toNat = (l.map fun a => c (g a)).take i.toNat → (l.length : Int) - i = d →
    Ev (fun k => L k acc i) (l.map fun a => c (g a)) := by
  induction d with
  | zero =>
    intro acc i hz h0 hi ht hd
    refine Ev.step (fun k => h2 k acc i (by omega)) (ev_some ?_)
    rwa [List.take_of_length_le (by omega), List.take_of_length_le (by rw [List.length_map]; omega)] at ht
  | succ d ih =>
    intro acc i hz h0 hi ht hd
    have hlt : i < (l.length : Int) := by omega
    refine Ev.step (fun k => h1 k acc i h0 hlt hz) (ev_bind (hG _ (getD_mem l z i h0 hlt)) ?_)
    rw [wrap_id (by omega) (by omega)]
    refine ih _ (i + 1) (by rw [List.length_set]; exact hz) (by omega) (by omega) ?_ (by omega)
    have hil : i.toNat < acc.length := by omega
    have hil' : i.toNat < l.length := by omega
    rw [show (i + 1).toNat = i.toNat + 1 by omega, List.take_add_one, List.take_add_one, List.take_set_of_le (Nat.le_refl _), ht, List.getElem?_set_self hil]
    congr 1
    rw [List.getElem?_map, List.getD_eq_getElem?_getD, List.getElem?_eq_getElem hil']; rfl
end Go.Proofs.Ytehgojpiahmalaa.Loops

