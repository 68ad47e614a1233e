/- VictimOf of the program and of the reference agree at all arguments: no condition. -/
import Derived.Test.YtehgojpiahmalaaDecks
namespace Go.Proofs.Ytehgojpiahmalaa.PDecks
open Go.RowKit Go.Proofs.YtehgojpiahmalaaW.PrintWords Go.Proofs.YtehgojpiahmalaaW.PrintLast Go.Proofs.YtehgojpiahmalaaW.PrintMore Go.Proofs.Ytehgojpiahmalaa.Aid Go.Proofs.Ytehgojpiahmalaa.Loops Go.Proofs.Ytehgojpiahmalaa.Put
def vict (w : Int) : List (List Int) → Int → List Int
  | [], _ => []
  | l :: d, i => if i = w then vict w d (i + 1) else if (l.length : Int) > 0 then i :: vict w d (i + 1) else vict w d (i + 1)
theorem vict_le (w : Int) : ∀ (d : List (List Int)) (i : Int), (vict w d i).length ≤ d.length
  | [], _ => Nat.le_refl _
  | l :: d, i => by
    have := vict_le w d (i + 1)
    unfold vict
    rw [List.length_cons]
    split
    · omega
    · split
      · rw [List.length_cons]; omega
      · omega
theorem vict_pos (w : Int) : ∀ (d : List (List Int)) (i : Int), 0 ≤ i → ∀ x ∈ vict w d i, 0 ≤ x
  | [], _, _ => fun x hx => by cases hx
  | l :: d, i, h => by
    have := vict_pos w d (i + 1) (by omega)
    unfold vict
    split
    · exact this
    · split
      · intro x hx
        rcases List.mem_cons.1 hx with rfl | hx
        · exact h
        · exact this x hx
      · exact this
theorem spec_l12Victims.loop (w : Int) (D : List (List Int)) (hD : deckOk D) (e : Nat) : ∀ (acc : List Int) (i : Int), 0 ≤ i → i ≤ D.length → (D.length : Int) - i = e → (acc.length : Int) ≤ i →
    Ev (fun k => spec_l12Victims.l0 k w acc D (D.length : Int) i) (acc ++ vict w (D.drop i.toNat) i) := by
  induction e with
  | zero =>
    intro acc i h0 h1 hd hm
    refine Ev.step (fun k => by rw [spec_l12Victims.l0, if_neg (by omega)]) (ev_some ?_)
    rw [List.drop_eq_nil_iff.mpr (by omega)]; simp [vict]
  | succ e ih =>
    intro acc i h0 h1 hd hm
    have hlt : i < (D.length : Int) := by omega
    have hfew := hD.few
    rw [L_drop D i h0 hlt, vict]
    by_cases h2 : i = w
    · refine Ev.step (fun k => by rw [spec_l12Victims.l0, if_pos hlt, if_pos h0, if_pos hlt, if_pos h2, wrap_id (by omega) (by omega)]) ?_
      rw [if_pos h2]; exact ih acc (i + 1) (by omega) (by omega) (by omega) (by omega)
    · rw [if_neg h2]
      by_cases h3 : ((rd_L1 D i).length : Int) > 0
      · refine Ev.step (fun k => by rw [spec_l12Victims.l0, if_pos hlt, if_pos h0, if_pos hlt, if_neg h2, if_pos h3, if_pos (by omega), wrap_id (by omega) (by omega)]) ?_
        rw [if_pos h3]
        exact ev_eq (ih (acc ++ [i]) (i + 1) (by omega) (by omega) (by omega) (by rw [List.length_append, List.length_singleton]; omega)) (by simp)
      · refine Ev.step (fun k => by rw [spec_l12Victims.l0, if_pos hlt, if_pos h0, if_pos hlt, if_neg h2, if_neg h3, wrap_id (by omega) (by omega)]) ?_
        rw [if_neg h3]; exact ih acc (i + 1) (by omega) (by omega) (by omega) (by omega)
theorem spec_l12Victims.is (w : Int) (D : List (List Int)) (hD : deckOk D) : Ev (fun k => spec_l12Victims.f k D w) (vict w D 0) :=
  ev_eq (spec_l12Victims.loop w D hD D.length [] 0 (by omega) (by omega) (by omega) (by simp)) (by simp)
def pickV (v : List Int) (n : Int) : Int := if v.length = 0 then -1 else rd v (Int.tmod n (v.length : Int))
theorem tmod_in (n m : Int) (h0 : 0 ≤ n) (hm : 0 < m) : 0 ≤ Int.tmod n m ∧ Int.tmod n m < m := by
  rw [Int.tmod_eq_emod_of_nonneg h0]; exact ⟨Int.emod_nonneg _ (by omega), Int.emod_lt_of_pos _ hm⟩
theorem impl_victim.loop (w n : Int) (hn : 0 ≤ n) (D : List (List Int)) (hD : deckOk D) (e : Nat) : ∀ (acc : List Int) (i : Int), 0 ≤ i → i ≤ D.length → (D.length : Int) - i = e → (acc.length : Int) ≤ i →
    Ev (fun k => impl_victim.l0 k w n acc D (D.length : Int) i) (pickV (acc ++ vict w (D.drop i.toNat) i) n) := by
  induction e with
  | zero =>
    intro acc i h0 h1 hd hm
    rw [List.drop_eq_nil_iff.mpr (by omega), vict, List.append_nil]
    by_cases h2 : (acc.length : Int) = 0
    · exact Ev.step (fun k => by rw [impl_victim.l0, if_neg (by omega), if_pos h2]) (ev_some (by unfold pickV; rw [if_pos (by omega)]))
    · have ht := tmod_in n (acc.length : Int) hn (by omega)
      exact Ev.step (fun k => by rw [impl_victim.l0, if_neg (by omega), if_neg h2, if_pos ht.1, if_pos ht.2]) (ev_some (by unfold pickV; rw [if_neg (by omega)]))
  | succ e ih =>
    intro acc i h0 h1 hd hm
    have hlt : i < (D.length : Int) := by omega
    have hfew := hD.few
    rw [L_drop D i h0 hlt, vict]
    by_cases h2 : i = w
    · refine Ev.step (fun k => by rw [impl_victim.l0, if_pos hlt, if_pos h0, if_pos hlt, if_pos h2, wrap_id (by omega) (by omega)]) ?_
      rw [if_pos h2]; exact ih acc (i + 1) (by omega) (by omega) (by omega) (by omega)
    · rw [if_neg h2]
      by_cases h3 : ((rd_L1 D i).length : Int) > 0
      · refine Ev.step (fun k => by rw [impl_victim.l0, if_pos hlt, if_pos h0, if_pos hlt, if_neg h2, if_pos h3, if_pos (by omega), wrap_id (by omega) (by omega)]) ?_
        rw [if_pos h3]
        exact ev_eq (ih (acc ++ [i]) (i + 1) (by omega) (by omega) (by omega) (by rw [List.length_append, List.length_singleton]; omega)) (by simp)
      · refine Ev.step (fun k => by rw [impl_victim.l0, if_pos hlt, if_pos h0, if_pos hlt, if_neg h2, if_neg h3, wrap_id (by omega) (by omega)]) ?_
        rw [if_neg h3]; exact ih acc (i + 1) (by omega) (by omega) (by omega) (by omega)
theorem impl_victim.is (w n : Int) (hn : 0 ≤ n) (D : List (List Int)) (hD : deckOk D) : Ev (fun k => impl_victim.f k D w n) (pickV (vict w D 0) n) :=
  ev_eq (impl_victim.loop w n hn D hD D.length [] 0 (by omega) (by omega) (by omega) (by simp)) (by simp)
theorem rd_mem' (l : List Int) (i : Int) (h0 : 0 ≤ i) (h1 : i < (l.length : Int)) : rd l i ∈ l := getD_mem l 0 i h0 h1
open Classical in
noncomputable def victR (d : List (List Int)) (w n : Int) : Int × Bool := if good d ∧ 0 ≤ w ∧ w ≤ (d.length : Int) - 1 ∧ 0 ≤ n ∧ (vict w d 0).length ≠ 0 then (rd (vict w d 0) (Int.tmod n ((vict w d 0).length : Int)), true) else (0, false)
theorem spec_VictimOf.is (d : List (List Int)) (hd : deckOk d) (w n : Int) : Ev (fun k => spec_VictimOf.f k d w n) (victR d w n) := by
  have hfew := hd.few
  obtain ⟨g, hg, eg⟩ := spec_l12Good.is d hd
  obtain ⟨b, hb, eb⟩ := spec_l1In.is' w 0 (wrap64 ((d.length : Int) - 1))
  rw [wrap_id (by omega) (by omega)] at eb
  have hv := spec_l12Victims.is w d hd
  unfold spec_VictimOf.f spec_l12Asked.f
  cases g with
  | false => exact ev_bind (a := false) (ev_bind hg (ev_neg (by simp) (Ev.now _))) (ev_neg (by simp) (ev_some (by unfold victR; rw [if_neg (fun h => by have := eg.2 h.1; cases this)])))
  | true =>
    cases b with
    | false => exact ev_bind (a := false) (ev_bind hg (ev_pos rfl (ev_bind0 hb (Ev.now _)))) (ev_neg (by simp) (ev_some (by unfold victR; rw [if_neg (fun h => by have := eb.2 ⟨h.2.1, h.2.2.1⟩; cases this)])))
    | true =>
      refine ev_bind (a := true) (ev_bind hg (ev_pos rfl (ev_bind0 hb (Ev.now _)))) (ev_pos rfl ?_)
      by_cases hn : n < 0
      · exact ev_pos hn (ev_some (by unfold victR; rw [if_neg (fun h => by omega)]))
      · refine ev_neg hn (ev_bind hv ?_)
        by_cases hz : ((vict w d 0).length : Int) = 0
        · exact ev_pos hz (ev_some (by unfold victR; rw [if_neg (fun h => by omega)]))
        · have ht := tmod_in n ((vict w d 0).length : Int) (by omega) (by omega)
          refine ev_neg hz (ev_bind hv (ev_neg hz (ev_pos ht.1 (ev_pos ht.2 (ev_some ?_)))))
          unfold victR
          rw [if_pos ⟨eg.1 rfl, (eb.1 rfl).1, (eb.1 rfl).2, by omega, by omega⟩]
theorem impl_VictimOf.is (d : List (List Int)) (hd : deckOk d) (w n : Int) : Ev (fun k => impl_VictimOf.f k d w n) (victR d w n) := by
  have hfew := hd.few
  obtain ⟨g, hg, eg⟩ := impl_GoodDecks.is d hd
  obtain ⟨b, hb, eb⟩ := impl_within.is' w 0 (wrap64 ((d.length : Int) - 1))
  rw [wrap_id (by omega) (by omega)] at eb
  unfold impl_VictimOf.f impl_isWorker.f
  cases g with
  | false => exact ev_bind (a := false) (ev_bind hg (ev_neg (by simp) (Ev.now _))) (ev_neg (by simp) (ev_some (by unfold victR; rw [if_neg (fun h => by have := eg.2 h.1; cases this)])))
  | true =>
    cases b with
    | false => exact ev_bind (a := false) (ev_bind hg (ev_pos rfl (ev_bind0 hb (Ev.now _)))) (ev_neg (by simp) (ev_some (by unfold victR; rw [if_neg (fun h => by have := eb.2 ⟨h.2.1, h.2.2.1⟩; cases this)])))
    | true =>
      refine ev_bind (a := true) (ev_bind hg (ev_pos rfl (ev_bind0 hb (Ev.now _)))) (ev_pos rfl ?_)
      by_cases hn : n < 0
      · exact ev_pos hn (ev_some (by unfold victR; rw [if_neg (fun h => by omega)]))
      · refine ev_neg hn (ev_bind (impl_victim.is w n (by omega) d hd) (ev_some ?_))
        unfold victR pickV
        by_cases hz : (vict w d 0).length = 0
        · rw [if_pos hz, if_neg (fun h => by omega)]; rfl
        · have ht := tmod_in n ((vict w d 0).length : Int) (by omega) (by omega)
          have hp := vict_pos w d 0 (by omega) _ (rd_mem' _ _ ht.1 ht.2)
          rw [if_neg hz, if_pos ⟨eg.1 rfl, (eb.1 rfl).1, (eb.1 rfl).2, by omega, by omega⟩]
          rw [Prod.mk.injEq]
          exact ⟨by unfold mx; omega, decide_eq_true hp⟩
end Go.Proofs.Ytehgojpiahmalaa.PDecks
namespace Go.Proofs.Ytehgojpiahmalaa.Pure
open Go.RowKit Go.Proofs.Ytehgojpiahmalaa.PDecks Go.Proofs.YtehgojpiahmalaaW.PrintWords Go.Proofs.Ytehgojpiahmalaa.Aid
theorem FnExactVictimOf : laws_FnExactVictimOf.Pure := by
  intro d w n hd _ _
  refine Ev.rounds (r := true) ?_
  unfold laws_FnExactVictimOf.f
  obtain ⟨r, hr, e⟩ := laws_szIntSS.is d hd.1 (fun x hx => (hd.2 x hx).1) 1048576 (by omega) (by omega)
  rcases e with e | ⟨e1, e2, e3, e4⟩
  · exact ev_bind hr (ev_pos e (Ev.now _))
  refine ev_bind hr (ev_neg (by omega) ?_)
  have td := laws_toIntSS.is d e3 e4
  have hs := spec_VictimOf.is d ⟨e3, e4⟩ w n
  have ht := impl_VictimOf.is d ⟨e3, e4⟩ w n
  generalize victR d w n = v at hs ht
  refine ev_bind td (ev_bind hs (ev_bind td (ev_bind ht (ev_pos rfl ?_))))
  refine Ev.step (fun k => by rw [laws_FnExactVictimOf.j0, if_neg (by simp)]) ?_
  exact ev_bind td (ev_bind (laws_eqIntSS.same d (by omega) e4) (ev_pos rfl (Ev.now _)))
end Go.Proofs.Ytehgojpiahmalaa.Pure

