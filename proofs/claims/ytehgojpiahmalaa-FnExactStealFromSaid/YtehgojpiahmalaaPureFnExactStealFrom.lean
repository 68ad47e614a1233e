/- StealFrom of the program and of the reference agree at all arguments; a second call answers anew and shares nothing: no condition. -/
import Derived.Test.YtehgojpiahmalaaDecks
import Derived.Test.YtehgojpiahmalaaStlLaw
namespace Go.Proofs.Ytehgojpiahmalaa.PStl
open Go.RowKit Go.Proofs.YtehgojpiahmalaaW.PrintWords Go.Proofs.YtehgojpiahmalaaW.PrintLast Go.Proofs.YtehgojpiahmalaaW.PrintMore Go.Proofs.Ytehgojpiahmalaa.Aid Go.Proofs.Ytehgojpiahmalaa.Loops Go.Proofs.Ytehgojpiahmalaa.Put
set_option linter.unusedSimpArgs false
set_option linter.unusedVariables false
def marksI (n : Nat) (a : Int) : List Int := (List.range n).map fun j : Nat => a + (j : Int)
theorem marksI_length (n : Nat) (a : Int) : (marksI n a).length = n := by simp [marksI]
theorem laws_markIntS.loop (n : Nat) (hn : n ≤ 4611686018427387904) (a : Int) (ha : 0 ≤ a) (ha2 : a ≤ 4000000000000) (d : Nat) : ∀ (l : List Int) (i : Int), l.length = n → 0 ≤ i → i ≤ n → (n : Int) - i = d → l.take i.toNat = (marksI n a).take i.toNat →
    Ev (fun k => laws_markIntS.l0 k l (a + i) i) (a + n, marksI n a) := by
  induction d with
  | zero =>
    intro l i hl h0 h1 hd ht
    refine Ev.step (fun k => by rw [laws_markIntS.l0, if_neg (by omega)]) (ev_some ?_)
    have hi : i.toNat = n := by omega
    rw [hi, List.take_of_length_le (by omega), List.take_of_length_le (by rw [marksI_length]; omega)] at ht
    rw [ht, show i = (n : Int) by omega]
  | succ d ih =>
    intro l i hl h0 h1 hd ht
    refine Ev.step (fun k => by rw [laws_markIntS.l0, if_pos (by omega), if_pos h0]) ?_
    rw [wrap_id (x := a + i + 1) (by omega) (by omega), wrap_id (x := i + 1) (by omega) (by omega), show a + i + 1 = a + (i + 1) by omega]
    refine ih _ (i + 1) (by rw [List.length_set]; exact hl) (by omega) (by omega) (by omega) ?_
    have hil : i.toNat < l.length := by omega
    have him : i.toNat < (marksI n a).length := by rw [marksI_length]; omega
    rw [show (i + 1).toNat = i.toNat + 1 by omega, List.take_add_one, List.take_add_one, List.take_set_of_le (Nat.le_refl _), ht, List.getElem?_set_self hil, List.getElem?_eq_getElem him]
    congr 1
    simp [marksI, show (i.toNat : Int) = i by omega]
theorem laws_markIntS.is (l : List Int) (hl : l.length ≤ 4611686018427387904) (a : Int) (ha : 0 ≤ a) (ha2 : a ≤ 4000000000000) : Ev (fun k => laws_markIntS.f k l a) (a + l.length, marksI l.length a) := by
  have h := laws_markIntS.loop l.length hl a ha ha2 l.length l 0 rfl (by omega) (by omega) (by omega) (by simp)
  rw [Int.add_zero] at h; exact h
theorem laws_heldIntS.loop (n : Nat) (hn : n ≤ 4611686018427387904) (a : Int) (ha : 0 ≤ a) (ha2 : a ≤ 4000000000000) (d : Nat) : ∀ i : Int, 0 ≤ i → i ≤ n → (n : Int) - i = d →
    Ev (fun k => laws_heldIntS.l0 k (marksI n a) (a + i) i) (a + n) := by
  induction d with
  | zero =>
    intro i h0 h1 hd
    exact Ev.step (fun k => by rw [laws_heldIntS.l0, marksI_length, if_neg (by omega)]) (ev_some (by omega))
  | succ d ih =>
    intro i h0 h1 hd
    have e : rd (marksI n a) i = a + i := by
      have him : i.toNat < (marksI n a).length := by rw [marksI_length]; omega
      show (marksI n a).getD i.toNat 0 = _
      rw [List.getD_eq_getElem?_getD, List.getElem?_eq_getElem him]
      simp [marksI, show (i.toNat : Int) = i by omega]
    refine Ev.step (fun k => by rw [laws_heldIntS.l0, marksI_length, if_pos (by omega), if_pos h0, e, if_pos rfl]) ?_
    rw [wrap_id (x := a + i + 1) (by omega) (by omega), wrap_id (x := i + 1) (by omega) (by omega), show a + i + 1 = a + (i + 1) by omega]
    exact ih (i + 1) (by omega) (by omega) (by omega)
theorem laws_heldIntS.is (n : Nat) (hn : n ≤ 4611686018427387904) (a : Int) (ha : 0 ≤ a) (ha2 : a ≤ 4000000000000) : Ev (fun k => laws_heldIntS.f k (marksI n a) a) (a + n) := by
  have h := laws_heldIntS.loop n hn a ha ha2 n 0 (by omega) (by omega) (by omega)
  rw [Int.add_zero] at h; exact h
def marksSS : List (List Int) → Int → List (List Int)
  | [], _ => []
  | x :: l, a => marksI x.length a :: marksSS l (a + x.length)
theorem laws_markIntSS.loop (hN : Nat) : ∀ (suf pre : List (List Int)) (a : Int), (pre.length + suf.length ≤ 1048576) → (∀ e ∈ suf, e.length ≤ 1048576) → 0 ≤ a → a + (suf.flatten.length : Int) ≤ 4000000000000 →
    Ev (fun k => laws_markIntSS.l0 k (pre ++ suf) a (pre.length : Int)) (a + (suf.flatten.length : Int), pre ++ marksSS suf a)
  | [], pre, a, h1, h2, h3, h4 => by
    refine Ev.step (fun k => by rw [laws_markIntSS.l0, if_neg (by simp)]) (ev_some (by simp [marksSS]))
  | x :: suf, pre, a, h1, h2, h3, h4 => by
    have hx := h2 x (by simp)
    rw [List.flatten_cons, List.length_append] at h4
    have hlen : ((pre ++ x :: suf).length : Int) = (pre.length : Int) + (suf.length : Int) + 1 := by rw [List.length_append, List.length_cons]; omega
    have hg : (pre ++ x :: suf).getD ((pre.length : Int)).toNat [] = x := by simp
    have hs : ∀ y, (pre ++ x :: suf).set ((pre.length : Int)).toNat y = (pre ++ [y]) ++ suf := fun y => by simp
    refine Ev.step (fun k => by rw [laws_markIntSS.l0, if_pos (by omega), if_pos (by omega), hg]) (ev_bind (laws_markIntS.is x (by omega) a h3 (by omega)) ?_)
    simp only []
    rw [List.length_cons] at h1
    rw [hs, wrap_id (x := (pre.length : Int) + 1) (by omega) (by omega)]
    have ih := laws_markIntSS.loop hN suf (pre ++ [marksI x.length a]) (a + (x.length : Int)) (by rw [List.length_append, List.length_singleton]; omega) (fun e he => h2 e (List.mem_cons_of_mem _ he)) (by omega) (by omega)
    rw [show ((pre ++ [marksI x.length a]).length : Int) = (pre.length : Int) + 1 from by simp] at ih
    refine ev_eq ih ?_
    rw [List.flatten_cons, List.length_append, marksSS]
    simp only [Prod.mk.injEq, List.append_assoc, List.singleton_append, and_true]
    omega
theorem laws_markIntSS.is (l : List (List Int)) (hl : l.length ≤ 1048576) (hs : ∀ e ∈ l, e.length ≤ 1048576) (hf : (l.flatten.length : Int) ≤ 3000000000000) : Ev (fun k => laws_markIntSS.f k l 1) (1 + (l.flatten.length : Int), marksSS l 1) := by
  have h := laws_markIntSS.loop 0 l [] 1 (by simpa using hl) hs (by omega) (by omega)
  exact h
theorem marksSS_length : ∀ (l : List (List Int)) (a : Int), (marksSS l a).length = l.length
  | [], _ => rfl
  | x :: l, a => by rw [marksSS, List.length_cons, List.length_cons, marksSS_length l]
theorem laws_heldIntSS.loop : ∀ (suf pre : List (List Int)) (a : Int), (pre.length + suf.length ≤ 1048576) → (∀ e ∈ suf, e.length ≤ 1048576) → 0 ≤ a → a + (suf.flatten.length : Int) ≤ 4000000000000 →
    Ev (fun k => laws_heldIntSS.l0 k (pre ++ marksSS suf a) a (pre.length : Int)) (a + (suf.flatten.length : Int))
  | [], pre, a, h1, h2, h3, h4 => by
    refine Ev.step (fun k => by rw [laws_heldIntSS.l0, if_neg (by simp [marksSS])]) (ev_some (by simp))
  | x :: suf, pre, a, h1, h2, h3, h4 => by
    have hx := h2 x (by simp)
    rw [List.flatten_cons, List.length_append] at h4
    rw [List.length_cons] at h1
    rw [marksSS]
    have hlen : ((pre ++ marksI x.length a :: marksSS suf (a + (x.length : Int))).length : Int) = (pre.length : Int) + (suf.length : Int) + 1 := by rw [List.length_append, List.length_cons, marksSS_length]; omega
    have hg : rd_L1 (pre ++ marksI x.length a :: marksSS suf (a + (x.length : Int))) (pre.length : Int) = marksI x.length a := by unfold rd_L1; simp
    refine Ev.step (fun k => by rw [laws_heldIntSS.l0, if_pos (by omega), if_pos (by omega), hg]) (ev_bind (laws_heldIntS.is x.length (by omega) a h3 (by omega)) (ev_neg (show ¬ (a + (x.length : Int)) < 0 by omega) ?_))
    rw [wrap_id (x := (pre.length : Int) + 1) (by omega) (by omega)]
    have ih := laws_heldIntSS.loop suf (pre ++ [marksI x.length a]) (a + (x.length : Int)) (by rw [List.length_append, List.length_singleton]; omega) (fun e he => h2 e (List.mem_cons_of_mem _ he)) (by omega) (by omega)
    rw [show ((pre ++ [marksI x.length a]).length : Int) = (pre.length : Int) + 1 from by simp, List.append_assoc, List.singleton_append] at ih
    refine ev_eq ih ?_
    rw [List.flatten_cons, List.length_append]
    omega
theorem laws_heldIntSS.is (l : List (List Int)) (hl : l.length ≤ 1048576) (hs : ∀ e ∈ l, e.length ≤ 1048576) (hf : (l.flatten.length : Int) ≤ 3000000000000) : Ev (fun k => laws_heldIntSS.f k (marksSS l 1) 1) (1 + (l.flatten.length : Int)) :=
  laws_heldIntSS.loop l [] 1 (by simpa using hl) hs (by omega) (by omega)
/- copies -/
theorem spec_l12Own.loop (D : List (List Int)) (hD : deckOk D) (e : Nat) : ∀ (acc : List (List Int)) (i : Int), 0 ≤ i → i ≤ D.length → (D.length : Int) - i = e → acc = D.take i.toNat → Ev (fun k => spec_l12Own.l0 k acc D (D.length : Int) i) D := by
  have hfew := hD.few
  induction e with
  | zero =>
    intro acc i h0 h1 he ha
    rw [List.take_of_length_le (by omega)] at ha
    subst ha
    exact Ev.step (fun k => by rw [spec_l12Own.l0, if_neg (by omega)]) (Ev.now _)
  | succ e ih =>
    intro acc i h0 h1 he ha
    have hlt : i < (D.length : Int) := by omega
    have hs := hD.short _ (L_mem D i h0 hlt)
    have hal : acc.length ≤ 1048576 := by rw [ha, List.length_take]; omega
    refine Ev.step (fun k => by rw [spec_l12Own.l0, if_pos hlt, if_pos h0, if_pos hlt]) ?_
    refine ev_bind0 (a := rd_L1 D i) (by unfold spec_l1Own.f; rw [Option.bind_some, if_pos (by simp; omega), List.nil_append]) (ev_pos (by omega) ?_)
    rw [wrap_id (x := i + 1) (by omega) (by omega)]
    refine ih _ (i + 1) (by omega) (by omega) (by omega) ?_
    have hil : i.toNat < D.length := by omega
    rw [ha, show (i + 1).toNat = i.toNat + 1 by omega, List.take_add_one, List.getElem?_eq_getElem hil]
    unfold rd_L1
    rw [List.getD_eq_getElem?_getD, List.getElem?_eq_getElem hil]; rfl
theorem spec_l12Own.is (D : List (List Int)) (hD : deckOk D) : Ev (fun k => spec_l12Own.f k D) D := spec_l12Own.loop D hD D.length [] 0 (by omega) (by omega) (by omega) (by simp)
theorem impl_ownDecks.loop (D : List (List Int)) (hD : deckOk D) (e : Nat) : ∀ (acc : List (List Int)) (i : Int), 0 ≤ i → i ≤ D.length → (D.length : Int) - i = e → acc = D.take i.toNat → Ev (fun k => impl_ownDecks.l0 k acc D (D.length : Int) i) D := by
  have hfew := hD.few
  induction e with
  | zero =>
    intro acc i h0 h1 he ha
    rw [List.take_of_length_le (by omega)] at ha
    subst ha
    exact Ev.step (fun k => by rw [impl_ownDecks.l0, if_neg (by omega)]) (Ev.now _)
  | succ e ih =>
    intro acc i h0 h1 he ha
    have hlt : i < (D.length : Int) := by omega
    have hs := hD.short _ (L_mem D i h0 hlt)
    have hal : acc.length ≤ 1048576 := by rw [ha, List.length_take]; omega
    refine Ev.step (fun k => by rw [impl_ownDecks.l0, if_pos hlt, if_pos h0, if_pos hlt]) ?_
    refine ev_bind0 (a := rd_L1 D i) (by unfold slices_Clone_int_int.f; rw [if_pos (by omega)]) (ev_pos (by omega) ?_)
    rw [wrap_id (x := i + 1) (by omega) (by omega)]
    refine ih _ (i + 1) (by omega) (by omega) (by omega) ?_
    have hil : i.toNat < D.length := by omega
    rw [ha, show (i + 1).toNat = i.toNat + 1 by omega, List.take_add_one, List.getElem?_eq_getElem hil]
    unfold rd_L1
    rw [List.getD_eq_getElem?_getD, List.getElem?_eq_getElem hil]; rfl
theorem impl_ownDecks.is (D : List (List Int)) (hD : deckOk D) : Ev (fun k => impl_ownDecks.f k D) D := impl_ownDecks.loop D hD D.length [] 0 (by omega) (by omega) (by omega) (by simp)
/- stealing -/
open Classical in
noncomputable def stealR (d : List (List Int)) (w : Int) : List (List Int) × Int × Bool := if good d ∧ 0 ≤ w ∧ w ≤ (d.length : Int) - 1 ∧ (rd_L1 d w).length ≠ 0 then (d.set w.toNat ((rd_L1 d w).drop 1), rd (rd_L1 d w) 0, true) else ([], 0, false)
theorem spec_StealFrom.is (d : List (List Int)) (hd : deckOk d) (w : Int) : Ev (fun k => spec_StealFrom.f k d w) (stealR d w) := by
  have hfew := hd.few
  obtain ⟨g, hg, eg⟩ := spec_l12Good.is d hd
  obtain ⟨b, hb, eb⟩ := spec_l1In.is' w 0 (wrap64 ((d.length : Int) - 1))
  rw [wrap_id (by omega) (by omega)] at eb
  unfold spec_StealFrom.f spec_l12Asked.f
  cases g with
  | false => exact ev_bind (a := false) (ev_bind hg (ev_neg (by simp) (Ev.now _))) (ev_neg (by simp) (ev_some (by unfold stealR; rw [if_neg (fun h => by have := eg.2 h.1; cases this)])))
  | true =>
    cases b with
    | false => exact ev_bind (a := false) (ev_bind hg (ev_pos rfl (ev_bind0 hb (Ev.now _)))) (ev_neg (by simp) (ev_some (by unfold stealR; rw [if_neg (fun h => by have := eb.2 ⟨h.2.1, h.2.2.1⟩; cases this)])))
    | true =>
      have eb1 := eb.1 rfl
      refine ev_bind (a := true) (ev_bind hg (ev_pos rfl (ev_bind0 hb (Ev.now _)))) (ev_pos rfl (ev_pos eb1.1 (ev_pos (by omega) ?_)))
      by_cases hn : ((rd_L1 d w).length : Int) = 0
      · exact ev_pos hn (ev_some (by unfold stealR; rw [if_neg (fun h => by omega)]))
      · refine ev_neg hn (ev_bind (spec_l12Own.is d hd) (ev_pos (by omega) (ev_pos (by omega) (ev_pos (by omega) (ev_some ?_)))))
        unfold stealR
        rw [if_pos ⟨eg.1 rfl, eb1.1, eb1.2, by omega⟩]
theorem impl_StealFrom.is (d : List (List Int)) (hd : deckOk d) (w : Int) : Ev (fun k => impl_StealFrom.f k d w) (stealR d w) := by
  have hfew := hd.few
  obtain ⟨g, hg, eg⟩ := impl_GoodDecks.is d hd
  obtain ⟨b, hb, eb⟩ := impl_within.is' w 0 (wrap64 ((d.length : Int) - 1))
  rw [wrap_id (by omega) (by omega)] at eb
  unfold impl_StealFrom.f
  refine ev_bind (a := stealR d w) ?_ (ev_some rfl)
  unfold impl_takeFrom.f impl_isWorker.f
  refine ev_neg (by simp) ?_
  cases g with
  | false => exact ev_bind (a := false) (ev_bind hg (ev_neg (by simp) (Ev.now _))) (ev_neg (by simp) (ev_some (by unfold stealR; rw [if_neg (fun h => by have := eg.2 h.1; cases this)])))
  | true =>
    cases b with
    | false => exact ev_bind (a := false) (ev_bind hg (ev_pos rfl (ev_bind0 hb (Ev.now _)))) (ev_neg (by simp) (ev_some (by unfold stealR; rw [if_neg (fun h => by have := eb.2 ⟨h.2.1, h.2.2.1⟩; cases this)])))
    | true =>
      have eb1 := eb.1 rfl
      refine ev_bind (a := true) (ev_bind hg (ev_pos rfl (ev_bind0 hb (Ev.now _)))) (ev_pos rfl (ev_pos eb1.1 (ev_pos (by omega) ?_)))
      show Ev (fun k => if (rd_L1 d w).length = 0 then _ else _) _
      by_cases hn : (rd_L1 d w).length = 0
      · exact ev_pos hn (ev_some (by unfold stealR; rw [if_neg (fun h => h.2.2.2 hn)]))
      · refine ev_neg hn (ev_bind (impl_ownDecks.is d hd) (ev_pos (by omega) ?_))
        refine ev_pos (show 0 < (rd_L1 d w).length by omega) (ev_some ?_)
        unfold stealR
        rw [if_pos ⟨eg.1 rfl, eb1.1, eb1.2, hn⟩]
        rfl
theorem flat_set_le : ∀ (d : List (List Int)) (n : Nat) (y : List Int), y.length ≤ (d.getD n []).length → (d.set n y).flatten.length ≤ d.flatten.length
  | [], _, _, _ => by simp
  | x :: d, 0, y, h => by simp at h; simp; omega
  | x :: d, n + 1, y, h => by
    have := flat_set_le d n y (by simpa using h)
    rw [List.set_cons_succ, List.flatten_cons, List.flatten_cons, List.length_append, List.length_append]; omega
theorem stealR_ok (d : List (List Int)) (hd : deckOk d) (w : Int) : deckOk (stealR d w).1 ∧ (stealR d w).1.flatten.length ≤ 1099511627776 := by
  have hk : deckOk (stealR d w).1 := by
    unfold stealR
    split
    · rename_i h
      refine ⟨by rw [List.length_set]; exact hd.few, fun e he => ?_⟩
      rcases List.mem_or_eq_of_mem_set he with he | he
      · exact hd.short e he
      · have hfew := hd.few
        have := hd.short _ (L_mem d w h.2.1 (by omega))
        rw [he, List.length_drop]; omega
    · exact ⟨Nat.zero_le _, fun e he => by cases he⟩
  exact ⟨hk, hk.flat⟩
theorem law (A0 : Option Addr) (c0 : Nat) (l0 : List (List Int)) (a1 : Int) (w : World) (hr0 : Kd.C (Kd.slice 3 (Kd.int .i64)) w A0 l0.length l0) (hc0 : l0.length ≤ c0) (hl : l0.length ≤ 9223372036854775807) (hg : ∀ e ∈ l0, e.length ≤ 9223372036854775807) :
    Calls Try.prog 5 #[.slice A0 l0.length c0, .int .i64 a1] w fun e w' => e = .returned (.bool true) ∧ Below w.heap.size w w' := by
  obtain ⟨s, ⟨K1, h1⟩, e⟩ := laws_szIntSS.is l0 hl hg 1048576 (by omega) (by omega)
  rcases e with e | ⟨e1, e2, e3, e4⟩
  · exact law_neg K1 A0 c0 l0 a1 s w hr0 hc0 (h1 K1 (Nat.le_refl _)) e
  have hd : deckOk l0 := ⟨e3, e4⟩
  obtain ⟨K2, h2⟩ := laws_toIntSS.is l0 e3 e4
  obtain ⟨K3, h3⟩ := spec_StealFrom.is l0 hd a1
  obtain ⟨K4, h4⟩ := impl_StealFrom.is l0 hd a1
  obtain ⟨hk, hf⟩ := stealR_ok l0 hd a1
  have hf0 := hd.flat
  generalize stealR l0 a1 = R at h3 h4 hk hf
  obtain ⟨R1, R2, R3⟩ := R
  have hkf := hk.few
  obtain ⟨K5, h5⟩ := laws_eqIntSS.same R1 (by simp only at hkf; omega) hk.short
  obtain ⟨K6, h6⟩ := laws_eqIntSS.same l0 (by omega) e4
  obtain ⟨K7, h7⟩ := laws_markIntSS.is l0 e3 e4 (by omega)
  obtain ⟨K8, h8⟩ := laws_markIntSS.is R1 hk.few hk.short (by simp only at hf; omega)
  obtain ⟨K9, h9⟩ := laws_heldIntSS.is R1 hk.few hk.short (by simp only at hf; omega)
  exact law_true (K1 + K2 + K3 + K4 + K5 + K6 + K7 + K8 + K9) A0 c0 l0 a1 s _ _ R1 _ _ R2 R3 w hr0 hc0 (h1 _ (by omega)) (by omega) (h2 _ (by omega)) (h3 _ (by omega)) (h4 _ (by omega)) (h5 _ (by omega)) (h6 _ (by omega)) (h7 _ (by omega)) (by omega) (h8 _ (by omega)) (h9 _ (by omega)) (by omega)
end Go.Proofs.Ytehgojpiahmalaa.PStl

