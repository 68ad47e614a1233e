/- What the goodness of one node is, for the program and for the reference. No condition. -/
import Derived.Test.YtmhjmicplaolmaaGreatDoorPathA
import Derived.Test.YtmhjmicplaolmaaGreatDoorBase
namespace Go.Proofs.YtmhjmicplaolmaaGreatDoor.PRm
open Go.RowKit Go.Proofs.YtmhjmicplaolmaaGreatDoorW.PrintWords Go.Proofs.YtmhjmicplaolmaaGreatDoorW.PrintLast Go.Proofs.YtmhjmicplaolmaaGreatDoorW.PrintMore Go.Proofs.YtmhjmicplaolmaaGreatDoor.Aid Go.Proofs.YtmhjmicplaolmaaGreatDoor.AllLoop Go.Proofs.YtmhjmicplaolmaaGreatDoor.Loops
set_option linter.unusedSimpArgs false
set_option linter.unusedVariables false
def Less (l : List S87) (i : Int) : Bool := Op.bytesLess (r87 l (i - 1)).f0.toList (r87 l i).f0.toList
def To (lo : Int) (ns : List S62) (x : Int) : Prop := lo ≤ x ∧ x < ns.length ∧ (r62 ns x).f0 ≠ 0
def mD (lo : Int) (ns : List S62) (l : List S87) (i : Int) : Prop := gM (r87 l i).f0 = true ∧ (0 < i → Less l i = true) ∧ To lo ns (r87 l i).f1
theorem qU {L : Nat → Int → Option Bool} {i : Int} {b : Bool} {less : Bool} {C : Prop} {nm T : Nat → Option Bool} (hnm : Ev nm b)
    (hstep : ∀ k, L (k + 1) i = (nm k).bind fun t => if t = true then (if i > 0 then (if less = true then T k else some false) else T k) else some false)
    (hT : C → ∀ r, Ev (fun k => L k (i + 1)) r → Ev T r) (hF : ¬ C → Ev T false) {P : Int → Prop} (hP : P i ↔ b = true ∧ (0 < i → less = true) ∧ C) : nU L P i := by
  by_cases hb : b = true
  · by_cases hl : 0 < i → less = true
    · by_cases hc : C
      · refine Or.inl ⟨hP.2 ⟨hb, hl, hc⟩, fun r hr => Ev.step hstep (aj hnm (af hb ?_))⟩
        exact ja (fun h => af (hl h) (hT hc r hr)) (fun _ => hT hc r hr)
      · refine Or.inr ⟨fun h => hc (hP.1 h).2.2, Ev.step hstep (aj hnm (af hb ?_))⟩
        exact ja (fun h => af (hl h) (hF hc)) (fun _ => hF hc)
    · refine Or.inr ⟨fun h => hl (hP.1 h).2.1, Ev.step hstep (aj hnm (af hb ?_))⟩
      have hi : 0 < i := Classical.byContradiction fun h => hl (fun h' => absurd h' h)
      exact af hi (aH (fun h => hl (fun _ => h)) (Ev.now _))
  · exact Or.inr ⟨fun h => hb (hP.1 h).1, Ev.step hstep (aj hnm (aH hb (Ev.now _)))⟩
theorem qj (l : List S87) (i : Int) (h0 : 0 ≤ i) (h1 : i < (l.length : Int)) : r87 l i ∈ l := je l z87 i h0 h1
theorem aC.is (ns : List S62) (room : Int) (l : List S87) (hn : 1 ≤ ns.length) (hn' : ns.length ≤ 1048576) (hl : l.length ≤ 1048576) (hs : ∀ e ∈ l, e.f0.size ≤ 1048576) :
    ∃ r, Ev (fun k => aC.f k ns room l) r ∧ (r = true ↔ ∀ i, 0 ≤ i → i < (l.length : Int) → mD 1 ns l i) := by
  have hround : ∀ i, 0 ≤ i → i < (l.length : Int) → (∀ j, 0 ≤ j → j < i → mD 1 ns l j) → nU (fun k i => aC.l0 k l l (l.length : Int) i ns room) (mD 1 ns l) i := fun i h0 h1 _ => by
    have hw : wrap64 (i - 1) = i - 1 := bg (by omega) (by omega)
    have hw1 : wrap64 (i + 1) = i + 1 := bg (by omega) (by omega)
    have hw2 : wrap64 ((ns.length : Int) - 1) = (ns.length : Int) - 1 := bg (by omega) (by omega)
    refine qU (b := gM (r87 l i).f0) (less := Less l i) (C := To 1 ns (r87 l i).f1)
      (T := fun k => (ay.f (r87 l i).f1 1 (wrap64 ((ns.length : Int) - 1))).bind fun t => if t = true then (if 0 ≤ (r87 l i).f1 then (if (r87 l i).f1 < (ns.length : Int) then (if (r62 ns (r87 l i).f1).f0 = 0 then some false else aC.l0 k l l (l.length : Int) (wrap64 (i + 1)) ns room) else none) else none) else some false)
      (aK.is (r87 l i).f0 (by have := hs _ (qj l i h0 h1); omega)) (fun k => ?_) (fun hc r hr => ?_) (fun hc => ?_) Iff.rfl
    · show aC.l0 (k + 1) l l (l.length : Int) i ns room = _
      rw [aC.l0, if_pos h1, if_pos h0, if_pos h1]
      congr 1; funext t
      by_cases ht : t = true
      · rw [if_pos ht, if_pos ht]
        by_cases hi : i > 0
        · rw [if_pos hi, if_pos hi, hw, if_pos (by omega), if_pos (by omega)]; rfl
        · rw [if_neg hi, if_neg hi]
      · rw [if_neg ht, if_neg ht]
    · obtain ⟨a, b, c⟩ := hc
      refine aD (ay.is _ _ _) (af (decide_eq_true ⟨a, by omega⟩) (af (by omega) (af b (aH c ?_))))
      rw [hw1]; exact hr
    · refine aD (ay.is _ _ _) (ja (fun h => ?_) (fun _ => Ev.now _))
      have h' := of_decide_eq_true h
      refine af (by omega) (af (by omega) (af ?_ (Ev.now _)))
      exact Classical.byContradiction fun h2 => hc ⟨h'.1, by omega, h2⟩
  obtain ⟨r, hr, e⟩ := mR (L := fun k i => aC.l0 k l l (l.length : Int) i ns room) (P := mD 1 ns l) (Q := True) (N := l.length) (by omega) hround
    (fun _ => ⟨true, Ev.step (fun k => by rw [aC.l0, if_neg (by omega)]) (Ev.now _), by simp⟩)
  exact ⟨r, hr, by simpa using e⟩
theorem bE.is (ns : List S62) (room x : Int) (hn : 1 ≤ ns.length) (hn' : ns.length ≤ 1048576) : ∃ r, bE.f ns room x = some r ∧ (r = true ↔ To 0 ns x) := by
  have hw2 : wrap64 ((ns.length : Int) - 1) = (ns.length : Int) - 1 := bg (by omega) (by omega)
  unfold bE.f
  rw [aG.is, Option.bind_some, hw2]
  by_cases h : 0 ≤ x ∧ x ≤ (ns.length : Int) - 1
  · rw [decide_eq_true h, if_pos rfl, if_pos h.1, if_pos (by omega)]
    refine ⟨_, rfl, ?_⟩
    rw [bne_iff_ne]
    exact ⟨fun h' => ⟨h.1, by omega, h'⟩, fun h' => h'.2.2⟩
  · rw [decide_eq_false h, if_neg (by simp)]
    exact ⟨_, rfl, fun h' => (by cases h'), fun h' => absurd ⟨h'.1, by have := h'.2.1; omega⟩ h⟩
def ko (lo : Int) (ns : List S62) (v : S62) : Prop :=
  (v.f0 = 0 → v.f1 = 0 ∧ v.f2 = 0 ∧ v.f3 = 0 ∧ v.f4 = 0 ∧ v.f5.toList = [] ∧ v.f6.length = 0) ∧
  (v.f0 ≠ 0 → (0 ≤ v.f1 ∧ v.f1 ≤ 511) ∧ (0 ≤ v.f2 ∧ v.f2 ≤ 99) ∧ (0 ≤ v.f3 ∧ v.f3 ≤ 99) ∧ (0 ≤ v.f4 ∧ v.f4 ≤ 1000000) ∧
    ((v.f0 = 1 ∧ v.f5.size ≤ 60 ∧ v.f6.length = 0) ∨ (v.f0 = 2 ∧ v.f5.toList = [] ∧ ∀ i, 0 ≤ i → i < (v.f6.length : Int) → mD lo ns v.f6 i) ∨ (v.f0 = 3 ∧ ny v.f5 = true ∧ v.f6.length = 0)))
def eG (v : S62) : Prop := v.f5.size ≤ 1048576 ∧ v.f6.length ≤ 1048576 ∧ ∀ e ∈ v.f6, e.f0.size ≤ 1048576
theorem yS (l : List S87) : ((l.length : Int) == 0) = true ↔ l.length = 0 := by rw [beq_iff_eq]; omega
theorem bT.j0.is (ns : List S62) (room : Int) (v : S62) (hn : 1 ≤ ns.length) (hn' : ns.length ≤ 1048576) (hv : eG v) (h0 : v.f0 ≠ 0) :
    ∃ r, Ev (fun k => bT.j0 k false ns room v.f0 v.f1 v.f2 v.f3 v.f4 v.f5 v.f6) r ∧ (r = true ↔ ((v.f0 = 1 ∧ v.f5.size ≤ 60 ∧ v.f6.length = 0) ∨ (v.f0 = 2 ∧ v.f5.toList = [] ∧ ∀ i, 0 ≤ i → i < (v.f6.length : Int) → mD 1 ns v.f6 i) ∨ (v.f0 = 3 ∧ ny v.f5 = true ∧ v.f6.length = 0))) := by
  have hstep : ∀ k, bT.j0 (k + 1) false ns room v.f0 v.f1 v.f2 v.f3 v.f4 v.f5 v.f6 = (if v.f0 = 1 then (if (v.f5.size : Int) ≤ 60 then (some ((v.f6.length : Int) == 0)) else (some false)) else (if v.f0 = 2 then (if v.f5.toList = ([] : List UInt8) then ((aC.f k ns room v.f6).bind fun t154 => (some t154)) else (some false)) else (if v.f0 = 3 then ((dz.f k v.f5).bind fun t155 => (if t155 = true then (some ((v.f6.length : Int) == 0)) else (some false))) else (some false)))) := fun k => by rw [bT.j0, if_neg (by decide)]
  by_cases h1 : v.f0 = 1
  · by_cases hs : (v.f5.size : Int) ≤ 60
    · refine ⟨_, Ev.step hstep (af h1 (af hs (Ev.now _))), ?_⟩
      rw [yS]
      exact ⟨fun h => .inl ⟨h1, by omega, h⟩, fun h => by rcases h with h | h | h <;> omega⟩
    · refine ⟨false, Ev.step hstep (af h1 (aH hs (Ev.now _))), fun h => (by cases h), fun h => ?_⟩
      rcases h with h | h | h <;> omega
  · by_cases h2 : v.f0 = 2
    · by_cases hd : v.f5.toList = ([] : List UInt8)
      · obtain ⟨r, hr, e⟩ := aC.is ns room v.f6 hn hn' hv.2.1 hv.2.2
        refine ⟨r, Ev.step hstep (aH h1 (af h2 (af hd (aj hr (Ev.now _))))), ?_⟩
        rw [e]
        exact ⟨fun h => .inr (.inl ⟨h2, hd, h⟩), fun h => by
          rcases h with h | h | h
          · omega
          · exact h.2.2
          · omega⟩
      · refine ⟨false, Ev.step hstep (aH h1 (af h2 (aH hd (Ev.now _)))), fun h => (by cases h), fun h => ?_⟩
        rcases h with h | h | h
        · omega
        · exact absurd h.2.1 hd
        · omega
    · by_cases h3 : v.f0 = 3
      · have hp := dz.is v.f5 (by have := hv.1; omega)
        by_cases hb : ny v.f5 = true
        · refine ⟨_, Ev.step hstep (aH h1 (aH h2 (af h3 (aj hp (af hb (Ev.now _)))))), ?_⟩
          rw [yS]
          exact ⟨fun h => .inr (.inr ⟨h3, hb, h⟩), fun h => by rcases h with h | h | h <;> omega⟩
        · refine ⟨false, Ev.step hstep (aH h1 (aH h2 (af h3 (aj hp (aH hb (Ev.now _)))))), fun h => (by cases h), fun h => ?_⟩
          rcases h with h | h | h
          · omega
          · omega
          · exact absurd h.2.1 hb
      · refine ⟨false, Ev.step hstep (aH h1 (aH h2 (aH h3 (Ev.now _)))), fun h => (by cases h), fun h => ?_⟩
        rcases h with h | h | h <;> omega
theorem ru (ns : List S62) (room : Int) (v : S62) : Ev (fun k => bT.j0 k true ns room v.f0 v.f1 v.f2 v.f3 v.f4 v.f5 v.f6) false := Ev.step (fun k => by rw [bT.j0, if_pos rfl]) (Ev.now _)
theorem bT.is (ns : List S62) (room : Int) (v : S62) (hn : 1 ≤ ns.length) (hn' : ns.length ≤ 1048576) (hv : eG v) :
    ∃ r, Ev (fun k => bT.f k ns room v.f0 v.f1 v.f2 v.f3 v.f4 v.f5 v.f6) r ∧ (r = true ↔ ko 1 ns v) := by
  have hj := ru ns room v
  unfold bT.f ko
  by_cases h0 : v.f0 = 0
  · have no : ∀ {p : Prop}, ¬ p → (v.f0 = 0 → p) ∧ (v.f0 ≠ 0 → (0 ≤ v.f1 ∧ v.f1 ≤ 511) ∧ (0 ≤ v.f2 ∧ v.f2 ≤ 99) ∧ (0 ≤ v.f3 ∧ v.f3 ≤ 99) ∧ (0 ≤ v.f4 ∧ v.f4 ≤ 1000000) ∧
    ((v.f0 = 1 ∧ v.f5.size ≤ 60 ∧ v.f6.length = 0) ∨ (v.f0 = 2 ∧ v.f5.toList = [] ∧ ∀ i, 0 ≤ i → i < (v.f6.length : Int) → mD 1 ns v.f6 i) ∨ (v.f0 = 3 ∧ ny v.f5 = true ∧ v.f6.length = 0))) → False := fun hp h => hp (h.1 h0)
    by_cases c1 : v.f1 = 0
    rotate_left
    · exact ⟨false, af h0 (aH c1 (Ev.now _)), fun h => (by cases h), fun h => (no (fun h => c1 h.1) h).elim⟩
    by_cases c2 : v.f2 = 0
    rotate_left
    · exact ⟨false, af h0 (af c1 (aH c2 (Ev.now _))), fun h => (by cases h), fun h => (no (fun h => c2 h.2.1) h).elim⟩
    by_cases c3 : v.f3 = 0
    rotate_left
    · exact ⟨false, af h0 (af c1 (af c2 (aH c3 (Ev.now _)))), fun h => (by cases h), fun h => (no (fun h => c3 h.2.2.1) h).elim⟩
    by_cases c4 : v.f4 = 0
    rotate_left
    · exact ⟨false, af h0 (af c1 (af c2 (af c3 (aH c4 (Ev.now _))))), fun h => (by cases h), fun h => (no (fun h => c4 h.2.2.2.1) h).elim⟩
    by_cases c5 : v.f5.toList = ([] : List UInt8)
    rotate_left
    · exact ⟨false, af h0 (af c1 (af c2 (af c3 (af c4 (aH c5 (Ev.now _)))))), fun h => (by cases h), fun h => (no (fun h => c5 h.2.2.2.2.1) h).elim⟩
    refine ⟨_, af h0 (af c1 (af c2 (af c3 (af c4 (af c5 (Ev.now _)))))), ?_⟩
    rw [yS]
    exact ⟨fun h => ⟨fun _ => ⟨c1, c2, c3, c4, c5, h⟩, fun h' => absurd h0 h'⟩, fun h => (h.1 h0).2.2.2.2.2⟩
  · have no : ∀ {p q : Prop}, ¬ p → (v.f0 = 0 → q) ∧ (v.f0 ≠ 0 → p) → False := fun hp h => hp (h.2 h0)
    unfold iC.f
    by_cases c1 : 0 ≤ v.f1 ∧ v.f1 ≤ 511
    rotate_left
    · exact ⟨false, aH h0 (aD (by rw [ay.is]; rfl) (aH (by simpa using c1) hj)), fun h => (by cases h), fun h => (no (fun h => c1 h.1) h).elim⟩
    by_cases c2 : 0 ≤ v.f2 ∧ v.f2 ≤ 99
    rotate_left
    · exact ⟨false, aH h0 (aD (by rw [ay.is]; rfl) (af (decide_eq_true c1) (aD (ay.is _ _ _) (aH (by simpa using c2) hj)))), fun h => (by cases h), fun h => (no (fun h => c2 h.2.1) h).elim⟩
    by_cases c3 : 0 ≤ v.f3 ∧ v.f3 ≤ 99
    rotate_left
    · exact ⟨false, aH h0 (aD (by rw [ay.is]; rfl) (af (decide_eq_true c1) (aD (ay.is _ _ _) (af (decide_eq_true c2) (aD (ay.is _ _ _) (aH (by simpa using c3) hj)))))), fun h => (by cases h), fun h => (no (fun h => c3 h.2.2.1) h).elim⟩
    by_cases c4 : 0 ≤ v.f4 ∧ v.f4 ≤ 1000000
    rotate_left
    · exact ⟨false, aH h0 (aD (by rw [ay.is]; rfl) (af (decide_eq_true c1) (aD (ay.is _ _ _) (af (decide_eq_true c2) (aD (ay.is _ _ _) (af (decide_eq_true c3) (aD (ay.is _ _ _) (by rw [decide_eq_false c4]; exact hj)))))))), fun h => (by cases h), fun h => (no (fun h => c4 h.2.2.2.1) h).elim⟩
    obtain ⟨r, hr, e⟩ := bT.j0.is ns room v hn hn' hv h0
    refine ⟨r, aH h0 (aD (by rw [ay.is]; rfl) (af (decide_eq_true c1) (aD (ay.is _ _ _) (af (decide_eq_true c2) (aD (ay.is _ _ _) (af (decide_eq_true c3) (aD (ay.is _ _ _) (by rw [decide_eq_true c4]; exact hr)))))))), ?_⟩
    rw [e]
    exact ⟨fun h => ⟨fun h' => absurd h' h0, fun _ => ⟨c1, c2, c3, c4, h⟩⟩, fun h => (h.2 h0).2.2.2.2⟩
theorem iF.is (s : ByteArray) : iF.f s = some (lL s) := by
  unfold iF.f lL
  by_cases h : s.toList = ([46] : List UInt8)
  · rw [if_pos h]; simp [h]
  · rw [if_neg h]; simp [h]
theorem eP.is (s : ByteArray) : Ev (fun k => eP.f k s) (gM s) := by
  unfold eP.f gM
  refine aj (d9.is s) ?_
  refine ja (fun h => ?_) (fun h => ?_)
  · rw [iF.is, h]; exact Ev.now _
  · exact dE (by rw [Bool.eq_false_iff.mpr h]; rfl)
theorem kg.l0.is (ns : List S62) (room a0 a1 a2 a3 a4 : Int) (a5 : ByteArray) (l : List S87) (hn : 1 ≤ ns.length) (hn' : ns.length ≤ 1048576) (hl : l.length ≤ 1048576) :
    ∃ r, Ev (fun k => ah.l0 k l (l.length : Int) 0 ns room a0 a1 a2 a3 a4 a5 l) r ∧ (r = true ↔ (∀ i, 0 ≤ i → i < (l.length : Int) → mD 0 ns l i) ∧ a5.toList = []) := by
  refine mR (L := fun k i => ah.l0 k l (l.length : Int) i ns room a0 a1 a2 a3 a4 a5 l) (P := mD 0 ns l) (Q := a5.toList = []) (N := l.length) (by omega) (fun i h0 h1 _ => ?_)
    (fun _ => ⟨_, Ev.step (fun k => by rw [ah.l0, if_neg (by omega)]) (Ev.now _), beq_iff_eq⟩)
  have hw : wrap64 (i - 1) = i - 1 := bg (by omega) (by omega)
  have hw1 : wrap64 (i + 1) = i + 1 := bg (by omega) (by omega)
  obtain ⟨t, ht, e⟩ := bE.is ns room (r87 l i).f1 hn hn'
  refine qU (b := gM (r87 l i).f0) (less := Less l i) (C := To 0 ns (r87 l i).f1)
    (T := fun k => (bE.f ns room (r87 l i).f1).bind fun t => if t = true then ah.l0 k l (l.length : Int) (wrap64 (i + 1)) ns room a0 a1 a2 a3 a4 a5 l else some false)
    (eP.is (r87 l i).f0) (fun k => ?_) (fun hc r hr => ?_) (fun hc => ?_) Iff.rfl
  · show ah.l0 (k + 1) l (l.length : Int) i ns room a0 a1 a2 a3 a4 a5 l = _
    rw [ah.l0, if_pos h1, if_pos h0, if_pos h1]
    congr 1; funext t
    by_cases ht : t = true
    · rw [if_pos ht, if_pos ht]
      by_cases hi : i > 0
      · rw [if_pos hi, if_pos hi, hw, if_pos (by omega), if_pos (by omega)]; rfl
      · rw [if_neg hi, if_neg hi]
    · rw [if_neg ht, if_neg ht]
  · refine aD ht (af (e.2 hc) ?_)
    rw [hw1]; exact hr
  · exact aD ht (aH (fun h => hc (e.1 h)) (Ev.now _))
theorem kg.j0.is (ns : List S62) (room : Int) (v : S62) (hn : 1 ≤ ns.length) (hn' : ns.length ≤ 1048576) (hv : eG v) (b : Bool) (hb : b = true ↔ v.f0 ≠ 2 ∧ v.f6.length ≠ 0) :
    ∃ r, Ev (fun k => ah.j0 k b ns room v.f0 v.f1 v.f2 v.f3 v.f4 v.f5 v.f6) r ∧ (r = true ↔ ((v.f0 = 1 ∧ v.f5.size ≤ 60 ∧ v.f6.length = 0) ∨ (v.f0 = 2 ∧ v.f5.toList = [] ∧ ∀ i, 0 ≤ i → i < (v.f6.length : Int) → mD 0 ns v.f6 i) ∨ (v.f0 = 3 ∧ ny v.f5 = true ∧ v.f6.length = 0))) := by
  cases b with
  | true =>
    have hb' := hb.1 rfl
    refine ⟨false, Ev.step (fun k => by rw [ah.j0, if_pos rfl]) (Ev.now _), fun h => (by cases h), fun h => ?_⟩
    rcases h with h | h | h
    · exact absurd h.2.2 hb'.2
    · exact absurd h.1 hb'.1
    · exact absurd h.2.2 hb'.2
  | false =>
    have hz : v.f0 ≠ 2 → v.f6.length = 0 := fun h => Classical.byContradiction fun h' => by have := hb.2 ⟨h, h'⟩; cases this
    have hstep : ∀ k, ah.j0 (k + 1) false ns room v.f0 v.f1 v.f2 v.f3 v.f4 v.f5 v.f6 = (if v.f0 = 1 then (some (decide ((v.f5.size : Int) ≤ 60))) else (if v.f0 = 3 then ((gq.f k v.f5).bind fun t298 => (some t298)) else (if v.f0 = 2 then (ah.l0 k v.f6 (v.f6.length : Int) 0 ns room v.f0 v.f1 v.f2 v.f3 v.f4 v.f5 v.f6) else (some false)))) := fun k => by rw [ah.j0, if_neg (by decide)]
    by_cases h1 : v.f0 = 1
    · refine ⟨_, Ev.step hstep (af h1 (Ev.now _)), ?_⟩
      rw [decide_eq_true_iff]
      exact ⟨fun h => .inl ⟨h1, by omega, hz (by omega)⟩, fun h => by rcases h with h | h | h <;> omega⟩
    · by_cases h3 : v.f0 = 3
      · refine ⟨_, Ev.step hstep (aH h1 (af h3 (aj (gq.is v.f5) (Ev.now _)))), ?_⟩
        exact ⟨fun h => .inr (.inr ⟨h3, h, hz (by omega)⟩), fun h => by
          rcases h with h | h | h
          · omega
          · omega
          · exact h.2.1⟩
      · by_cases h2 : v.f0 = 2
        · obtain ⟨r, hr, e⟩ := kg.l0.is ns room v.f0 v.f1 v.f2 v.f3 v.f4 v.f5 v.f6 hn hn' hv.2.1
          refine ⟨r, Ev.step hstep (aH h1 (aH h3 (af h2 hr))), ?_⟩
          rw [e]
          exact ⟨fun h => .inr (.inl ⟨h2, h.2, h.1⟩), fun h => by
            rcases h with h | h | h
            · omega
            · exact ⟨h.2.2, h.2.1⟩
            · omega⟩
        · refine ⟨false, Ev.step hstep (aH h1 (aH h3 (aH h2 (Ev.now _)))), fun h => (by cases h), fun h => ?_⟩
          rcases h with h | h | h <;> omega
theorem ed.is (n : Int) : ed.f n = some (decide (0 ≤ n ∧ n ≤ 511)) := by unfold ed.f; rw [aG.is]; rfl
theorem cu.is (n : Int) : cu.f n = some (decide (0 ≤ n ∧ n ≤ 99)) := by unfold cu.f; rw [aG.is]; rfl
theorem fP.is (n : Int) : fP.f n = some (decide (0 ≤ n ∧ n ≤ 1000000)) := by unfold fP.f; rw [aG.is]; rfl
theorem kg.is (ns : List S62) (room : Int) (v : S62) (hn : 1 ≤ ns.length) (hn' : ns.length ≤ 1048576) (hv : eG v) :
    ∃ r, Ev (fun k => ah.f k ns room v.f0 v.f1 v.f2 v.f3 v.f4 v.f5 v.f6) r ∧ (r = true ↔ ko 0 ns v) := by
  have hj : Ev (fun k => ah.j0 k true ns room v.f0 v.f1 v.f2 v.f3 v.f4 v.f5 v.f6) false := Ev.step (fun k => by rw [ah.j0, if_pos rfl]) (Ev.now _)
  unfold ah.f ko
  by_cases h0 : v.f0 = 0
  · have no : ∀ {p q : Prop}, ¬ p → (v.f0 = 0 → p) ∧ (v.f0 ≠ 0 → q) → False := fun hp h => hp (h.1 h0)
    have free : ∀ {g : Nat → Option Bool} {b : Bool}, dK.f v.f0 v.f1 v.f2 v.f3 v.f4 v.f5 v.f6 = some b → Ev (fun k => if v.f0 = 0 then ((dK.f v.f0 v.f1 v.f2 v.f3 v.f4 v.f5 v.f6).bind fun t293 => (some t293)) else g k) b := fun h => af h0 (aD h (Ev.now _))
    by_cases c1 : v.f1 = 0
    rotate_left
    · exact ⟨false, free (by unfold dK.f; rw [if_pos h0, if_neg c1]), fun h => (by cases h), fun h => (no (fun h => c1 h.1) h).elim⟩
    by_cases c2 : v.f2 = 0
    rotate_left
    · exact ⟨false, free (by unfold dK.f; rw [if_pos h0, if_pos c1, if_neg c2]), fun h => (by cases h), fun h => (no (fun h => c2 h.2.1) h).elim⟩
    by_cases c3 : v.f3 = 0
    rotate_left
    · exact ⟨false, free (by unfold dK.f; rw [if_pos h0, if_pos c1, if_pos c2, if_neg c3]), fun h => (by cases h), fun h => (no (fun h => c3 h.2.2.1) h).elim⟩
    by_cases c4 : v.f4 = 0
    rotate_left
    · exact ⟨false, free (by unfold dK.f; rw [if_pos h0, if_pos c1, if_pos c2, if_pos c3, if_neg c4]), fun h => (by cases h), fun h => (no (fun h => c4 h.2.2.2.1) h).elim⟩
    by_cases c5 : v.f5.toList = ([] : List UInt8)
    rotate_left
    · exact ⟨false, free (by unfold dK.f; rw [if_pos h0, if_pos c1, if_pos c2, if_pos c3, if_pos c4, if_neg c5]), fun h => (by cases h), fun h => (no (fun h => c5 h.2.2.2.2.1) h).elim⟩
    refine ⟨_, free (by unfold dK.f; rw [if_pos h0, if_pos c1, if_pos c2, if_pos c3, if_pos c4, if_pos c5]), ?_⟩
    rw [yS]
    exact ⟨fun h => ⟨fun _ => ⟨c1, c2, c3, c4, c5, h⟩, fun h' => absurd h0 h'⟩, fun h => (h.1 h0).2.2.2.2.2⟩
  · have no : ∀ {p q : Prop}, ¬ p → (v.f0 = 0 → q) ∧ (v.f0 ≠ 0 → p) → False := fun hp h => hp (h.2 h0)
    by_cases c1 : 0 ≤ v.f1 ∧ v.f1 ≤ 511
    rotate_left
    · exact ⟨false, aH h0 (aD (ed.is _) (aH (by simpa using c1) hj)), fun h => (by cases h), fun h => (no (fun h => c1 h.1) h).elim⟩
    by_cases c2 : 0 ≤ v.f2 ∧ v.f2 ≤ 99
    rotate_left
    · exact ⟨false, aH h0 (aD (ed.is _) (af (decide_eq_true c1) (aD (cu.is _) (aH (by simpa using c2) hj)))), fun h => (by cases h), fun h => (no (fun h => c2 h.2.1) h).elim⟩
    by_cases c3 : 0 ≤ v.f3 ∧ v.f3 ≤ 99
    rotate_left
    · exact ⟨false, aH h0 (aD (ed.is _) (af (decide_eq_true c1) (aD (cu.is _) (af (decide_eq_true c2) (aD (cu.is _) (aH (by simpa using c3) hj)))))), fun h => (by cases h), fun h => (no (fun h => c3 h.2.2.1) h).elim⟩
    by_cases c4 : 0 ≤ v.f4 ∧ v.f4 ≤ 1000000
    rotate_left
    · exact ⟨false, aH h0 (aD (ed.is _) (af (decide_eq_true c1) (aD (cu.is _) (af (decide_eq_true c2) (aD (cu.is _) (af (decide_eq_true c3) (aD (fP.is _) (aH (by simpa using c4) hj)))))))), fun h => (by cases h), fun h => (no (fun h => c4 h.2.2.2.1) h).elim⟩
    have fin : ∀ {b : Bool} {r : Bool}, (b = (if v.f0 = 2 then false else decide ((v.f6.length : Int) > 0))) → Ev (fun k => ah.j0 k b ns room v.f0 v.f1 v.f2 v.f3 v.f4 v.f5 v.f6) r → Ev (fun k => if v.f0 = 2 then (ah.j0 k false ns room v.f0 v.f1 v.f2 v.f3 v.f4 v.f5 v.f6) else (ah.j0 k (decide ((v.f6.length : Int) > 0)) ns room v.f0 v.f1 v.f2 v.f3 v.f4 v.f5 v.f6)) r := fun hb h => by
      by_cases h2 : v.f0 = 2
      · rw [if_pos h2] at hb; subst hb; exact af h2 h
      · rw [if_neg h2] at hb; subst hb; exact aH h2 h
    obtain ⟨r, hr, e⟩ := kg.j0.is ns room v hn hn' hv (if v.f0 = 2 then false else decide ((v.f6.length : Int) > 0)) (by
      by_cases h2 : v.f0 = 2
      · rw [if_pos h2]; simp [h2]
      · rw [if_neg h2, decide_eq_true_iff]; exact ⟨fun h => ⟨h2, by omega⟩, fun h => by have := h.2; omega⟩)
    refine ⟨r, aH h0 (aD (ed.is _) (af (decide_eq_true c1) (aD (cu.is _) (af (decide_eq_true c2) (aD (cu.is _) (af (decide_eq_true c3) (aD (fP.is _) (af (decide_eq_true c4) (fin rfl hr))))))))), ?_⟩
    rw [e]
    exact ⟨fun h => ⟨fun h' => absurd h' h0, fun _ => ⟨c1, c2, c3, c4, h⟩⟩, fun h => (h.2 h0).2.2.2.2⟩
open Go.Proofs.YtmhjmicplaolmaaGreatDoor.Put
theorem oZ (l : List Int) (i : Int) (h0 : 0 ≤ i) (h1 : i < (l.length : Int)) : l.drop i.toNat = rd l i :: l.drop (i + 1).toNat := ic l 0 i h0 h1
theorem yI (l : List Int) (i : Int) (h0 : 0 ≤ i) (h1 : i < (l.length : Int)) : l.take (i + 1).toNat = l.take i.toNat ++ [rd l i] := by
  have hl : i.toNat < l.length := by omega
  rw [show (i + 1).toNat = i.toNat + 1 by omega, List.take_add_one, List.getElem?_eq_getElem hl]
  unfold rd
  rw [List.getD_eq_getElem?_getD, List.getElem?_eq_getElem hl]; rfl
theorem dM.loop (l : List Int) (n : Int) (hM : l.length ≤ 8796093022208) (d : Nat) : ∀ i : Int, 0 ≤ i → i ≤ l.length → (l.length : Int) - i = d → Ev (fun k => dM.l0 k l n i) (l.take i.toNat ++ put (l.drop i.toNat) n) := by
  induction d with
  | zero =>
    intro i h0 hi hd
    have e : l.drop i.toNat = [] := List.drop_eq_nil_iff.mpr (by omega)
    refine Ev.step (fun k => by rw [dM.l0, if_neg (by omega)]) ?_
    rw [e]
    refine aD rfl (af h0 (af hi (aD rfl (af (by simp; omega) (aD rfl (af (by simp; omega) (aD rfl (aD rfl (af (by simp; omega) (dE ?_))))))))))
    simp [put]
  | succ d ih =>
    intro i h0 hi hd
    have hlt : i < (l.length : Int) := by omega
    rw [oZ l i h0 hlt]
    by_cases h1 : rd l i < n
    · refine Ev.step (fun k => by rw [dM.l0, if_pos hlt, if_pos h0, if_pos h1, bg (by omega) (by omega)]) ?_
      refine jC (ih (i + 1) (by omega) (by omega) (by omega)) ?_
      rw [put, if_pos h1, yI l i h0 hlt, List.append_assoc]; rfl
    · by_cases h2 : rd l i = n
      · refine Ev.step (fun k => by rw [dM.l0, if_pos hlt, if_pos h0, if_neg h1, if_pos h2]) (dE ?_)
        rw [put, if_neg h1, if_pos h2, ← oZ l i h0 hlt, List.take_append_drop]
      · refine Ev.step (fun k => by rw [dM.l0, if_pos hlt, if_pos h0, if_neg h1, if_neg h2]) ?_
        refine aD rfl (af hi (aD rfl (af (by simp; omega) (aD rfl (af (by simp; omega) (aD rfl (aD rfl (af (by simp; omega) (dE ?_)))))))))
        rw [put, if_neg h1, if_neg h2, oZ l i h0 hlt]; simp
theorem dM.is (l : List Int) (n : Int) (hM : l.length ≤ 8796093022208) : Ev (fun k => dM.f k l n) (put l n) := by
  exact jC (dM.loop l n hM l.length 0 (by omega) (by omega) (by omega)) (by simp)
theorem bC.loop (l : List Int) (n : Int) (hM : l.length ≤ 8796093022208) (d : Nat) : ∀ i : Int, 0 ≤ i → i ≤ l.length → (l.length : Int) - i = d → ∃ r, Ev (fun k => bC.l0 k n l (l.length : Int) i) r ∧ (r = true ↔ n ∈ l.drop i.toNat) := by
  induction d with
  | zero =>
    intro i h0 hi hd
    refine ⟨false, Ev.step (fun k => by rw [bC.l0, if_neg (by omega)]) (Ev.now _), ?_⟩
    rw [List.drop_eq_nil_iff.mpr (by omega)]; simp
  | succ d ih =>
    intro i h0 hi hd
    have hlt : i < (l.length : Int) := by omega
    rw [oZ l i h0 hlt]
    by_cases h : rd l i = n
    · exact ⟨true, Ev.step (fun k => by rw [bC.l0, if_pos hlt, if_pos h0, if_pos hlt, if_pos h]) (Ev.now _), by simp [h]⟩
    · obtain ⟨r, hr, e⟩ := ih (i + 1) (by omega) (by omega) (by omega)
      refine ⟨r, Ev.step (fun k => by rw [bC.l0, if_pos hlt, if_pos h0, if_pos hlt, if_neg h, bg (by omega) (by omega)]) hr, ?_⟩
      rw [e, List.mem_cons]
      exact ⟨Or.inr, fun h' => h'.resolve_left (fun e => h e.symm)⟩
theorem bC.is (l : List Int) (n : Int) (hM : l.length ≤ 8796093022208) : ∃ r, Ev (fun k => bC.f k l n) r ∧ (r = true ↔ n ∈ l) := by
  obtain ⟨r, hr, e⟩ := bC.loop l n hM l.length 0 (by omega) (by omega) (by omega)
  exact ⟨r, hr, by simpa using e⟩
end Go.Proofs.YtmhjmicplaolmaaGreatDoor.PRm
