import Derived.Test.YtmhjmicplaolmaaGreatDoorWLast
import Derived.Test.YtmhjmicplaolmaaGreatDoorWWords
/-! ### 50. A region's order in a table, made once a region: each step asks the table (numbers alone), not the operations -/
namespace Go.Proofs.YtmhjmicplaolmaaGreatDoorW.PrintLast
open Go.Proofs.YtmhjmicplaolmaaGreatDoorW.PrintWords (aa)
def lY (md : Region.Mode) (o : Oper) : List Nat := (o.after.toList.filter (fun e => Region.binds md e)).map (fun e => e.on)
def rT (md : Region.Mode) (ops : Array Oper) (i : Nat) (oi : Oper) : List Nat := (List.range ops.size).filter fun j => !(j == i) && match ops[j]? with
  | some oj => !(oj.after.any (fun e => Region.binds md e && e.on == i) || oi.apart ops oj)
  | none => false
def jM (md : Region.Mode) (ops : Array Oper) : Bool × List (List Nat × List Nat) := (Region.noSelect ops, (List.range ops.size).map fun i => match ops[i]? with
  | some o => (lY md o, rT md ops i o)
  | none => ([], []))
def kM (T : List (List Nat × List Nat)) (l : List Bool) (i : Nat) : Bool := !l.getD i true && match T[i]? with
  | some r => r.1.all (fun j => l.getD j false)
  | none => false
def pW (T : List (List Nat × List Nat)) (l : List Bool) : List Nat := (List.range T.length).filter (kM T l)
def tQ (T : List (List Nat × List Nat)) (l : List Bool) (i : Nat) : Bool := match T[i]? with
  | some r => r.2.all (fun j => l.getD j true)
  | none => false
def pq (T : List (List Nat × List Nat)) (l : List Bool) : Bool := (List.range T.length).all fun j => !l.getD j false || match T[j]? with
  | some r => r.1.all (fun k => l.getD k false)
  | none => true
def og (T : List (List Nat × List Nat)) (i : Nat) : Nat → Nat → Bool
  | 0, _ => false
  | fuel + 1, d => match T[d]? with
    | some r => r.1.any fun j => j == i || og T i fuel j
    | none => false
def lastT (T : List (List Nat × List Nat)) (l : List Bool) (ds : List Nat) (i : Nat) : Bool := ds.all fun d => l.getD d true || og T i T.length d
section
variable {md : Region.Mode} {ops : Array Oper} {T : Bool × List (List Nat × List Nat)} {l l' li lj lk : Array Bool} {ds : List Nat} {i j k : Nat}
theorem gd (l : Array Bool) (j : Nat) (b : Bool) : l.getD j b = l.toList.getD j b := by simp [Array.getD_eq_getD_getElem?, List.getD_eq_getElem?_getD]
theorem qN (o : Oper) (p : Nat → Bool) : o.after.all (fun e => !Region.binds md e || p e.on) = (lY md o).all p := by
  unfold lY
  rw [← Array.all_toList]
  induction o.after.toList with
  | nil => rfl
  | cons e r ih =>
    rw [List.all_cons, ih, List.filter_cons]
    cases h : Region.binds md e <;> simp
theorem wz (o : Oper) (p : Nat → Bool) : o.after.any (fun e => Region.binds md e && p e.on) = (lY md o).any p := by
  unfold lY
  rw [← Array.any_toList]
  induction o.after.toList with
  | nil => rfl
  | cons e r ih =>
    rw [List.any_cons, ih, List.filter_cons]
    cases h : Region.binds md e <;> simp
theorem kL : (jM md ops).2.length = ops.size := by simp [jM]
theorem lT {o : Oper} (h : ops[i]? = some o) : (jM md ops).2[i]? = some (lY md o, rT md ops i o) := by
  have hi := (Array.getElem?_eq_some_iff.1 h).1
  unfold jM
  rw [List.getElem?_map, List.getElem?_range hi, Option.map_some, h]
theorem lU (h : ops[i]? = none) : (jM md ops).2[i]? = none := by
  have hi : ops.size ≤ i := Array.getElem?_eq_none_iff.1 h
  exact List.getElem?_eq_none (by rw [kL]; exact hi)
theorem uz : kM (jM md ops).2 l.toList i = (!l.getD i true && ((ops[i]?).map (·.after.all fun e => !Region.binds md e || l.getD e.on false)).getD false) := by
  unfold kM
  rw [gd]
  cases h : ops[i]? with
  | none => rw [lU h]; rfl
  | some o =>
    rw [lT h]
    simp only [Option.map_some, Option.getD_some]
    rw [← qN]
    simp only [gd]
theorem ready_eq : Region.ready md ops l = pW (jM md ops).2 l.toList := by
  unfold Region.ready pW
  rw [kL]
  refine List.filter_congr (fun i _ => ?_)
  rw [uz]
theorem free_eq : Region.free md ops l i = tQ (jM md ops).2 l.toList i := by
  unfold Region.free tQ
  cases h : ops[i]? with
  | none => rw [lU h]
  | some oi =>
    rw [lT h]
    simp only [rT]
    rw [List.all_filter]
    congr 1
    funext j
    rw [gd]
    cases hj : ops[j]? with
    | none => cases (j == i) <;> cases (l.toList.getD j true) <;> simp
    | some oj =>
      cases (j == i) <;> cases (l.toList.getD j true) <;> cases (oj.after.any (fun e => Region.binds md e && e.on == i) || oi.apart ops oj) <;> simp_all
theorem wQ : Region.nI md ops l = pq (jM md ops).2 l.toList := by
  unfold Region.nI pq
  rw [kL]
  congr 1
  funext j
  rw [gd]
  cases h : ops[j]? with
  | none => rw [lU h]
  | some o =>
    rw [lT h]
    simp only
    rw [← qN]
    simp only [gd]
theorem sV : ∀ (fuel d : Nat), Region.ku md ops i fuel d = og (jM md ops).2 i fuel d
  | 0, _ => rfl
  | fuel + 1, d => by
    unfold Region.ku og
    cases h : ops[d]? with
    | none => rw [lU h]
    | some o =>
      rw [lT h]
      simp only
      rw [← wz]
      congr 1
      funext e
      rw [sV fuel]
theorem yY : Region.lastB md ops l ds i = lastT (jM md ops).2 l.toList ds i := by
  unfold Region.lastB lastT
  rw [kL]
  congr 1
  funext d
  rw [gd, sV]
theorem oG (h : kM T.2 l.toList i = true) (hT : jM md ops = T) : (Region.ready md ops l).contains i = true := by
  subst hT
  rw [ready_eq]
  unfold pW
  rw [List.contains_iff_mem, List.mem_filter, List.mem_range]
  refine ⟨?_, h⟩
  unfold kM at h
  rw [Bool.and_eq_true] at h
  cases hq : (jM md ops).2[i]? with
  | none => rw [hq] at h; simp at h
  | some r => exact (List.getElem?_eq_some_iff.1 hq).1
theorem uy (h : (l.toList.set i true == l'.toList) = true) : (l.setIfInBounds i true == l') = true := by
  rw [beq_iff_eq] at h ⊢
  apply Array.ext'
  rw [Array.toList_setIfInBounds]
  exact h
def Ba (T : Bool × List (List Nat × List Nat)) (l l' : List Bool) (i : Nat) : Bool := T.1 && tQ T.2 l i && kM T.2 l i && (l.set i true == l')
theorem yg (hT : jM md ops = T) (h : Ba T l.toList l'.toList i = true) : wV md ops l l' i = true := by
  simp only [Ba, Bool.and_eq_true] at h
  obtain ⟨⟨⟨h1, h2⟩, h3⟩, h4⟩ := h
  have h5 := oG h3 hT
  have h6 := uy h4
  subst hT
  simp only [wV, Bool.and_eq_true]
  exact ⟨⟨⟨h1, by rw [free_eq]; exact h2⟩, h5⟩, h6⟩
def xe (T : Bool × List (List Nat × List Nat)) (ds : List Nat) (l l' : List Bool) (i : Nat) : Bool := T.1 && tQ T.2 l i && kM T.2 l i && pq T.2 l && lastT T.2 l ds i && (l.set i true == l')
theorem jN (hT : jM md ops = T) (h : xe T ds l.toList l'.toList i = true) : takeB md ops ds l l' i = true := by
  simp only [xe, Bool.and_eq_true] at h
  obtain ⟨⟨⟨⟨⟨h1, h2⟩, h3⟩, h4⟩, h5⟩, h6⟩ := h
  have h7 := oG h3 hT
  have h8 := uy h6
  subst hT
  simp only [takeB, Bool.and_eq_true]
  exact ⟨⟨⟨⟨⟨h1, by rw [free_eq]; exact h2⟩, h7⟩, by rw [wQ]; exact h4⟩, by rw [yY]; exact h5⟩, h8⟩
theorem zF (hT : jM md ops = T) (h : (pW T.2 l.toList == [i] && l.toList.set i true == l'.toList) = true) : mF md ops l l' i = true := by
  simp only [Bool.and_eq_true] at h
  obtain ⟨h1, h2⟩ := h
  subst hT
  simp only [mF, Bool.and_eq_true]
  exact ⟨by rw [ready_eq]; exact h1, uy h2⟩
theorem ze (hT : jM md ops = T) (h : (pW T.2 l.toList == []) = true) : (Region.ready md ops l == []) = true := by
  subst hT
  rw [ready_eq]
  exact h
def upM (B : List Nat) (d : Nat) : List Nat → Nat
  | [] => 0
  | n :: r => (2 ^ n ||| (if n < d then B.getD n 0 else 0)) ||| upM B d r
def ji (T : List (List Nat × List Nat)) (B : List Nat) : Bool := (List.range T.length).all fun d => match T[d]? with
  | some r => (B.getD d 0 ||| upM B d r.1) == upM B d r.1
  | none => false
theorem vC {B : List Nat} {d i : Nat} : ∀ {ns : List Nat}, (upM B d ns).testBit i = true → ∃ n ∈ ns, n = i ∨ (n < d ∧ (B.getD n 0).testBit i = true)
  | [], h => by simp [upM] at h
  | n :: r, h => by
    unfold upM at h
    rw [Nat.testBit_or, Nat.testBit_or, Bool.or_eq_true, Bool.or_eq_true] at h
    rcases h with (h | h) | h
    · rw [Nat.testBit_two_pow] at h
      exact ⟨n, List.mem_cons_self, .inl (by simpa using h)⟩
    · by_cases hn : n < d
      · rw [if_pos hn] at h
        exact ⟨n, List.mem_cons_self, .inr ⟨hn, h⟩⟩
      · rw [if_neg hn] at h
        simp at h
    · obtain ⟨m, hm, h2⟩ := vC h
      exact ⟨m, List.mem_cons_of_mem _ hm, h2⟩
theorem qK {T : List (List Nat × List Nat)} {B : List Nat} (hB : ji T B = true) : ∀ (fuel d : Nat), d < fuel → d < T.length → (B.getD d 0).testBit i = true → og T i fuel d = true
  | 0, d, h, _, _ => by omega
  | fuel + 1, d, h, hd, hb => by
    have h1 := List.all_eq_true.1 hB d (List.mem_range.2 hd)
    cases hr : T[d]? with
    | none => rw [hr] at h1; simp at h1
    | some r =>
      rw [hr] at h1
      simp only [beq_iff_eq] at h1
      have h2 : (upM B d r.1).testBit i = true := by rw [← h1, Nat.testBit_or, hb, Bool.true_or]
      obtain ⟨n, hn, h3⟩ := vC h2
      unfold og
      rw [hr]
      simp only
      rw [List.any_eq_true]
      refine ⟨n, hn, ?_⟩
      rcases h3 with rfl | ⟨h4, h5⟩
      · simp
      · rw [qK hB fuel n (by omega) (by omega) h5, Bool.or_true]
def zu (T : List (List Nat × List Nat)) (B : List Nat) (l : List Bool) (ds : List Nat) (i : Nat) : Bool := ds.all fun d => l.getD d true || (decide (d < T.length) && (B.getD d 0).testBit i)
def zo (T : Bool × List (List Nat × List Nat)) (B : List Nat) (ds : List Nat) (l l' : List Bool) (i : Nat) : Bool := T.1 && tQ T.2 l i && kM T.2 l i && pq T.2 l && zu T.2 B l ds i && (l.set i true == l')
theorem jA {B : List Nat} (hT : jM md ops = T) (hB : ji T.2 B = true) (h : zo T B ds l.toList l'.toList i = true) : takeB md ops ds l l' i = true := by
  refine jN hT ?_
  simp only [zo, xe, Bool.and_eq_true] at h ⊢
  obtain ⟨⟨⟨⟨⟨h1, h2⟩, h3⟩, h4⟩, h5⟩, h6⟩ := h
  refine ⟨⟨⟨⟨⟨h1, h2⟩, h3⟩, h4⟩, ?_⟩, h6⟩
  unfold zu at h5
  unfold lastT
  rw [List.all_eq_true] at h5 ⊢
  intro d hd
  have h7 := h5 d hd
  rw [Bool.or_eq_true, Bool.and_eq_true, decide_eq_true_eq] at h7
  rcases h7 with h7 | ⟨h8, h9⟩
  · rw [h7, Bool.true_or]
  · rw [qK hB _ d h8 h8 h9, Bool.or_true]
theorem dJ {P : Program} {Q : Exit → Act → World → Prop} {S : World → Prop} {n : Nat} {a : Act} {w : World} {B : List Nat} (hT : jM md ops = T) (hB : ji T.2 B = true) (h : aa (jM md ops = T) → aa (ji T.2 B = true) → aJ P md ops Q S ds n l a w) : aJ P md ops Q S ds n l a w := h ⟨hT⟩ ⟨hB⟩
end
def mr : Code → Nat → Option (Array Oper)
  | .region id ops _, k => if id == k then some ops else none
  | .seq a b, k => match mr a k with
    | some o => some o
    | none => mr b k
  | .cond _ a b, k => match mr a k with
    | some o => some o
    | none => mr b k
  | .block _ c, k => mr c k
  | .loop c, k => mr c k
  | .scope c, k => mr c k
  | .rangeFunc _ _ a b, k => match mr a k with
    | some o => some o
    | none => mr b k
  | _, _ => none
def opsOf (f : Func) (k : Nat) : Array Oper := ((f.body.bind fun c => mr c k)).getD #[]
end Go.Proofs.YtmhjmicplaolmaaGreatDoorW.PrintLast
