import Derived.Test.YtmhjmicplaolmaaGreatDoorPRmx0
namespace Go.Proofs.YtmhjmicplaolmaaGreatDoor.PRm
open Go.RowKit Go.Proofs.YtmhjmicplaolmaaGreatDoorW.PrintWords Go.Proofs.YtmhjmicplaolmaaGreatDoorW.PrintLast Go.Proofs.YtmhjmicplaolmaaGreatDoorW.PrintMore
attribute [local go_sem] max2_int min2_int max_two min_two max_three min_three max_four min_four
set_option linter.unusedVariables false
set_option linter.unusedSimpArgs false
set_option maxHeartbeats 8000000
set_option maxRecDepth 100000
/-! ### laws_eqStringS: function 13 -/
def laws_eqStringS.l0 : Nat → List ByteArray → List ByteArray → Int → Option (Bool)
 | 0, _, _, _ => none
 | k + 1, x0, x1, x5 => if x5 < (x0.length : Int) then (if 0 ≤ x5 then (if x5 < (x1.length : Int) then (if (rdOf ByteArray.empty x0 x5).toList = (rdOf ByteArray.empty x1 x5).toList then (laws_eqStringS.l0 k x0 x1 (wrap64 (x5 + 1))) else (some false)) else (none)) else (none)) else (some true)
def laws_eqStringS.f (k : Nat) (l0 : List ByteArray) (l1 : List ByteArray) : Option (Bool) := if (l0.length : Int) = (l1.length : Int) then (laws_eqStringS.l0 k l0 l1 0) else (some false)
def laws_markText.l0 : Nat → Int → ByteArray → Option (ByteArray)
 | 0, _, _ => none
 | k + 1, x0, x3 => if x0 > 0 then ((some (([(wrap64 (48 + (Int.tmod x0 10))) % 256] : List Int) : List Int)).bind fun y579 => (if (strOfNums y579).size + x3.size ≤ 9223372036854775807 then (laws_markText.l0 k (wrap64 (Int.tdiv x0 10)) ((strOfNums y579) ++ x3)) else (none))) else (if 1 + x3.size ≤ 9223372036854775807 then (some ((⟨#[109]⟩ : ByteArray) ++ x3)) else (none))
def laws_markText.f (k : Nat) (a0 : Int) : Option (ByteArray) := if a0 ≤ 0 then (some (⟨#[109, 48]⟩ : ByteArray)) else (laws_markText.l0 k a0 (⟨#[]⟩ : ByteArray))
structure Marked (base : Nat) (w w' : World) : Prop where
 below : Below base w w'
 block : ∀ i, i < w.heap.size → w'.heap[i]? = w.heap[i]? ∨ ∃ q cs cs', (q = 62 ∨ q = 87) ∧ w.heap[i]? = some (.cells cs q (0, 0)) ∧ w'.heap[i]? = some (.cells cs' q (0, 0)) ∧ cs'.size = cs.size ∧ (q = 62 → ∀ j, cs'[j * 7 + 6]? = cs[j * 7 + 6]?)
theorem Marked.refl {base : Nat} (w : World) : Marked base w w := ⟨Below.refl _ _, fun _ _ => .inl rfl⟩
theorem Marked.drew {base : Nat} {w w1 : World} (h : Marked base w w1) : Marked base w w1.drew := ⟨below_drew h.below, h.block⟩
theorem Marked.trans {base : Nat} {w w1 w2 : World} (h : Marked base w w1) (k : Marked base w1 w2) : Marked base w w2 :=
 ⟨h.below.trans k.below, fun i hi => by
  rcases k.block i (Nat.lt_of_lt_of_le hi h.below.size) with e | ⟨q, cs, cs', hq, h1, h2, h3, h4⟩
  ·rw [e]; exact h.block i hi
  ·rcases h.block i hi with e | ⟨q0, cs0, cs0', hq0, k1, k2, k3, k4⟩
   ·exact .inr ⟨q, cs, cs', hq, by rw [← e]; exact h1, h2, h3, h4⟩
   ·have e := k2.symm.trans h1
    injection e with e
    injection e with e1 e2
    subst e1 e2
    exact .inr ⟨q0, cs0, cs', hq0, k1, h2, h3.trans k3, fun hv j => (h4 hv j).trans (k4 hv j)⟩⟩
theorem Marked.blk {base g t : Nat} {w w' : World} {cs : Array Value} (hm : Marked base w w') (h : w.heap[g]? = some (.cells cs t (0, 0))) (h1 : t ≠ 62 := by decide) (h2 : t ≠ 87 := by decide) : w'.heap[g]? = some (.cells cs t (0, 0)) := by
 rcases hm.block g (blk_lt h) with e | ⟨q, cs0, _, hq, k1, _⟩
 ·exact e.trans h
 ·have e := h.symm.trans k1
  injection e with e
  injection e with e1 e2
  exact absurd e2 (fun e2 => by subst e2; rcases hq with hq | hq <;> contradiction)
theorem Marked.R {α : Type} {d : Kd α} {e base b : Nat} {ok : Nat → Prop} {v : Value} {xs : List α} {w w' : World} (hm : Marked b w w') (h : Kd.R d e w base ok v xs) (hq : ∀ q, q ∈ e :: d.E → q ≠ 62 ∧ q ≠ 87 := by decide) : Kd.R d e w' base ok v xs :=
 Kd.R_mono (Kd.R_move (Kd.R_bound h) (fun k hk => by
  obtain ⟨_, _, hlt, q, hmem, cells, hc⟩ := hk; have := hq q hmem
  rw [hm.blk hc this.1 this.2, hc])) (fun _ hk => hk.1)
def BS (w : World) (g t m : Nat) : Prop := ∃ cs, w.heap[g]? = some (.cells cs t (0, 0)) ∧ m ≤ cs.size
theorem BS.put {w : World} {g t m : Nat} (h : BS w g t m) (j : Nat) (v : Value) : BS (w.setCell ⟨g, j, none⟩ v) g t m := by
 obtain ⟨cs, h1, h2⟩ := h; exact ⟨_, blk_set h1 j v, by rw [Array.size_setIfInBounds]; exact h2⟩
theorem BS.below {w w' : World} {g t m : Nat} (h : BS w g t m) (hb : Below w.heap.size w w') : BS w' g t m := by
 obtain ⟨cs, h1, h2⟩ := h; exact ⟨_, blk_below h1 hb, h2⟩
def laws_markEntryS.l0 : Nat → Nat → Int → Int → Option Int
 | 0, _, _, _ => none
 | k + 1, n, a, i => if i < (n : Int) then (if 0 ≤ i then ((laws_markText.f k a).bind fun _ => laws_markEntryS.l0 k n (wrap64 (wrap64 (a + 1) + 1)) (wrap64 (i + 1))) else none) else some a
def laws_markNodeS.l0 : Nat → List S62 → Int → Int → Option Int
 | 0, _, _, _ => none
 | k + 1, ns, a, i => if i < (ns.length : Int) then (if 0 ≤ i then ((laws_markText.f k (wrap64 (wrap64 (wrap64 (wrap64 (wrap64 (a + 1) + 1) + 1) + 1) + 1))).bind fun _ => ((laws_markEntryS.l0 k (r62 ns i).f6.length (wrap64 (wrap64 (wrap64 (wrap64 (wrap64 (wrap64 (a + 1) + 1) + 1) + 1) + 1) + 1)) 0).bind fun b => laws_markNodeS.l0 k ns b (wrap64 (i + 1)))) else none) else some a
def laws_markFs.f (k : Nat) (l0 : List S62) (x a1 : Int) : Option Int := laws_markNodeS.l0 k l0 a1 0
def laws_markStringS.l0 : Nat → List ByteArray → Int → Int → Option (Int × List ByteArray)
 | 0, _, _, _ => none
 | k + 1, x0, x1, x5 => if x5 < (x0.length : Int) then ((laws_markText.f k x1).bind fun t582 => (if 0 ≤ x5 then (laws_markStringS.l0 k (x0.set (x5 : Int).toNat t582) (wrap64 (x1 + 1)) (wrap64 (x5 + 1))) else (none))) else (some (x1, x0))
def laws_markStringS.f (k : Nat) (l0 : List ByteArray) (a1 : Int) : Option (Int × List ByteArray) := laws_markStringS.l0 k l0 a1 0
end Go.Proofs.YtmhjmicplaolmaaGreatDoor.PRm
