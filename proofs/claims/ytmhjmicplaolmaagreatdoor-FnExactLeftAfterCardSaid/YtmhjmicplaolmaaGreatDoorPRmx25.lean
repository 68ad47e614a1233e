import Derived.Test.YtmhjmicplaolmaaGreatDoorPRmx0
namespace Go.Proofs.YtmhjmicplaolmaaGreatDoor.PRm
open Go.RowKit Go.Proofs.YtmhjmicplaolmaaGreatDoorW.PrintWords Go.Proofs.YtmhjmicplaolmaaGreatDoorW.PrintLast Go.Proofs.YtmhjmicplaolmaaGreatDoorW.PrintMore
attribute [local go_sem] dY dW eZ eY dH dG dX dV
set_option linter.unusedVariables false
set_option linter.unusedSimpArgs false
set_option maxHeartbeats 8000000
set_option maxRecDepth 100000
/-! ### aV: function 13 -/
def aV.l0 : Nat → List ByteArray → List ByteArray → Int → Option (Bool)
 | 0, _, _, _ => none
 | k + 1, x0, x1, x5 => if x5 < (x0.length : Int) then (if 0 ≤ x5 then (if x5 < (x1.length : Int) then (if (dx ByteArray.empty x0 x5).toList = (dx ByteArray.empty x1 x5).toList then (aV.l0 k x0 x1 (wrap64 (x5 + 1))) else (some false)) else (none)) else (none)) else (some true)
def aV.f (k : Nat) (l0 : List ByteArray) (l1 : List ByteArray) : Option (Bool) := if (l0.length : Int) = (l1.length : Int) then (aV.l0 k l0 l1 0) else (some false)
theorem aV.calls (k : Nat) (A0 : Option Addr) (c0 : Nat) (l0 : List ByteArray) (A1 : Option Addr) (c1 : Nat) (l1 : List ByteArray) (r : Bool) (w : World) (hr0 : Kd.C Kd.string w A0 l0.length l0) (hc0 : l0.length ≤ c0) (hr1 : Kd.C Kd.string w A1 l1.length l1) (hc1 : l1.length ≤ c1) (h : aV.f k l0 l1 = some r) :
  Calls Tryz.prog 13 #[.slice A0 l0.length c0, .slice A1 l1.length c1] w fun e w' => e = .returned (.bool r) ∧ bR w w' := by
 have HR0 := aM hr0; have HC0 := aM hc0; clear hr0 hc0; have HR1 := aM hr1; have HC1 := aM hc1; clear hr1 hc1; have H : (if (l0.length : Int) = (l1.length : Int) then (aV.l0 k l0 l1 0) else (some false)) = some r := h; clear h; by_cases c3 : (l0.length : Int) = (l1.length : Int)
 ·rw [if_pos c3] at H; obtain ⟨_, _⟩ := eQ c3; have c3b2 : (l0.length == l1.length) = true := by first | simpa using c3 | (simp at c3 ⊢; omega)
  clear c3; have H' := aM H; clear H; go_enter Tryz.func13, Tryz.ntmps13; go_wp2
  repeat (go_quiet (fail); try go_wp2)
  go_loopg [5] k (fun kq v5 w' => ∃ (x5_1 : Int), v5 = .int .i64 x5_1 ∧ aa (aV.l0 kq l0 l1 x5_1 = some r) ∧ aa (kq ≤ k) ∧ bR w w')
  case atStart => exact ⟨(0), sR, H', ⟨Nat.le_refl _⟩, by repeat (first | exact bR.refl _ | apply bR.step)⟩
  case round =>
   clear H'; obtain ⟨x5_1, rfl, HA, HK1, ⟨m1, rfl⟩⟩ := hrel; cases gk with
   | zero => exact absurd HA.out (by simp [aV.l0])
   | succ k1 =>
    have H := HA.out; clear HA; simp only [aV.l0] at H; by_cases c4 : x5_1 < (l0.length : Int)
    ·rw [if_pos c4] at H; replace c4 := dT c4; obtain ⟨c5, H⟩ := iN H; replace c5 := dT c5; obtain ⟨c6, H⟩ := iN H; replace c6 := dT c6; by_cases c7 : (dx ByteArray.empty l0 x5_1).toList = (dx ByteArray.empty l1 x5_1).toList
     ·rw [if_pos c7] at H; obtain ⟨_, _⟩ := eQ c7; clear c7; have H' := aM H; clear H; obtain ⟨p577, q577, ad577, e577, hx577_0⟩ := iX (Kd.ek HR0.out x5_1); cases e577; obtain ⟨p578, q578, ad578, e578, hx578_0⟩ := iX (Kd.ek HR1.out x5_1); cases e578; go_wp2
      repeat (go_quiet (fail); try go_wp2)
      go_roundg k1
      case measure => have := HK1.out; omega
      case rel => exact ⟨(wrap64 (x5_1 + 1)), sR, H', ⟨by have := HK1.out; omega⟩, by repeat (first | exact bR.refl _ | apply bR.step)⟩
     ·rw [if_neg c7] at H; obtain ⟨_, _⟩ := nQ c7; obtain rfl := sI H; obtain ⟨p577, q577, ad577, e577, hx577_0⟩ := iX (Kd.ek HR0.out x5_1); cases e577; obtain ⟨p578, q578, ad578, e578, hx578_0⟩ := iX (Kd.ek HR1.out x5_1); cases e578; go_wp2
      repeat (go_quiet (fail); try go_wp2)
      go_ret
      exact eD
    ·rw [if_neg c4] at H; replace c4 := dF c4; obtain rfl := sI H; go_wp2
     repeat (go_quiet (fail); try go_wp2)
     go_ret
     exact eD
 ·rw [if_neg c3] at H; obtain ⟨_, _⟩ := nQ c3; have c3b2 : (l0.length == l1.length) = false := by first | simpa using c3 | (simp at c3 ⊢; omega)
  obtain rfl := sI H; go_enter Tryz.func13, Tryz.ntmps13; go_wp2
  repeat (go_quiet (fail); try go_wp2)
  go_ret
  exact eD
def bv.l0 : Nat → Int → ByteArray → Option (ByteArray)
 | 0, _, _ => none
 | k + 1, x0, x3 => if x0 > 0 then ((some (([(wrap64 (48 + (Int.tmod x0 10))) % 256] : List Int) : List Int)).bind fun y579 => (if (strOfNums y579).size + x3.size ≤ 9223372036854775807 then (bv.l0 k (wrap64 (Int.tdiv x0 10)) ((strOfNums y579) ++ x3)) else (none))) else (if 1 + x3.size ≤ 9223372036854775807 then (some ((⟨#[109]⟩ : ByteArray) ++ x3)) else (none))
def bv.f (k : Nat) (a0 : Int) : Option (ByteArray) := if a0 ≤ 0 then (some (⟨#[109, 48]⟩ : ByteArray)) else (bv.l0 k a0 (⟨#[]⟩ : ByteArray))
theorem bv.calls (k : Nat) (a0 : Int) (r : ByteArray) (w : World) (h : bv.f k a0 = some r) :
  Calls Tryz.prog 30 #[.int .i64 a0] w fun e w' => e = .returned (.string r) ∧ Below w.heap.size w w' := by
 have HB := b0 w; have H : (if a0 ≤ 0 then (some (⟨#[109, 48]⟩ : ByteArray)) else (bv.l0 k a0 (⟨#[]⟩ : ByteArray))) = some r := h; clear h; by_cases c2 : a0 ≤ 0
 ·rw [if_pos c2] at H; replace c2 := dT c2; obtain rfl := sI H; go_enter Tryz.func30, Tryz.ntmps30; go_wp2; go_ret
  exact ⟨sE, sB⟩
 ·rw [if_neg c2] at H; replace c2 := dF c2; have H' := aM H; clear H; go_enter Tryz.func30, Tryz.ntmps30; go_wp2
  go_loopg [0, 3] k (fun kq v0 v3 w' => ∃ (x0_1 : Int) (x3_1 : ByteArray), v0 = .int .i64 x0_1 ∧ v3 = .string x3_1 ∧ aa (bv.l0 kq x0_1 x3_1 = some r) ∧ aa (kq ≤ k) ∧ aa (Below w.heap.size w w'))
  case atStart => exact ⟨(a0), ((⟨#[]⟩ : ByteArray)), sR, sR, H', ⟨Nat.le_refl _⟩, ⟨sB⟩⟩
  case round =>
   clear H'; obtain ⟨x0_1, x3_1, rfl, rfl, HA, HK1, HB⟩ := hrel; cases gk with
   | zero => exact absurd HA.out (by simp [bv.l0])
   | succ k1 =>
    have H := HA.out; clear HA; simp only [bv.l0] at H; by_cases c3 : x0_1 > 0
    ·rw [if_pos c3] at H; replace c3 := dT c3; obtain ⟨y579, hy579⟩ : ∃ y_ : List Int, y_ = (([(wrap64 (48 + (Int.tmod x0_1 10))) % 256] : List Int)) := ⟨_, rfl⟩; replace H : (if (strOfNums y579).size + x3_1.size ≤ 9223372036854775807 then (bv.l0 k1 (wrap64 (Int.tdiv x0_1 10)) ((strOfNums y579) ++ x3_1)) else (none)) = some r := by first | (rw [hy579]; with_reducible exact H) | (rw [hy579]; with_reducible exact (bz H :)) | (with_reducible exact (bz H :)) | with_reducible exact H | (rw [hy579]; exact H) | exact H
     have Ny579 := aM hy579; clear hy579; obtain ⟨c4, H⟩ := iN H; have c4b0 := eq_true c4; have c4b1 := decide_eq_true c4
     try have c4b2 : (9223372036854775807 < (strOfNums y579).size + x3_1.size) = False := eq_false (Nat.not_lt.2 c4)
     have H' := aM H; clear H
     go_wp2_with (first | ((with_reducible refine iq (N := 12) rfl ?_); refine Kd.lH (Kd.int .u8) _ 5 ?hg (N := 12) ?hd (xs := ([(wrap64 (48 + (Int.tmod x0_1 10))) % 256] : List Int)) (inner := [.int .u8 ((wrap64 (48 + (Int.tmod x0_1 10))) % 256)]) (ok := fun _ => True) (okp := fun _ => True) ?hr ?hp (fun _ hk => hk) trivial (Below.refl _ _) (Nat.le_refl _) (by simp) ?_; (case hd => rfl); (case hg => rfl); (case hr => first | (go_simp; done) | (go_simp; rfl)); (case hp => exact (eB.one (show Kd.M (Kd.int .u8) _ _ _ ((wrap64 (48 + (Int.tmod x0_1 10))) % 256) [.int .u8 ((wrap64 (48 + (Int.tmod x0_1 10))) % 256)] from rfl) (eB.none _ _))); intro v580 w5 ho6 hb hg_ hnew_; clear hg_ hnew_; (first | rw [← Ny579.out] at ho6 | (simp only [Int.reduceToNat] at ho6; rw [← Ny579.out] at ho6)); have HO581 := aM (Kd.dA ho6 (aA sB)); replace HB := nSB hb; clear hb ho6; have hcv7 := uF (P := Tryz.prog) Tryz.underlying93 Tryz.underlying5 Tryz.underlying9 (Kd.qa HO581.out)))
     go_roundg k1
     case measure => have := HK1.out; omega
     case rel => exact ⟨(wrap64 (Int.tdiv x0_1 10)), ((strOfNums y579) ++ x3_1), sR, sR, H', ⟨by have := HK1.out; omega⟩, ⟨sB⟩⟩
    ·rw [if_neg c3] at H; replace c3 := dF c3; by_cases c8 : 1 + x3_1.size ≤ 9223372036854775807
     ·rw [if_pos c8] at H; have c8b0 := eq_true c8; have c8b1 := decide_eq_true c8
      try have c8b2 : (9223372036854775807 < 1 + x3_1.size) = False := eq_false (Nat.not_lt.2 c8)
      obtain rfl := sI H; go_wp2; go_ret
      exact ⟨sE, sB⟩
     ·rw [if_neg c8] at H; exact absurd H (by simp)
structure cB (base : Nat) (w w' : World) : Prop where
 below : Below base w w'
 block : ∀ i, i < w.heap.size → w'.heap[i]? = w.heap[i]? ∨ ∃ q cs cs', (q = 62 ∨ q = 87) ∧ w.heap[i]? = some (.cells cs q (0, 0)) ∧ w'.heap[i]? = some (.cells cs' q (0, 0)) ∧ cs'.size = cs.size ∧ (q = 62 → ∀ j, cs'[j * 7 + 6]? = cs[j * 7 + 6]?)
theorem cB.refl {base : Nat} (w : World) : cB base w w := ⟨Below.refl _ _, fun _ _ => .inl rfl⟩
theorem cB.fU {base : Nat} {w w1 w2 : World} (h : cB base w w1) (hb : Below w1.heap.size w1 w2) (hz : base ≤ w.heap.size) : cB base w w2 :=
 ⟨fA h.below (Nat.le_trans hz h.below.size) hb, fun i hi => by rw [hb.block i (Nat.lt_of_lt_of_le hi h.below.size)]; exact h.block i hi⟩
theorem cB.trans {base : Nat} {w w1 w2 : World} (h : cB base w w1) (k : cB base w1 w2) : cB base w w2 :=
 ⟨h.below.trans k.below, fun i hi => by
  rcases k.block i (Nat.lt_of_lt_of_le hi h.below.size) with e | ⟨q, cs, cs', hq, h1, h2, h3, h4⟩
  ·rw [e]; exact h.block i hi
  ·rcases h.block i hi with e | ⟨q0, cs0, cs0', hq0, k1, k2, k3, k4⟩
   ·exact .inr ⟨q, cs, cs', hq, by rw [← e]; exact h1, h2, h3, h4⟩
   ·have e := k2.symm.trans h1
    injection e with e
    injection e with e1 e2
    subst e1 e2
    exact .inr ⟨q0, cs0, cs', hq0, k1, h2, h3.trans k3, fun hv j => (h4 hv j).trans (k4 hv j)⟩⟩
theorem cB.store {base : Nat} {w w1 : World} {g q : Nat} {cs : Array Value} (h : cB base w w1) (hg : w1.heap[g]? = some (.cells cs q (0, 0))) (hb : base ≤ g) (hq : q = 62 ∨ q = 87) (j : Nat) (u : Value) (h6 : q = 62 → ∀ i, j ≠ i * 7 + 6) : cB base w (w1.setCell ⟨g, j, none⟩ u) :=
 h.trans ⟨(Below.refl base w1).setCell hb _, fun i hi => by
  by_cases e : i = g
  ·subst e; exact .inr ⟨q, cs, cs.setIfInBounds j u, hq, hg, nN hg j u, Array.size_setIfInBounds, fun hv i => Array.getElem?_setIfInBounds_ne (h6 hv i)⟩
  ·exact .inl (Below.heap_setCell w1 ⟨g, j, none⟩ u i e)⟩
theorem cB.blk {base g t : Nat} {w w' : World} {cs : Array Value} (hm : cB base w w') (h : w.heap[g]? = some (.cells cs t (0, 0))) (h1 : t ≠ 62 := by decide) (h2 : t ≠ 87 := by decide) : w'.heap[g]? = some (.cells cs t (0, 0)) := by
 rcases hm.block g (fJ h) with e | ⟨q, cs0, _, hq, k1, _⟩
 ·exact e.trans h
 ·have e := h.symm.trans k1
  injection e with e
  injection e with e1 e2
  exact absurd e2 (fun e2 => by subst e2; rcases hq with hq | hq <;> contradiction)
theorem cB.R {α : Type} {d : Kd α} {e base b : Nat} {ok : Nat → Prop} {v : Value} {xs : List α} {w w' : World} (hm : cB b w w') (h : Kd.R d e w base ok v xs) (hq : ∀ q, q ∈ e :: d.E → q ≠ 62 ∧ q ≠ 87 := by decide) : Kd.R d e w' base ok v xs :=
 Kd.aW (Kd.mU (Kd.fM h) (fun k hk => by
  obtain ⟨_, _, hlt, q, hmem, cells, hc⟩ := hk; have := hq q hmem
  rw [hm.blk hc this.1 this.2, hc])) (fun _ hk => hk.1)
def Ent (base : Nat) (w : World) (A : Option Addr) (n : Nat) : Prop := 0 < n → ∃ g cs, A = some ⟨g, 0, none⟩ ∧ base ≤ g ∧ w.heap[g]? = some (.cells cs 87 (0, 0)) ∧ n * 2 ≤ cs.size
theorem Ent.marked {base : Nat} {w w' : World} {A : Option Addr} {n : Nat} (h : Ent base w A n) (hm : cB base w w') : Ent base w' A n := fun hn => by
 obtain ⟨g, cs, e, hb, hc, hs⟩ := h hn
 rcases hm.block g (fJ hc) with e1 | ⟨q, cs0, cs', hq, h1, h2, h3, _⟩
 ·exact ⟨g, cs, e, hb, e1.trans hc, hs⟩
 ·have e2 := hc.symm.trans h1
  injection e2 with e2
  injection e2 with e3 e4
  subst e3 e4; exact ⟨g, cs', e, hb, h2, by omega⟩
theorem qX {w : World} {g t j : Nat} {cs : Array Value} {u : Value} (h : w.heap[g]? = some (.cells cs t (0, 0))) (hc : w.cell? ⟨g, j, none⟩ = some u) : j < cs.size := by
 rw [jf h] at hc; exact (Array.getElem?_eq_some_iff.1 hc).1
theorem Ent.Bo {base : Nat} {ok : Nat → Prop} {w : World} {v : Value} {l : List S87} (h : k87.R 87 w base ok v l) : ∃ A c, v = .slice A l.length c ∧ Ent base w A l.length := by
 obtain ⟨A, c, rfl⟩ := Kd.aU h; refine ⟨A, c, rfl, fun hn => ?_⟩; obtain ⟨g, cap, e, hb, _, cells, hc⟩ := Kd.lC h hn
 injection e with e1 _ e3
 subst e1 e3; obtain ⟨cs, hl, _, hcc, _⟩ := Kd.ow h z87 ((l.length - 1 : Nat) : Int) (by omega) (by omega); have hl2 : cs.length = 2 := hl; have := qX hc (hcc 1 cs[1] (List.getElem?_eq_getElem (by omega))); have hz : (k87).sz = 2 := rfl; rw [hz] at this; exact ⟨g, cells, rfl, hb, hc, by omega⟩
def Nod (base : Nat) (w : World) (A : Option Addr) (l : List S62) : Prop := 0 < l.length → ∃ g cs, A = some ⟨g, 0, none⟩ ∧ base ≤ g ∧ w.heap[g]? = some (.cells cs 62 (0, 0)) ∧ l.length * 7 ≤ cs.size ∧ ∀ i, i < l.length → ∃ A6 c6, cs[i * 7 + 6]? = some (.slice A6 (l.getD i z62).f6.length c6) ∧ Ent base w A6 (l.getD i z62).f6.length
theorem Nod.marked {base : Nat} {w w' : World} {A : Option Addr} {l : List S62} (h : Nod base w A l) (hm : cB base w w') : Nod base w' A l := fun hn => by
 obtain ⟨g, cs, e, hb, hc, hs, hi⟩ := h hn
 rcases hm.block g (fJ hc) with e1 | ⟨q, cs0, cs', hq, h1, h2, h3, h4⟩
 ·exact ⟨g, cs, e, hb, e1.trans hc, hs, fun i hl => by obtain ⟨A6, c6, a, b⟩ := hi i hl; exact ⟨A6, c6, a, b.marked hm⟩⟩
 ·have e2 := hc.symm.trans h1
  injection e2 with e2
  injection e2 with e3 e4
  subst e3 e4; exact ⟨g, cs', e, hb, h2, by omega, fun i hl => by obtain ⟨A6, c6, a, b⟩ := hi i hl; exact ⟨A6, c6, (h4 rfl i).trans a, b.marked hm⟩⟩
theorem Nod.Bn {base : Nat} {ok : Nat → Prop} {w : World} {A : Option Addr} {n c : Nat} {l : List S62} (h : Kd.S k62 62 w base ok (.slice A n c) l) : Nod base w A l := fun hn => by
 obtain ⟨g, cap, e, hb, _, cells, hc⟩ := Kd.lQ h hn
 injection e with e1 e2 e3
 subst e1 e2 e3; have hz : (k62).sz = 7 := rfl; refine ⟨g, cells, rfl, hb, hc, ?_, fun i hi => ?_⟩
 ·obtain ⟨_, cs, hl, _, hcc, _⟩ := Kd.jU h z62 ((l.length - 1 : Nat) : Int) (by omega) (by omega); rw [hz] at hl; have := qX hc (hcc 6 cs[6] (List.getElem?_eq_getElem (by omega))); rw [hz] at this
  omega
 ·obtain ⟨_, cs, hl, hM, hcc, _⟩ := Kd.jU h z62 (i : Int) (by omega) (by omega); obtain ⟨v6, rfl, hR⟩ := iA hM; obtain ⟨A6, c6, rfl, he⟩ := Ent.Bo hR; have h6 := hcc 6 _ rfl; rw [hz, jf hc] at h6; exact ⟨A6, c6, h6, he⟩
def BS (w : World) (g t m : Nat) : Prop := ∃ cs, w.heap[g]? = some (.cells cs t (0, 0)) ∧ m ≤ cs.size
theorem BS.cell {w : World} {g t m : Nat} (h : BS w g t m) (j : Nat) (hj : j < m) : ∃ u, w.cell? ⟨g, j, none⟩ = some u := by
 obtain ⟨cs, h1, h2⟩ := h; exact ⟨cs[j], (jf h1 j).trans (Array.getElem?_eq_getElem (by omega))⟩
theorem BS.frozen {w : World} {g t m : Nat} (h : BS w g t m) (j : Nat) : w.frozen? ⟨g, j, none⟩ = false := by
 obtain ⟨cs, h1, _⟩ := h; exact lh h1 j
theorem BS.put {w : World} {g t m : Nat} (h : BS w g t m) (j : Nat) (v : Value) : BS (w.setCell ⟨g, j, none⟩ v) g t m := by
 obtain ⟨cs, h1, h2⟩ := h; exact ⟨_, nN h1 j v, by rw [Array.size_setIfInBounds]; exact h2⟩
theorem BS.below {w w' : World} {g t m : Nat} (h : BS w g t m) (hb : Below w.heap.size w w') : BS w' g t m := by
 obtain ⟨cs, h1, h2⟩ := h; exact ⟨_, kC h1 hb, h2⟩
theorem cB.sW {base : Nat} {w w1 : World} {g q m : Nat} (h : cB base w w1) (hg : BS w1 g q m) (hb : base ≤ g) (hq : q = 62 ∨ q = 87) (j : Nat) (u : Value) (h6 : q = 62 → ∀ i, j ≠ i * 7 + 6) : cB base w (w1.setCell ⟨g, j, none⟩ u) := by
 obtain ⟨cs, h1, _⟩ := hg; exact h.store h1 hb hq j u h6
def dP.l0 : Nat → Nat → Int → Int → Option Int
 | 0, _, _, _ => none
 | k + 1, n, a, i => if i < (n : Int) then (if 0 ≤ i then ((bv.f k a).bind fun _ => dP.l0 k n (wrap64 (wrap64 (a + 1) + 1)) (wrap64 (i + 1))) else none) else some a
theorem dP.marks (k : Nat) (A : Option Addr) (n c : Nat) (a1 r : Int) (base : Nat) (w0 w : World) (hM : cB base w0 w) (hz : base ≤ w0.heap.size) (hE : Ent base w A n) (h : dP.l0 k n a1 0 = some r) :
  Calls Tryz.prog 49 #[.slice A n c, .int .i64 a1] w fun e w' => e = .returned (.int .i64 r) ∧ cB base w0 w' := by
 have HM := aM hM; have HE := aM hE; have HZ := aM hz; have H' := aM h; clear hM hE h hz; go_enter Tryz.func49, Tryz.ntmps49; go_wp2
 go_loopg [1, 5] k (fun kq v1 v5 w' => ∃ (a i : Int), v1 = .int .i64 a ∧ v5 = .int .i64 i ∧ aa (dP.l0 kq n a i = some r) ∧ aa (kq ≤ k) ∧ aa (cB base w0 w') ∧ aa (Ent base w' A n))
 case atStart => exact ⟨a1, 0, sR, sR, H', ⟨Nat.le_refl _⟩, ⟨by repeat (first | exact HM.out | apply cB.drew | apply cB.drewN)⟩, ⟨by exact HE.out⟩⟩
 case round =>
  clear H' HM HE; obtain ⟨a, i, rfl, rfl, HA, HK1, HM, HE⟩ := hrel; cases gk with
  | zero => exact absurd HA.out (by simp [dP.l0])
  | succ k1 =>
  have H := HA.out; clear HA; simp only [dP.l0] at H; by_cases c3 : i < (n : Int)
  rotate_left
  ·rw [if_neg c3] at H; have c3b := decide_eq_false c3; obtain rfl := sI H; go_wp2; go_ret
   exact ⟨rfl, by repeat (first | exact HM.out | apply cB.drew | apply cB.drewN)⟩
  rw [if_pos c3] at H; by_cases c4 : 0 ≤ i
  rotate_left
  ·rw [if_neg c4] at H; cases H
  rw [if_pos c4] at H; obtain ⟨t1, A4, H⟩ := Option.bind_eq_some_iff.mp H; replace A4 := aM A4; have H' := aM H; clear H; obtain ⟨g, cs, eA, hgb, hgc, hgs⟩ := HE.out (by omega); subst eA; have GB := aM hgb; have BK := aM (show BS _ g 87 (n * 2) from ⟨cs, hgc, hgs⟩); clear hgb hgc hgs HE; have c3b := decide_eq_true c3; have c4b := decide_eq_true c4; have p3 := eq_true c4; have q3 := eq_true c3; have C3 := aM c3; have C4 := aM c4; clear c3 c4
  go_wp2_with (first | ((with_reducible refine gt 30 rfl ?_); refine gL 30 15 Tryz.func30 #[.int .i64 a] ?_; (with_reducible refine (bv.calls k1 a t1 _ A4.out).mono ?_); rintro e w8 ⟨rfl, hb⟩; refine ⟨_, rfl, ?_⟩; replace HM := aM (cB.fU HM.out hb HZ.out); replace BK := aM (BK.out.below hb); clear hb; obtain ⟨u1, hx1⟩ := BK.out.cell (i.toNat * 2) (by have := C3.out; have := C4.out; omega); have hf1 := BK.out.frozen (i.toNat * 2)) | ((with_reducible refine dI (t := 9) (p := 17) rfl ?_); refine cK (t := 9) (p := 17) (v := ?vo_w9) (w1 := (w8.setCell ⟨g, i.toNat * 2, none⟩ (.string t1))) ?hg ?ho ?hn ?hr ?_; (case ho => rfl); (case hg => rfl); (case hn => rfl); (case hr => first | (go_simp; done) | (go_simp; rfl)); intro w9 hw; replace HM := aM (show cB base w0 w9 from by rw [hw]; exact HM.out.sW BK.out GB.out (.inr rfl) _ _ (fun h => by cases h)); replace BK := aM (show BS w9 g 87 (n * 2) from by rw [hw]; exact BK.out.put _ _); clear hw hx1 hf1; obtain ⟨u2, hx2⟩ := BK.out.cell (i.toNat * 2 + 1) (by have := C3.out; have := C4.out; omega); have hf2 := BK.out.frozen (i.toNat * 2 + 1)) | ((with_reducible refine dI (t := 3) (p := 24) rfl ?_); refine cK (t := 3) (p := 24) (v := ?vo_w10) (w1 := (w9.setCell ⟨g, i.toNat * 2 + 1, none⟩ (.int .i64 (wrap64 (a + 1))))) ?hg ?ho ?hn ?hr ?_; (case ho => rfl); (case hg => rfl); (case hn => rfl); (case hr => first | (go_simp; done) | (go_simp; rfl)); intro w10 hw; replace HM := aM (show cB base w0 w10 from by rw [hw]; exact HM.out.sW BK.out GB.out (.inr rfl) _ _ (fun h => by cases h)); replace BK := aM (show BS w10 g 87 (n * 2) from by rw [hw]; exact BK.out.put _ _); clear hw hx2 hf2))
  go_roundg k1
  case measure => have := HK1.out; omega
  case rel => exact ⟨(wrap64 (wrap64 (a + 1) + 1)), (wrap64 (i + 1)), sR, sR, H', ⟨by have := HK1.out; omega⟩, ⟨by repeat (first | exact HM.out | apply cB.drew | apply cB.drewN)⟩, ⟨fun _ => by obtain ⟨cs', h1, h2⟩ := BK.out; exact ⟨g, cs', rfl, GB.out, h1, h2⟩⟩⟩
def dQ.l0 : Nat → List S62 → Int → Int → Option Int
 | 0, _, _, _ => none
 | k + 1, ns, a, i => if i < (ns.length : Int) then (if 0 ≤ i then ((bv.f k (wrap64 (wrap64 (wrap64 (wrap64 (wrap64 (a + 1) + 1) + 1) + 1) + 1))).bind fun _ => ((dP.l0 k (r62 ns i).f6.length (wrap64 (wrap64 (wrap64 (wrap64 (wrap64 (wrap64 (a + 1) + 1) + 1) + 1) + 1) + 1)) 0).bind fun b => dQ.l0 k ns b (wrap64 (i + 1)))) else none) else some a
theorem dQ.marks (k : Nat) (A : Option Addr) (c : Nat) (ns : List S62) (a1 r : Int) (base : Nat) (w0 w : World) (hM : cB base w0 w) (hz : base ≤ w0.heap.size) (hN : Nod base w A ns) (h : dQ.l0 k ns a1 0 = some r) :
  Calls Tryz.prog 29 #[.slice A ns.length c, .int .i64 a1] w fun e w' => e = .returned (.int .i64 r) ∧ cB base w0 w' := by
 have HM := aM hM; have HN := aM hN; have HZ := aM hz; have H' := aM h; clear hM hN h hz; go_enter Tryz.func29, Tryz.ntmps29; go_wp2
 go_loopg [1, 5] k (fun kq v1 v5 w' => ∃ (a i : Int), v1 = .int .i64 a ∧ v5 = .int .i64 i ∧ aa (dQ.l0 kq ns a i = some r) ∧ aa (kq ≤ k) ∧ aa (cB base w0 w') ∧ aa (Nod base w' A ns))
 case atStart => exact ⟨a1, 0, sR, sR, H', ⟨Nat.le_refl _⟩, ⟨by repeat (first | exact HM.out | apply cB.drew | apply cB.drewN)⟩, ⟨by exact HN.out⟩⟩
 case round =>
  clear H' HM HN; obtain ⟨a, i, rfl, rfl, HA, HK1, HM, HN⟩ := hrel; cases gk with
  | zero => exact absurd HA.out (by simp [dQ.l0])
  | succ k1 =>
  have H := HA.out; clear HA; simp only [dQ.l0] at H; by_cases c3 : i < (ns.length : Int)
  rotate_left
  ·rw [if_neg c3] at H; have c3b := decide_eq_false c3; obtain rfl := sI H; go_wp2; go_ret
   exact ⟨rfl, by repeat (first | exact HM.out | apply cB.drew | apply cB.drewN)⟩
  rw [if_pos c3] at H; by_cases c4 : 0 ≤ i
  rotate_left
  ·rw [if_neg c4] at H; cases H
  rw [if_pos c4] at H; obtain ⟨t1, A4, H⟩ := Option.bind_eq_some_iff.mp H; obtain ⟨b1, A5, H⟩ := Option.bind_eq_some_iff.mp H; replace A4 := aM A4; replace A5 := aM A5; have H' := aM H; clear H; obtain ⟨g, cs, eA, hgb, hgc, hgs, hgi⟩ := HN.out (by omega); subst eA; have GB := aM hgb; have BK := aM (show BS _ g 62 (ns.length * 7) from ⟨cs, hgc, hgs⟩); have HR := aM (cB.refl (base := base) wr); have HS := aM (show base ≤ wr.heap.size from Nat.le_trans HZ.out HM.out.below.size); clear hgb hgc hgs hgi; have c3b := decide_eq_true c3; have c4b := decide_eq_true c4; have p3 := eq_true c4; have q3 := eq_true c3; have C3 := aM c3; have C4 := aM c4; clear c3 c4; obtain ⟨u0, hx0⟩ := BK.out.cell (i.toNat * 7) (by have := C3.out; have := C4.out; omega); have hf0 := BK.out.frozen (i.toNat * 7)
  go_wp2_with (first | ((with_reducible refine dI (t := 3) (p := 16) rfl ?_); refine cK (t := 3) (p := 16) (v := ?vo_w11) (w1 := (wr.setCell ⟨g, i.toNat * 7, none⟩ (.int .i64 (a)))) ?hg ?ho ?hn ?hr ?_; (case ho => rfl); (case hg => rfl); (case hn => rfl); (case hr => first | (go_simp; done) | (go_simp; rfl)); intro w11 hw; replace HR := aM (show cB base wr w11 from by rw [hw]; exact HR.out.sW BK.out GB.out (.inl rfl) _ _ (fun _ _ => by omega)); replace BK := aM (show BS w11 g 62 (ns.length * 7) from by rw [hw]; exact BK.out.put _ _); clear hw hx0 hf0; obtain ⟨u1, hx1⟩ := BK.out.cell (i.toNat * 7 + 1) (by have := C3.out; have := C4.out; omega); have hf1 := BK.out.frozen (i.toNat * 7 + 1)) | ((with_reducible refine dI (t := 3) (p := 23) rfl ?_); refine cK (t := 3) (p := 23) (v := ?vo_w12) (w1 := (w11.setCell ⟨g, i.toNat * 7 + 1, none⟩ (.int .i64 (wrap64 (a + 1))))) ?hg ?ho ?hn ?hr ?_; (case ho => rfl); (case hg => rfl); (case hn => rfl); (case hr => first | (go_simp; done) | (go_simp; rfl)); intro w12 hw; replace HR := aM (show cB base wr w12 from by rw [hw]; exact HR.out.sW BK.out GB.out (.inl rfl) _ _ (fun _ _ => by omega)); replace BK := aM (show BS w12 g 62 (ns.length * 7) from by rw [hw]; exact BK.out.put _ _); clear hw hx1 hf1; obtain ⟨u2, hx2⟩ := BK.out.cell (i.toNat * 7 + 2) (by have := C3.out; have := C4.out; omega); have hf2 := BK.out.frozen (i.toNat * 7 + 2)) | ((with_reducible refine dI (t := 3) (p := 30) rfl ?_); refine cK (t := 3) (p := 30) (v := ?vo_w13) (w1 := (w12.setCell ⟨g, i.toNat * 7 + 2, none⟩ (.int .i64 (wrap64 (wrap64 (a + 1) + 1))))) ?hg ?ho ?hn ?hr ?_; (case ho => rfl); (case hg => rfl); (case hn => rfl); (case hr => first | (go_simp; done) | (go_simp; rfl)); intro w13 hw; replace HR := aM (show cB base wr w13 from by rw [hw]; exact HR.out.sW BK.out GB.out (.inl rfl) _ _ (fun _ _ => by omega)); replace BK := aM (show BS w13 g 62 (ns.length * 7) from by rw [hw]; exact BK.out.put _ _); clear hw hx2 hf2; obtain ⟨u3, hx3⟩ := BK.out.cell (i.toNat * 7 + 3) (by have := C3.out; have := C4.out; omega); have hf3 := BK.out.frozen (i.toNat * 7 + 3)) | ((with_reducible refine dI (t := 3) (p := 37) rfl ?_); refine cK (t := 3) (p := 37) (v := ?vo_w14) (w1 := (w13.setCell ⟨g, i.toNat * 7 + 3, none⟩ (.int .i64 (wrap64 (wrap64 (wrap64 (a + 1) + 1) + 1))))) ?hg ?ho ?hn ?hr ?_; (case ho => rfl); (case hg => rfl); (case hn => rfl); (case hr => first | (go_simp; done) | (go_simp; rfl)); intro w14 hw; replace HR := aM (show cB base wr w14 from by rw [hw]; exact HR.out.sW BK.out GB.out (.inl rfl) _ _ (fun _ _ => by omega)); replace BK := aM (show BS w14 g 62 (ns.length * 7) from by rw [hw]; exact BK.out.put _ _); clear hw hx3 hf3; obtain ⟨u4, hx4⟩ := BK.out.cell (i.toNat * 7 + 4) (by have := C3.out; have := C4.out; omega); have hf4 := BK.out.frozen (i.toNat * 7 + 4)) | ((with_reducible refine dI (t := 3) (p := 44) rfl ?_); refine cK (t := 3) (p := 44) (v := ?vo_w15) (w1 := (w14.setCell ⟨g, i.toNat * 7 + 4, none⟩ (.int .i64 (wrap64 (wrap64 (wrap64 (wrap64 (a + 1) + 1) + 1) + 1))))) ?hg ?ho ?hn ?hr ?_; (case ho => rfl); (case hg => rfl); (case hn => rfl); (case hr => first | (go_simp; done) | (go_simp; rfl)); intro w15 hw; replace HR := aM (show cB base wr w15 from by rw [hw]; exact HR.out.sW BK.out GB.out (.inl rfl) _ _ (fun _ _ => by omega)); replace BK := aM (show BS w15 g 62 (ns.length * 7) from by rw [hw]; exact BK.out.put _ _); clear hw hx4 hf4; obtain ⟨u5, hx5⟩ := BK.out.cell (i.toNat * 7 + 5) (by have := C3.out; have := C4.out; omega); have hf5 := BK.out.frozen (i.toNat * 7 + 5)) | ((with_reducible refine gt 30 rfl ?_); refine gL 30 50 Tryz.func30 #[.int .i64 (wrap64 (wrap64 (wrap64 (wrap64 (wrap64 (a + 1) + 1) + 1) + 1) + 1))] ?_; (with_reducible refine (bv.calls k1 (wrap64 (wrap64 (wrap64 (wrap64 (wrap64 (a + 1) + 1) + 1) + 1) + 1)) t1 _ A4.out).mono ?_); rintro e w16 ⟨rfl, hb⟩; refine ⟨_, rfl, ?_⟩; replace HR := aM (cB.fU HR.out hb HS.out); replace BK := aM (BK.out.below hb); clear hb hx5 hf5; obtain ⟨u6, hx6⟩ := BK.out.cell (i.toNat * 7 + 5) (by have := C3.out; have := C4.out; omega); have hf6 := BK.out.frozen (i.toNat * 7 + 5)) | ((with_reducible refine dI (t := 9) (p := 52) rfl ?_); refine cK (t := 9) (p := 52) (v := ?vo_w17) (w1 := (w16.setCell ⟨g, i.toNat * 7 + 5, none⟩ (.string t1))) ?hg ?ho ?hn ?hr ?_; (case ho => rfl); (case hg => rfl); (case hn => rfl); (case hr => first | (go_simp; done) | (go_simp; rfl)); intro w17 hw; replace HR := aM (show cB base wr w17 from by rw [hw]; exact HR.out.sW BK.out GB.out (.inl rfl) _ _ (fun _ _ => by omega)); clear BK hw hx6 hf6; obtain ⟨g2, cs2, e2, _, h2, _, hi2⟩ := (HN.out.marked HR.out) (by have := C3.out; have := C4.out; omega); injection e2 with e2; injection e2 with e2; subst e2; obtain ⟨A6, c6, h6, hE6⟩ := hi2 i.toNat (by have := C3.out; have := C4.out; omega); have hx7 : w17.cell? ⟨g, i.toNat * 7 + 6, none⟩ = some (.slice A6 (r62 ns i).f6.length c6) := (jf h2 (i.toNat * 7 + 6)).trans h6; have HE := aM (show Ent base w17 A6 (r62 ns i).f6.length from hE6); clear h2 hi2 h6 hE6) | ((with_reducible refine gt 49 rfl ?_); refine gL 49 61 Tryz.func49 #[.slice A6 (r62 ns i).f6.length c6, .int .i64 (wrap64 (wrap64 (wrap64 (wrap64 (wrap64 (wrap64 (a + 1) + 1) + 1) + 1) + 1) + 1))] ?_; (with_reducible refine (dP.marks k1 A6 (r62 ns i).f6.length c6 (wrap64 (wrap64 (wrap64 (wrap64 (wrap64 (wrap64 (a + 1) + 1) + 1) + 1) + 1) + 1)) b1 base wr _ ?s1 ?s2 ?s3 A5.out).mono ?_); (case s1 => repeat (first | exact HR.out | apply cB.drew | apply cB.drewN)); (case s2 => exact HS.out); (case s3 => exact HE.out); rintro e w18 ⟨rfl, hm⟩; refine ⟨_, rfl, ?_⟩; clear HR HE hx7; have HR := aM hm; clear hm))
  go_roundg k1
  case measure => have := HK1.out; omega
  case rel => exact ⟨b1, (wrap64 (i + 1)), sR, sR, H', ⟨by have := HK1.out; omega⟩, ⟨by repeat (first | exact HM.out.trans HR.out | apply cB.drew | apply cB.drewN)⟩, ⟨by exact HN.out.marked HR.out⟩⟩
def jq.f (k : Nat) (l0 : List S62) (x a1 : Int) : Option Int := dQ.l0 k l0 a1 0
theorem jq.marks (k : Nat) (A : Option Addr) (c : Nat) (l0 : List S62) (x a1 r : Int) (base : Nat) (w : World) (hz : base ≤ w.heap.size) (hN : Nod base w A l0) (h : jq.f k l0 x a1 = some r) :
  Calls Tryz.prog 14 #[.agg #[.slice A l0.length c, .int .i64 x], .int .i64 a1] w fun e w' => e = .returned (.int .i64 r) ∧ cB base w w' := by
 have hu := Tryz.underlying32; have HN := aM hN; have HZ := aM hz; have HH := aM (show dQ.l0 k l0 a1 0 = some r from h); have HB := b0 w; clear hN hz h; go_enter Tryz.func14, Tryz.ntmps14
 go_wp2_with (first | ((with_reducible refine gd 2 rfl ?_); refine bxE 2 #[.slice A l0.length c, .int .i64 x] 32 ?_; intro gb hg w5 hbox hb; replace HB := nSB hb; have BK := aM hbox; clear hb hbox hg; have hcz := cb2 BK) | ((with_reducible refine gt 29 rfl ?_); refine gL 29 8 Tryz.func29 #[.slice A l0.length c, .int .i64 a1] ?_; have HM := aM (show cB base w _ from (cB.refl w).fU (show Below w.heap.size w _ from sB) HZ.out); (with_reducible refine (dQ.marks k A c l0 a1 r base w _ HM.out HZ.out ?s1 HH.out).mono ?_); (case s1 => exact HN.out.marked HM.out); rintro e w6 ⟨rfl, hm⟩; refine ⟨_, rfl, ?_⟩; have HR := aM hm; clear hm HM HB))
 go_ret
 exact ⟨rfl, by repeat (first | exact HR.out | apply cB.drew | apply cB.drewN)⟩
def bG.l0 : Nat → List ByteArray → Int → Int → Option (Int × List ByteArray)
 | 0, _, _, _ => none
 | k + 1, x0, x1, x5 => if x5 < (x0.length : Int) then ((bv.f k x1).bind fun t582 => (if 0 ≤ x5 then (bG.l0 k (x0.set (x5 : Int).toNat t582) (wrap64 (x1 + 1)) (wrap64 (x5 + 1))) else (none))) else (some (x1, x0))
def bG.f (k : Nat) (l0 : List ByteArray) (a1 : Int) : Option (Int × List ByteArray) := bG.l0 k l0 a1 0
theorem bG.calls (k : Nat) (P0_ : Nat → Prop) (u9000_ : Value) (l0 : List ByteArray) (a1 : Int) (r1 : Int) (r2 : List ByteArray) (w0 w : World) (hB : Below w0.heap.size w0 w) (ho0 : Kd.R Kd.string 9 w w0.heap.size P0_ u9000_ l0) (h : bG.f k l0 a1 = some (r1, r2)) :
  Calls Tryz.prog 15 #[u9000_, .int .i64 a1] w fun e w' => e = .returned (.int .i64 r1) ∧ Kd.R Kd.string 9 w' w0.heap.size (fun k_ => (P0_ k_ ∨ w.heap.size ≤ k_)) u9000_ r2 ∧ Below w0.heap.size w0 w' ∧ Kept w w' (fun k_ => P0_ k_) := by
 have HO0 := aM (show Kd.R Kd.string 9 w w0.heap.size (fun k_ => (P0_ k_ ∨ w.heap.size ≤ k_)) u9000_ l0 from Kd.aW ho0 (fun k_ hk => (.inl hk))); have HK := aM (Kept.refl w (fun k_ => P0_ k_)); have HW0 := aM hB.size; have HB := aM hB; clear hB; have H : (bG.l0 k l0 a1 0) = some (r1, r2) := h; clear h; have H' := aM H; clear H; go_enter Tryz.func15, Tryz.ntmps15; go_wp2
 go_loopg [1, 5] k (fun kq v1 v5 w' => ∃ (x0_1 : List ByteArray) (x1_1 : Int) (x5_1 : Int), v1 = .int .i64 x1_1 ∧ v5 = .int .i64 x5_1 ∧ aa (bG.l0 kq x0_1 x1_1 x5_1 = some (r1, r2)) ∧ aa (kq ≤ k) ∧ aa (Kd.R Kd.string 9 w' w0.heap.size (fun k_ => (P0_ k_ ∨ w.heap.size ≤ k_)) u9000_ x0_1) ∧ aa (Kept w w' (fun k_ => P0_ k_)) ∧ aa (Below w0.heap.size w0 w'))
 case atStart => exact ⟨(l0), (a1), (0), sR, sR, H', ⟨Nat.le_refl _⟩, ⟨rR HO0⟩, ⟨by repeat (first | (with_reducible first | exact HK.out | apply Kept.alloc | apply Kept.drewN | apply Kept.drew) | exact HK.out)⟩, ⟨sB⟩⟩
 case round =>
  clear H'; obtain ⟨x0_1, x1_1, x5_1, rfl, rfl, HA, HK1, HO_0, HK, HB⟩ := hrel; cases gk with
  | zero => exact absurd HA.out (by simp [bG.l0])
  | succ k1 =>
   have H := HA.out; clear HA; simp only [bG.l0] at H; by_cases c3 : x5_1 < (x0_1.length : Int)
   ·rw [if_pos c3] at H; replace c3 := dT c3; obtain ⟨t582, A4, H⟩ := bS H; (try dsimp only at H); obtain ⟨c5, H⟩ := iN H; replace c5 := dT c5; obtain ⟨y583, hy583⟩ : ∃ y_ : List ByteArray, y_ = (x0_1.set (x5_1 : Int).toNat t582) := ⟨_, rfl⟩; replace H : (bG.l0 k1 y583 (wrap64 (x1_1 + 1)) (wrap64 (x5_1 + 1))) = some (r1, r2) := by first | (rw [hy583]; with_reducible exact H) | (rw [hy583]; with_reducible exact (bz H :)) | (with_reducible exact (bz H :)) | with_reducible exact H | (rw [hy583]; exact H) | exact H
    have Ny583 := aM hy583; clear hy583; have H' := aM H; clear H; obtain ⟨Ao7, co7, eo7⟩ := Kd.aU HO_0.out; subst eo7
    go_wp2_with (first | ((with_reducible refine gt 30 rfl ?_); refine gL 30 15 Tryz.func30 #[.int .i64 x1_1] ?_; (with_reducible refine (bv.calls k1 x1_1 t582 _ A4.out).mono ?_); rintro e w8 ⟨rfl, hb⟩; refine ⟨_, rfl, ?_⟩; replace HO_0 := nR HO_0 hb; replace HK := aM (Kept.below (S := (fun k_ => P0_ k_)) (kO HK) hb); replace HB := nSB hb; try clear hb; have p6 : 0 ≤ (x5_1 : Int) := sO; have q6 : (x5_1 : Int) < ((x0_1.length : Int) : Int) := sO; obtain ⟨go6, co6, eo6, gb6, gl6, cl6, HG6⟩ := Kd.lC HO_0.out (by omega); (first | cases eo6 | (injection eo6 with ea_ en_ ec_; (first | subst ea_ | (injection ea_ with ea_; subst ea_)); subst ec_; clear en_)); have GB6 := aM gb6; have GG6 := aM HG6; clear gb6 gl6 HG6; have HMgo6 := aM (show (P0_ go6 ∨ w.heap.size ≤ go6) from (HO_0.out.1 _ rfl)); obtain ⟨hx6_0, hf6_0⟩ := Kd.nV (⟨#[]⟩ : ByteArray) HO_0.out (x5_1 : Int) p6 q6; replace p6 := eq_true p6; replace q6 := eq_true q6; obtain ⟨hy9_, hz9_⟩ := Kd.nV (⟨#[]⟩ : ByteArray) HO_0.out (x5_1 : Int) (sO) (sO); have HP9 := Kd.uZ HO_0.out (x5_1 : Int) t582) | ((with_reducible refine dI (t := 9) (p := 16) rfl ?_); refine cK (t := 9) (p := 16) (v := ?vo_w10) (w1 := (w8.setCell ⟨go6, (x5_1 : Int).toNat, none⟩ (.string t582))) ?hg ?ho ?hn ?hr ?_; (case ho => rfl); (case hg => rfl); (case hn => rfl); (case hr => first | (go_simp; done) | (go_simp; rfl)); intro w10 hw; have hg : w8.grownBy w10 (some go6) := (by rw [hw]; exact HP9.2); have hp_ : Kd.R Kd.string 9 w10 w0.heap.size (fun k_ => (P0_ k_ ∨ w.heap.size ≤ k_)) (.slice (some ⟨go6, 0, none⟩) x0_1.length co7) y583 := (by rw [hw, Ny583.out]; exact HP9.1); clear HP9; replace HB := aM ((by rw [hw]; exact az (HB.out) GB6.out : Below w0.heap.size w0 w10)); replace HK := aM (Kept.iM (S := (fun k_ => P0_ k_)) hg (kO HK) (fun k_ e_ => (HO_0.out.1 k_ e_))); replace HO_0 := aM (hp_); clear hg hw hp_))
    go_roundg k1
    case measure => have := HK1.out; omega
    case rel => exact ⟨(y583), (wrap64 (x1_1 + 1)), (wrap64 (x5_1 + 1)), sR, sR, H', ⟨by have := HK1.out; omega⟩, ⟨rR HO_0⟩, ⟨by repeat (first | (with_reducible first | exact HK.out | apply Kept.alloc | apply Kept.drewN | apply Kept.drew) | exact HK.out)⟩, ⟨sB⟩⟩
   ·rw [if_neg c3] at H; replace c3 := dF c3; simp only [Option.some.injEq, Prod.mk.injEq] at H; obtain ⟨rfl, rfl⟩ := H; obtain ⟨Ao11, co11, eo11⟩ := Kd.aU HO_0.out; subst eo11; go_wp2; go_ret
    exact ⟨sE, by (with_reducible repeat (first | apply Kd.R_alloc | apply Kd.bi | apply Kd.aY)); exact HO_0.out, by repeat (first | (with_reducible first | exact HB.out | apply dD | apply bQ | apply aI) | exact HB.out), by repeat (first | (with_reducible first | exact HK.out | apply Kept.alloc | apply Kept.drewN | apply Kept.drew) | exact HK.out)⟩
end Go.Proofs.YtmhjmicplaolmaaGreatDoor.PRm
