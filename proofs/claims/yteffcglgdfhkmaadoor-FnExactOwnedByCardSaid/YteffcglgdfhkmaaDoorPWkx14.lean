-- Written by a program of this session (wip/print2) out of the translation. Lean checks it.
import Derived.Test.YteffcglgdfhkmaaDoorPWkx0
import Derived.Test.YteffcglgdfhkmaaDoorPWkx7
import Derived.Test.YteffcglgdfhkmaaDoorPWkx1
import Derived.Test.YteffcglgdfhkmaaDoorPWkx8
import Derived.Test.YteffcglgdfhkmaaDoorPWkx12
import Derived.Test.YteffcglgdfhkmaaDoorPWkx13
namespace Go.Proofs.YteffcglgdfhkmaaDoor.PWk
open Go.RowKit Go.Proofs.YteffcglgdfhkmaaDoorW.PrintWords Go.Proofs.YteffcglgdfhkmaaDoorW.PrintLast Go.Proofs.YteffcglgdfhkmaaDoorW.PrintMore
attribute [local go_sem] max2_int min2_int max_two min_two max_three min_three max_four min_four   -- for this text's walks alone
set_option linter.unusedVariables false
set_option linter.unusedSimpArgs false
set_option maxHeartbeats 8000000
set_option maxRecDepth 100000

/-! ### laws_eqNodeS: function 48 -/
def laws_eqNodeS.l0 : Nat → List (S53) → List (S53) → Int → Option (Bool)
 | 0, _, _, _ => none
 | k + 1, x0, x1, x5 => if x5 < (x0.length : Int) then (if 0 ≤ x5 then (if x5 < (x1.length : Int) then ((laws_eqNode.f k ((rd_T53 x0 x5).f0) ((rd_T53 x0 x5).f1) ((rd_T53 x0 x5).f2) ((rd_T53 x0 x5).f3) ((rd_T53 x0 x5).f4) ((rd_T53 x0 x5).f5) ((rd_T53 x0 x5).f6) ((rd_T53 x1 x5).f0) ((rd_T53 x1 x5).f1) ((rd_T53 x1 x5).f2) ((rd_T53 x1 x5).f3) ((rd_T53 x1 x5).f4) ((rd_T53 x1 x5).f5) ((rd_T53 x1 x5).f6)).bind fun t367 => (if t367 = true then (laws_eqNodeS.l0 k x0 x1 (wrap64 (x5 + 1))) else (some false))) else (none)) else (none)) else (some true)
def laws_eqNodeS.f (k : Nat) (l0 : List (S53)) (l1 : List (S53)) : Option (Bool) := if (l0.length : Int) = (l1.length : Int) then (laws_eqNodeS.l0 k l0 l1 0) else (some false)
def laws_eqNodeS.T6 : Bool × List (List Nat × List Nat) := (true, [([], []), ([], []), ([0, 1], [0, 1]), ([2], [2]), ([], []), ([], []), ([4, 5], [4, 5]), ([6], [6]), ([3, 7], [3, 7]), ([8], [8])])
def laws_eqNodeS.B6 : List Nat := [0, 0, 3, 7, 0, 0, 48, 112, 255, 511]
theorem laws_eqNodeS.tab6 : rtab .any (opsOf Tryd.f48 6) = laws_eqNodeS.T6 := by kernel_rfl
theorem laws_eqNodeS.bits6 : waitsOk laws_eqNodeS.T6.2 laws_eqNodeS.B6 = true := by kernel_rfl
theorem laws_eqNodeS.calls (k : Nat) (A0 : Option Addr) (c0 : Nat) (l0 : List (S53)) (A1 : Option Addr) (c1 : Nat) (l1 : List (S53)) (r : Bool) (w : World) (hr0 : Kd.C k53 w A0 l0.length l0) (hc0 : l0.length ≤ c0) (hr1 : Kd.C k53 w A1 l1.length l1) (hc1 : l1.length ≤ c1) (h : laws_eqNodeS.f k l0 l1 = some r) :
  Calls Tryd.prog 48 #[.slice A0 l0.length c0, .slice A1 l1.length c1] w fun e w' => e = .returned (.bool r) ∧ Below w.heap.size w w' := by
 have hu53 := Tryd.underlying53
 have HR0 := Aside0.mk hr0
 have HC0 := Aside0.mk hc0
 clear hr0 hc0
 have HR1 := Aside0.mk hr1
 have HC1 := Aside0.mk hc1
 clear hr1 hc1
 have HB := Aside0.mk (Below.refl w.heap.size w)
 have H : (if (l0.length : Int) = (l1.length : Int) then (laws_eqNodeS.l0 k l0 l1 0) else (some false)) = some r := h
 clear h
 by_cases c3 : (l0.length : Int) = (l1.length : Int)
 ·rw [if_pos c3] at H
  have c3b0 := beq_iff_eq.mpr c3
  have c3b1 := bne_eq_false_iff_eq.mpr c3
  have c3b2 : (l0.length == l1.length) = true := by first | simpa using c3 | (simp at c3 ⊢; omega)
  clear c3
  have H' := Aside0.mk H
  clear H
  go_enter Tryd.func48, Tryd.ntmps48
  go_wp2
  go_loopg [5] k (fun kq v5 w' => ∃ (x5_1 : Int), v5 = .int .i64 x5_1 ∧ Aside0 (laws_eqNodeS.l0 kq l0 l1 x5_1 = some r) ∧ Aside0 (kq ≤ k) ∧ Aside0 (Below w.heap.size w w'))
  case atStart => exact ⟨(0), sR, H', ⟨Nat.le_refl _⟩, ⟨sB⟩⟩
  case round =>
   clear H'
   try clear c1
   try clear p2
   try clear c3
   try clear c3b0
   try clear c3b1
   try clear c3b2
   obtain ⟨x5_1, rfl, HA, HK1, HB⟩ := hrel
   cases gk with
   | zero => exact absurd HA.out (by simp [laws_eqNodeS.l0])
   | succ k1 =>
    have H := HA.out
    clear HA
    simp only [laws_eqNodeS.l0] at H
    by_cases c4 : x5_1 < (l0.length : Int)
    ·rw [if_pos c4] at H
     have c4b0 := decide_eq_true c4
     clear c4
     obtain ⟨c5, H⟩ := iN H
     have c5b0 := decide_eq_true c5
     clear c5
     obtain ⟨c6, H⟩ := iN H
     have c6b0 := decide_eq_true c6
     clear c6
     obtain ⟨t367, A7, H⟩ := bS H
     try dsimp only at H
     by_cases c8 : t367 = true
     ·subst c8
      rw [if_pos rfl] at H
      have H' := Aside0.mk H
      clear H
      try go_wp2
      have n0_ := Aside0.mk (below_drew1 HB.out)
      clear HB
      have HB := n0_
      clear n0_
      have p365 : 0 ≤ (x5_1 : Int) := sO
      have q365 : x5_1 < (l0.length : Int) := sO
      obtain ⟨ad365, A365_6, c365_6, e365, hx365_0, hx365_1, hx365_2, hx365_3, hx365_4, hx365_5, hx365_6, hl365_6, hi365_6⟩ := at_T53 HR0.out x5_1 p365 q365
      have hw365_6 := hx365_6
      have hw365_5 := hx365_5
      have hw365_4 := hx365_4
      have hw365_3 := hx365_3
      have hw365_2 := hx365_2
      have hw365_1 := hx365_1
      have hw365_0 := hx365_0
      cases e365
      replace hx365_0 := hB HB hx365_0
      replace hx365_1 := hB HB hx365_1
      replace hx365_2 := hB HB hx365_2
      replace hx365_3 := hB HB hx365_3
      replace hx365_4 := hB HB hx365_4
      replace hx365_5 := hB HB hx365_5
      replace hx365_6 := hB HB hx365_6
      have HR365_6 := Aside0.mk hi365_6
      have HC365_6 := Aside0.mk hl365_6
      clear hi365_6 hl365_6
      replace p365 := eq_true p365
      replace q365 := eq_true q365
      have p366 : 0 ≤ (x5_1 : Int) := sO
      have q366 : x5_1 < (l1.length : Int) := sO
      obtain ⟨ad366, A366_6, c366_6, e366, hx366_0, hx366_1, hx366_2, hx366_3, hx366_4, hx366_5, hx366_6, hl366_6, hi366_6⟩ := at_T53 HR1.out x5_1 p366 q366
      have hw366_6 := hx366_6
      have hw366_5 := hx366_5
      have hw366_4 := hx366_4
      have hw366_3 := hx366_3
      have hw366_2 := hx366_2
      have hw366_1 := hx366_1
      have hw366_0 := hx366_0
      cases e366
      replace hx366_0 := hB HB hx366_0
      replace hx366_1 := hB HB hx366_1
      replace hx366_2 := hB HB hx366_2
      replace hx366_3 := hB HB hx366_3
      replace hx366_4 := hB HB hx366_4
      replace hx366_5 := hB HB hx366_5
      replace hx366_6 := hB HB hx366_6
      have HR366_6 := Aside0.mk hi366_6
      have HC366_6 := Aside0.mk hl366_6
      clear hi366_6 hl366_6
      replace p366 := eq_true p366
      replace q366 := eq_true q366
      refine st14 10 [] (hB HB hw365_0 :) (hB HB hw365_1 :) (hB HB hw365_2 :) (hB HB hw365_3 :) (hB HB hw365_4 :) (hB HB hw365_5 :) (hB HB hw365_6 :) (hB HB hw366_0 :) (hB HB hw366_1 :) (hB HB hw366_2 :) (hB HB hw366_3 :) (hB HB hw366_4 :) (hB HB hw366_5 :) (hB HB hw366_6 :) (fun hHeld => ?_); refine with_tabW laws_eqNodeS.tab6 laws_eqNodeS.bits6 (fun HT_ HW_ => ?_)
      generalize wr.drew = w9 at HB HR365_6 HR366_6 hx365_0 hx365_1 hx365_2 hx365_3 hx365_4 hx365_5 hx365_6 hx366_0 hx366_1 hx366_2 hx366_3 hx366_4 hx366_5 hx366_6 hHeld ⊢
      refine pu 0 17 ?_
      refine pu 1 18 ?_
      refine pu 2 19 ?_
      refine pu 4 21 ?_
      refine pu 5 22 ?_
      refine pu 6 23 ?_
      refine tk14 3 20 ?_
      refine tk14 7 24 ?_
      refine on 8 25 (fun K hK => ?_)
      refine gC Tryd.func84 #[.agg #[.int .i64 ((rd_T53 l0 x5_1).f0), .int .i64 ((rd_T53 l0 x5_1).f1), .int .i64 ((rd_T53 l0 x5_1).f2), .int .i64 ((rd_T53 l0 x5_1).f3), .int .i64 ((rd_T53 l0 x5_1).f4), .string ((rd_T53 l0 x5_1).f5), .slice A365_6 ((rd_T53 l0 x5_1).f6).length c365_6], .agg #[.int .i64 ((rd_T53 l1 x5_1).f0), .int .i64 ((rd_T53 l1 x5_1).f1), .int .i64 ((rd_T53 l1 x5_1).f2), .int .i64 ((rd_T53 l1 x5_1).f3), .int .i64 ((rd_T53 l1 x5_1).f4), .string ((rd_T53 l1 x5_1).f5), .slice A366_6 ((rd_T53 l1 x5_1).f6).length c366_6]] ?_
      with_reducible refine (laws_eqNode.calls k1 ((rd_T53 l0 x5_1).f0) ((rd_T53 l0 x5_1).f1) ((rd_T53 l0 x5_1).f2) ((rd_T53 l0 x5_1).f3) ((rd_T53 l0 x5_1).f4) ((rd_T53 l0 x5_1).f5) _ _ ((rd_T53 l0 x5_1).f6) ((rd_T53 l1 x5_1).f0) ((rd_T53 l1 x5_1).f1) ((rd_T53 l1 x5_1).f2) ((rd_T53 l1 x5_1).f3) ((rd_T53 l1 x5_1).f4) ((rd_T53 l1 x5_1).f5) _ _ ((rd_T53 l1 x5_1).f6) true _ ?side1 ?side2 ?side3 ?side4 A7.out).mono ?_
      (case side1 => exact sD (Kd.C_below HR365_6.out HB.out))
      (case side2 => exact HC365_6.out)
      (case side3 => exact sD (Kd.C_below HR366_6.out HB.out))
      (case side4 => exact HC366_6.out)
      rintro e w10 ⟨rfl, hb⟩
      refine ⟨_, rfl, ?_⟩
      have n0_ := nSB hb
      clear HB
      have HB := n0_
      clear n0_
      (try clear hb)
      (try clear hb2)
      (try clear hk)
      (try clear hi)
      refine hK.out _ _ ⟨(hB HB hw365_0 :), (hB HB hw365_1 :), (hB HB hw365_2 :), (hB HB hw365_3 :), (hB HB hw365_4 :), (hB HB hw365_5 :), (hB HB hw365_6 :), (hB HB hw366_0 :), (hB HB hw366_1 :), (hB HB hw366_2 :), (hB HB hw366_3 :), (hB HB hw366_4 :), (hB HB hw366_5 :), (hB HB hw366_6 :)⟩ (fun hHeld => ?_)
      clear hK K
      refine nm ?_
      refine pu 9 26 ?_
      refine dn ?_
      try go_wp2
      go_roundg k1
      case measure => have := HK1.out; omega
      case rel => exact ⟨(wrap64 (x5_1 + 1)), sR, H', ⟨by have := HK1.out; omega⟩, ⟨sB⟩⟩
     ·replace c8 := Bool.eq_false_iff.mpr c8
      subst c8
      rw [if_neg (show ¬ (false = true) by decide)] at H
      obtain rfl := Option.some.inj H
      try go_wp2
      have n0_ := Aside0.mk (below_drew1 HB.out)
      clear HB
      have HB := n0_
      clear n0_
      have p365 : 0 ≤ (x5_1 : Int) := sO
      have q365 : x5_1 < (l0.length : Int) := sO
      obtain ⟨ad365, A365_6, c365_6, e365, hx365_0, hx365_1, hx365_2, hx365_3, hx365_4, hx365_5, hx365_6, hl365_6, hi365_6⟩ := at_T53 HR0.out x5_1 p365 q365
      have hw365_6 := hx365_6
      have hw365_5 := hx365_5
      have hw365_4 := hx365_4
      have hw365_3 := hx365_3
      have hw365_2 := hx365_2
      have hw365_1 := hx365_1
      have hw365_0 := hx365_0
      cases e365
      replace hx365_0 := hB HB hx365_0
      replace hx365_1 := hB HB hx365_1
      replace hx365_2 := hB HB hx365_2
      replace hx365_3 := hB HB hx365_3
      replace hx365_4 := hB HB hx365_4
      replace hx365_5 := hB HB hx365_5
      replace hx365_6 := hB HB hx365_6
      have HR365_6 := Aside0.mk hi365_6
      have HC365_6 := Aside0.mk hl365_6
      clear hi365_6 hl365_6
      replace p365 := eq_true p365
      replace q365 := eq_true q365
      have p366 : 0 ≤ (x5_1 : Int) := sO
      have q366 : x5_1 < (l1.length : Int) := sO
      obtain ⟨ad366, A366_6, c366_6, e366, hx366_0, hx366_1, hx366_2, hx366_3, hx366_4, hx366_5, hx366_6, hl366_6, hi366_6⟩ := at_T53 HR1.out x5_1 p366 q366
      have hw366_6 := hx366_6
      have hw366_5 := hx366_5
      have hw366_4 := hx366_4
      have hw366_3 := hx366_3
      have hw366_2 := hx366_2
      have hw366_1 := hx366_1
      have hw366_0 := hx366_0
      cases e366
      replace hx366_0 := hB HB hx366_0
      replace hx366_1 := hB HB hx366_1
      replace hx366_2 := hB HB hx366_2
      replace hx366_3 := hB HB hx366_3
      replace hx366_4 := hB HB hx366_4
      replace hx366_5 := hB HB hx366_5
      replace hx366_6 := hB HB hx366_6
      have HR366_6 := Aside0.mk hi366_6
      have HC366_6 := Aside0.mk hl366_6
      clear hi366_6 hl366_6
      replace p366 := eq_true p366
      replace q366 := eq_true q366
      refine st14 10 [] (hB HB hw365_0 :) (hB HB hw365_1 :) (hB HB hw365_2 :) (hB HB hw365_3 :) (hB HB hw365_4 :) (hB HB hw365_5 :) (hB HB hw365_6 :) (hB HB hw366_0 :) (hB HB hw366_1 :) (hB HB hw366_2 :) (hB HB hw366_3 :) (hB HB hw366_4 :) (hB HB hw366_5 :) (hB HB hw366_6 :) (fun hHeld => ?_); refine with_tabW laws_eqNodeS.tab6 laws_eqNodeS.bits6 (fun HT_ HW_ => ?_)
      generalize wr.drew = w11 at HB HR365_6 HR366_6 hx365_0 hx365_1 hx365_2 hx365_3 hx365_4 hx365_5 hx365_6 hx366_0 hx366_1 hx366_2 hx366_3 hx366_4 hx366_5 hx366_6 hHeld ⊢
      refine pu 0 17 ?_
      refine pu 1 18 ?_
      refine pu 2 19 ?_
      refine pu 4 21 ?_
      refine pu 5 22 ?_
      refine pu 6 23 ?_
      refine tk14 3 20 ?_
      refine tk14 7 24 ?_
      refine on 8 25 (fun K hK => ?_)
      refine gC Tryd.func84 #[.agg #[.int .i64 ((rd_T53 l0 x5_1).f0), .int .i64 ((rd_T53 l0 x5_1).f1), .int .i64 ((rd_T53 l0 x5_1).f2), .int .i64 ((rd_T53 l0 x5_1).f3), .int .i64 ((rd_T53 l0 x5_1).f4), .string ((rd_T53 l0 x5_1).f5), .slice A365_6 ((rd_T53 l0 x5_1).f6).length c365_6], .agg #[.int .i64 ((rd_T53 l1 x5_1).f0), .int .i64 ((rd_T53 l1 x5_1).f1), .int .i64 ((rd_T53 l1 x5_1).f2), .int .i64 ((rd_T53 l1 x5_1).f3), .int .i64 ((rd_T53 l1 x5_1).f4), .string ((rd_T53 l1 x5_1).f5), .slice A366_6 ((rd_T53 l1 x5_1).f6).length c366_6]] ?_
      with_reducible refine (laws_eqNode.calls k1 ((rd_T53 l0 x5_1).f0) ((rd_T53 l0 x5_1).f1) ((rd_T53 l0 x5_1).f2) ((rd_T53 l0 x5_1).f3) ((rd_T53 l0 x5_1).f4) ((rd_T53 l0 x5_1).f5) _ _ ((rd_T53 l0 x5_1).f6) ((rd_T53 l1 x5_1).f0) ((rd_T53 l1 x5_1).f1) ((rd_T53 l1 x5_1).f2) ((rd_T53 l1 x5_1).f3) ((rd_T53 l1 x5_1).f4) ((rd_T53 l1 x5_1).f5) _ _ ((rd_T53 l1 x5_1).f6) false _ ?side1 ?side2 ?side3 ?side4 A7.out).mono ?_
      (case side1 => exact sD (Kd.C_below HR365_6.out HB.out))
      (case side2 => exact HC365_6.out)
      (case side3 => exact sD (Kd.C_below HR366_6.out HB.out))
      (case side4 => exact HC366_6.out)
      rintro e w12 ⟨rfl, hb⟩
      refine ⟨_, rfl, ?_⟩
      have n0_ := nSB hb
      clear HB
      have HB := n0_
      clear n0_
      (try clear hb)
      (try clear hb2)
      (try clear hk)
      (try clear hi)
      refine hK.out _ _ ⟨(hB HB hw365_0 :), (hB HB hw365_1 :), (hB HB hw365_2 :), (hB HB hw365_3 :), (hB HB hw365_4 :), (hB HB hw365_5 :), (hB HB hw365_6 :), (hB HB hw366_0 :), (hB HB hw366_1 :), (hB HB hw366_2 :), (hB HB hw366_3 :), (hB HB hw366_4 :), (hB HB hw366_5 :), (hB HB hw366_6 :)⟩ (fun hHeld => ?_)
      clear hK K
      refine nm ?_
      refine pu 9 26 ?_
      refine dn ?_
      try go_wp2
      go_ret
      exact ⟨sE, sB⟩
    ·rw [if_neg c4] at H
     have c4b0 := decide_eq_false c4
     clear c4
     obtain rfl := Option.some.inj H
     go_wp2
     go_ret
     exact ⟨sE, sB⟩
 ·rw [if_neg c3] at H
  have c3b0 := beq_eq_false_iff_ne.mpr c3
  have c3b1 := bne_iff_ne.mpr c3
  have c3b2 : (l0.length == l1.length) = false := by first | simpa using c3 | (simp at c3 ⊢; omega)
  obtain rfl := Option.some.inj H
  go_enter Tryd.func48, Tryd.ntmps48
  go_wp2
  go_ret
  exact ⟨sE, sB⟩

/-! ### laws_eqFs: function 17 -/
def laws_eqFs.f (k : Nat) (l0_0 : List (S53)) (a0_1 : Int) (l1_0 : List (S53)) (a1_1 : Int) : Option (Bool) := (laws_eqNodeS.f k l0_0 l1_0).bind fun t370 => (if t370 = true then (if a0_1 = a1_1 then (some true) else (some false)) else (some false))
theorem laws_eqFs.calls (k : Nat) (A0_0 : Option Addr) (c0_0 : Nat) (l0_0 : List (S53)) (a0_1 : Int) (A1_0 : Option Addr) (c1_0 : Nat) (l1_0 : List (S53)) (a1_1 : Int) (r : Bool) (w : World) (hr0_0 : Kd.C k53 w A0_0 l0_0.length l0_0) (hc0_0 : l0_0.length ≤ c0_0) (hr1_0 : Kd.C k53 w A1_0 l1_0.length l1_0) (hc1_0 : l1_0.length ≤ c1_0) (h : laws_eqFs.f k l0_0 a0_1 l1_0 a1_1 = some r) :
  Calls Tryd.prog 17 #[.agg #[.slice A0_0 l0_0.length c0_0, .int .i64 a0_1], .agg #[.slice A1_0 l1_0.length c1_0, .int .i64 a1_1]] w fun e w' => e = .returned (.bool r) ∧ Below w.heap.size w w' := by
 have hu29 := Tryd.underlying29
 have HR0_0 := Aside0.mk hr0_0
 have HC0_0 := Aside0.mk hc0_0
 clear hr0_0 hc0_0
 have HR1_0 := Aside0.mk hr1_0
 have HC1_0 := Aside0.mk hc1_0
 clear hr1_0 hc1_0
 have HB := Aside0.mk (Below.refl w.heap.size w)
 have H : ((laws_eqNodeS.f k l0_0 l1_0).bind fun t370 => (if t370 = true then (if a0_1 = a1_1 then (some true) else (some false)) else (some false))) = some r := h
 clear h
 obtain ⟨t370, A3, H⟩ := bS H
 try dsimp only at H
 by_cases c4 : t370 = true
 ·subst c4
  rw [if_pos rfl] at H
  by_cases c5 : a0_1 = a1_1
  ·rw [if_pos c5] at H
   have c5b0 := beq_iff_eq.mpr c5
   have c5b1 := bne_eq_false_iff_eq.mpr c5
   clear c5
   obtain rfl := Option.some.inj H
   go_enter Tryd.func17, Tryd.ntmps17
   go_wp2_with (first | ((with_reducible refine gd 2 rfl ?_); refine bxE 2 #[.slice A0_0 l0_0.length c0_0, .int .i64 a0_1] 29 ?_; intro gb368 hg w6 hbox hb; have BK368 := Aside0.mk hbox; have GW368 := nGB hg; have GE368 := nGB hg; replace HB := nSB hb; clear hb hbox hg) | ((with_reducible refine gd 3 rfl ?_); refine bxE 3 #[.slice A1_0 l1_0.length c1_0, .int .i64 a1_1] 29 ?_; intro gb369 hg w7 hbox hb; have BK369 := Aside0.mk hbox; have GW369 := nGC hg; have GE369 := nGC hg; replace HB := nSC hb; have NB368_369 := nL BK368 hg; have NB369_368 := nH BK368 hg; replace BK368 := nK BK368 hb; clear hb hbox hg; have hnb8 := NB368_369.out; have hnc8 := NB369_368.out; have hcz9 := cb2 BK368; have hcz10 := cb2 BK369) | ((with_reducible refine gt 48 rfl ?_); refine gL 48 9 Tryd.func48 #[.slice A0_0 l0_0.length c0_0, .slice A1_0 l1_0.length c1_0] ?_; (with_reducible refine (laws_eqNodeS.calls k _ _ l0_0 _ _ l1_0 true _ ?side1 ?side2 ?side3 ?side4 A3.out).mono ?_); (case side1 => exact sD (Kd.C_below HR0_0.out HB.out)); (case side2 => exact HC0_0.out); (case side3 => exact sD (Kd.C_below HR1_0.out HB.out)); (case side4 => exact HC1_0.out); rintro e w11 ⟨rfl, hb⟩; refine ⟨_, rfl, ?_⟩; replace BK368 := nK BK368 hb; replace BK369 := nK BK369 hb; replace HB := nSC hb; try clear hb; have hcz12 := cb2 BK368; have hcz13 := cb2 BK369))
   go_ret
   exact ⟨sE, sC⟩
  ·rw [if_neg c5] at H
   have c5b0 := beq_eq_false_iff_ne.mpr c5
   have c5b1 := bne_iff_ne.mpr c5
   obtain rfl := Option.some.inj H
   go_enter Tryd.func17, Tryd.ntmps17
   go_wp2_with (first | ((with_reducible refine gd 2 rfl ?_); refine bxE 2 #[.slice A0_0 l0_0.length c0_0, .int .i64 a0_1] 29 ?_; intro gb368 hg w14 hbox hb; have BK368 := Aside0.mk hbox; have GW368 := nGB hg; have GE368 := nGB hg; replace HB := nSB hb; clear hb hbox hg) | ((with_reducible refine gd 3 rfl ?_); refine bxE 3 #[.slice A1_0 l1_0.length c1_0, .int .i64 a1_1] 29 ?_; intro gb369 hg w15 hbox hb; have BK369 := Aside0.mk hbox; have GW369 := nGC hg; have GE369 := nGC hg; replace HB := nSC hb; have NB368_369 := nL BK368 hg; have NB369_368 := nH BK368 hg; replace BK368 := nK BK368 hb; clear hb hbox hg; have hnb16 := NB368_369.out; have hnc16 := NB369_368.out; have hcz17 := cb2 BK368; have hcz18 := cb2 BK369) | ((with_reducible refine gt 48 rfl ?_); refine gL 48 9 Tryd.func48 #[.slice A0_0 l0_0.length c0_0, .slice A1_0 l1_0.length c1_0] ?_; (with_reducible refine (laws_eqNodeS.calls k _ _ l0_0 _ _ l1_0 true _ ?side1 ?side2 ?side3 ?side4 A3.out).mono ?_); (case side1 => exact sD (Kd.C_below HR0_0.out HB.out)); (case side2 => exact HC0_0.out); (case side3 => exact sD (Kd.C_below HR1_0.out HB.out)); (case side4 => exact HC1_0.out); rintro e w19 ⟨rfl, hb⟩; refine ⟨_, rfl, ?_⟩; replace BK368 := nK BK368 hb; replace BK369 := nK BK369 hb; replace HB := nSC hb; try clear hb; have hcz20 := cb2 BK368; have hcz21 := cb2 BK369))
   go_ret
   exact ⟨sE, sC⟩
 ·replace c4 := Bool.eq_false_iff.mpr c4
  subst c4
  rw [if_neg (show ¬ (false = true) by decide)] at H
  obtain rfl := Option.some.inj H
  go_enter Tryd.func17, Tryd.ntmps17
  go_wp2_with (first | ((with_reducible refine gd 2 rfl ?_); refine bxE 2 #[.slice A0_0 l0_0.length c0_0, .int .i64 a0_1] 29 ?_; intro gb368 hg w22 hbox hb; have BK368 := Aside0.mk hbox; have GW368 := nGB hg; have GE368 := nGB hg; replace HB := nSB hb; clear hb hbox hg) | ((with_reducible refine gd 3 rfl ?_); refine bxE 3 #[.slice A1_0 l1_0.length c1_0, .int .i64 a1_1] 29 ?_; intro gb369 hg w23 hbox hb; have BK369 := Aside0.mk hbox; have GW369 := nGC hg; have GE369 := nGC hg; replace HB := nSC hb; have NB368_369 := nL BK368 hg; have NB369_368 := nH BK368 hg; replace BK368 := nK BK368 hb; clear hb hbox hg; have hnb24 := NB368_369.out; have hnc24 := NB369_368.out; have hcz25 := cb2 BK368; have hcz26 := cb2 BK369) | ((with_reducible refine gt 48 rfl ?_); refine gL 48 9 Tryd.func48 #[.slice A0_0 l0_0.length c0_0, .slice A1_0 l1_0.length c1_0] ?_; (with_reducible refine (laws_eqNodeS.calls k _ _ l0_0 _ _ l1_0 false _ ?side1 ?side2 ?side3 ?side4 A3.out).mono ?_); (case side1 => exact sD (Kd.C_below HR0_0.out HB.out)); (case side2 => exact HC0_0.out); (case side3 => exact sD (Kd.C_below HR1_0.out HB.out)); (case side4 => exact HC1_0.out); rintro e w27 ⟨rfl, hb⟩; refine ⟨_, rfl, ?_⟩; replace BK368 := nK BK368 hb; replace BK369 := nK BK369 hb; replace HB := nSC hb; try clear hb))
  go_ret
  exact ⟨sE, sC⟩

/-! ### laws_FnExactGoodFs: function 3 -/
def laws_FnExactGoodFs.f (k : Nat) (l0_0 : List (S82)) (a0_1 : Int) : Option (Bool) := (laws_szFs.f k l0_0 a0_1 1048576).bind fun t372 => (if t372 < 0 then (some true) else ((laws_toFs.f k l0_0 a0_1).bind fun bt373 => ((spec_GoodFs.f k bt373.1 bt373.2).bind fun t377 => ((laws_toFs.f k l0_0 a0_1).bind fun bt378 => ((impl_GoodFs.f k bt378.1 bt378.2).bind fun t383 => (if (t383 != t377) = true then (some false) else ((laws_toFs.f k l0_0 a0_1).bind fun bt384 => ((laws_eqFs.f k bt378.1 bt378.2 bt384.1 bt384.2).bind fun t388 => (if t388 = true then (some true) else (some false))))))))))
end Go.Proofs.YteffcglgdfhkmaaDoor.PWk
