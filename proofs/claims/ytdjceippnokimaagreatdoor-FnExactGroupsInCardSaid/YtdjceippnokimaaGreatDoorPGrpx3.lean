import Derived.Test.YtdjceippnokimaaGreatDoorPGrpx0
import Derived.Test.YtdjceippnokimaaGreatDoorPGrpx2
namespace Go.Proofs.YtdjceippnokimaaGreatDoor.PGrp
open Go.RowKit Go.Proofs.YtdjceippnokimaaGreatDoorW.PrintWords Go.Proofs.YtdjceippnokimaaGreatDoorW.PrintLast Go.Proofs.YtdjceippnokimaaGreatDoorW.PrintMore
attribute [local go_sem] max2_int min2_int max_two min_two max_three min_three max_four min_four   -- for this text's walks alone
set_option linter.unusedVariables false
set_option linter.unusedSimpArgs false
set_option maxHeartbeats 8000000
set_option maxRecDepth 100000
/-! ### laws_eqNodeS: function 28 -/
def laws_eqNodeS.l0 : Nat → List (S65) → List (S65) → Int → Option (Bool)
 | 0, _, _, _ => none
 | k + 1, x0, x1, x5 => if x5 < (x0.length : Int) then (if 0 ≤ x5 then (if x5 < (x1.length : Int) then ((laws_eqNode.f k ((rd_T65 x0 x5).f0) ((rd_T65 x0 x5).f1) ((rd_T65 x0 x5).f2) ((rd_T65 x0 x5).f3) ((rd_T65 x0 x5).f4) ((rd_T65 x0 x5).f5) ((rd_T65 x0 x5).f6) ((rd_T65 x1 x5).f0) ((rd_T65 x1 x5).f1) ((rd_T65 x1 x5).f2) ((rd_T65 x1 x5).f3) ((rd_T65 x1 x5).f4) ((rd_T65 x1 x5).f5) ((rd_T65 x1 x5).f6)).bind fun t156 => (if t156 = true then (laws_eqNodeS.l0 k x0 x1 (wrap64 (x5 + 1))) else (some false))) else (none)) else (none)) else (some true)
def laws_eqNodeS.f (k : Nat) (l0 : List (S65)) (l1 : List (S65)) : Option (Bool) := if (l0.length : Int) = (l1.length : Int) then (laws_eqNodeS.l0 k l0 l1 0) else (some false)
def laws_eqNodeS.T6 : Bool × List (List Nat × List Nat) := (true, [([], []), ([], []), ([0, 1], [0, 1]), ([2], [2]), ([], []), ([], []), ([4, 5], [4, 5]), ([6], [6]), ([3, 7], [3, 7]), ([8], [8])])
def laws_eqNodeS.B6 : List Nat := [0, 0, 3, 7, 0, 0, 48, 112, 255, 511]
theorem laws_eqNodeS.tab6 : rtab .any (opsOf Tryz.f28 6) = laws_eqNodeS.T6 := by kernel_rfl
theorem laws_eqNodeS.bits6 : waitsOk laws_eqNodeS.T6.2 laws_eqNodeS.B6 = true := by kernel_rfl
theorem laws_eqNodeS.calls (k : Nat) (A0 : Option Addr) (c0 : Nat) (l0 : List (S65)) (A1 : Option Addr) (c1 : Nat) (l1 : List (S65)) (r : Bool) (w : World) (hr0 : Kd.C k65 w A0 l0.length l0) (hc0 : l0.length ≤ c0) (hr1 : Kd.C k65 w A1 l1.length l1) (hc1 : l1.length ≤ c1) (h : laws_eqNodeS.f k l0 l1 = some r) :
  Calls Tryz.prog 28 #[.slice A0 l0.length c0, .slice A1 l1.length c1] w fun e w' => e = .returned (.bool r) ∧ Below w.heap.size w w' := by
 have hu65 := Tryz.underlying65
 have HR0 := Aside0.mk hr0
 have HC0 := Aside0.mk hc0
 clear hr0 hc0
 have HR1 := Aside0.mk hr1
 have HC1 := Aside0.mk hc1
 clear hr1 hc1
 have HB := Aside0.mk (Below.refl w.heap.size w)
 have H : (if (l0.length : Int) = (l1.length : Int) then (laws_eqNodeS.l0 k l0 l1 0) else (some false)) = some r := h
 clear h
 by_cases c3 : (l0.length : Int) = (l1.length : Int)
 ·rw [if_pos c3] at H
  have c3b0 := beq_iff_eq.mpr c3
  have c3b1 := bne_eq_false_iff_eq.mpr c3
  have c3b2 : (l0.length == l1.length) = true := by first | simpa using c3 | (simp at c3 ⊢; omega)
  clear c3
  have H' := Aside0.mk H
  clear H
  go_enter Tryz.func28, Tryz.ntmps28
  go_wp2
  go_loopg [5] k (fun kq v5 w' => ∃ (x5_1 : Int), v5 = .int .i64 x5_1 ∧ Aside0 (laws_eqNodeS.l0 kq l0 l1 x5_1 = some r) ∧ Aside0 (kq ≤ k) ∧ Aside0 (Below w.heap.size w w'))
  case atStart => exact ⟨(0), sR, H', ⟨Nat.le_refl _⟩, ⟨sB⟩⟩
  case round =>
   clear H'
   try clear c1
   try clear c2
   try clear p2
   try clear c3
   try clear c3b0
   try clear c3b1
   try clear c3b2
   obtain ⟨x5_1, rfl, HA, HK1, HB⟩ := hrel
   cases gk with
   | zero => exact absurd HA.out (by simp [laws_eqNodeS.l0])
   | succ k1 =>
    have H := HA.out
    clear HA
    simp only [laws_eqNodeS.l0] at H
    by_cases c4 : x5_1 < (l0.length : Int)
    ·rw [if_pos c4] at H
     have c4b0 := decide_eq_true c4
     clear c4
     obtain ⟨c5, H⟩ := iN H
     have c5b0 := decide_eq_true c5
     clear c5
     obtain ⟨c6, H⟩ := iN H
     have c6b0 := decide_eq_true c6
     clear c6
     obtain ⟨t156, A7, H⟩ := bS H
     try dsimp only at H
     by_cases c8 : t156 = true
     ·subst c8
      rw [if_pos rfl] at H
      have H' := Aside0.mk H
      clear H
      try go_wp2
      have n0_ := Aside0.mk (below_drew1 HB.out)
      clear HB
      have HB := n0_
      clear n0_
      have p154 : 0 ≤ (x5_1 : Int) := sO
      have q154 : x5_1 < (l0.length : Int) := sO
      obtain ⟨ad154, A154_6, c154_6, e154, hx154_0, hx154_1, hx154_2, hx154_3, hx154_4, hx154_5, hx154_6, hl154_6, hi154_6⟩ := at_T65 HR0.out x5_1 p154 q154
      have hw154_6 := hx154_6
      have hw154_5 := hx154_5
      have hw154_4 := hx154_4
      have hw154_3 := hx154_3
      have hw154_2 := hx154_2
      have hw154_1 := hx154_1
      have hw154_0 := hx154_0
      cases e154
      replace hx154_0 := hB HB hx154_0
      replace hx154_1 := hB HB hx154_1
      replace hx154_2 := hB HB hx154_2
      replace hx154_3 := hB HB hx154_3
      replace hx154_4 := hB HB hx154_4
      replace hx154_5 := hB HB hx154_5
      replace hx154_6 := hB HB hx154_6
      have HR154_6 := Aside0.mk hi154_6
      have HC154_6 := Aside0.mk hl154_6
      clear hi154_6 hl154_6
      replace p154 := eq_true p154
      replace q154 := eq_true q154
      have p155 : 0 ≤ (x5_1 : Int) := sO
      have q155 : x5_1 < (l1.length : Int) := sO
      obtain ⟨ad155, A155_6, c155_6, e155, hx155_0, hx155_1, hx155_2, hx155_3, hx155_4, hx155_5, hx155_6, hl155_6, hi155_6⟩ := at_T65 HR1.out x5_1 p155 q155
      have hw155_6 := hx155_6
      have hw155_5 := hx155_5
      have hw155_4 := hx155_4
      have hw155_3 := hx155_3
      have hw155_2 := hx155_2
      have hw155_1 := hx155_1
      have hw155_0 := hx155_0
      cases e155
      replace hx155_0 := hB HB hx155_0
      replace hx155_1 := hB HB hx155_1
      replace hx155_2 := hB HB hx155_2
      replace hx155_3 := hB HB hx155_3
      replace hx155_4 := hB HB hx155_4
      replace hx155_5 := hB HB hx155_5
      replace hx155_6 := hB HB hx155_6
      have HR155_6 := Aside0.mk hi155_6
      have HC155_6 := Aside0.mk hl155_6
      clear hi155_6 hl155_6
      replace p155 := eq_true p155
      replace q155 := eq_true q155
      refine st14 10 [] (hB HB hw154_0 :) (hB HB hw154_1 :) (hB HB hw154_2 :) (hB HB hw154_3 :) (hB HB hw154_4 :) (hB HB hw154_5 :) (hB HB hw154_6 :) (hB HB hw155_0 :) (hB HB hw155_1 :) (hB HB hw155_2 :) (hB HB hw155_3 :) (hB HB hw155_4 :) (hB HB hw155_5 :) (hB HB hw155_6 :) (fun hHeld => ?_); refine with_tabW laws_eqNodeS.tab6 laws_eqNodeS.bits6 (fun HT_ HW_ => ?_)
      generalize wr.drew = w9 at HB HR154_6 HR155_6 hx154_0 hx154_1 hx154_2 hx154_3 hx154_4 hx154_5 hx154_6 hx155_0 hx155_1 hx155_2 hx155_3 hx155_4 hx155_5 hx155_6 hHeld ⊢
      refine pu 0 17 ?_
      refine pu 1 18 ?_
      refine pu 2 19 ?_
      refine pu 4 21 ?_
      refine pu 5 22 ?_
      refine pu 6 23 ?_
      refine tk14 3 20 ?_
      refine tk14 7 24 ?_
      refine on 8 25 (fun K hK => ?_)
      refine gC Tryz.func50 #[.agg #[.int .i64 ((rd_T65 l0 x5_1).f0), .int .i64 ((rd_T65 l0 x5_1).f1), .int .i64 ((rd_T65 l0 x5_1).f2), .int .i64 ((rd_T65 l0 x5_1).f3), .int .i64 ((rd_T65 l0 x5_1).f4), .string ((rd_T65 l0 x5_1).f5), .slice A154_6 ((rd_T65 l0 x5_1).f6).length c154_6], .agg #[.int .i64 ((rd_T65 l1 x5_1).f0), .int .i64 ((rd_T65 l1 x5_1).f1), .int .i64 ((rd_T65 l1 x5_1).f2), .int .i64 ((rd_T65 l1 x5_1).f3), .int .i64 ((rd_T65 l1 x5_1).f4), .string ((rd_T65 l1 x5_1).f5), .slice A155_6 ((rd_T65 l1 x5_1).f6).length c155_6]] ?_
      with_reducible refine (laws_eqNode.calls k1 ((rd_T65 l0 x5_1).f0) ((rd_T65 l0 x5_1).f1) ((rd_T65 l0 x5_1).f2) ((rd_T65 l0 x5_1).f3) ((rd_T65 l0 x5_1).f4) ((rd_T65 l0 x5_1).f5) _ _ ((rd_T65 l0 x5_1).f6) ((rd_T65 l1 x5_1).f0) ((rd_T65 l1 x5_1).f1) ((rd_T65 l1 x5_1).f2) ((rd_T65 l1 x5_1).f3) ((rd_T65 l1 x5_1).f4) ((rd_T65 l1 x5_1).f5) _ _ ((rd_T65 l1 x5_1).f6) true _ ?side1 ?side2 ?side3 ?side4 A7.out).mono ?_
      (case side1 => exact sD (Kd.C_below HR154_6.out HB.out))
      (case side2 => exact HC154_6.out)
      (case side3 => exact sD (Kd.C_below HR155_6.out HB.out))
      (case side4 => exact HC155_6.out)
      rintro e w10 ⟨rfl, hb⟩
      refine ⟨_, rfl, ?_⟩
      have n0_ := nSB hb
      clear HB
      have HB := n0_
      clear n0_
      (try clear hb)
      (try clear hb2)
      (try clear hk)
      (try clear hi)
      refine hK.out _ _ ⟨(hB HB hw154_0 :), (hB HB hw154_1 :), (hB HB hw154_2 :), (hB HB hw154_3 :), (hB HB hw154_4 :), (hB HB hw154_5 :), (hB HB hw154_6 :), (hB HB hw155_0 :), (hB HB hw155_1 :), (hB HB hw155_2 :), (hB HB hw155_3 :), (hB HB hw155_4 :), (hB HB hw155_5 :), (hB HB hw155_6 :)⟩ (fun hHeld => ?_)
      clear hK K
      refine nm ?_
      refine pu 9 26 ?_
      refine dn ?_
      try go_wp2
      go_roundg k1
      case measure => have := HK1.out; omega
      case rel => exact ⟨(wrap64 (x5_1 + 1)), sR, H', ⟨by have := HK1.out; omega⟩, ⟨sB⟩⟩
     ·replace c8 := Bool.eq_false_iff.mpr c8
      subst c8
      rw [if_neg (show ¬ (false = true) by decide)] at H
      obtain rfl := Option.some.inj H
      try go_wp2
      have n0_ := Aside0.mk (below_drew1 HB.out)
      clear HB
      have HB := n0_
      clear n0_
      have p154 : 0 ≤ (x5_1 : Int) := sO
      have q154 : x5_1 < (l0.length : Int) := sO
      obtain ⟨ad154, A154_6, c154_6, e154, hx154_0, hx154_1, hx154_2, hx154_3, hx154_4, hx154_5, hx154_6, hl154_6, hi154_6⟩ := at_T65 HR0.out x5_1 p154 q154
      have hw154_6 := hx154_6
      have hw154_5 := hx154_5
      have hw154_4 := hx154_4
      have hw154_3 := hx154_3
      have hw154_2 := hx154_2
      have hw154_1 := hx154_1
      have hw154_0 := hx154_0
      cases e154
      replace hx154_0 := hB HB hx154_0
      replace hx154_1 := hB HB hx154_1
      replace hx154_2 := hB HB hx154_2
      replace hx154_3 := hB HB hx154_3
      replace hx154_4 := hB HB hx154_4
      replace hx154_5 := hB HB hx154_5
      replace hx154_6 := hB HB hx154_6
      have HR154_6 := Aside0.mk hi154_6
      have HC154_6 := Aside0.mk hl154_6
      clear hi154_6 hl154_6
      replace p154 := eq_true p154
      replace q154 := eq_true q154
      have p155 : 0 ≤ (x5_1 : Int) := sO
      have q155 : x5_1 < (l1.length : Int) := sO
      obtain ⟨ad155, A155_6, c155_6, e155, hx155_0, hx155_1, hx155_2, hx155_3, hx155_4, hx155_5, hx155_6, hl155_6, hi155_6⟩ := at_T65 HR1.out x5_1 p155 q155
      have hw155_6 := hx155_6
      have hw155_5 := hx155_5
      have hw155_4 := hx155_4
      have hw155_3 := hx155_3
      have hw155_2 := hx155_2
      have hw155_1 := hx155_1
      have hw155_0 := hx155_0
      cases e155
      replace hx155_0 := hB HB hx155_0
      replace hx155_1 := hB HB hx155_1
      replace hx155_2 := hB HB hx155_2
      replace hx155_3 := hB HB hx155_3
      replace hx155_4 := hB HB hx155_4
      replace hx155_5 := hB HB hx155_5
      replace hx155_6 := hB HB hx155_6
      have HR155_6 := Aside0.mk hi155_6
      have HC155_6 := Aside0.mk hl155_6
      clear hi155_6 hl155_6
      replace p155 := eq_true p155
      replace q155 := eq_true q155
      refine st14 10 [] (hB HB hw154_0 :) (hB HB hw154_1 :) (hB HB hw154_2 :) (hB HB hw154_3 :) (hB HB hw154_4 :) (hB HB hw154_5 :) (hB HB hw154_6 :) (hB HB hw155_0 :) (hB HB hw155_1 :) (hB HB hw155_2 :) (hB HB hw155_3 :) (hB HB hw155_4 :) (hB HB hw155_5 :) (hB HB hw155_6 :) (fun hHeld => ?_); refine with_tabW laws_eqNodeS.tab6 laws_eqNodeS.bits6 (fun HT_ HW_ => ?_)
      generalize wr.drew = w11 at HB HR154_6 HR155_6 hx154_0 hx154_1 hx154_2 hx154_3 hx154_4 hx154_5 hx154_6 hx155_0 hx155_1 hx155_2 hx155_3 hx155_4 hx155_5 hx155_6 hHeld ⊢
      refine pu 0 17 ?_
      refine pu 1 18 ?_
      refine pu 2 19 ?_
      refine pu 4 21 ?_
      refine pu 5 22 ?_
      refine pu 6 23 ?_
      refine tk14 3 20 ?_
      refine tk14 7 24 ?_
      refine on 8 25 (fun K hK => ?_)
      refine gC Tryz.func50 #[.agg #[.int .i64 ((rd_T65 l0 x5_1).f0), .int .i64 ((rd_T65 l0 x5_1).f1), .int .i64 ((rd_T65 l0 x5_1).f2), .int .i64 ((rd_T65 l0 x5_1).f3), .int .i64 ((rd_T65 l0 x5_1).f4), .string ((rd_T65 l0 x5_1).f5), .slice A154_6 ((rd_T65 l0 x5_1).f6).length c154_6], .agg #[.int .i64 ((rd_T65 l1 x5_1).f0), .int .i64 ((rd_T65 l1 x5_1).f1), .int .i64 ((rd_T65 l1 x5_1).f2), .int .i64 ((rd_T65 l1 x5_1).f3), .int .i64 ((rd_T65 l1 x5_1).f4), .string ((rd_T65 l1 x5_1).f5), .slice A155_6 ((rd_T65 l1 x5_1).f6).length c155_6]] ?_
      with_reducible refine (laws_eqNode.calls k1 ((rd_T65 l0 x5_1).f0) ((rd_T65 l0 x5_1).f1) ((rd_T65 l0 x5_1).f2) ((rd_T65 l0 x5_1).f3) ((rd_T65 l0 x5_1).f4) ((rd_T65 l0 x5_1).f5) _ _ ((rd_T65 l0 x5_1).f6) ((rd_T65 l1 x5_1).f0) ((rd_T65 l1 x5_1).f1) ((rd_T65 l1 x5_1).f2) ((rd_T65 l1 x5_1).f3) ((rd_T65 l1 x5_1).f4) ((rd_T65 l1 x5_1).f5) _ _ ((rd_T65 l1 x5_1).f6) false _ ?side1 ?side2 ?side3 ?side4 A7.out).mono ?_
      (case side1 => exact sD (Kd.C_below HR154_6.out HB.out))
      (case side2 => exact HC154_6.out)
      (case side3 => exact sD (Kd.C_below HR155_6.out HB.out))
      (case side4 => exact HC155_6.out)
      rintro e w12 ⟨rfl, hb⟩
      refine ⟨_, rfl, ?_⟩
      have n0_ := nSB hb
      clear HB
      have HB := n0_
      clear n0_
      (try clear hb)
      (try clear hb2)
      (try clear hk)
      (try clear hi)
      refine hK.out _ _ ⟨(hB HB hw154_0 :), (hB HB hw154_1 :), (hB HB hw154_2 :), (hB HB hw154_3 :), (hB HB hw154_4 :), (hB HB hw154_5 :), (hB HB hw154_6 :), (hB HB hw155_0 :), (hB HB hw155_1 :), (hB HB hw155_2 :), (hB HB hw155_3 :), (hB HB hw155_4 :), (hB HB hw155_5 :), (hB HB hw155_6 :)⟩ (fun hHeld => ?_)
      clear hK K
      refine nm ?_
      refine pu 9 26 ?_
      refine dn ?_
      try go_wp2
      go_ret
      exact ⟨sE, sB⟩
    ·rw [if_neg c4] at H
     have c4b0 := decide_eq_false c4
     clear c4
     obtain rfl := Option.some.inj H
     go_wp2
     go_ret
     exact ⟨sE, sB⟩
 ·rw [if_neg c3] at H
  have c3b0 := beq_eq_false_iff_ne.mpr c3
  have c3b1 := bne_iff_ne.mpr c3
  have c3b2 : (l0.length == l1.length) = false := by first | simpa using c3 | (simp at c3 ⊢; omega)
  obtain rfl := Option.some.inj H
  go_enter Tryz.func28, Tryz.ntmps28
  go_wp2
  go_ret
  exact ⟨sE, sB⟩
def laws_eqFs.f (k : Nat) (l0_0 : List (S65)) (a0_1 : Int) (l1_0 : List (S65)) (a1_1 : Int) : Option (Bool) := (laws_eqNodeS.f k l0_0 l1_0).bind fun t159 => (if t159 = true then (if a0_1 = a1_1 then (some true) else (some false)) else (some false))
theorem laws_eqFs.calls (k : Nat) (A0_0 : Option Addr) (c0_0 : Nat) (l0_0 : List (S65)) (a0_1 : Int) (A1_0 : Option Addr) (c1_0 : Nat) (l1_0 : List (S65)) (a1_1 : Int) (r : Bool) (w : World) (hr0_0 : Kd.C k65 w A0_0 l0_0.length l0_0) (hc0_0 : l0_0.length ≤ c0_0) (hr1_0 : Kd.C k65 w A1_0 l1_0.length l1_0) (hc1_0 : l1_0.length ≤ c1_0) (h : laws_eqFs.f k l0_0 a0_1 l1_0 a1_1 = some r) :
  Calls Tryz.prog 10 #[.agg #[.slice A0_0 l0_0.length c0_0, .int .i64 a0_1], .agg #[.slice A1_0 l1_0.length c1_0, .int .i64 a1_1]] w fun e w' => e = .returned (.bool r) ∧ Below w.heap.size w w' := by
 have hu30 := Tryz.underlying30
 have HR0_0 := Aside0.mk hr0_0
 have HC0_0 := Aside0.mk hc0_0
 clear hr0_0 hc0_0
 have HR1_0 := Aside0.mk hr1_0
 have HC1_0 := Aside0.mk hc1_0
 clear hr1_0 hc1_0
 have HB := Aside0.mk (Below.refl w.heap.size w)
 have H : ((laws_eqNodeS.f k l0_0 l1_0).bind fun t159 => (if t159 = true then (if a0_1 = a1_1 then (some true) else (some false)) else (some false))) = some r := h
 clear h
 obtain ⟨t159, A3, H⟩ := bS H
 try dsimp only at H
 by_cases c4 : t159 = true
 ·subst c4
  rw [if_pos rfl] at H
  by_cases c5 : a0_1 = a1_1
  ·rw [if_pos c5] at H
   have c5b0 := beq_iff_eq.mpr c5
   have c5b1 := bne_eq_false_iff_eq.mpr c5
   clear c5
   obtain rfl := Option.some.inj H
   go_enter Tryz.func10, Tryz.ntmps10
   go_wp2_with (first | ((with_reducible refine gd 2 rfl ?_); refine bxE 2 #[.slice A0_0 l0_0.length c0_0, .int .i64 a0_1] 30 ?_; intro gb157 hg w6 hbox hb; have BK157 := Aside0.mk hbox; have GW157 := nGB hg; have GE157 := nGB hg; replace HB := nSB hb; clear hb hbox hg) | ((with_reducible refine gd 3 rfl ?_); refine bxE 3 #[.slice A1_0 l1_0.length c1_0, .int .i64 a1_1] 30 ?_; intro gb158 hg w7 hbox hb; have BK158 := Aside0.mk hbox; have GW158 := nGC hg; have GE158 := nGC hg; replace HB := nSC hb; have NB157_158 := nL BK157 hg; have NB158_157 := nH BK157 hg; replace BK157 := nK BK157 hb; clear hb hbox hg; have hnb8 := NB157_158.out; have hnc8 := NB158_157.out; have hcz9 := cb2 BK157; have hcz10 := cb2 BK158) | ((with_reducible refine gt 28 rfl ?_); refine gL 28 9 Tryz.func28 #[.slice A0_0 l0_0.length c0_0, .slice A1_0 l1_0.length c1_0] ?_; (with_reducible refine (laws_eqNodeS.calls k _ _ l0_0 _ _ l1_0 true _ ?side1 ?side2 ?side3 ?side4 A3.out).mono ?_); (case side1 => exact sD (Kd.C_below HR0_0.out HB.out)); (case side2 => exact HC0_0.out); (case side3 => exact sD (Kd.C_below HR1_0.out HB.out)); (case side4 => exact HC1_0.out); rintro e w11 ⟨rfl, hb⟩; refine ⟨_, rfl, ?_⟩; replace BK157 := nK BK157 hb; replace BK158 := nK BK158 hb; replace HB := nSC hb; try clear hb; have hcz12 := cb2 BK157; have hcz13 := cb2 BK158))
   go_ret
   exact ⟨sE, sC⟩
  ·rw [if_neg c5] at H
   have c5b0 := beq_eq_false_iff_ne.mpr c5
   have c5b1 := bne_iff_ne.mpr c5
   obtain rfl := Option.some.inj H
   go_enter Tryz.func10, Tryz.ntmps10
   go_wp2_with (first | ((with_reducible refine gd 2 rfl ?_); refine bxE 2 #[.slice A0_0 l0_0.length c0_0, .int .i64 a0_1] 30 ?_; intro gb157 hg w14 hbox hb; have BK157 := Aside0.mk hbox; have GW157 := nGB hg; have GE157 := nGB hg; replace HB := nSB hb; clear hb hbox hg) | ((with_reducible refine gd 3 rfl ?_); refine bxE 3 #[.slice A1_0 l1_0.length c1_0, .int .i64 a1_1] 30 ?_; intro gb158 hg w15 hbox hb; have BK158 := Aside0.mk hbox; have GW158 := nGC hg; have GE158 := nGC hg; replace HB := nSC hb; have NB157_158 := nL BK157 hg; have NB158_157 := nH BK157 hg; replace BK157 := nK BK157 hb; clear hb hbox hg; have hnb16 := NB157_158.out; have hnc16 := NB158_157.out; have hcz17 := cb2 BK157; have hcz18 := cb2 BK158) | ((with_reducible refine gt 28 rfl ?_); refine gL 28 9 Tryz.func28 #[.slice A0_0 l0_0.length c0_0, .slice A1_0 l1_0.length c1_0] ?_; (with_reducible refine (laws_eqNodeS.calls k _ _ l0_0 _ _ l1_0 true _ ?side1 ?side2 ?side3 ?side4 A3.out).mono ?_); (case side1 => exact sD (Kd.C_below HR0_0.out HB.out)); (case side2 => exact HC0_0.out); (case side3 => exact sD (Kd.C_below HR1_0.out HB.out)); (case side4 => exact HC1_0.out); rintro e w19 ⟨rfl, hb⟩; refine ⟨_, rfl, ?_⟩; replace BK157 := nK BK157 hb; replace BK158 := nK BK158 hb; replace HB := nSC hb; try clear hb; have hcz20 := cb2 BK157; have hcz21 := cb2 BK158))
   go_ret
   exact ⟨sE, sC⟩
 ·replace c4 := Bool.eq_false_iff.mpr c4
  subst c4
  rw [if_neg (show ¬ (false = true) by decide)] at H
  obtain rfl := Option.some.inj H
  go_enter Tryz.func10, Tryz.ntmps10
  go_wp2_with (first | ((with_reducible refine gd 2 rfl ?_); refine bxE 2 #[.slice A0_0 l0_0.length c0_0, .int .i64 a0_1] 30 ?_; intro gb157 hg w22 hbox hb; have BK157 := Aside0.mk hbox; have GW157 := nGB hg; have GE157 := nGB hg; replace HB := nSB hb; clear hb hbox hg) | ((with_reducible refine gd 3 rfl ?_); refine bxE 3 #[.slice A1_0 l1_0.length c1_0, .int .i64 a1_1] 30 ?_; intro gb158 hg w23 hbox hb; have BK158 := Aside0.mk hbox; have GW158 := nGC hg; have GE158 := nGC hg; replace HB := nSC hb; have NB157_158 := nL BK157 hg; have NB158_157 := nH BK157 hg; replace BK157 := nK BK157 hb; clear hb hbox hg; have hnb24 := NB157_158.out; have hnc24 := NB158_157.out; have hcz25 := cb2 BK157; have hcz26 := cb2 BK158) | ((with_reducible refine gt 28 rfl ?_); refine gL 28 9 Tryz.func28 #[.slice A0_0 l0_0.length c0_0, .slice A1_0 l1_0.length c1_0] ?_; (with_reducible refine (laws_eqNodeS.calls k _ _ l0_0 _ _ l1_0 false _ ?side1 ?side2 ?side3 ?side4 A3.out).mono ?_); (case side1 => exact sD (Kd.C_below HR0_0.out HB.out)); (case side2 => exact HC0_0.out); (case side3 => exact sD (Kd.C_below HR1_0.out HB.out)); (case side4 => exact HC1_0.out); rintro e w27 ⟨rfl, hb⟩; refine ⟨_, rfl, ?_⟩; replace BK157 := nK BK157 hb; replace BK158 := nK BK158 hb; replace HB := nSC hb; try clear hb))
  go_ret
  exact ⟨sE, sC⟩
def spec_l1Has.l0 : Nat → Int → List Int → Int → Int → Option (Bool)
 | 0, _, _, _, _ => none
 | k + 1, x1, x7, x8, x9 => if x9 < x8 then (if 0 ≤ x9 then (if x9 < (x7.length : Int) then (if (rd x7 x9) = x1 then (some true) else (spec_l1Has.l0 k x1 x7 x8 (wrap64 (x9 + 1)))) else (none)) else (none)) else (some false)
def spec_l1Has.f (k : Nat) (l0 : List Int) (a1 : Int) : Option (Bool) := spec_l1Has.l0 k a1 l0 (l0.length : Int) 0
theorem spec_l1Has.calls (k : Nat) (A0 : Option Addr) (c0 : Nat) (l0 : List Int) (a1 : Int) (r : Bool) (w : World) (hr0 : Kd.C (Kd.int .i64) w A0 l0.length l0) (hc0 : l0.length ≤ c0) (h : spec_l1Has.f k l0 a1 = some r) :
  Calls Tryz.prog 53 #[.slice A0 l0.length c0, .int .i64 a1] w fun e w' => e = .returned (.bool r) ∧ Drawn0 w w' := by
 have HR0 := Aside0.mk hr0
 have HC0 := Aside0.mk hc0
 clear hr0 hc0
 have H : (spec_l1Has.l0 k a1 l0 (l0.length : Int) 0) = some r := h
 clear h
 have H' := Aside0.mk H
 clear H
 go_enter Tryz.func53, Tryz.ntmps53
 go_wp2
 go_loopg [9] k (fun kq v9 w' => ∃ (x9_1 : Int), v9 = .int .i64 x9_1 ∧ Aside0 (spec_l1Has.l0 kq a1 l0 (l0.length : Int) x9_1 = some r) ∧ Aside0 (kq ≤ k) ∧ Drawn0 w w')
 case atStart => exact ⟨(0), sR, H', ⟨Nat.le_refl _⟩, by repeat (first | exact Drawn0.refl _ | apply Drawn0.step)⟩
 case round =>
  clear H'
  try clear p2
  obtain ⟨x9_1, rfl, HA, HK1, ⟨m1, rfl⟩⟩ := hrel
  cases gk with
  | zero => exact absurd HA.out (by simp [spec_l1Has.l0])
  | succ k1 =>
   have H := HA.out
   clear HA
   simp only [spec_l1Has.l0] at H
   by_cases c3 : x9_1 < (l0.length : Int)
   ·rw [if_pos c3] at H
    have c3b0 := decide_eq_true c3
    clear c3
    obtain ⟨c4, H⟩ := iN H
    have c4b0 := decide_eq_true c4
    clear c4
    obtain ⟨c5, H⟩ := iN H
    have c5b0 := decide_eq_true c5
    clear c5
    by_cases c6 : (rd l0 x9_1) = a1
    ·rw [if_pos c6] at H
     have c6b0 := beq_iff_eq.mpr c6
     have c6b1 := bne_eq_false_iff_eq.mpr c6
     clear c6
     obtain rfl := Option.some.inj H
     have p160 : 0 ≤ (x9_1 : Int) := sO
     have q160 : x9_1 < (l0.length : Int) := sO
     obtain ⟨ad160, e160, hx160_0⟩ := Kd.at_int HR0.out x9_1 p160 q160
     cases e160
     replace p160 := eq_true p160
     replace q160 := eq_true q160
     go_wp2
     go_ret
     exact ⟨by first | rfl | (simp; done) | (simp [*]; done), by repeat (first | exact Drawn0.refl _ | apply Drawn0.step)⟩
    ·rw [if_neg c6] at H
     have c6b0 := beq_eq_false_iff_ne.mpr c6
     have c6b1 := bne_iff_ne.mpr c6
     have H' := Aside0.mk H
     clear H
     have p160 : 0 ≤ (x9_1 : Int) := sO
     have q160 : x9_1 < (l0.length : Int) := sO
     obtain ⟨ad160, e160, hx160_0⟩ := Kd.at_int HR0.out x9_1 p160 q160
     cases e160
     replace p160 := eq_true p160
     replace q160 := eq_true q160
     go_wp2
     go_roundg k1
     case measure => have := HK1.out; omega
     case rel => exact ⟨(wrap64 (x9_1 + 1)), sR, H', ⟨by have := HK1.out; omega⟩, by repeat (first | exact Drawn0.refl _ | apply Drawn0.step)⟩
   ·rw [if_neg c3] at H
    have c3b0 := decide_eq_false c3
    clear c3
    obtain rfl := Option.some.inj H
    go_wp2
    go_ret
    exact ⟨by first | rfl | (simp; done) | (simp [*]; done), by repeat (first | exact Drawn0.refl _ | apply Drawn0.step)⟩
def spec_l1In.f (a0 : Int) (a1 : Int) (a2 : Int) : Option (Bool) := if a0 ≥ a1 then (some (decide (a0 ≤ a2))) else (some false)
theorem spec_l1In.calls (a0 : Int) (a1 : Int) (a2 : Int) (r : Bool) (w : World) (h : spec_l1In.f a0 a1 a2 = some r) :
  Calls Tryz.prog 60 #[.int .i64 a0, .int .i64 a1, .int .i64 a2] w fun e w' => e = .returned (.bool r) ∧ Drawn0 w w' := by
 have H : (if a0 ≥ a1 then (some (decide (a0 ≤ a2))) else (some false)) = some r := h
 clear h
 by_cases c4 : a0 ≥ a1
 ·rw [if_pos c4] at H
  have c4b0 := decide_eq_true c4
  clear c4
  obtain rfl := Option.some.inj H
  go_enter Tryz.func60, Tryz.ntmps60
  go_wp2
  go_ret
  exact ⟨by first | rfl | (simp; done) | (simp [*]; done), by repeat (first | exact Drawn0.refl _ | apply Drawn0.step)⟩
 ·rw [if_neg c4] at H
  have c4b0 := decide_eq_false c4
  clear c4
  obtain rfl := Option.some.inj H
  go_enter Tryz.func60, Tryz.ntmps60
  go_wp2
  go_ret
  exact ⟨by first | rfl | (simp; done) | (simp [*]; done), by repeat (first | exact Drawn0.refl _ | apply Drawn0.step)⟩
def spec_l3Bytes.l0 : Nat → Int → List (S65) → Int → Int → Option (Int)
 | 0, _, _, _, _ => none
 | k + 1, x3, x7, x8, x9 => if x9 < x8 then (if 0 ≤ x9 then (if x9 < (x7.length : Int) then (spec_l3Bytes.l0 k (wrap64 (x3 + (((rd_T65 x7 x9).f5).size : Int))) x7 x8 (wrap64 (x9 + 1))) else (none)) else (none)) else (some x3)
def spec_l3Bytes.f (k : Nat) (l0_0 : List (S65)) (a0_1 : Int) : Option (Int) := spec_l3Bytes.l0 k 0 l0_0 (l0_0.length : Int) 0
theorem spec_l3Bytes.calls (k : Nat) (A0_0 : Option Addr) (c0_0 : Nat) (l0_0 : List (S65)) (a0_1 : Int) (r : Int) (w : World) (hr0_0 : Kd.C k65 w A0_0 l0_0.length l0_0) (hc0_0 : l0_0.length ≤ c0_0) (h : spec_l3Bytes.f k l0_0 a0_1 = some r) :
  Calls Tryz.prog 61 #[.agg #[.slice A0_0 l0_0.length c0_0, .int .i64 a0_1]] w fun e w' => e = .returned (.int .i64 r) ∧ Below w.heap.size w w' := by
 have hu30 := Tryz.underlying30
 have hu65 := Tryz.underlying65
 have HR0_0 := Aside0.mk hr0_0
 have HC0_0 := Aside0.mk hc0_0
 clear hr0_0 hc0_0
 have HB := Aside0.mk (Below.refl w.heap.size w)
 have H : (spec_l3Bytes.l0 k 0 l0_0 (l0_0.length : Int) 0) = some r := h
 clear h
 have H' := Aside0.mk H
 clear H
 go_enter Tryz.func61, Tryz.ntmps61
 go_wp2_with (first | ((with_reducible refine gd 1 rfl ?_); refine bxE 1 #[.slice A0_0 l0_0.length c0_0, .int .i64 a0_1] 30 ?_; intro gb161 hg w2 hbox hb; have BK161 := Aside0.mk hbox; have GW161 := nGB hg; have GE161 := nGB hg; replace HB := nSB hb; clear hb hbox hg; have hcz3 := cb2 BK161))
 go_loopg [3, 9] k (fun kq v3 v9 w' => ∃ (x3_1 : Int) (x9_1 : Int), v3 = .int .i64 x3_1 ∧ v9 = .int .i64 x9_1 ∧ Aside0 (spec_l3Bytes.l0 kq x3_1 l0_0 (l0_0.length : Int) x9_1 = some r) ∧ Aside0 (kq ≤ k) ∧ Aside0 (w'.heap[gb161]? = some (.cells #[(.slice A0_0 l0_0.length c0_0), .int .i64 a0_1] 30 (0, 0))) ∧ Aside0 (Below w.heap.size w w'))
 case atStart => exact ⟨(0), (0), sR, sR, H', ⟨Nat.le_refl _⟩, ⟨sK BK161⟩, ⟨sC⟩⟩
 case round =>
  clear H'
  try clear p2
  try clear hcz3
  obtain ⟨x3_1, x9_1, rfl, rfl, HA, HK1, BK161, HB⟩ := hrel
  cases gk with
  | zero => exact absurd HA.out (by simp [spec_l3Bytes.l0])
  | succ k1 =>
   have H := HA.out
   clear HA
   simp only [spec_l3Bytes.l0] at H
   by_cases c4 : x9_1 < (l0_0.length : Int)
   ·rw [if_pos c4] at H
    have c4b0 := decide_eq_true c4
    clear c4
    obtain ⟨c5, H⟩ := iN H
    have c5b0 := decide_eq_true c5
    clear c5
    obtain ⟨c6, H⟩ := iN H
    have c6b0 := decide_eq_true c6
    clear c6
    have H' := Aside0.mk H
    clear H
    have p162 : 0 ≤ (x9_1 : Int) := sO
    have q162 : x9_1 < (l0_0.length : Int) := sO
    obtain ⟨ad162, A162_6, c162_6, e162, hx162_0, hx162_1, hx162_2, hx162_3, hx162_4, hx162_5, hx162_6, hl162_6, hi162_6⟩ := ab65 HR0_0.out HB x9_1 p162 q162
    cases e162
    have HR162_6 := Aside0.mk hi162_6
    have HC162_6 := Aside0.mk hl162_6
    clear hi162_6 hl162_6
    replace p162 := eq_true p162
    replace q162 := eq_true q162
    go_wp2_with (first | ((with_reducible refine gd 5 rfl ?_); refine bxE 5 #[.int .i64 0, .int .i64 0, .int .i64 0, .int .i64 0, .int .i64 0, .string (⟨#[]⟩ : ByteArray), .slice none 0 0] 65 ?_; intro gb163 hg w7 hbox hb; have BK163 := Aside0.mk hbox; have GW163 := nGC hg; have GE163 := nGC hg; replace HB := nSC hb; have NB161_163 := nL BK161 hg; have NB163_161 := nH BK161 hg; replace BK161 := nK BK161 hb; clear hb hbox hg; have hnb8 := NB163_161.out; have hnc8 := NB161_163.out; have hcz9 := cb7 BK163))
    go_roundg k1
    case measure => have := HK1.out; omega
    case rel => exact ⟨(wrap64 (x3_1 + (((rd_T65 l0_0 x9_1).f5).size : Int))), (wrap64 (x9_1 + 1)), sR, sR, H', ⟨by have := HK1.out; omega⟩, ⟨sX BK161⟩, ⟨sC⟩⟩
   ·rw [if_neg c4] at H
    have c4b0 := decide_eq_false c4
    clear c4
    obtain rfl := Option.some.inj H
    go_wp2
    go_ret
    exact ⟨sE, sC⟩
def spec_l1Mode.f (a0 : Int) : Option (Bool) := (spec_l1In.f a0 0 511).bind fun t164 => (some t164)
theorem spec_l1Mode.calls (a0 : Int) (r : Bool) (w : World) (h : spec_l1Mode.f a0 = some r) :
  Calls Tryz.prog 82 #[.int .i64 a0] w fun e w' => e = .returned (.bool r) ∧ Drawn0 w w' := by
 have H : ((spec_l1In.f a0 0 511).bind fun t164 => (some t164)) = some r := h
 clear h
 obtain ⟨t164, A2, H⟩ := bS H
 try dsimp only at H
 obtain rfl := Option.some.inj H
 go_enter Tryz.func82, Tryz.ntmps82
 go_wp2_with (first | ((with_reducible refine gt 60 rfl ?_); refine gL 60 4 Tryz.func60 #[.int .i64 a0, .int .i64 0, .int .i64 511] ?_; (with_reducible refine (spec_l1In.calls a0 0 511 t164 _ A2.out).mono ?_); rintro e w' ⟨rfl, ⟨nd, rfl⟩⟩; refine ⟨_, rfl, ?_⟩))
 go_ret
 exact ⟨by first | rfl | (simp; done) | (simp [*]; done), by repeat (first | exact Drawn0.refl _ | apply Drawn0.step)⟩
end Go.Proofs.YtdjceippnokimaaGreatDoor.PGrp
