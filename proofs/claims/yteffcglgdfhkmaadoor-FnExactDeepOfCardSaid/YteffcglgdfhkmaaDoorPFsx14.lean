-- Written by a program of this session (wip/print2) out of the translation. Lean checks it.
import Derived.Test.YteffcglgdfhkmaaDoorPFsx0
import Derived.Test.YteffcglgdfhkmaaDoorPFsx7
import Derived.Test.YteffcglgdfhkmaaDoorPFsx1
import Derived.Test.YteffcglgdfhkmaaDoorPFsx8
import Derived.Test.YteffcglgdfhkmaaDoorPFsx12
import Derived.Test.YteffcglgdfhkmaaDoorPFsx13
namespace Go.Proofs.YteffcglgdfhkmaaDoor.PFs
open Go.RowKit Go.Proofs.YteffcglgdfhkmaaDoorW.PrintWords Go.Proofs.YteffcglgdfhkmaaDoorW.PrintLast Go.Proofs.YteffcglgdfhkmaaDoorW.PrintMore
attribute [local go_sem] max2_int min2_int max_two min_two max_three min_three max_four min_four   -- for this text's walks alone
set_option linter.unusedVariables false
set_option linter.unusedSimpArgs false

/-! ### laws_eqNodeS: function 48 -/
def laws_eqNodeS.l0 : Nat → List (S53) → List (S53) → Int → Option (Bool)
 | 0, _, _, _ => none
 | k + 1, x0, x1, x5 => if x5 < (x0.length : Int) then (if 0 ≤ x5 then (if x5 < (x1.length : Int) then ((laws_eqNode.f k ((rd_T53 x0 x5).f0) ((rd_T53 x0 x5).f1) ((rd_T53 x0 x5).f2) ((rd_T53 x0 x5).f3) ((rd_T53 x0 x5).f4) ((rd_T53 x0 x5).f5) ((rd_T53 x0 x5).f6) ((rd_T53 x1 x5).f0) ((rd_T53 x1 x5).f1) ((rd_T53 x1 x5).f2) ((rd_T53 x1 x5).f3) ((rd_T53 x1 x5).f4) ((rd_T53 x1 x5).f5) ((rd_T53 x1 x5).f6)).bind fun t367 => (if t367 = true then (laws_eqNodeS.l0 k x0 x1 (wrap64 (x5 + 1))) else (some false))) else (none)) else (none)) else (some true)
def laws_eqNodeS.f (k : Nat) (l0 : List (S53)) (l1 : List (S53)) : Option (Bool) := if (l0.length : Int) = (l1.length : Int) then (laws_eqNodeS.l0 k l0 l1 0) else (some false)
theorem laws_eqNodeS.mono_l : ∀ k, (∀ y0 y1 y2, LeO (laws_eqNodeS.l0 k y0 y1 y2) (laws_eqNodeS.l0 (k + 1) y0 y1 y2))
 | 0 => fun _ _ _ r h => by simp [laws_eqNodeS.l0] at h
 | k + 1 => by
  have ih0 := laws_eqNodeS.mono_l k
  ·intro y0 y1 y2
   unfold laws_eqNodeS.l0
   have m0 := @laws_eqNode.mono
   exact mo
theorem laws_eqNodeS.mono : ∀ a0 a1 k, LeO (laws_eqNodeS.f k a0 a1) (laws_eqNodeS.f (k + 1) a0 a1) := by
 intro a0 a1 k
 have ih0 := laws_eqNodeS.mono_l k
 unfold laws_eqNodeS.f
 have m0 := @laws_eqNode.mono
 exact mo
def laws_eqNodeS.T6 : Bool × List (List Nat × List Nat) := (true, [([], []), ([], []), ([0, 1], [0, 1]), ([2], [2]), ([], []), ([], []), ([4, 5], [4, 5]), ([6], [6]), ([3, 7], [3, 7]), ([8], [8])])
def laws_eqNodeS.B6 : List Nat := [0, 0, 3, 7, 0, 0, 48, 112, 255, 511]
theorem laws_eqNodeS.tab6 : rtab .any (opsOf Tryd.f48 6) = laws_eqNodeS.T6 := by kernel_rfl
theorem laws_eqNodeS.bits6 : waitsOk laws_eqNodeS.T6.2 laws_eqNodeS.B6 = true := by kernel_rfl
set_option maxHeartbeats 8000000 in
set_option maxRecDepth 100000 in
theorem laws_eqNodeS.calls (k : Nat) (A0 : Option Addr) (c0 : Nat) (l0 : List (S53)) (A1 : Option Addr) (c1 : Nat) (l1 : List (S53)) (r : Bool) (w : World) (hr0 : Kd.C k53 w A0 l0.length l0) (hc0 : l0.length ≤ c0) (hr1 : Kd.C k53 w A1 l1.length l1) (hc1 : l1.length ≤ c1) (h : laws_eqNodeS.f k l0 l1 = some r) :
  Calls Tryd.prog 48 #[.slice A0 l0.length c0, .slice A1 l1.length c1] w fun e w' => e = .returned (.bool r) ∧ Below w.heap.size w w' := by
 have hu53 := Tryd.underlying53
 have HR0 := Aside0.mk hr0
 have HC0 := Aside0.mk hc0
 clear hr0 hc0
 have HR1 := Aside0.mk hr1
 have HC1 := Aside0.mk hc1
 clear hr1 hc1
 have HB := Aside0.mk (Below.refl w.heap.size w)
 have H : (if (l0.length : Int) = (l1.length : Int) then (laws_eqNodeS.l0 k l0 l1 0) else (some false)) = some r := h
 clear h
 by_cases c3 : (l0.length : Int) = (l1.length : Int)
 ·rw [if_pos c3] at H
  have c3b0 := beq_iff_eq.mpr c3
  have c3b1 := bne_eq_false_iff_eq.mpr c3
  have c3b2 : (l0.length == l1.length) = true := by first | simpa using c3 | (simp at c3 ⊢; omega)
  clear c3
  have H' := Aside0.mk H
  clear H
  go_enter Tryd.func48, Tryd.ntmps48
  go_wp2
  go_loopg [5] k (fun kq v5 w' => ∃ (x5_1 : Int), v5 = .int .i64 x5_1 ∧ Aside0 (laws_eqNodeS.l0 kq l0 l1 x5_1 = some r) ∧ Aside0 (kq ≤ k) ∧ Aside0 (Below w.heap.size w w'))
  case atStart => exact ⟨(0), sR, H', ⟨Nat.le_refl _⟩, ⟨sB⟩⟩
  case round =>
   clear H'
   try clear c1
   try clear p2
   try clear c3
   try clear c3b0
   try clear c3b1
   try clear c3b2
   obtain ⟨x5_1, rfl, HA, HK1, HB⟩ := hrel
   cases gk with
   | zero => exact absurd HA.out (by simp [laws_eqNodeS.l0])
   | succ k1 =>
    have H := HA.out
    clear HA
    simp only [laws_eqNodeS.l0] at H
    by_cases c4 : x5_1 < (l0.length : Int)
    ·rw [if_pos c4] at H
     have c4b0 := decide_eq_true c4
     clear c4
     by_cases c5 : 0 ≤ x5_1
     ·rw [if_pos c5] at H
      have c5b0 := decide_eq_true c5
      clear c5
      by_cases c6 : x5_1 < (l1.length : Int)
      ·rw [if_pos c6] at H
       have c6b0 := decide_eq_true c6
       clear c6
       obtain ⟨t367, A70, H⟩ := Option.bind_eq_some_iff.mp H
       try dsimp only at H
       replace A70 := Aside0.mk A70; have A7 := A70; clear A70
       by_cases c8 : t367 = true
       ·subst c8
        rw [if_pos rfl] at H
        have H' := Aside0.mk H
        clear H
        try go_wp2
        have n0_ := Aside0.mk (below_drew1 HB.out)
        clear HB
        have HB := n0_
        clear n0_
        have p365 : 0 ≤ (x5_1 : Int) := sO
        have q365 : x5_1 < (l0.length : Int) := sO
        obtain ⟨ad365, A365_6, c365_6, e365, hx365_0, hx365_1, hx365_2, hx365_3, hx365_4, hx365_5, hx365_6, hl365_6, hi365_6⟩ := at_T53 HR0.out x5_1 p365 q365
        have hw365_6 := hx365_6
        have hw365_5 := hx365_5
        have hw365_4 := hx365_4
        have hw365_3 := hx365_3
        have hw365_2 := hx365_2
        have hw365_1 := hx365_1
        have hw365_0 := hx365_0
        cases e365
        replace hx365_0 := hB HB hx365_0
        replace hx365_1 := hB HB hx365_1
        replace hx365_2 := hB HB hx365_2
        replace hx365_3 := hB HB hx365_3
        replace hx365_4 := hB HB hx365_4
        replace hx365_5 := hB HB hx365_5
        replace hx365_6 := hB HB hx365_6
        have HR365_6 := Aside0.mk hi365_6
        have HC365_6 := Aside0.mk hl365_6
        clear hi365_6 hl365_6
        replace p365 := eq_true p365
        replace q365 := eq_true q365
        have p366 : 0 ≤ (x5_1 : Int) := sO
        have q366 : x5_1 < (l1.length : Int) := sO
        obtain ⟨ad366, A366_6, c366_6, e366, hx366_0, hx366_1, hx366_2, hx366_3, hx366_4, hx366_5, hx366_6, hl366_6, hi366_6⟩ := at_T53 HR1.out x5_1 p366 q366
        have hw366_6 := hx366_6
        have hw366_5 := hx366_5
        have hw366_4 := hx366_4
        have hw366_3 := hx366_3
        have hw366_2 := hx366_2
        have hw366_1 := hx366_1
        have hw366_0 := hx366_0
        cases e366
        replace hx366_0 := hB HB hx366_0
        replace hx366_1 := hB HB hx366_1
        replace hx366_2 := hB HB hx366_2
        replace hx366_3 := hB HB hx366_3
        replace hx366_4 := hB HB hx366_4
        replace hx366_5 := hB HB hx366_5
        replace hx366_6 := hB HB hx366_6
        have HR366_6 := Aside0.mk hi366_6
        have HC366_6 := Aside0.mk hl366_6
        clear hi366_6 hl366_6
        replace p366 := eq_true p366
        replace q366 := eq_true q366
        refine st14 10 [] (hB HB hw365_0 :) (hB HB hw365_1 :) (hB HB hw365_2 :) (hB HB hw365_3 :) (hB HB hw365_4 :) (hB HB hw365_5 :) (hB HB hw365_6 :) (hB HB hw366_0 :) (hB HB hw366_1 :) (hB HB hw366_2 :) (hB HB hw366_3 :) (hB HB hw366_4 :) (hB HB hw366_5 :) (hB HB hw366_6 :) (fun hHeld => ?_); refine with_tabW laws_eqNodeS.tab6 laws_eqNodeS.bits6 (fun HT_ HW_ => ?_)
        generalize wr.drew = w9 at HB HR365_6 HR366_6 hx365_0 hx365_1 hx365_2 hx365_3 hx365_4 hx365_5 hx365_6 hx366_0 hx366_1 hx366_2 hx366_3 hx366_4 hx366_5 hx366_6 hHeld ⊢
        refine pu 0 17 ?_
        refine pu 1 18 ?_
        refine pu 2 19 ?_
        refine pu 4 21 ?_
        refine pu 5 22 ?_
        refine pu 6 23 ?_
        refine tk14 3 20 ?_
        refine tk14 7 24 ?_
        refine on 8 25 (fun K hK => ?_)
        refine gC Tryd.func84 #[.agg #[.int .i64 ((rd_T53 l0 x5_1).f0), .int .i64 ((rd_T53 l0 x5_1).f1), .int .i64 ((rd_T53 l0 x5_1).f2), .int .i64 ((rd_T53 l0 x5_1).f3), .int .i64 ((rd_T53 l0 x5_1).f4), .string ((rd_T53 l0 x5_1).f5), .slice A365_6 ((rd_T53 l0 x5_1).f6).length c365_6], .agg #[.int .i64 ((rd_T53 l1 x5_1).f0), .int .i64 ((rd_T53 l1 x5_1).f1), .int .i64 ((rd_T53 l1 x5_1).f2), .int .i64 ((rd_T53 l1 x5_1).f3), .int .i64 ((rd_T53 l1 x5_1).f4), .string ((rd_T53 l1 x5_1).f5), .slice A366_6 ((rd_T53 l1 x5_1).f6).length c366_6]] ?_
        with_reducible refine (laws_eqNode.calls k1 ((rd_T53 l0 x5_1).f0) ((rd_T53 l0 x5_1).f1) ((rd_T53 l0 x5_1).f2) ((rd_T53 l0 x5_1).f3) ((rd_T53 l0 x5_1).f4) ((rd_T53 l0 x5_1).f5) _ _ ((rd_T53 l0 x5_1).f6) ((rd_T53 l1 x5_1).f0) ((rd_T53 l1 x5_1).f1) ((rd_T53 l1 x5_1).f2) ((rd_T53 l1 x5_1).f3) ((rd_T53 l1 x5_1).f4) ((rd_T53 l1 x5_1).f5) _ _ ((rd_T53 l1 x5_1).f6) true _ ?side1 ?side2 ?side3 ?side4 A7.out).mono ?_
        (case side1 => exact sD (Kd.C_below HR365_6.out HB.out))
        (case side2 => exact HC365_6.out)
        (case side3 => exact sD (Kd.C_below HR366_6.out HB.out))
        (case side4 => exact HC366_6.out)
        rintro e w10 ⟨rfl, hb⟩
        refine ⟨_, rfl, ?_⟩
        have n0_ := nSB hb
        clear HB
        have HB := n0_
        clear n0_
        (try clear hb)
        (try clear hb2)
        (try clear hk)
        (try clear hi)
        refine hK.out _ _ ⟨(hB HB hw365_0 :), (hB HB hw365_1 :), (hB HB hw365_2 :), (hB HB hw365_3 :), (hB HB hw365_4 :), (hB HB hw365_5 :), (hB HB hw365_6 :), (hB HB hw366_0 :), (hB HB hw366_1 :), (hB HB hw366_2 :), (hB HB hw366_3 :), (hB HB hw366_4 :), (hB HB hw366_5 :), (hB HB hw366_6 :)⟩ (fun hHeld => ?_)
        clear hK K
        refine nm ?_
        refine pu 9 26 ?_
        refine dn ?_
        try go_wp2
        go_roundg k1
        case measure => have := HK1.out; omega
        case rel => exact ⟨(wrap64 (x5_1 + 1)), sR, H', ⟨by have := HK1.out; omega⟩, ⟨sB⟩⟩
       ·replace c8 := Bool.eq_false_iff.mpr c8
        subst c8
        rw [if_neg (show ¬ (false = true) by decide)] at H
        obtain rfl := Option.some.inj H
        try go_wp2
        have n0_ := Aside0.mk (below_drew1 HB.out)
        clear HB
        have HB := n0_
        clear n0_
        have p365 : 0 ≤ (x5_1 : Int) := sO
        have q365 : x5_1 < (l0.length : Int) := sO
        obtain ⟨ad365, A365_6, c365_6, e365, hx365_0, hx365_1, hx365_2, hx365_3, hx365_4, hx365_5, hx365_6, hl365_6, hi365_6⟩ := at_T53 HR0.out x5_1 p365 q365
        have hw365_6 := hx365_6
        have hw365_5 := hx365_5
        have hw365_4 := hx365_4
        have hw365_3 := hx365_3
        have hw365_2 := hx365_2
        have hw365_1 := hx365_1
        have hw365_0 := hx365_0
        cases e365
        replace hx365_0 := hB HB hx365_0
        replace hx365_1 := hB HB hx365_1
        replace hx365_2 := hB HB hx365_2
        replace hx365_3 := hB HB hx365_3
        replace hx365_4 := hB HB hx365_4
        replace hx365_5 := hB HB hx365_5
        replace hx365_6 := hB HB hx365_6
        have HR365_6 := Aside0.mk hi365_6
        have HC365_6 := Aside0.mk hl365_6
        clear hi365_6 hl365_6
        replace p365 := eq_true p365
        replace q365 := eq_true q365
        have p366 : 0 ≤ (x5_1 : Int) := sO
        have q366 : x5_1 < (l1.length : Int) := sO
        obtain ⟨ad366, A366_6, c366_6, e366, hx366_0, hx366_1, hx366_2, hx366_3, hx366_4, hx366_5, hx366_6, hl366_6, hi366_6⟩ := at_T53 HR1.out x5_1 p366 q366
        have hw366_6 := hx366_6
        have hw366_5 := hx366_5
        have hw366_4 := hx366_4
        have hw366_3 := hx366_3
        have hw366_2 := hx366_2
        have hw366_1 := hx366_1
        have hw366_0 := hx366_0
        cases e366
        replace hx366_0 := hB HB hx366_0
        replace hx366_1 := hB HB hx366_1
        replace hx366_2 := hB HB hx366_2
        replace hx366_3 := hB HB hx366_3
        replace hx366_4 := hB HB hx366_4
        replace hx366_5 := hB HB hx366_5
        replace hx366_6 := hB HB hx366_6
        have HR366_6 := Aside0.mk hi366_6
        have HC366_6 := Aside0.mk hl366_6
        clear hi366_6 hl366_6
        replace p366 := eq_true p366
        replace q366 := eq_true q366
        refine st14 10 [] (hB HB hw365_0 :) (hB HB hw365_1 :) (hB HB hw365_2 :) (hB HB hw365_3 :) (hB HB hw365_4 :) (hB HB hw365_5 :) (hB HB hw365_6 :) (hB HB hw366_0 :) (hB HB hw366_1 :) (hB HB hw366_2 :) (hB HB hw366_3 :) (hB HB hw366_4 :) (hB HB hw366_5 :) (hB HB hw366_6 :) (fun hHeld => ?_); refine with_tabW laws_eqNodeS.tab6 laws_eqNodeS.bits6 (fun HT_ HW_ => ?_)
        generalize wr.drew = w11 at HB HR365_6 HR366_6 hx365_0 hx365_1 hx365_2 hx365_3 hx365_4 hx365_5 hx365_6 hx366_0 hx366_1 hx366_2 hx366_3 hx366_4 hx366_5 hx366_6 hHeld ⊢
        refine pu 0 17 ?_
        refine pu 1 18 ?_
        refine pu 2 19 ?_
        refine pu 4 21 ?_
        refine pu 5 22 ?_
        refine pu 6 23 ?_
        refine tk14 3 20 ?_
        refine tk14 7 24 ?_
        refine on 8 25 (fun K hK => ?_)
        refine gC Tryd.func84 #[.agg #[.int .i64 ((rd_T53 l0 x5_1).f0), .int .i64 ((rd_T53 l0 x5_1).f1), .int .i64 ((rd_T53 l0 x5_1).f2), .int .i64 ((rd_T53 l0 x5_1).f3), .int .i64 ((rd_T53 l0 x5_1).f4), .string ((rd_T53 l0 x5_1).f5), .slice A365_6 ((rd_T53 l0 x5_1).f6).length c365_6], .agg #[.int .i64 ((rd_T53 l1 x5_1).f0), .int .i64 ((rd_T53 l1 x5_1).f1), .int .i64 ((rd_T53 l1 x5_1).f2), .int .i64 ((rd_T53 l1 x5_1).f3), .int .i64 ((rd_T53 l1 x5_1).f4), .string ((rd_T53 l1 x5_1).f5), .slice A366_6 ((rd_T53 l1 x5_1).f6).length c366_6]] ?_
        with_reducible refine (laws_eqNode.calls k1 ((rd_T53 l0 x5_1).f0) ((rd_T53 l0 x5_1).f1) ((rd_T53 l0 x5_1).f2) ((rd_T53 l0 x5_1).f3) ((rd_T53 l0 x5_1).f4) ((rd_T53 l0 x5_1).f5) _ _ ((rd_T53 l0 x5_1).f6) ((rd_T53 l1 x5_1).f0) ((rd_T53 l1 x5_1).f1) ((rd_T53 l1 x5_1).f2) ((rd_T53 l1 x5_1).f3) ((rd_T53 l1 x5_1).f4) ((rd_T53 l1 x5_1).f5) _ _ ((rd_T53 l1 x5_1).f6) false _ ?side1 ?side2 ?side3 ?side4 A7.out).mono ?_
        (case side1 => exact sD (Kd.C_below HR365_6.out HB.out))
        (case side2 => exact HC365_6.out)
        (case side3 => exact sD (Kd.C_below HR366_6.out HB.out))
        (case side4 => exact HC366_6.out)
        rintro e w12 ⟨rfl, hb⟩
        refine ⟨_, rfl, ?_⟩
        have n0_ := nSB hb
        clear HB
        have HB := n0_
        clear n0_
        (try clear hb)
        (try clear hb2)
        (try clear hk)
        (try clear hi)
        refine hK.out _ _ ⟨(hB HB hw365_0 :), (hB HB hw365_1 :), (hB HB hw365_2 :), (hB HB hw365_3 :), (hB HB hw365_4 :), (hB HB hw365_5 :), (hB HB hw365_6 :), (hB HB hw366_0 :), (hB HB hw366_1 :), (hB HB hw366_2 :), (hB HB hw366_3 :), (hB HB hw366_4 :), (hB HB hw366_5 :), (hB HB hw366_6 :)⟩ (fun hHeld => ?_)
        clear hK K
        refine nm ?_
        refine pu 9 26 ?_
        refine dn ?_
        try go_wp2
        go_ret
        exact ⟨sE, sB⟩
      ·rw [if_neg c6] at H
       exact absurd H (by simp)
     ·rw [if_neg c5] at H
      exact absurd H (by simp)
    ·rw [if_neg c4] at H
     have c4b0 := decide_eq_false c4
     clear c4
     obtain rfl := Option.some.inj H
     go_wp2
     go_ret
     exact ⟨sE, sB⟩
 ·rw [if_neg c3] at H
  have c3b0 := beq_eq_false_iff_ne.mpr c3
  have c3b1 := bne_iff_ne.mpr c3
  have c3b2 : (l0.length == l1.length) = false := by first | simpa using c3 | (simp at c3 ⊢; omega)
  obtain rfl := Option.some.inj H
  go_enter Tryd.func48, Tryd.ntmps48
  go_wp2
  go_ret
  exact ⟨sE, sB⟩

/-! ### laws_eqFs: function 17 -/
def laws_eqFs.f (k : Nat) (l0_0 : List (S53)) (a0_1 : Int) (l1_0 : List (S53)) (a1_1 : Int) : Option (Bool) := (laws_eqNodeS.f k l0_0 l1_0).bind fun t370 => (if t370 = true then (if a0_1 = a1_1 then (some true) else (some false)) else (some false))
theorem laws_eqFs.mono : ∀ a0 a1 a2 a3 k, LeO (laws_eqFs.f k a0 a1 a2 a3) (laws_eqFs.f (k + 1) a0 a1 a2 a3) := by
 intro a0 a1 a2 a3 k
 unfold laws_eqFs.f
 have m0 := @laws_eqNodeS.mono
 exact mo
set_option maxHeartbeats 8000000 in
set_option maxRecDepth 100000 in
theorem laws_eqFs.calls (k : Nat) (A0_0 : Option Addr) (c0_0 : Nat) (l0_0 : List (S53)) (a0_1 : Int) (A1_0 : Option Addr) (c1_0 : Nat) (l1_0 : List (S53)) (a1_1 : Int) (r : Bool) (w : World) (hr0_0 : Kd.C k53 w A0_0 l0_0.length l0_0) (hc0_0 : l0_0.length ≤ c0_0) (hr1_0 : Kd.C k53 w A1_0 l1_0.length l1_0) (hc1_0 : l1_0.length ≤ c1_0) (h : laws_eqFs.f k l0_0 a0_1 l1_0 a1_1 = some r) :
  Calls Tryd.prog 17 #[.agg #[.slice A0_0 l0_0.length c0_0, .int .i64 a0_1], .agg #[.slice A1_0 l1_0.length c1_0, .int .i64 a1_1]] w fun e w' => e = .returned (.bool r) ∧ Below w.heap.size w w' := by
 have hu29 := Tryd.underlying29
 have HR0_0 := Aside0.mk hr0_0
 have HC0_0 := Aside0.mk hc0_0
 clear hr0_0 hc0_0
 have HR1_0 := Aside0.mk hr1_0
 have HC1_0 := Aside0.mk hc1_0
 clear hr1_0 hc1_0
 have HB := Aside0.mk (Below.refl w.heap.size w)
 have H : ((laws_eqNodeS.f k l0_0 l1_0).bind fun t370 => (if t370 = true then (if a0_1 = a1_1 then (some true) else (some false)) else (some false))) = some r := h
 clear h
 obtain ⟨t370, A30, H⟩ := Option.bind_eq_some_iff.mp H
 try dsimp only at H
 replace A30 := Aside0.mk A30; have A3 := A30; clear A30
 by_cases c4 : t370 = true
 ·subst c4
  rw [if_pos rfl] at H
  by_cases c5 : a0_1 = a1_1
  ·rw [if_pos c5] at H
   have c5b0 := beq_iff_eq.mpr c5
   have c5b1 := bne_eq_false_iff_eq.mpr c5
   clear c5
   obtain rfl := Option.some.inj H
   go_enter Tryd.func17, Tryd.ntmps17
   go_wp2_with (first | ((with_reducible refine gd 2 rfl ?_); refine bxE 2 #[.slice A0_0 l0_0.length c0_0, .int .i64 a0_1] 29 ?_; intro gb368 hg w6 hbox hb; have BK368 := Aside0.mk hbox; have GW368 := nGB hg; have GE368 := nGB hg; replace HB := nSB hb; clear hb hbox hg) | ((with_reducible refine gd 3 rfl ?_); refine bxE 3 #[.slice A1_0 l1_0.length c1_0, .int .i64 a1_1] 29 ?_; intro gb369 hg w7 hbox hb; have BK369 := Aside0.mk hbox; have GW369 := nGC hg; have GE369 := nGC hg; replace HB := nSC hb; have NB368_369 := nL BK368 hg; have NB369_368 := nH BK368 hg; replace BK368 := nK BK368 hb; clear hb hbox hg; have hnb8 := NB368_369.out; have hnc8 := NB369_368.out; have hcz9 := cb2 BK368; have hcz10 := cb2 BK369) | ((with_reducible refine gt 48 rfl ?_); refine gL 48 9 Tryd.func48 #[.slice A0_0 l0_0.length c0_0, .slice A1_0 l1_0.length c1_0] ?_; (with_reducible refine (laws_eqNodeS.calls k _ _ l0_0 _ _ l1_0 true _ ?side1 ?side2 ?side3 ?side4 A3.out).mono ?_); (case side1 => exact sD (Kd.C_below HR0_0.out HB.out)); (case side2 => exact HC0_0.out); (case side3 => exact sD (Kd.C_below HR1_0.out HB.out)); (case side4 => exact HC1_0.out); rintro e w11 ⟨rfl, hb⟩; refine ⟨_, rfl, ?_⟩; replace BK368 := nK BK368 hb; replace BK369 := nK BK369 hb; replace HB := nSC hb; try clear hb; have hcz12 := cb2 BK368; have hcz13 := cb2 BK369))
   go_ret
   exact ⟨sE, sC⟩
  ·rw [if_neg c5] at H
   have c5b0 := beq_eq_false_iff_ne.mpr c5
   have c5b1 := bne_iff_ne.mpr c5
   obtain rfl := Option.some.inj H
   go_enter Tryd.func17, Tryd.ntmps17
   go_wp2_with (first | ((with_reducible refine gd 2 rfl ?_); refine bxE 2 #[.slice A0_0 l0_0.length c0_0, .int .i64 a0_1] 29 ?_; intro gb368 hg w14 hbox hb; have BK368 := Aside0.mk hbox; have GW368 := nGB hg; have GE368 := nGB hg; replace HB := nSB hb; clear hb hbox hg) | ((with_reducible refine gd 3 rfl ?_); refine bxE 3 #[.slice A1_0 l1_0.length c1_0, .int .i64 a1_1] 29 ?_; intro gb369 hg w15 hbox hb; have BK369 := Aside0.mk hbox; have GW369 := nGC hg; have GE369 := nGC hg; replace HB := nSC hb; have NB368_369 := nL BK368 hg; have NB369_368 := nH BK368 hg; replace BK368 := nK BK368 hb; clear hb hbox hg; have hnb16 := NB368_369.out; have hnc16 := NB369_368.out; have hcz17 := cb2 BK368; have hcz18 := cb2 BK369) | ((with_reducible refine gt 48 rfl ?_); refine gL 48 9 Tryd.func48 #[.slice A0_0 l0_0.length c0_0, .slice A1_0 l1_0.length c1_0] ?_; (with_reducible refine (laws_eqNodeS.calls k _ _ l0_0 _ _ l1_0 true _ ?side1 ?side2 ?side3 ?side4 A3.out).mono ?_); (case side1 => exact sD (Kd.C_below HR0_0.out HB.out)); (case side2 => exact HC0_0.out); (case side3 => exact sD (Kd.C_below HR1_0.out HB.out)); (case side4 => exact HC1_0.out); rintro e w19 ⟨rfl, hb⟩; refine ⟨_, rfl, ?_⟩; replace BK368 := nK BK368 hb; replace BK369 := nK BK369 hb; replace HB := nSC hb; try clear hb; have hcz20 := cb2 BK368; have hcz21 := cb2 BK369))
   go_ret
   exact ⟨sE, sC⟩
 ·replace c4 := Bool.eq_false_iff.mpr c4
  subst c4
  rw [if_neg (show ¬ (false = true) by decide)] at H
  obtain rfl := Option.some.inj H
  go_enter Tryd.func17, Tryd.ntmps17
  go_wp2_with (first | ((with_reducible refine gd 2 rfl ?_); refine bxE 2 #[.slice A0_0 l0_0.length c0_0, .int .i64 a0_1] 29 ?_; intro gb368 hg w22 hbox hb; have BK368 := Aside0.mk hbox; have GW368 := nGB hg; have GE368 := nGB hg; replace HB := nSB hb; clear hb hbox hg) | ((with_reducible refine gd 3 rfl ?_); refine bxE 3 #[.slice A1_0 l1_0.length c1_0, .int .i64 a1_1] 29 ?_; intro gb369 hg w23 hbox hb; have BK369 := Aside0.mk hbox; have GW369 := nGC hg; have GE369 := nGC hg; replace HB := nSC hb; have NB368_369 := nL BK368 hg; have NB369_368 := nH BK368 hg; replace BK368 := nK BK368 hb; clear hb hbox hg; have hnb24 := NB368_369.out; have hnc24 := NB369_368.out; have hcz25 := cb2 BK368; have hcz26 := cb2 BK369) | ((with_reducible refine gt 48 rfl ?_); refine gL 48 9 Tryd.func48 #[.slice A0_0 l0_0.length c0_0, .slice A1_0 l1_0.length c1_0] ?_; (with_reducible refine (laws_eqNodeS.calls k _ _ l0_0 _ _ l1_0 false _ ?side1 ?side2 ?side3 ?side4 A3.out).mono ?_); (case side1 => exact sD (Kd.C_below HR0_0.out HB.out)); (case side2 => exact HC0_0.out); (case side3 => exact sD (Kd.C_below HR1_0.out HB.out)); (case side4 => exact HC1_0.out); rintro e w27 ⟨rfl, hb⟩; refine ⟨_, rfl, ?_⟩; replace BK368 := nK BK368 hb; replace BK369 := nK BK369 hb; replace HB := nSC hb; try clear hb))
  go_ret
  exact ⟨sE, sC⟩

/-! ### laws_FnExactGoodFs: function 3 -/
def laws_FnExactGoodFs.f (k : Nat) (l0_0 : List (S82)) (a0_1 : Int) : Option (Bool) := (laws_szFs.f k l0_0 a0_1 1048576).bind fun t372 => (if t372 < 0 then (some true) else ((laws_toFs.f k l0_0 a0_1).bind fun bt373 => ((spec_GoodFs.f k bt373.1 bt373.2).bind fun t377 => ((laws_toFs.f k l0_0 a0_1).bind fun bt378 => ((impl_GoodFs.f k bt378.1 bt378.2).bind fun t383 => (if (t383 != t377) = true then (some false) else ((laws_toFs.f k l0_0 a0_1).bind fun bt384 => ((laws_eqFs.f k bt378.1 bt378.2 bt384.1 bt384.2).bind fun t388 => (if t388 = true then (some true) else (some false))))))))))
theorem laws_FnExactGoodFs.mono : ∀ a0 a1 k, LeO (laws_FnExactGoodFs.f k a0 a1) (laws_FnExactGoodFs.f (k + 1) a0 a1) := by
 intro a0 a1 k
 unfold laws_FnExactGoodFs.f
 have m0 := @impl_GoodFs.mono
 have m1 := @laws_eqFs.mono
 have m2 := @laws_szFs.mono
 have m3 := @laws_toFs.mono
 have m4 := @spec_GoodFs.mono
 exact mo
set_option maxHeartbeats 8000000 in
set_option maxRecDepth 100000 in
theorem laws_FnExactGoodFs.calls (k : Nat) (A0_0 : Option Addr) (c0_0 : Nat) (l0_0 : List (S82)) (a0_1 : Int) (r : Bool) (w : World) (hr0_0 : Kd.C k82 w A0_0 l0_0.length l0_0) (hc0_0 : l0_0.length ≤ c0_0) (h : laws_FnExactGoodFs.f k l0_0 a0_1 = some r) :
  Calls Tryd.prog 3 #[.agg #[.slice A0_0 l0_0.length c0_0, .int .i64 a0_1]] w fun e w' => e = .returned (.bool r) ∧ Below w.heap.size w w' := by
 have hu24 := Tryd.underlying24
 have hu29 := Tryd.underlying29
 have HR0_0 := Aside0.mk hr0_0
 have HC0_0 := Aside0.mk hc0_0
 clear hr0_0 hc0_0
 have HB := Aside0.mk (Below.refl w.heap.size w)
 have H : ((laws_szFs.f k l0_0 a0_1 1048576).bind fun t372 => (if t372 < 0 then (some true) else ((laws_toFs.f k l0_0 a0_1).bind fun bt373 => ((spec_GoodFs.f k bt373.1 bt373.2).bind fun t377 => ((laws_toFs.f k l0_0 a0_1).bind fun bt378 => ((impl_GoodFs.f k bt378.1 bt378.2).bind fun t383 => (if (t383 != t377) = true then (some false) else ((laws_toFs.f k l0_0 a0_1).bind fun bt384 => ((laws_eqFs.f k bt378.1 bt378.2 bt384.1 bt384.2).bind fun t388 => (if t388 = true then (some true) else (some false))))))))))) = some r := h
 clear h
 obtain ⟨t372, A20, H⟩ := Option.bind_eq_some_iff.mp H
 try dsimp only at H
 replace A20 := Aside0.mk A20; have A2 := A20; clear A20
 by_cases c3 : t372 < 0
 ·rw [if_pos c3] at H
  have c3b0 := decide_eq_true c3
  clear c3
  obtain rfl := Option.some.inj H
  go_enter Tryd.func3, Tryd.ntmps3
  go_wp2_with (first | ((with_reducible refine gd 1 rfl ?_); refine bxE 1 #[.slice A0_0 l0_0.length c0_0, .int .i64 a0_1] 24 ?_; intro gb371 hg w4 hbox hb; have BK371 := Aside0.mk hbox; have GW371 := nGB hg; have GE371 := nGB hg; replace HB := nSB hb; clear hb hbox hg; have hcz5 := cb2 BK371) | ((with_reducible refine gt 13 rfl ?_); refine gL 13 9 Tryd.func13 #[.agg #[.slice A0_0 l0_0.length c0_0, .int .i64 a0_1], .int .i64 1048576] ?_; (with_reducible refine (laws_szFs.calls k _ _ l0_0 a0_1 1048576 t372 _ ?side1 ?side2 A2.out).mono ?_); (case side1 => exact sD (Kd.C_below HR0_0.out HB.out)); (case side2 => exact HC0_0.out); rintro e w6 ⟨rfl, hb⟩; refine ⟨_, rfl, ?_⟩; replace BK371 := nK BK371 hb; replace HB := nSC hb; try clear hb))
  go_ret
  exact ⟨sE, sC⟩
 ·rw [if_neg c3] at H
  have c3b0 := decide_eq_false c3
  clear c3
  obtain ⟨⟨t373, t376⟩, A70, H⟩ := Option.bind_eq_some_iff.mp H
  try dsimp only at H
  replace A70 := Aside0.mk A70; have A7 := A70; clear A70
  obtain ⟨t377, A80, H⟩ := Option.bind_eq_some_iff.mp H
  try dsimp only at H
  replace A80 := Aside0.mk A80; have A8 := A80; clear A80
  obtain ⟨⟨t378, t381⟩, A90, H⟩ := Option.bind_eq_some_iff.mp H
  try dsimp only at H
  replace A90 := Aside0.mk A90; have A9 := A90; clear A90
  obtain ⟨t383, A100, H⟩ := Option.bind_eq_some_iff.mp H
  try dsimp only at H
  replace A100 := Aside0.mk A100; have A10 := A100; clear A100
  by_cases c11 : (t383 != t377) = true
  ·rw [if_pos c11] at H
   have c11b0 : (t383 != t377) = true := c11
   (try (have c11b1 : decide (t383 = t377) = false := by simpa using c11))
   (try (have c11b2 : (t383 == t377) = false := by simpa using c11))
   (try (have c11b3 : ¬ (t383 = t377) := by simpa using c11))
   clear c11
   obtain rfl := Option.some.inj H
   go_enter Tryd.func3, Tryd.ntmps3
   go_wp2_with (first | ((with_reducible refine gd 1 rfl ?_); refine bxE 1 #[.slice A0_0 l0_0.length c0_0, .int .i64 a0_1] 24 ?_; intro gb371 hg w12 hbox hb; have BK371 := Aside0.mk hbox; have GW371 := nGB hg; have GE371 := nGB hg; replace HB := nSB hb; clear hb hbox hg; have hcz13 := cb2 BK371) | ((with_reducible refine gt 13 rfl ?_); refine gL 13 9 Tryd.func13 #[.agg #[.slice A0_0 l0_0.length c0_0, .int .i64 a0_1], .int .i64 1048576] ?_; (with_reducible refine (laws_szFs.calls k _ _ l0_0 a0_1 1048576 t372 _ ?side1 ?side2 A2.out).mono ?_); (case side1 => exact sD (Kd.C_below HR0_0.out HB.out)); (case side2 => exact HC0_0.out); rintro e w14 ⟨rfl, hb⟩; refine ⟨_, rfl, ?_⟩; replace BK371 := nK BK371 hb; replace HB := nSC hb; try clear hb; have hcz15 := cb2 BK371) | ((with_reducible refine gt 15 rfl ?_); refine gL 15 13 Tryd.func15 #[.agg #[.slice A0_0 l0_0.length c0_0, .int .i64 a0_1]] ?_; (with_reducible refine (laws_toFs.calls k _ _ l0_0 a0_1 t373 t376 _ ?side1 ?side2 A7.out).mono ?_); (case side1 => exact sD (Kd.C_below HR0_0.out HB.out)); (case side2 => exact HC0_0.out); rintro e w16 ⟨v374, rfl, ho0, hb⟩; refine ⟨_, rfl, ?_⟩; have HO375 := Aside0.mk (Kd.S_lower ho0 (below_size sC)); replace BK371 := nK BK371 hb; replace HB := nSC hb; try clear hb; (try clear ho0); obtain ⟨Ao17, co17, eo17⟩ := Kd.S_slice HO375.out; subst eo17) | ((with_reducible refine gt 14 rfl ?_); refine gL 14 14 Tryd.func14 #[.agg #[.slice Ao17 t373.length co17, .int .i64 t376]] ?_; (with_reducible refine (spec_GoodFs.calls k _ _ t373 t376 t377 _ ?side1 ?side2 A8.out).mono ?_); (case side1 => exact sD (Kd.S_reads' HO375.out).2.2); (case side2 => exact (Kd.S_reads' HO375.out).2.1); rintro e w18 ⟨rfl, hb⟩; refine ⟨_, rfl, ?_⟩; replace HO375 := nS HO375 hb; replace BK371 := nK BK371 hb; replace HB := nSC hb; try clear hb; have hcz19 := cb2 BK371) | ((with_reducible refine gt 15 rfl ?_); refine gL 15 16 Tryd.func15 #[.agg #[.slice A0_0 l0_0.length c0_0, .int .i64 a0_1]] ?_; (with_reducible refine (laws_toFs.calls k _ _ l0_0 a0_1 t378 t381 _ ?side1 ?side2 A9.out).mono ?_); (case side1 => exact sD (Kd.C_below HR0_0.out HB.out)); (case side2 => exact HC0_0.out); rintro e w20 ⟨v379, rfl, ho0, hb⟩; refine ⟨_, rfl, ?_⟩; have HO380 := Aside0.mk (Kd.S_lower (Kd.S_new' ho0 (Kd.S_lt (by (with_reducible repeat (first | apply Kd.S_alloc | apply Kd.S_drewN | apply Kd.S_drew)); exact HO375.out))) (below_size sC)); replace HO375 := Aside0.mk (Kd.S_elder' (by (with_reducible repeat (first | apply Kd.S_alloc | apply Kd.S_drewN | apply Kd.S_drew)); exact HO375.out) (Kd.S_base ho0) hb); replace BK371 := nK BK371 hb; replace HB := nSC hb; try clear hb; (try clear ho0)) | ((with_reducible refine gd 5 rfl ?_); refine bxE 5 #[.slice none 0 0, .int .i64 0] 29 ?_; intro gb382 hg w21 hbox hb; replace HO375 := nS HO375 hb; replace HO380 := nS HO380 hb; have BK382 := Aside0.mk hbox; have GW382 := nGC hg; have GE382 := nGC hg; replace HB := nSC hb; have NB371_382 := nL BK371 hg; have NB382_371 := nH BK371 hg; replace BK371 := nK BK371 hb; clear hb hbox hg; obtain ⟨Ao22, co22, eo22⟩ := Kd.S_slice HO380.out; subst eo22; have hnb23 := NB382_371.out; have hnc23 := NB371_382.out; have hcz24 := cb2 BK382) | ((with_reducible refine gt 16 rfl ?_); refine gL 16 18 Tryd.func16 #[.agg #[.slice Ao22 t378.length co22, .int .i64 t381]] ?_; (with_reducible refine (impl_GoodFs.calls k _ _ t378 t381 t383 _ ?side1 ?side2 A10.out).mono ?_); (case side1 => refine (Kd.S_reads' (e := 53) (base := w.heap.size) (ok := fun k_ => (True ∧ some k_ ≠ (.slice Ao17 t373.length co17 : Value).ownBlock)) (n := t378.length) (c := co22) ?_).2.2; exact (by (with_reducible repeat (first | apply Kd.S_alloc | apply Kd.S_drewN | apply Kd.S_drew)); exact (Kd.S_mono (Kd.S_far (p := ⟨gb382, 1, none⟩) (Kd.S_far (p := ⟨gb382, 0, none⟩) (Kd.S_types HO380.out BK382.out (by decide)) (fun _ hk => hk.2) (.slice Ao22 t378.length co22)) (fun _ hk => hk.2) (.int .i64 t381)) (fun _ h_ => h_.1)))); (case side2 => exact (Kd.S_reads' HO380.out).2.1); rintro e w25 ⟨rfl, hb⟩; refine ⟨_, rfl, ?_⟩; replace HO375 := nSf HO375 BK382 hb; replace HO380 := nSf HO380 BK382 hb; replace BK371 := nF BK371 hb; replace BK382 := nX #[.slice Ao22 t378.length co22, .int .i64 t381] BK382 hb; replace HB := nSC hb; try clear hb))
   go_ret
   exact ⟨sE, sC⟩
  ·rw [if_neg c11] at H
   have c11b0 : (t383 != t377) = false := by simpa using c11
   (try (have c11b1 : decide (t383 = t377) = true := by simpa using c11))
   (try (have c11b2 : (t383 == t377) = true := by simpa using c11))
   clear c11
   obtain ⟨⟨t384, t387⟩, A260, H⟩ := Option.bind_eq_some_iff.mp H
   try dsimp only at H
   replace A260 := Aside0.mk A260; have A26 := A260; clear A260
   obtain ⟨t388, A270, H⟩ := Option.bind_eq_some_iff.mp H
   try dsimp only at H
   replace A270 := Aside0.mk A270; have A27 := A270; clear A270
   by_cases c28 : t388 = true
   ·subst c28
    rw [if_pos rfl] at H
    obtain rfl := Option.some.inj H
    go_enter Tryd.func3, Tryd.ntmps3
    try go_wp2_with (first | ((with_reducible refine gd 1 rfl ?_); refine bxE 1 #[.slice A0_0 l0_0.length c0_0, .int .i64 a0_1] 24 ?_; intro gb371 hg w29 hbox hb; have BK371 := Aside0.mk hbox; have GW371 := nGB hg; have GE371 := nGB hg; replace HB := nSB hb; clear hb hbox hg; have hcz30 := cb2 BK371) | ((with_reducible refine gt 13 rfl ?_); refine gL 13 9 Tryd.func13 #[.agg #[.slice A0_0 l0_0.length c0_0, .int .i64 a0_1], .int .i64 1048576] ?_; (with_reducible refine (laws_szFs.calls k _ _ l0_0 a0_1 1048576 t372 _ ?side1 ?side2 A2.out).mono ?_); (case side1 => exact sD (Kd.C_below HR0_0.out HB.out)); (case side2 => exact HC0_0.out); rintro e w31 ⟨rfl, hb⟩; refine ⟨_, rfl, ?_⟩; replace BK371 := nK BK371 hb; replace HB := nSC hb; try clear hb; have hcz32 := cb2 BK371) | ((with_reducible refine gt 15 rfl ?_); refine gL 15 13 Tryd.func15 #[.agg #[.slice A0_0 l0_0.length c0_0, .int .i64 a0_1]] ?_; (with_reducible refine (laws_toFs.calls k _ _ l0_0 a0_1 t373 t376 _ ?side1 ?side2 A7.out).mono ?_); (case side1 => exact sD (Kd.C_below HR0_0.out HB.out)); (case side2 => exact HC0_0.out); rintro e w33 ⟨v374, rfl, ho0, hb⟩; refine ⟨_, rfl, ?_⟩; have HO375 := Aside0.mk (Kd.S_lower ho0 (below_size sC)); replace BK371 := nK BK371 hb; replace HB := nSC hb; try clear hb; (try clear ho0); obtain ⟨Ao34, co34, eo34⟩ := Kd.S_slice HO375.out; subst eo34) | ((with_reducible refine gt 14 rfl ?_); refine gL 14 14 Tryd.func14 #[.agg #[.slice Ao34 t373.length co34, .int .i64 t376]] ?_; (with_reducible refine (spec_GoodFs.calls k _ _ t373 t376 t377 _ ?side1 ?side2 A8.out).mono ?_); (case side1 => exact sD (Kd.S_reads' HO375.out).2.2); (case side2 => exact (Kd.S_reads' HO375.out).2.1); rintro e w35 ⟨rfl, hb⟩; refine ⟨_, rfl, ?_⟩; replace HO375 := nS HO375 hb; replace BK371 := nK BK371 hb; replace HB := nSC hb; try clear hb; have hcz36 := cb2 BK371) | ((with_reducible refine gt 15 rfl ?_); refine gL 15 16 Tryd.func15 #[.agg #[.slice A0_0 l0_0.length c0_0, .int .i64 a0_1]] ?_; (with_reducible refine (laws_toFs.calls k _ _ l0_0 a0_1 t378 t381 _ ?side1 ?side2 A9.out).mono ?_); (case side1 => exact sD (Kd.C_below HR0_0.out HB.out)); (case side2 => exact HC0_0.out); rintro e w37 ⟨v379, rfl, ho0, hb⟩; refine ⟨_, rfl, ?_⟩; have HO380 := Aside0.mk (Kd.S_lower (Kd.S_new' ho0 (Kd.S_lt (by (with_reducible repeat (first | apply Kd.S_alloc | apply Kd.S_drewN | apply Kd.S_drew)); exact HO375.out))) (below_size sC)); replace HO375 := Aside0.mk (Kd.S_elder' (by (with_reducible repeat (first | apply Kd.S_alloc | apply Kd.S_drewN | apply Kd.S_drew)); exact HO375.out) (Kd.S_base ho0) hb); replace BK371 := nK BK371 hb; replace HB := nSC hb; try clear hb; (try clear ho0)) | ((with_reducible refine gd 5 rfl ?_); refine bxE 5 #[.slice none 0 0, .int .i64 0] 29 ?_; intro gb382 hg w38 hbox hb; replace HO375 := nS HO375 hb; replace HO380 := nS HO380 hb; have BK382 := Aside0.mk hbox; have GW382 := nGC hg; have GE382 := nGC hg; replace HB := nSC hb; have NB371_382 := nL BK371 hg; have NB382_371 := nH BK371 hg; replace BK371 := nK BK371 hb; clear hb hbox hg; obtain ⟨Ao39, co39, eo39⟩ := Kd.S_slice HO380.out; subst eo39; have hnb40 := NB382_371.out; have hnc40 := NB371_382.out; have hcz41 := cb2 BK382) | ((with_reducible refine gt 16 rfl ?_); refine gL 16 18 Tryd.func16 #[.agg #[.slice Ao39 t378.length co39, .int .i64 t381]] ?_; (with_reducible refine (impl_GoodFs.calls k _ _ t378 t381 t383 _ ?side1 ?side2 A10.out).mono ?_); (case side1 => refine (Kd.S_reads' (e := 53) (base := w.heap.size) (ok := fun k_ => (True ∧ some k_ ≠ (.slice Ao34 t373.length co34 : Value).ownBlock)) (n := t378.length) (c := co39) ?_).2.2; exact (by (with_reducible repeat (first | apply Kd.S_alloc | apply Kd.S_drewN | apply Kd.S_drew)); exact (Kd.S_mono (Kd.S_far (p := ⟨gb382, 1, none⟩) (Kd.S_far (p := ⟨gb382, 0, none⟩) (Kd.S_types HO380.out BK382.out (by decide)) (fun _ hk => hk.2) (.slice Ao39 t378.length co39)) (fun _ hk => hk.2) (.int .i64 t381)) (fun _ h_ => h_.1)))); (case side2 => exact (Kd.S_reads' HO380.out).2.1); rintro e w42 ⟨rfl, hb⟩; refine ⟨_, rfl, ?_⟩; replace HO375 := nSf HO375 BK382 hb; replace HO380 := nSf HO380 BK382 hb; replace BK371 := nF BK371 hb; replace BK382 := nX #[.slice Ao39 t378.length co39, .int .i64 t381] BK382 hb; replace HB := nSC hb; try clear hb))
    have n0_ := Aside0.mk (Kd.S_drew HO375.out)
    have n1_ := Aside0.mk (Kd.S_drew HO380.out)
    have n2_ := Aside0.mk (blk_drew BK371.out)
    have n3_ := Aside0.mk (blk_drew BK382.out)
    have n4_ := Aside0.mk (below_drew1 HB.out)
    clear HO375
    clear HO380
    clear BK371
    clear BK382
    clear HB
    have HO375 := n0_
    have HO380 := n1_
    have BK371 := n2_
    have BK382 := n3_
    have HB := n4_
    clear n0_ n1_ n2_ n3_ n4_
    refine st4 5 [] (cz0 BK382) (cz1 BK382) (cz0 BK371) (cz1 BK371) (fun hHeld => ?_)
    generalize w42.drew = w43 at HO375 HO380 BK371 BK382 HB hHeld ⊢
    refine tk4 0 22 ?_
    refine tk4 1 23 ?_
    refine on 2 24 (fun K hK => ?_)
    refine gC Tryd.func15 #[.agg #[.slice A0_0 l0_0.length c0_0, .int .i64 a0_1]] ?_
    with_reducible refine (laws_toFs.calls k _ _ l0_0 a0_1 t384 t387 _ ?side1 ?side2 A26.out).mono ?_
    (case side1 => exact sD (Kd.C_below HR0_0.out HB.out))
    (case side2 => exact HC0_0.out)
    rintro e w44 ⟨v385, rfl, ho0, hb⟩
    refine ⟨_, rfl, ?_⟩
    have n0_ := Aside0.mk (Kd.S_elder' (by (with_reducible repeat (first | apply Kd.S_alloc | apply Kd.S_drewN | apply Kd.S_drew)); exact HO375.out) (Kd.S_base ho0) hb)
    have n1_ := Aside0.mk (Kd.S_elder' (by (with_reducible repeat (first | apply Kd.S_alloc | apply Kd.S_drewN | apply Kd.S_drew)); exact HO380.out) (Kd.S_base ho0) hb)
    have n2_ := Aside0.mk (Kd.S_lower (Kd.S_new' (Kd.S_new' ho0 (Kd.S_lt (by (with_reducible repeat (first | apply Kd.S_alloc | apply Kd.S_drewN | apply Kd.S_drew)); exact HO375.out))) (Kd.S_lt (by (with_reducible repeat (first | apply Kd.S_alloc | apply Kd.S_drewN | apply Kd.S_drew)); exact HO380.out))) (below_size sC))
    have n3_ := nK BK371 hb
    have n4_ := nK BK382 hb
    have n5_ := nSC hb
    clear HO375
    clear HO380
    clear BK371
    clear BK382
    clear HB
    have HO375 := n0_
    have HO380 := n1_
    have HO386 := n2_
    have BK371 := n3_
    have BK382 := n4_
    have HB := n5_
    clear n0_ n1_ n2_ n3_ n4_ n5_
    (try clear hb)
    (try clear hb2)
    (try clear hk)
    (try clear hi)
    (try clear ho0)
    obtain ⟨Ao45, co45, eo45⟩ := Kd.S_slice HO386.out
    (first | subst eo45 | (injection eo45 with f1_ f2_ f3_; have f4_ := f1_.symm; have f5_ := f3_.symm; clear f1_ f2_ f3_; subst f4_; subst f5_))
    refine hK.out _ _ ⟨cz0 BK382, cz1 BK382, cz0 BK371, cz1 BK371⟩ (fun hHeld => ?_)
    clear hK K
    refine nm ?_
    refine on 3 25 (fun K hK => ?_)
    refine gC Tryd.func17 #[.agg #[.slice Ao39 t378.length co39, .int .i64 t381], .agg #[.slice Ao45 t384.length co45, .int .i64 t387]] ?_
    with_reducible refine (laws_eqFs.calls k _ _ t378 t381 _ _ t384 t387 true _ ?side1 ?side2 ?side3 ?side4 A27.out).mono ?_
    (case side1 => exact sD (Kd.S_reads' HO380.out).2.2)
    (case side2 => exact (Kd.S_reads' HO380.out).2.1)
    (case side3 => exact sD (Kd.S_reads' HO386.out).2.2)
    (case side4 => exact (Kd.S_reads' HO386.out).2.1)
    rintro e w46 ⟨rfl, hb⟩
    refine ⟨_, rfl, ?_⟩
    have n0_ := nS HO375 hb
    have n1_ := nS HO380 hb
    have n2_ := nS HO386 hb
    have n3_ := nK BK371 hb
    have n4_ := nK BK382 hb
    have n5_ := nSC hb
    clear HO375
    clear HO380
    clear HO386
    clear BK371
    clear BK382
    clear HB
    have HO375 := n0_
    have HO380 := n1_
    have HO386 := n2_
    have BK371 := n3_
    have BK382 := n4_
    have HB := n5_
    clear n0_ n1_ n2_ n3_ n4_ n5_
    (try clear hb)
    (try clear hb2)
    (try clear hk)
    (try clear hi)
    refine hK.out _ _ ⟨cz0 BK382, cz1 BK382, cz0 BK371, cz1 BK371⟩ (fun hHeld => ?_)
    clear hK K
    refine nm ?_
    refine pu 4 26 ?_
    refine dn ?_
    try go_wp2
    go_ret
    exact ⟨sE, sC⟩
   ·replace c28 := Bool.eq_false_iff.mpr c28
    subst c28
    rw [if_neg (show ¬ (false = true) by decide)] at H
    obtain rfl := Option.some.inj H
    go_enter Tryd.func3, Tryd.ntmps3
    try go_wp2_with (first | ((with_reducible refine gd 1 rfl ?_); refine bxE 1 #[.slice A0_0 l0_0.length c0_0, .int .i64 a0_1] 24 ?_; intro gb371 hg w47 hbox hb; have BK371 := Aside0.mk hbox; have GW371 := nGB hg; have GE371 := nGB hg; replace HB := nSB hb; clear hb hbox hg; have hcz48 := cb2 BK371) | ((with_reducible refine gt 13 rfl ?_); refine gL 13 9 Tryd.func13 #[.agg #[.slice A0_0 l0_0.length c0_0, .int .i64 a0_1], .int .i64 1048576] ?_; (with_reducible refine (laws_szFs.calls k _ _ l0_0 a0_1 1048576 t372 _ ?side1 ?side2 A2.out).mono ?_); (case side1 => exact sD (Kd.C_below HR0_0.out HB.out)); (case side2 => exact HC0_0.out); rintro e w49 ⟨rfl, hb⟩; refine ⟨_, rfl, ?_⟩; replace BK371 := nK BK371 hb; replace HB := nSC hb; try clear hb; have hcz50 := cb2 BK371) | ((with_reducible refine gt 15 rfl ?_); refine gL 15 13 Tryd.func15 #[.agg #[.slice A0_0 l0_0.length c0_0, .int .i64 a0_1]] ?_; (with_reducible refine (laws_toFs.calls k _ _ l0_0 a0_1 t373 t376 _ ?side1 ?side2 A7.out).mono ?_); (case side1 => exact sD (Kd.C_below HR0_0.out HB.out)); (case side2 => exact HC0_0.out); rintro e w51 ⟨v374, rfl, ho0, hb⟩; refine ⟨_, rfl, ?_⟩; have HO375 := Aside0.mk (Kd.S_lower ho0 (below_size sC)); replace BK371 := nK BK371 hb; replace HB := nSC hb; try clear hb; (try clear ho0); obtain ⟨Ao52, co52, eo52⟩ := Kd.S_slice HO375.out; subst eo52) | ((with_reducible refine gt 14 rfl ?_); refine gL 14 14 Tryd.func14 #[.agg #[.slice Ao52 t373.length co52, .int .i64 t376]] ?_; (with_reducible refine (spec_GoodFs.calls k _ _ t373 t376 t377 _ ?side1 ?side2 A8.out).mono ?_); (case side1 => exact sD (Kd.S_reads' HO375.out).2.2); (case side2 => exact (Kd.S_reads' HO375.out).2.1); rintro e w53 ⟨rfl, hb⟩; refine ⟨_, rfl, ?_⟩; replace HO375 := nS HO375 hb; replace BK371 := nK BK371 hb; replace HB := nSC hb; try clear hb; have hcz54 := cb2 BK371) | ((with_reducible refine gt 15 rfl ?_); refine gL 15 16 Tryd.func15 #[.agg #[.slice A0_0 l0_0.length c0_0, .int .i64 a0_1]] ?_; (with_reducible refine (laws_toFs.calls k _ _ l0_0 a0_1 t378 t381 _ ?side1 ?side2 A9.out).mono ?_); (case side1 => exact sD (Kd.C_below HR0_0.out HB.out)); (case side2 => exact HC0_0.out); rintro e w55 ⟨v379, rfl, ho0, hb⟩; refine ⟨_, rfl, ?_⟩; have HO380 := Aside0.mk (Kd.S_lower (Kd.S_new' ho0 (Kd.S_lt (by (with_reducible repeat (first | apply Kd.S_alloc | apply Kd.S_drewN | apply Kd.S_drew)); exact HO375.out))) (below_size sC)); replace HO375 := Aside0.mk (Kd.S_elder' (by (with_reducible repeat (first | apply Kd.S_alloc | apply Kd.S_drewN | apply Kd.S_drew)); exact HO375.out) (Kd.S_base ho0) hb); replace BK371 := nK BK371 hb; replace HB := nSC hb; try clear hb; (try clear ho0)) | ((with_reducible refine gd 5 rfl ?_); refine bxE 5 #[.slice none 0 0, .int .i64 0] 29 ?_; intro gb382 hg w56 hbox hb; replace HO375 := nS HO375 hb; replace HO380 := nS HO380 hb; have BK382 := Aside0.mk hbox; have GW382 := nGC hg; have GE382 := nGC hg; replace HB := nSC hb; have NB371_382 := nL BK371 hg; have NB382_371 := nH BK371 hg; replace BK371 := nK BK371 hb; clear hb hbox hg; obtain ⟨Ao57, co57, eo57⟩ := Kd.S_slice HO380.out; subst eo57; have hnb58 := NB382_371.out; have hnc58 := NB371_382.out; have hcz59 := cb2 BK382) | ((with_reducible refine gt 16 rfl ?_); refine gL 16 18 Tryd.func16 #[.agg #[.slice Ao57 t378.length co57, .int .i64 t381]] ?_; (with_reducible refine (impl_GoodFs.calls k _ _ t378 t381 t383 _ ?side1 ?side2 A10.out).mono ?_); (case side1 => refine (Kd.S_reads' (e := 53) (base := w.heap.size) (ok := fun k_ => (True ∧ some k_ ≠ (.slice Ao52 t373.length co52 : Value).ownBlock)) (n := t378.length) (c := co57) ?_).2.2; exact (by (with_reducible repeat (first | apply Kd.S_alloc | apply Kd.S_drewN | apply Kd.S_drew)); exact (Kd.S_mono (Kd.S_far (p := ⟨gb382, 1, none⟩) (Kd.S_far (p := ⟨gb382, 0, none⟩) (Kd.S_types HO380.out BK382.out (by decide)) (fun _ hk => hk.2) (.slice Ao57 t378.length co57)) (fun _ hk => hk.2) (.int .i64 t381)) (fun _ h_ => h_.1)))); (case side2 => exact (Kd.S_reads' HO380.out).2.1); rintro e w60 ⟨rfl, hb⟩; refine ⟨_, rfl, ?_⟩; replace HO375 := nSf HO375 BK382 hb; replace HO380 := nSf HO380 BK382 hb; replace BK371 := nF BK371 hb; replace BK382 := nX #[.slice Ao57 t378.length co57, .int .i64 t381] BK382 hb; replace HB := nSC hb; try clear hb))
    have n0_ := Aside0.mk (Kd.S_drew HO375.out)
    have n1_ := Aside0.mk (Kd.S_drew HO380.out)
    have n2_ := Aside0.mk (blk_drew BK371.out)
    have n3_ := Aside0.mk (blk_drew BK382.out)
    have n4_ := Aside0.mk (below_drew1 HB.out)
    clear HO375
    clear HO380
    clear BK371
    clear BK382
    clear HB
    have HO375 := n0_
    have HO380 := n1_
    have BK371 := n2_
    have BK382 := n3_
    have HB := n4_
    clear n0_ n1_ n2_ n3_ n4_
    refine st4 5 [] (cz0 BK382) (cz1 BK382) (cz0 BK371) (cz1 BK371) (fun hHeld => ?_)
    generalize w60.drew = w61 at HO375 HO380 BK371 BK382 HB hHeld ⊢
    refine tk4 0 22 ?_
    refine tk4 1 23 ?_
    refine on 2 24 (fun K hK => ?_)
    refine gC Tryd.func15 #[.agg #[.slice A0_0 l0_0.length c0_0, .int .i64 a0_1]] ?_
    with_reducible refine (laws_toFs.calls k _ _ l0_0 a0_1 t384 t387 _ ?side1 ?side2 A26.out).mono ?_
    (case side1 => exact sD (Kd.C_below HR0_0.out HB.out))
    (case side2 => exact HC0_0.out)
    rintro e w62 ⟨v385, rfl, ho0, hb⟩
    refine ⟨_, rfl, ?_⟩
    have n0_ := Aside0.mk (Kd.S_elder' (by (with_reducible repeat (first | apply Kd.S_alloc | apply Kd.S_drewN | apply Kd.S_drew)); exact HO375.out) (Kd.S_base ho0) hb)
    have n1_ := Aside0.mk (Kd.S_elder' (by (with_reducible repeat (first | apply Kd.S_alloc | apply Kd.S_drewN | apply Kd.S_drew)); exact HO380.out) (Kd.S_base ho0) hb)
    have n2_ := Aside0.mk (Kd.S_lower (Kd.S_new' (Kd.S_new' ho0 (Kd.S_lt (by (with_reducible repeat (first | apply Kd.S_alloc | apply Kd.S_drewN | apply Kd.S_drew)); exact HO375.out))) (Kd.S_lt (by (with_reducible repeat (first | apply Kd.S_alloc | apply Kd.S_drewN | apply Kd.S_drew)); exact HO380.out))) (below_size sC))
    have n3_ := nK BK371 hb
    have n4_ := nK BK382 hb
    have n5_ := nSC hb
    clear HO375
    clear HO380
    clear BK371
    clear BK382
    clear HB
    have HO375 := n0_
    have HO380 := n1_
    have HO386 := n2_
    have BK371 := n3_
    have BK382 := n4_
    have HB := n5_
    clear n0_ n1_ n2_ n3_ n4_ n5_
    (try clear hb)
    (try clear hb2)
    (try clear hk)
    (try clear hi)
    (try clear ho0)
    obtain ⟨Ao63, co63, eo63⟩ := Kd.S_slice HO386.out
    (first | subst eo63 | (injection eo63 with f1_ f2_ f3_; have f4_ := f1_.symm; have f5_ := f3_.symm; clear f1_ f2_ f3_; subst f4_; subst f5_))
    refine hK.out _ _ ⟨cz0 BK382, cz1 BK382, cz0 BK371, cz1 BK371⟩ (fun hHeld => ?_)
    clear hK K
    refine nm ?_
    refine on 3 25 (fun K hK => ?_)
    refine gC Tryd.func17 #[.agg #[.slice Ao57 t378.length co57, .int .i64 t381], .agg #[.slice Ao63 t384.length co63, .int .i64 t387]] ?_
    with_reducible refine (laws_eqFs.calls k _ _ t378 t381 _ _ t384 t387 false _ ?side1 ?side2 ?side3 ?side4 A27.out).mono ?_
    (case side1 => exact sD (Kd.S_reads' HO380.out).2.2)
    (case side2 => exact (Kd.S_reads' HO380.out).2.1)
    (case side3 => exact sD (Kd.S_reads' HO386.out).2.2)
    (case side4 => exact (Kd.S_reads' HO386.out).2.1)
    rintro e w64 ⟨rfl, hb⟩
    refine ⟨_, rfl, ?_⟩
    have n0_ := nS HO375 hb
    have n1_ := nS HO380 hb
    have n2_ := nS HO386 hb
    have n3_ := nK BK371 hb
    have n4_ := nK BK382 hb
    have n5_ := nSC hb
    clear HO375
    clear HO380
    clear HO386
    clear BK371
    clear BK382
    clear HB
    have HO375 := n0_
    have HO380 := n1_
    have HO386 := n2_
    have BK371 := n3_
    have BK382 := n4_
    have HB := n5_
    clear n0_ n1_ n2_ n3_ n4_ n5_
    (try clear hb)
    (try clear hb2)
    (try clear hk)
    (try clear hi)
    refine hK.out _ _ ⟨cz0 BK382, cz1 BK382, cz0 BK371, cz1 BK371⟩ (fun hHeld => ?_)
    clear hK K
    refine nm ?_
    refine pu 4 26 ?_
    refine dn ?_
    try go_wp2
    go_ret
    exact ⟨sE, sC⟩

/-- The one pure statement of laws_FnExactGoodFs. -/
def laws_FnExactGoodFs.Pure : Prop := ∀ (l0_0 : List (S82)) (a0_1 : Int), (l0_0.length ≤ 9223372036854775807 ∧ ∀ e1_ ∈ l0_0, ((Lit.int .i64 e1_.f0).wf = true ∧ ((Lit.int .i64 e1_.f1).wf = true ∧ ((Lit.int .i64 e1_.f2).wf = true ∧ ((Lit.int .i64 e1_.f3).wf = true ∧ ((Lit.int .i64 e1_.f4).wf = true ∧ (e1_.f5.size ≤ 9223372036854775807 ∧ (e1_.f6.length ≤ 9223372036854775807 ∧ ∀ e2_ ∈ e1_.f6, (e2_.f0.size ≤ 9223372036854775807 ∧ (Lit.int .i64 e2_.f1).wf = true))))))))) → (Lit.int .i64 a0_1).wf = true → ∃ k, laws_FnExactGoodFs.f k l0_0 a0_1 = some true

end Go.Proofs.YteffcglgdfhkmaaDoor.PFs
