-- Written by a program of this session (wip/print2) out of the translation. Lean checks it.
import Derived.Test.YteffcglgdfhkmaaDoorPWkx0
namespace Go.Proofs.YteffcglgdfhkmaaDoor.PWk
open Go.RowKit Go.Proofs.YteffcglgdfhkmaaDoorW.PrintWords Go.Proofs.YteffcglgdfhkmaaDoorW.PrintLast Go.Proofs.YteffcglgdfhkmaaDoorW.PrintMore
attribute [local go_sem] max2_int min2_int max_two min_two max_three min_three max_four min_four   -- for this text's walks alone
set_option linter.unusedVariables false
set_option linter.unusedSimpArgs false
set_option maxHeartbeats 8000000
set_option maxRecDepth 100000

/-! ### laws_eqEntry: function 121 -/
def laws_eqEntry.f (a0_0 : ByteArray) (a0_1 : Int) (a1_0 : ByteArray) (a1_1 : Int) : Option (Bool) := if a0_0.toList = a1_0.toList then (if a0_1 = a1_1 then (some true) else (some false)) else (some false)
theorem laws_eqEntry.calls (a0_0 : ByteArray) (a0_1 : Int) (a1_0 : ByteArray) (a1_1 : Int) (r : Bool) (w : World) (h : laws_eqEntry.f a0_0 a0_1 a1_0 a1_1 = some r) :
  Calls Tryd.prog 121 #[.agg #[.string a0_0, .int .i64 a0_1], .agg #[.string a1_0, .int .i64 a1_1]] w fun e w' => e = .returned (.bool r) ∧ Below w.heap.size w w' := by
 have hu60 := Tryd.underlying60
 have HB := Aside0.mk (Below.refl w.heap.size w)
 have H : (if a0_0.toList = a1_0.toList then (if a0_1 = a1_1 then (some true) else (some false)) else (some false)) = some r := h
 clear h
 by_cases c3 : a0_0.toList = a1_0.toList
 ·rw [if_pos c3] at H
  have c3b0 := beq_iff_eq.mpr c3
  have c3b1 := bne_eq_false_iff_eq.mpr c3
  clear c3
  by_cases c4 : a0_1 = a1_1
  ·rw [if_pos c4] at H
   have c4b0 := beq_iff_eq.mpr c4
   have c4b1 := bne_eq_false_iff_eq.mpr c4
   clear c4
   obtain rfl := Option.some.inj H
   go_enter Tryd.func121, Tryd.ntmps121
   go_wp2_with (first | ((with_reducible refine gd 2 rfl ?_); refine bxE 2 #[.string a0_0, .int .i64 a0_1] 60 ?_; intro gb357 hg w5 hbox hb; have BK357 := Aside0.mk hbox; have GW357 := nGB hg; have GE357 := nGB hg; replace HB := nSB hb; clear hb hbox hg) | ((with_reducible refine gd 3 rfl ?_); refine bxE 3 #[.string a1_0, .int .i64 a1_1] 60 ?_; intro gb358 hg w6 hbox hb; have BK358 := Aside0.mk hbox; have GW358 := nGC hg; have GE358 := nGC hg; replace HB := nSC hb; have NB357_358 := nL BK357 hg; have NB358_357 := nH BK357 hg; replace BK357 := nK BK357 hb; clear hb hbox hg; have hnb7 := NB357_358.out; have hnc7 := NB358_357.out; have hcz8 := cb2 BK357; have hcz9 := cb2 BK358))
   go_ret
   exact ⟨sE, sC⟩
  ·rw [if_neg c4] at H
   have c4b0 := beq_eq_false_iff_ne.mpr c4
   have c4b1 := bne_iff_ne.mpr c4
   obtain rfl := Option.some.inj H
   go_enter Tryd.func121, Tryd.ntmps121
   go_wp2_with (first | ((with_reducible refine gd 2 rfl ?_); refine bxE 2 #[.string a0_0, .int .i64 a0_1] 60 ?_; intro gb357 hg w10 hbox hb; have BK357 := Aside0.mk hbox; have GW357 := nGB hg; have GE357 := nGB hg; replace HB := nSB hb; clear hb hbox hg) | ((with_reducible refine gd 3 rfl ?_); refine bxE 3 #[.string a1_0, .int .i64 a1_1] 60 ?_; intro gb358 hg w11 hbox hb; have BK358 := Aside0.mk hbox; have GW358 := nGC hg; have GE358 := nGC hg; replace HB := nSC hb; have NB357_358 := nL BK357 hg; have NB358_357 := nH BK357 hg; replace BK357 := nK BK357 hb; clear hb hbox hg; have hnb12 := NB357_358.out; have hnc12 := NB358_357.out; have hcz13 := cb2 BK357; have hcz14 := cb2 BK358))
   go_ret
   exact ⟨sE, sC⟩
 ·rw [if_neg c3] at H
  have c3b0 := beq_eq_false_iff_ne.mpr c3
  have c3b1 := bne_iff_ne.mpr c3
  obtain rfl := Option.some.inj H
  go_enter Tryd.func121, Tryd.ntmps121
  go_wp2_with (first | ((with_reducible refine gd 2 rfl ?_); refine bxE 2 #[.string a0_0, .int .i64 a0_1] 60 ?_; intro gb357 hg w15 hbox hb; have BK357 := Aside0.mk hbox; have GW357 := nGB hg; have GE357 := nGB hg; replace HB := nSB hb; clear hb hbox hg) | ((with_reducible refine gd 3 rfl ?_); refine bxE 3 #[.string a1_0, .int .i64 a1_1] 60 ?_; intro gb358 hg w16 hbox hb; have BK358 := Aside0.mk hbox; have GW358 := nGC hg; have GE358 := nGC hg; replace HB := nSC hb; have NB357_358 := nL BK357 hg; have NB358_357 := nH BK357 hg; replace BK357 := nK BK357 hb; clear hb hbox hg; have hnb17 := NB357_358.out; have hnc17 := NB358_357.out; have hcz18 := cb2 BK357; have hcz19 := cb2 BK358))
  go_ret
  exact ⟨sE, sC⟩

/-! ### laws_eqEntryS: function 107 -/
def laws_eqEntryS.l0 : Nat → List (S60) → List (S60) → Int → Option (Bool)
 | 0, _, _, _ => none
 | k + 1, x0, x1, x5 => if x5 < (x0.length : Int) then (if 0 ≤ x5 then (if x5 < (x1.length : Int) then ((laws_eqEntry.f ((rd_T60 x0 x5).f0) ((rd_T60 x0 x5).f1) ((rd_T60 x1 x5).f0) ((rd_T60 x1 x5).f1)).bind fun t361 => (if t361 = true then (laws_eqEntryS.l0 k x0 x1 (wrap64 (x5 + 1))) else (some false))) else (none)) else (none)) else (some true)
def laws_eqEntryS.f (k : Nat) (l0 : List (S60)) (l1 : List (S60)) : Option (Bool) := if (l0.length : Int) = (l1.length : Int) then (laws_eqEntryS.l0 k l0 l1 0) else (some false)
def laws_eqEntryS.T6 : Bool × List (List Nat × List Nat) := (true, [([], []), ([], []), ([0, 1], [0, 1]), ([2], [2]), ([], []), ([], []), ([4, 5], [4, 5]), ([6], [6]), ([3, 7], [3, 7]), ([8], [8])])
def laws_eqEntryS.B6 : List Nat := [0, 0, 3, 7, 0, 0, 48, 112, 255, 511]
theorem laws_eqEntryS.tab6 : rtab .any (opsOf Tryd.f107 6) = laws_eqEntryS.T6 := by kernel_rfl
theorem laws_eqEntryS.bits6 : waitsOk laws_eqEntryS.T6.2 laws_eqEntryS.B6 = true := by kernel_rfl
theorem laws_eqEntryS.calls (k : Nat) (A0 : Option Addr) (c0 : Nat) (l0 : List (S60)) (A1 : Option Addr) (c1 : Nat) (l1 : List (S60)) (r : Bool) (w : World) (hr0 : Kd.C k60 w A0 l0.length l0) (hc0 : l0.length ≤ c0) (hr1 : Kd.C k60 w A1 l1.length l1) (hc1 : l1.length ≤ c1) (h : laws_eqEntryS.f k l0 l1 = some r) :
  Calls Tryd.prog 107 #[.slice A0 l0.length c0, .slice A1 l1.length c1] w fun e w' => e = .returned (.bool r) ∧ Below w.heap.size w w' := by
 have hu60 := Tryd.underlying60
 have HR0 := Aside0.mk hr0
 have HC0 := Aside0.mk hc0
 clear hr0 hc0
 have HR1 := Aside0.mk hr1
 have HC1 := Aside0.mk hc1
 clear hr1 hc1
 have HB := Aside0.mk (Below.refl w.heap.size w)
 have H : (if (l0.length : Int) = (l1.length : Int) then (laws_eqEntryS.l0 k l0 l1 0) else (some false)) = some r := h
 clear h
 by_cases c3 : (l0.length : Int) = (l1.length : Int)
 ·rw [if_pos c3] at H
  have c3b0 := beq_iff_eq.mpr c3
  have c3b1 := bne_eq_false_iff_eq.mpr c3
  have c3b2 : (l0.length == l1.length) = true := by first | simpa using c3 | (simp at c3 ⊢; omega)
  clear c3
  have H' := Aside0.mk H
  clear H
  go_enter Tryd.func107, Tryd.ntmps107
  go_wp2
  go_loopg [5] k (fun kq v5 w' => ∃ (x5_1 : Int), v5 = .int .i64 x5_1 ∧ Aside0 (laws_eqEntryS.l0 kq l0 l1 x5_1 = some r) ∧ Aside0 (kq ≤ k) ∧ Aside0 (Below w.heap.size w w'))
  case atStart => exact ⟨(0), sR, H', ⟨Nat.le_refl _⟩, ⟨sB⟩⟩
  case round =>
   clear H'
   try clear c1
   try clear p2
   try clear c3
   try clear c3b0
   try clear c3b1
   try clear c3b2
   obtain ⟨x5_1, rfl, HA, HK1, HB⟩ := hrel
   cases gk with
   | zero => exact absurd HA.out (by simp [laws_eqEntryS.l0])
   | succ k1 =>
    have H := HA.out
    clear HA
    simp only [laws_eqEntryS.l0] at H
    by_cases c4 : x5_1 < (l0.length : Int)
    ·rw [if_pos c4] at H
     have c4b0 := decide_eq_true c4
     clear c4
     obtain ⟨c5, H⟩ := iN H
     have c5b0 := decide_eq_true c5
     clear c5
     obtain ⟨c6, H⟩ := iN H
     have c6b0 := decide_eq_true c6
     clear c6
     obtain ⟨t361, A7, H⟩ := bS H
     try dsimp only at H
     by_cases c8 : t361 = true
     ·subst c8
      rw [if_pos rfl] at H
      have H' := Aside0.mk H
      clear H
      try go_wp2
      have n0_ := Aside0.mk (below_drew1 HB.out)
      clear HB
      have HB := n0_
      clear n0_
      have p359 : 0 ≤ (x5_1 : Int) := sO
      have q359 : x5_1 < (l0.length : Int) := sO
      obtain ⟨ad359, e359, hx359_0, hx359_1⟩ := at_T60 HR0.out x5_1 p359 q359
      have hw359_1 := hx359_1
      have hw359_0 := hx359_0
      cases e359
      replace hx359_0 := hB HB hx359_0
      replace hx359_1 := hB HB hx359_1
      replace p359 := eq_true p359
      replace q359 := eq_true q359
      have p360 : 0 ≤ (x5_1 : Int) := sO
      have q360 : x5_1 < (l1.length : Int) := sO
      obtain ⟨ad360, e360, hx360_0, hx360_1⟩ := at_T60 HR1.out x5_1 p360 q360
      have hw360_1 := hx360_1
      have hw360_0 := hx360_0
      cases e360
      replace hx360_0 := hB HB hx360_0
      replace hx360_1 := hB HB hx360_1
      replace p360 := eq_true p360
      replace q360 := eq_true q360
      refine st4 10 [] (hB HB hw359_0 :) (hB HB hw359_1 :) (hB HB hw360_0 :) (hB HB hw360_1 :) (fun hHeld => ?_); refine with_tabW laws_eqEntryS.tab6 laws_eqEntryS.bits6 (fun HT_ HW_ => ?_)
      generalize wr.drew = w9 at HB hx359_0 hx359_1 hx360_0 hx360_1 hHeld ⊢
      refine pu 0 17 ?_
      refine pu 1 18 ?_
      refine pu 2 19 ?_
      refine pu 4 21 ?_
      refine pu 5 22 ?_
      refine pu 6 23 ?_
      refine tk4 3 20 ?_
      refine tk4 7 24 ?_
      refine on 8 25 (fun K hK => ?_)
      refine gC Tryd.func121 #[.agg #[.string ((rd_T60 l0 x5_1).f0), .int .i64 ((rd_T60 l0 x5_1).f1)], .agg #[.string ((rd_T60 l1 x5_1).f0), .int .i64 ((rd_T60 l1 x5_1).f1)]] ?_
      with_reducible refine (laws_eqEntry.calls ((rd_T60 l0 x5_1).f0) ((rd_T60 l0 x5_1).f1) ((rd_T60 l1 x5_1).f0) ((rd_T60 l1 x5_1).f1) true _ A7.out).mono ?_
      rintro e w10 ⟨rfl, hb⟩
      refine ⟨_, rfl, ?_⟩
      have n0_ := nSB hb
      clear HB
      have HB := n0_
      clear n0_
      (try clear hb)
      (try clear hb2)
      (try clear hk)
      (try clear hi)
      refine hK.out _ _ ⟨(hB HB hw359_0 :), (hB HB hw359_1 :), (hB HB hw360_0 :), (hB HB hw360_1 :)⟩ (fun hHeld => ?_)
      clear hK K
      refine nm ?_
      refine pu 9 26 ?_
      refine dn ?_
      try go_wp2
      go_roundg k1
      case measure => have := HK1.out; omega
      case rel => exact ⟨(wrap64 (x5_1 + 1)), sR, H', ⟨by have := HK1.out; omega⟩, ⟨sB⟩⟩
     ·replace c8 := Bool.eq_false_iff.mpr c8
      subst c8
      rw [if_neg (show ¬ (false = true) by decide)] at H
      obtain rfl := Option.some.inj H
      try go_wp2
      have n0_ := Aside0.mk (below_drew1 HB.out)
      clear HB
      have HB := n0_
      clear n0_
      have p359 : 0 ≤ (x5_1 : Int) := sO
      have q359 : x5_1 < (l0.length : Int) := sO
      obtain ⟨ad359, e359, hx359_0, hx359_1⟩ := at_T60 HR0.out x5_1 p359 q359
      have hw359_1 := hx359_1
      have hw359_0 := hx359_0
      cases e359
      replace hx359_0 := hB HB hx359_0
      replace hx359_1 := hB HB hx359_1
      replace p359 := eq_true p359
      replace q359 := eq_true q359
      have p360 : 0 ≤ (x5_1 : Int) := sO
      have q360 : x5_1 < (l1.length : Int) := sO
      obtain ⟨ad360, e360, hx360_0, hx360_1⟩ := at_T60 HR1.out x5_1 p360 q360
      have hw360_1 := hx360_1
      have hw360_0 := hx360_0
      cases e360
      replace hx360_0 := hB HB hx360_0
      replace hx360_1 := hB HB hx360_1
      replace p360 := eq_true p360
      replace q360 := eq_true q360
      refine st4 10 [] (hB HB hw359_0 :) (hB HB hw359_1 :) (hB HB hw360_0 :) (hB HB hw360_1 :) (fun hHeld => ?_); refine with_tabW laws_eqEntryS.tab6 laws_eqEntryS.bits6 (fun HT_ HW_ => ?_)
      generalize wr.drew = w11 at HB hx359_0 hx359_1 hx360_0 hx360_1 hHeld ⊢
      refine pu 0 17 ?_
      refine pu 1 18 ?_
      refine pu 2 19 ?_
      refine pu 4 21 ?_
      refine pu 5 22 ?_
      refine pu 6 23 ?_
      refine tk4 3 20 ?_
      refine tk4 7 24 ?_
      refine on 8 25 (fun K hK => ?_)
      refine gC Tryd.func121 #[.agg #[.string ((rd_T60 l0 x5_1).f0), .int .i64 ((rd_T60 l0 x5_1).f1)], .agg #[.string ((rd_T60 l1 x5_1).f0), .int .i64 ((rd_T60 l1 x5_1).f1)]] ?_
      with_reducible refine (laws_eqEntry.calls ((rd_T60 l0 x5_1).f0) ((rd_T60 l0 x5_1).f1) ((rd_T60 l1 x5_1).f0) ((rd_T60 l1 x5_1).f1) false _ A7.out).mono ?_
      rintro e w12 ⟨rfl, hb⟩
      refine ⟨_, rfl, ?_⟩
      have n0_ := nSB hb
      clear HB
      have HB := n0_
      clear n0_
      (try clear hb)
      (try clear hb2)
      (try clear hk)
      (try clear hi)
      refine hK.out _ _ ⟨(hB HB hw359_0 :), (hB HB hw359_1 :), (hB HB hw360_0 :), (hB HB hw360_1 :)⟩ (fun hHeld => ?_)
      clear hK K
      refine nm ?_
      refine pu 9 26 ?_
      refine dn ?_
      try go_wp2
      go_ret
      exact ⟨sE, sB⟩
    ·rw [if_neg c4] at H
     have c4b0 := decide_eq_false c4
     clear c4
     obtain rfl := Option.some.inj H
     go_wp2
     go_ret
     exact ⟨sE, sB⟩
 ·rw [if_neg c3] at H
  have c3b0 := beq_eq_false_iff_ne.mpr c3
  have c3b1 := bne_iff_ne.mpr c3
  have c3b2 : (l0.length == l1.length) = false := by first | simpa using c3 | (simp at c3 ⊢; omega)
  obtain rfl := Option.some.inj H
  go_enter Tryd.func107, Tryd.ntmps107
  go_wp2
  go_ret
  exact ⟨sE, sB⟩

/-! ### laws_eqNode: function 84 -/
def laws_eqNode.f (k : Nat) (a0_0 : Int) (a0_1 : Int) (a0_2 : Int) (a0_3 : Int) (a0_4 : Int) (a0_5 : ByteArray) (l0_6 : List (S60)) (a1_0 : Int) (a1_1 : Int) (a1_2 : Int) (a1_3 : Int) (a1_4 : Int) (a1_5 : ByteArray) (l1_6 : List (S60)) : Option (Bool) := if a0_0 = a1_0 then (if a0_1 = a1_1 then (if a0_2 = a1_2 then (if a0_3 = a1_3 then (if a0_4 = a1_4 then (if a0_5.toList = a1_5.toList then ((laws_eqEntryS.f k l0_6 l1_6).bind fun t364 => (if t364 = true then (some true) else (some false))) else (some false)) else (some false)) else (some false)) else (some false)) else (some false)) else (some false)
theorem laws_eqNode.calls (k : Nat) (a0_0 : Int) (a0_1 : Int) (a0_2 : Int) (a0_3 : Int) (a0_4 : Int) (a0_5 : ByteArray) (A0_6 : Option Addr) (c0_6 : Nat) (l0_6 : List (S60)) (a1_0 : Int) (a1_1 : Int) (a1_2 : Int) (a1_3 : Int) (a1_4 : Int) (a1_5 : ByteArray) (A1_6 : Option Addr) (c1_6 : Nat) (l1_6 : List (S60)) (r : Bool) (w : World) (hr0_6 : Kd.C k60 w A0_6 l0_6.length l0_6) (hc0_6 : l0_6.length ≤ c0_6) (hr1_6 : Kd.C k60 w A1_6 l1_6.length l1_6) (hc1_6 : l1_6.length ≤ c1_6) (h : laws_eqNode.f k a0_0 a0_1 a0_2 a0_3 a0_4 a0_5 l0_6 a1_0 a1_1 a1_2 a1_3 a1_4 a1_5 l1_6 = some r) :
  Calls Tryd.prog 84 #[.agg #[.int .i64 a0_0, .int .i64 a0_1, .int .i64 a0_2, .int .i64 a0_3, .int .i64 a0_4, .string a0_5, .slice A0_6 l0_6.length c0_6], .agg #[.int .i64 a1_0, .int .i64 a1_1, .int .i64 a1_2, .int .i64 a1_3, .int .i64 a1_4, .string a1_5, .slice A1_6 l1_6.length c1_6]] w fun e w' => e = .returned (.bool r) ∧ Below w.heap.size w w' := by
 have hu53 := Tryd.underlying53
 have HR0_6 := Aside0.mk hr0_6
 have HC0_6 := Aside0.mk hc0_6
 clear hr0_6 hc0_6
 have HR1_6 := Aside0.mk hr1_6
 have HC1_6 := Aside0.mk hc1_6
 clear hr1_6 hc1_6
 have HB := Aside0.mk (Below.refl w.heap.size w)
 have H : (if a0_0 = a1_0 then (if a0_1 = a1_1 then (if a0_2 = a1_2 then (if a0_3 = a1_3 then (if a0_4 = a1_4 then (if a0_5.toList = a1_5.toList then ((laws_eqEntryS.f k l0_6 l1_6).bind fun t364 => (if t364 = true then (some true) else (some false))) else (some false)) else (some false)) else (some false)) else (some false)) else (some false)) else (some false)) = some r := h
 clear h
 by_cases c3 : a0_0 = a1_0
 ·rw [if_pos c3] at H
  have c3b0 := beq_iff_eq.mpr c3
  have c3b1 := bne_eq_false_iff_eq.mpr c3
  clear c3
  by_cases c4 : a0_1 = a1_1
  ·rw [if_pos c4] at H
   have c4b0 := beq_iff_eq.mpr c4
   have c4b1 := bne_eq_false_iff_eq.mpr c4
   clear c4
   by_cases c5 : a0_2 = a1_2
   ·rw [if_pos c5] at H
    have c5b0 := beq_iff_eq.mpr c5
    have c5b1 := bne_eq_false_iff_eq.mpr c5
    clear c5
    by_cases c6 : a0_3 = a1_3
    ·rw [if_pos c6] at H
     have c6b0 := beq_iff_eq.mpr c6
     have c6b1 := bne_eq_false_iff_eq.mpr c6
     clear c6
     by_cases c7 : a0_4 = a1_4
     ·rw [if_pos c7] at H
      have c7b0 := beq_iff_eq.mpr c7
      have c7b1 := bne_eq_false_iff_eq.mpr c7
      clear c7
      by_cases c8 : a0_5.toList = a1_5.toList
      ·rw [if_pos c8] at H
       have c8b0 := beq_iff_eq.mpr c8
       have c8b1 := bne_eq_false_iff_eq.mpr c8
       clear c8
       obtain ⟨t364, A9, H⟩ := bS H
       try dsimp only at H
       by_cases c10 : t364 = true
       ·subst c10
        rw [if_pos rfl] at H
        obtain rfl := Option.some.inj H
        go_enter Tryd.func84, Tryd.ntmps84
        go_wp2_with (first | ((with_reducible refine gd 2 rfl ?_); refine bxE 2 #[.int .i64 a0_0, .int .i64 a0_1, .int .i64 a0_2, .int .i64 a0_3, .int .i64 a0_4, .string a0_5, .slice A0_6 l0_6.length c0_6] 53 ?_; intro gb362 hg w11 hbox hb; have BK362 := Aside0.mk hbox; have GW362 := nGB hg; have GE362 := nGB hg; replace HB := nSB hb; clear hb hbox hg) | ((with_reducible refine gd 3 rfl ?_); refine bxE 3 #[.int .i64 a1_0, .int .i64 a1_1, .int .i64 a1_2, .int .i64 a1_3, .int .i64 a1_4, .string a1_5, .slice A1_6 l1_6.length c1_6] 53 ?_; intro gb363 hg w12 hbox hb; have BK363 := Aside0.mk hbox; have GW363 := nGC hg; have GE363 := nGC hg; replace HB := nSC hb; have NB362_363 := nL BK362 hg; have NB363_362 := nH BK362 hg; replace BK362 := nK BK362 hb; clear hb hbox hg; have hnb13 := NB362_363.out; have hnc13 := NB363_362.out; have hcz14 := cb7 BK362; have hcz15 := cb7 BK363) | ((with_reducible refine gt 107 rfl ?_); refine gL 107 39 Tryd.func107 #[.slice A0_6 l0_6.length c0_6, .slice A1_6 l1_6.length c1_6] ?_; (with_reducible refine (laws_eqEntryS.calls k _ _ l0_6 _ _ l1_6 true _ ?side1 ?side2 ?side3 ?side4 A9.out).mono ?_); (case side1 => exact sD (Kd.C_below HR0_6.out HB.out)); (case side2 => exact HC0_6.out); (case side3 => exact sD (Kd.C_below HR1_6.out HB.out)); (case side4 => exact HC1_6.out); rintro e w16 ⟨rfl, hb⟩; refine ⟨_, rfl, ?_⟩; replace BK362 := nK BK362 hb; replace BK363 := nK BK363 hb; replace HB := nSC hb; try clear hb))
        go_ret
        exact ⟨sE, sC⟩
       ·replace c10 := Bool.eq_false_iff.mpr c10
        subst c10
        rw [if_neg (show ¬ (false = true) by decide)] at H
        obtain rfl := Option.some.inj H
        go_enter Tryd.func84, Tryd.ntmps84
        go_wp2_with (first | ((with_reducible refine gd 2 rfl ?_); refine bxE 2 #[.int .i64 a0_0, .int .i64 a0_1, .int .i64 a0_2, .int .i64 a0_3, .int .i64 a0_4, .string a0_5, .slice A0_6 l0_6.length c0_6] 53 ?_; intro gb362 hg w17 hbox hb; have BK362 := Aside0.mk hbox; have GW362 := nGB hg; have GE362 := nGB hg; replace HB := nSB hb; clear hb hbox hg) | ((with_reducible refine gd 3 rfl ?_); refine bxE 3 #[.int .i64 a1_0, .int .i64 a1_1, .int .i64 a1_2, .int .i64 a1_3, .int .i64 a1_4, .string a1_5, .slice A1_6 l1_6.length c1_6] 53 ?_; intro gb363 hg w18 hbox hb; have BK363 := Aside0.mk hbox; have GW363 := nGC hg; have GE363 := nGC hg; replace HB := nSC hb; have NB362_363 := nL BK362 hg; have NB363_362 := nH BK362 hg; replace BK362 := nK BK362 hb; clear hb hbox hg; have hnb19 := NB362_363.out; have hnc19 := NB363_362.out; have hcz20 := cb7 BK362; have hcz21 := cb7 BK363) | ((with_reducible refine gt 107 rfl ?_); refine gL 107 39 Tryd.func107 #[.slice A0_6 l0_6.length c0_6, .slice A1_6 l1_6.length c1_6] ?_; (with_reducible refine (laws_eqEntryS.calls k _ _ l0_6 _ _ l1_6 false _ ?side1 ?side2 ?side3 ?side4 A9.out).mono ?_); (case side1 => exact sD (Kd.C_below HR0_6.out HB.out)); (case side2 => exact HC0_6.out); (case side3 => exact sD (Kd.C_below HR1_6.out HB.out)); (case side4 => exact HC1_6.out); rintro e w22 ⟨rfl, hb⟩; refine ⟨_, rfl, ?_⟩; replace BK362 := nK BK362 hb; replace BK363 := nK BK363 hb; replace HB := nSC hb; try clear hb))
        go_ret
        exact ⟨sE, sC⟩
      ·rw [if_neg c8] at H
       have c8b0 := beq_eq_false_iff_ne.mpr c8
       have c8b1 := bne_iff_ne.mpr c8
       obtain rfl := Option.some.inj H
       go_enter Tryd.func84, Tryd.ntmps84
       go_wp2_with (first | ((with_reducible refine gd 2 rfl ?_); refine bxE 2 #[.int .i64 a0_0, .int .i64 a0_1, .int .i64 a0_2, .int .i64 a0_3, .int .i64 a0_4, .string a0_5, .slice A0_6 l0_6.length c0_6] 53 ?_; intro gb362 hg w23 hbox hb; have BK362 := Aside0.mk hbox; have GW362 := nGB hg; have GE362 := nGB hg; replace HB := nSB hb; clear hb hbox hg) | ((with_reducible refine gd 3 rfl ?_); refine bxE 3 #[.int .i64 a1_0, .int .i64 a1_1, .int .i64 a1_2, .int .i64 a1_3, .int .i64 a1_4, .string a1_5, .slice A1_6 l1_6.length c1_6] 53 ?_; intro gb363 hg w24 hbox hb; have BK363 := Aside0.mk hbox; have GW363 := nGC hg; have GE363 := nGC hg; replace HB := nSC hb; have NB362_363 := nL BK362 hg; have NB363_362 := nH BK362 hg; replace BK362 := nK BK362 hb; clear hb hbox hg; have hnb25 := NB362_363.out; have hnc25 := NB363_362.out; have hcz26 := cb7 BK362; have hcz27 := cb7 BK363))
       go_ret
       exact ⟨sE, sC⟩
     ·rw [if_neg c7] at H
      have c7b0 := beq_eq_false_iff_ne.mpr c7
      have c7b1 := bne_iff_ne.mpr c7
      obtain rfl := Option.some.inj H
      go_enter Tryd.func84, Tryd.ntmps84
      go_wp2_with (first | ((with_reducible refine gd 2 rfl ?_); refine bxE 2 #[.int .i64 a0_0, .int .i64 a0_1, .int .i64 a0_2, .int .i64 a0_3, .int .i64 a0_4, .string a0_5, .slice A0_6 l0_6.length c0_6] 53 ?_; intro gb362 hg w28 hbox hb; have BK362 := Aside0.mk hbox; have GW362 := nGB hg; have GE362 := nGB hg; replace HB := nSB hb; clear hb hbox hg) | ((with_reducible refine gd 3 rfl ?_); refine bxE 3 #[.int .i64 a1_0, .int .i64 a1_1, .int .i64 a1_2, .int .i64 a1_3, .int .i64 a1_4, .string a1_5, .slice A1_6 l1_6.length c1_6] 53 ?_; intro gb363 hg w29 hbox hb; have BK363 := Aside0.mk hbox; have GW363 := nGC hg; have GE363 := nGC hg; replace HB := nSC hb; have NB362_363 := nL BK362 hg; have NB363_362 := nH BK362 hg; replace BK362 := nK BK362 hb; clear hb hbox hg; have hnb30 := NB362_363.out; have hnc30 := NB363_362.out; have hcz31 := cb7 BK362; have hcz32 := cb7 BK363))
      go_ret
      exact ⟨sE, sC⟩
    ·rw [if_neg c6] at H
     have c6b0 := beq_eq_false_iff_ne.mpr c6
     have c6b1 := bne_iff_ne.mpr c6
     obtain rfl := Option.some.inj H
     go_enter Tryd.func84, Tryd.ntmps84
     go_wp2_with (first | ((with_reducible refine gd 2 rfl ?_); refine bxE 2 #[.int .i64 a0_0, .int .i64 a0_1, .int .i64 a0_2, .int .i64 a0_3, .int .i64 a0_4, .string a0_5, .slice A0_6 l0_6.length c0_6] 53 ?_; intro gb362 hg w33 hbox hb; have BK362 := Aside0.mk hbox; have GW362 := nGB hg; have GE362 := nGB hg; replace HB := nSB hb; clear hb hbox hg) | ((with_reducible refine gd 3 rfl ?_); refine bxE 3 #[.int .i64 a1_0, .int .i64 a1_1, .int .i64 a1_2, .int .i64 a1_3, .int .i64 a1_4, .string a1_5, .slice A1_6 l1_6.length c1_6] 53 ?_; intro gb363 hg w34 hbox hb; have BK363 := Aside0.mk hbox; have GW363 := nGC hg; have GE363 := nGC hg; replace HB := nSC hb; have NB362_363 := nL BK362 hg; have NB363_362 := nH BK362 hg; replace BK362 := nK BK362 hb; clear hb hbox hg; have hnb35 := NB362_363.out; have hnc35 := NB363_362.out; have hcz36 := cb7 BK362; have hcz37 := cb7 BK363))
     go_ret
     exact ⟨sE, sC⟩
   ·rw [if_neg c5] at H
    have c5b0 := beq_eq_false_iff_ne.mpr c5
    have c5b1 := bne_iff_ne.mpr c5
    obtain rfl := Option.some.inj H
    go_enter Tryd.func84, Tryd.ntmps84
    go_wp2_with (first | ((with_reducible refine gd 2 rfl ?_); refine bxE 2 #[.int .i64 a0_0, .int .i64 a0_1, .int .i64 a0_2, .int .i64 a0_3, .int .i64 a0_4, .string a0_5, .slice A0_6 l0_6.length c0_6] 53 ?_; intro gb362 hg w38 hbox hb; have BK362 := Aside0.mk hbox; have GW362 := nGB hg; have GE362 := nGB hg; replace HB := nSB hb; clear hb hbox hg) | ((with_reducible refine gd 3 rfl ?_); refine bxE 3 #[.int .i64 a1_0, .int .i64 a1_1, .int .i64 a1_2, .int .i64 a1_3, .int .i64 a1_4, .string a1_5, .slice A1_6 l1_6.length c1_6] 53 ?_; intro gb363 hg w39 hbox hb; have BK363 := Aside0.mk hbox; have GW363 := nGC hg; have GE363 := nGC hg; replace HB := nSC hb; have NB362_363 := nL BK362 hg; have NB363_362 := nH BK362 hg; replace BK362 := nK BK362 hb; clear hb hbox hg; have hnb40 := NB362_363.out; have hnc40 := NB363_362.out; have hcz41 := cb7 BK362; have hcz42 := cb7 BK363))
    go_ret
    exact ⟨sE, sC⟩
  ·rw [if_neg c4] at H
   have c4b0 := beq_eq_false_iff_ne.mpr c4
   have c4b1 := bne_iff_ne.mpr c4
   obtain rfl := Option.some.inj H
   go_enter Tryd.func84, Tryd.ntmps84
   go_wp2_with (first | ((with_reducible refine gd 2 rfl ?_); refine bxE 2 #[.int .i64 a0_0, .int .i64 a0_1, .int .i64 a0_2, .int .i64 a0_3, .int .i64 a0_4, .string a0_5, .slice A0_6 l0_6.length c0_6] 53 ?_; intro gb362 hg w43 hbox hb; have BK362 := Aside0.mk hbox; have GW362 := nGB hg; have GE362 := nGB hg; replace HB := nSB hb; clear hb hbox hg) | ((with_reducible refine gd 3 rfl ?_); refine bxE 3 #[.int .i64 a1_0, .int .i64 a1_1, .int .i64 a1_2, .int .i64 a1_3, .int .i64 a1_4, .string a1_5, .slice A1_6 l1_6.length c1_6] 53 ?_; intro gb363 hg w44 hbox hb; have BK363 := Aside0.mk hbox; have GW363 := nGC hg; have GE363 := nGC hg; replace HB := nSC hb; have NB362_363 := nL BK362 hg; have NB363_362 := nH BK362 hg; replace BK362 := nK BK362 hb; clear hb hbox hg; have hnb45 := NB362_363.out; have hnc45 := NB363_362.out; have hcz46 := cb7 BK362; have hcz47 := cb7 BK363))
   go_ret
   exact ⟨sE, sC⟩
 ·rw [if_neg c3] at H
  have c3b0 := beq_eq_false_iff_ne.mpr c3
  have c3b1 := bne_iff_ne.mpr c3
  obtain rfl := Option.some.inj H
  go_enter Tryd.func84, Tryd.ntmps84
  go_wp2_with (first | ((with_reducible refine gd 2 rfl ?_); refine bxE 2 #[.int .i64 a0_0, .int .i64 a0_1, .int .i64 a0_2, .int .i64 a0_3, .int .i64 a0_4, .string a0_5, .slice A0_6 l0_6.length c0_6] 53 ?_; intro gb362 hg w48 hbox hb; have BK362 := Aside0.mk hbox; have GW362 := nGB hg; have GE362 := nGB hg; replace HB := nSB hb; clear hb hbox hg) | ((with_reducible refine gd 3 rfl ?_); refine bxE 3 #[.int .i64 a1_0, .int .i64 a1_1, .int .i64 a1_2, .int .i64 a1_3, .int .i64 a1_4, .string a1_5, .slice A1_6 l1_6.length c1_6] 53 ?_; intro gb363 hg w49 hbox hb; have BK363 := Aside0.mk hbox; have GW363 := nGC hg; have GE363 := nGC hg; replace HB := nSC hb; have NB362_363 := nL BK362 hg; have NB363_362 := nH BK362 hg; replace BK362 := nK BK362 hb; clear hb hbox hg; have hnb50 := NB362_363.out; have hnc50 := NB363_362.out; have hcz51 := cb7 BK362; have hcz52 := cb7 BK363))
  go_ret
  exact ⟨sE, sC⟩

end Go.Proofs.YteffcglgdfhkmaaDoor.PWk
