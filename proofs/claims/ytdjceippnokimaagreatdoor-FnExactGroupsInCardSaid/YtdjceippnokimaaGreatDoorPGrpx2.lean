import Derived.Test.YtdjceippnokimaaGreatDoorPGrpx0
import Derived.Test.YtdjceippnokimaaGreatDoorPGrpx1
namespace Go.Proofs.YtdjceippnokimaaGreatDoor.PGrp
open Go.RowKit Go.Proofs.YtdjceippnokimaaGreatDoorW.PrintWords Go.Proofs.YtdjceippnokimaaGreatDoorW.PrintLast Go.Proofs.YtdjceippnokimaaGreatDoorW.PrintMore
attribute [local go_sem] max2_int min2_int max_two min_two max_three min_three max_four min_four   -- for this text's walks alone
set_option linter.unusedVariables false
set_option linter.unusedSimpArgs false
set_option maxHeartbeats 8000000
set_option maxRecDepth 100000
/-! ### laws_eqEntryS: function 78 -/
def laws_eqEntryS.l0 : Nat → List (S104) → List (S104) → Int → Option (Bool)
 | 0, _, _, _ => none
 | k + 1, x0, x1, x5 => if x5 < (x0.length : Int) then (if 0 ≤ x5 then (if x5 < (x1.length : Int) then ((laws_eqEntry.f ((rd_T104 x0 x5).f0) ((rd_T104 x0 x5).f1) ((rd_T104 x1 x5).f0) ((rd_T104 x1 x5).f1)).bind fun t150 => (if t150 = true then (laws_eqEntryS.l0 k x0 x1 (wrap64 (x5 + 1))) else (some false))) else (none)) else (none)) else (some true)
def laws_eqEntryS.f (k : Nat) (l0 : List (S104)) (l1 : List (S104)) : Option (Bool) := if (l0.length : Int) = (l1.length : Int) then (laws_eqEntryS.l0 k l0 l1 0) else (some false)
def laws_eqEntryS.T6 : Bool × List (List Nat × List Nat) := (true, [([], []), ([], []), ([0, 1], [0, 1]), ([2], [2]), ([], []), ([], []), ([4, 5], [4, 5]), ([6], [6]), ([3, 7], [3, 7]), ([8], [8])])
def laws_eqEntryS.B6 : List Nat := [0, 0, 3, 7, 0, 0, 48, 112, 255, 511]
theorem laws_eqEntryS.tab6 : rtab .any (opsOf Tryz.f78 6) = laws_eqEntryS.T6 := by kernel_rfl
theorem laws_eqEntryS.bits6 : waitsOk laws_eqEntryS.T6.2 laws_eqEntryS.B6 = true := by kernel_rfl
theorem laws_eqEntryS.calls (k : Nat) (A0 : Option Addr) (c0 : Nat) (l0 : List (S104)) (A1 : Option Addr) (c1 : Nat) (l1 : List (S104)) (r : Bool) (w : World) (hr0 : Kd.C k104 w A0 l0.length l0) (hc0 : l0.length ≤ c0) (hr1 : Kd.C k104 w A1 l1.length l1) (hc1 : l1.length ≤ c1) (h : laws_eqEntryS.f k l0 l1 = some r) :
  Calls Tryz.prog 78 #[.slice A0 l0.length c0, .slice A1 l1.length c1] w fun e w' => e = .returned (.bool r) ∧ Below w.heap.size w w' := by
 have hu104 := Tryz.underlying104
 have HR0 := Aside0.mk hr0
 have HC0 := Aside0.mk hc0
 clear hr0 hc0
 have HR1 := Aside0.mk hr1
 have HC1 := Aside0.mk hc1
 clear hr1 hc1
 have HB := Aside0.mk (Below.refl w.heap.size w)
 have H : (if (l0.length : Int) = (l1.length : Int) then (laws_eqEntryS.l0 k l0 l1 0) else (some false)) = some r := h
 clear h
 by_cases c3 : (l0.length : Int) = (l1.length : Int)
 ·rw [if_pos c3] at H
  have c3b0 := beq_iff_eq.mpr c3
  have c3b1 := bne_eq_false_iff_eq.mpr c3
  have c3b2 : (l0.length == l1.length) = true := by first | simpa using c3 | (simp at c3 ⊢; omega)
  clear c3
  have H' := Aside0.mk H
  clear H
  go_enter Tryz.func78, Tryz.ntmps78
  go_wp2
  go_loopg [5] k (fun kq v5 w' => ∃ (x5_1 : Int), v5 = .int .i64 x5_1 ∧ Aside0 (laws_eqEntryS.l0 kq l0 l1 x5_1 = some r) ∧ Aside0 (kq ≤ k) ∧ Aside0 (Below w.heap.size w w'))
  case atStart => exact ⟨(0), sR, H', ⟨Nat.le_refl _⟩, ⟨sB⟩⟩
  case round =>
   clear H'
   try clear c1
   try clear p2
   try clear c3
   try clear c3b0
   try clear c3b1
   try clear c3b2
   obtain ⟨x5_1, rfl, HA, HK1, HB⟩ := hrel
   cases gk with
   | zero => exact absurd HA.out (by simp [laws_eqEntryS.l0])
   | succ k1 =>
    have H := HA.out
    clear HA
    simp only [laws_eqEntryS.l0] at H
    by_cases c4 : x5_1 < (l0.length : Int)
    ·rw [if_pos c4] at H
     have c4b0 := decide_eq_true c4
     clear c4
     obtain ⟨c5, H⟩ := iN H
     have c5b0 := decide_eq_true c5
     clear c5
     obtain ⟨c6, H⟩ := iN H
     have c6b0 := decide_eq_true c6
     clear c6
     obtain ⟨t150, A7, H⟩ := bS H
     try dsimp only at H
     by_cases c8 : t150 = true
     ·subst c8
      rw [if_pos rfl] at H
      have H' := Aside0.mk H
      clear H
      try go_wp2
      have n0_ := Aside0.mk (below_drew1 HB.out)
      clear HB
      have HB := n0_
      clear n0_
      have p148 : 0 ≤ (x5_1 : Int) := sO
      have q148 : x5_1 < (l0.length : Int) := sO
      obtain ⟨ad148, e148, hx148_0, hx148_1⟩ := at_T104 HR0.out x5_1 p148 q148
      have hw148_1 := hx148_1
      have hw148_0 := hx148_0
      cases e148
      replace hx148_0 := hB HB hx148_0
      replace hx148_1 := hB HB hx148_1
      replace p148 := eq_true p148
      replace q148 := eq_true q148
      have p149 : 0 ≤ (x5_1 : Int) := sO
      have q149 : x5_1 < (l1.length : Int) := sO
      obtain ⟨ad149, e149, hx149_0, hx149_1⟩ := at_T104 HR1.out x5_1 p149 q149
      have hw149_1 := hx149_1
      have hw149_0 := hx149_0
      cases e149
      replace hx149_0 := hB HB hx149_0
      replace hx149_1 := hB HB hx149_1
      replace p149 := eq_true p149
      replace q149 := eq_true q149
      refine st4 10 [] (hB HB hw148_0 :) (hB HB hw148_1 :) (hB HB hw149_0 :) (hB HB hw149_1 :) (fun hHeld => ?_); refine with_tabW laws_eqEntryS.tab6 laws_eqEntryS.bits6 (fun HT_ HW_ => ?_)
      generalize wr.drew = w9 at HB hx148_0 hx148_1 hx149_0 hx149_1 hHeld ⊢
      refine pu 0 17 ?_
      refine pu 1 18 ?_
      refine pu 2 19 ?_
      refine pu 4 21 ?_
      refine pu 5 22 ?_
      refine pu 6 23 ?_
      refine tk4 3 20 ?_
      refine tk4 7 24 ?_
      refine on 8 25 (fun K hK => ?_)
      refine gC Tryz.func95 #[.agg #[.string ((rd_T104 l0 x5_1).f0), .int .i64 ((rd_T104 l0 x5_1).f1)], .agg #[.string ((rd_T104 l1 x5_1).f0), .int .i64 ((rd_T104 l1 x5_1).f1)]] ?_
      with_reducible refine (laws_eqEntry.calls ((rd_T104 l0 x5_1).f0) ((rd_T104 l0 x5_1).f1) ((rd_T104 l1 x5_1).f0) ((rd_T104 l1 x5_1).f1) true _ A7.out).mono ?_
      rintro e w10 ⟨rfl, hb⟩
      refine ⟨_, rfl, ?_⟩
      have n0_ := nSB hb
      clear HB
      have HB := n0_
      clear n0_
      (try clear hb)
      (try clear hb2)
      (try clear hk)
      (try clear hi)
      refine hK.out _ _ ⟨(hB HB hw148_0 :), (hB HB hw148_1 :), (hB HB hw149_0 :), (hB HB hw149_1 :)⟩ (fun hHeld => ?_)
      clear hK K
      refine nm ?_
      refine pu 9 26 ?_
      refine dn ?_
      try go_wp2
      go_roundg k1
      case measure => have := HK1.out; omega
      case rel => exact ⟨(wrap64 (x5_1 + 1)), sR, H', ⟨by have := HK1.out; omega⟩, ⟨sB⟩⟩
     ·replace c8 := Bool.eq_false_iff.mpr c8
      subst c8
      rw [if_neg (show ¬ (false = true) by decide)] at H
      obtain rfl := Option.some.inj H
      try go_wp2
      have n0_ := Aside0.mk (below_drew1 HB.out)
      clear HB
      have HB := n0_
      clear n0_
      have p148 : 0 ≤ (x5_1 : Int) := sO
      have q148 : x5_1 < (l0.length : Int) := sO
      obtain ⟨ad148, e148, hx148_0, hx148_1⟩ := at_T104 HR0.out x5_1 p148 q148
      have hw148_1 := hx148_1
      have hw148_0 := hx148_0
      cases e148
      replace hx148_0 := hB HB hx148_0
      replace hx148_1 := hB HB hx148_1
      replace p148 := eq_true p148
      replace q148 := eq_true q148
      have p149 : 0 ≤ (x5_1 : Int) := sO
      have q149 : x5_1 < (l1.length : Int) := sO
      obtain ⟨ad149, e149, hx149_0, hx149_1⟩ := at_T104 HR1.out x5_1 p149 q149
      have hw149_1 := hx149_1
      have hw149_0 := hx149_0
      cases e149
      replace hx149_0 := hB HB hx149_0
      replace hx149_1 := hB HB hx149_1
      replace p149 := eq_true p149
      replace q149 := eq_true q149
      refine st4 10 [] (hB HB hw148_0 :) (hB HB hw148_1 :) (hB HB hw149_0 :) (hB HB hw149_1 :) (fun hHeld => ?_); refine with_tabW laws_eqEntryS.tab6 laws_eqEntryS.bits6 (fun HT_ HW_ => ?_)
      generalize wr.drew = w11 at HB hx148_0 hx148_1 hx149_0 hx149_1 hHeld ⊢
      refine pu 0 17 ?_
      refine pu 1 18 ?_
      refine pu 2 19 ?_
      refine pu 4 21 ?_
      refine pu 5 22 ?_
      refine pu 6 23 ?_
      refine tk4 3 20 ?_
      refine tk4 7 24 ?_
      refine on 8 25 (fun K hK => ?_)
      refine gC Tryz.func95 #[.agg #[.string ((rd_T104 l0 x5_1).f0), .int .i64 ((rd_T104 l0 x5_1).f1)], .agg #[.string ((rd_T104 l1 x5_1).f0), .int .i64 ((rd_T104 l1 x5_1).f1)]] ?_
      with_reducible refine (laws_eqEntry.calls ((rd_T104 l0 x5_1).f0) ((rd_T104 l0 x5_1).f1) ((rd_T104 l1 x5_1).f0) ((rd_T104 l1 x5_1).f1) false _ A7.out).mono ?_
      rintro e w12 ⟨rfl, hb⟩
      refine ⟨_, rfl, ?_⟩
      have n0_ := nSB hb
      clear HB
      have HB := n0_
      clear n0_
      (try clear hb)
      (try clear hb2)
      (try clear hk)
      (try clear hi)
      refine hK.out _ _ ⟨(hB HB hw148_0 :), (hB HB hw148_1 :), (hB HB hw149_0 :), (hB HB hw149_1 :)⟩ (fun hHeld => ?_)
      clear hK K
      refine nm ?_
      refine pu 9 26 ?_
      refine dn ?_
      try go_wp2
      go_ret
      exact ⟨sE, sB⟩
    ·rw [if_neg c4] at H
     have c4b0 := decide_eq_false c4
     clear c4
     obtain rfl := Option.some.inj H
     go_wp2
     go_ret
     exact ⟨sE, sB⟩
 ·rw [if_neg c3] at H
  have c3b0 := beq_eq_false_iff_ne.mpr c3
  have c3b1 := bne_iff_ne.mpr c3
  have c3b2 : (l0.length == l1.length) = false := by first | simpa using c3 | (simp at c3 ⊢; omega)
  obtain rfl := Option.some.inj H
  go_enter Tryz.func78, Tryz.ntmps78
  go_wp2
  go_ret
  exact ⟨sE, sB⟩
def laws_eqNode.f (k : Nat) (a0_0 : Int) (a0_1 : Int) (a0_2 : Int) (a0_3 : Int) (a0_4 : Int) (a0_5 : ByteArray) (l0_6 : List (S104)) (a1_0 : Int) (a1_1 : Int) (a1_2 : Int) (a1_3 : Int) (a1_4 : Int) (a1_5 : ByteArray) (l1_6 : List (S104)) : Option (Bool) := if a0_0 = a1_0 then (if a0_1 = a1_1 then (if a0_2 = a1_2 then (if a0_3 = a1_3 then (if a0_4 = a1_4 then (if a0_5.toList = a1_5.toList then ((laws_eqEntryS.f k l0_6 l1_6).bind fun t153 => (if t153 = true then (some true) else (some false))) else (some false)) else (some false)) else (some false)) else (some false)) else (some false)) else (some false)
theorem laws_eqNode.calls (k : Nat) (a0_0 : Int) (a0_1 : Int) (a0_2 : Int) (a0_3 : Int) (a0_4 : Int) (a0_5 : ByteArray) (A0_6 : Option Addr) (c0_6 : Nat) (l0_6 : List (S104)) (a1_0 : Int) (a1_1 : Int) (a1_2 : Int) (a1_3 : Int) (a1_4 : Int) (a1_5 : ByteArray) (A1_6 : Option Addr) (c1_6 : Nat) (l1_6 : List (S104)) (r : Bool) (w : World) (hr0_6 : Kd.C k104 w A0_6 l0_6.length l0_6) (hc0_6 : l0_6.length ≤ c0_6) (hr1_6 : Kd.C k104 w A1_6 l1_6.length l1_6) (hc1_6 : l1_6.length ≤ c1_6) (h : laws_eqNode.f k a0_0 a0_1 a0_2 a0_3 a0_4 a0_5 l0_6 a1_0 a1_1 a1_2 a1_3 a1_4 a1_5 l1_6 = some r) :
  Calls Tryz.prog 50 #[.agg #[.int .i64 a0_0, .int .i64 a0_1, .int .i64 a0_2, .int .i64 a0_3, .int .i64 a0_4, .string a0_5, .slice A0_6 l0_6.length c0_6], .agg #[.int .i64 a1_0, .int .i64 a1_1, .int .i64 a1_2, .int .i64 a1_3, .int .i64 a1_4, .string a1_5, .slice A1_6 l1_6.length c1_6]] w fun e w' => e = .returned (.bool r) ∧ Below w.heap.size w w' := by
 have hu65 := Tryz.underlying65
 have HR0_6 := Aside0.mk hr0_6
 have HC0_6 := Aside0.mk hc0_6
 clear hr0_6 hc0_6
 have HR1_6 := Aside0.mk hr1_6
 have HC1_6 := Aside0.mk hc1_6
 clear hr1_6 hc1_6
 have HB := Aside0.mk (Below.refl w.heap.size w)
 have H : (if a0_0 = a1_0 then (if a0_1 = a1_1 then (if a0_2 = a1_2 then (if a0_3 = a1_3 then (if a0_4 = a1_4 then (if a0_5.toList = a1_5.toList then ((laws_eqEntryS.f k l0_6 l1_6).bind fun t153 => (if t153 = true then (some true) else (some false))) else (some false)) else (some false)) else (some false)) else (some false)) else (some false)) else (some false)) = some r := h
 clear h
 by_cases c3 : a0_0 = a1_0
 ·rw [if_pos c3] at H
  have c3b0 := beq_iff_eq.mpr c3
  have c3b1 := bne_eq_false_iff_eq.mpr c3
  clear c3
  by_cases c4 : a0_1 = a1_1
  ·rw [if_pos c4] at H
   have c4b0 := beq_iff_eq.mpr c4
   have c4b1 := bne_eq_false_iff_eq.mpr c4
   clear c4
   by_cases c5 : a0_2 = a1_2
   ·rw [if_pos c5] at H
    have c5b0 := beq_iff_eq.mpr c5
    have c5b1 := bne_eq_false_iff_eq.mpr c5
    clear c5
    by_cases c6 : a0_3 = a1_3
    ·rw [if_pos c6] at H
     have c6b0 := beq_iff_eq.mpr c6
     have c6b1 := bne_eq_false_iff_eq.mpr c6
     clear c6
     by_cases c7 : a0_4 = a1_4
     ·rw [if_pos c7] at H
      have c7b0 := beq_iff_eq.mpr c7
      have c7b1 := bne_eq_false_iff_eq.mpr c7
      clear c7
      by_cases c8 : a0_5.toList = a1_5.toList
      ·rw [if_pos c8] at H
       have c8b0 := beq_iff_eq.mpr c8
       have c8b1 := bne_eq_false_iff_eq.mpr c8
       clear c8
       obtain ⟨t153, A9, H⟩ := bS H
       try dsimp only at H
       by_cases c10 : t153 = true
       ·subst c10
        rw [if_pos rfl] at H
        obtain rfl := Option.some.inj H
        go_enter Tryz.func50, Tryz.ntmps50
        go_wp2_with (first | ((with_reducible refine gd 2 rfl ?_); refine bxE 2 #[.int .i64 a0_0, .int .i64 a0_1, .int .i64 a0_2, .int .i64 a0_3, .int .i64 a0_4, .string a0_5, .slice A0_6 l0_6.length c0_6] 65 ?_; intro gb151 hg w11 hbox hb; have BK151 := Aside0.mk hbox; have GW151 := nGB hg; have GE151 := nGB hg; replace HB := nSB hb; clear hb hbox hg) | ((with_reducible refine gd 3 rfl ?_); refine bxE 3 #[.int .i64 a1_0, .int .i64 a1_1, .int .i64 a1_2, .int .i64 a1_3, .int .i64 a1_4, .string a1_5, .slice A1_6 l1_6.length c1_6] 65 ?_; intro gb152 hg w12 hbox hb; have BK152 := Aside0.mk hbox; have GW152 := nGC hg; have GE152 := nGC hg; replace HB := nSC hb; have NB151_152 := nL BK151 hg; have NB152_151 := nH BK151 hg; replace BK151 := nK BK151 hb; clear hb hbox hg; have hnb13 := NB151_152.out; have hnc13 := NB152_151.out; have hcz14 := cb7 BK151; have hcz15 := cb7 BK152) | ((with_reducible refine gt 78 rfl ?_); refine gL 78 39 Tryz.func78 #[.slice A0_6 l0_6.length c0_6, .slice A1_6 l1_6.length c1_6] ?_; (with_reducible refine (laws_eqEntryS.calls k _ _ l0_6 _ _ l1_6 true _ ?side1 ?side2 ?side3 ?side4 A9.out).mono ?_); (case side1 => exact sD (Kd.C_below HR0_6.out HB.out)); (case side2 => exact HC0_6.out); (case side3 => exact sD (Kd.C_below HR1_6.out HB.out)); (case side4 => exact HC1_6.out); rintro e w16 ⟨rfl, hb⟩; refine ⟨_, rfl, ?_⟩; replace BK151 := nK BK151 hb; replace BK152 := nK BK152 hb; replace HB := nSC hb; try clear hb))
        go_ret
        exact ⟨sE, sC⟩
       ·replace c10 := Bool.eq_false_iff.mpr c10
        subst c10
        rw [if_neg (show ¬ (false = true) by decide)] at H
        obtain rfl := Option.some.inj H
        go_enter Tryz.func50, Tryz.ntmps50
        go_wp2_with (first | ((with_reducible refine gd 2 rfl ?_); refine bxE 2 #[.int .i64 a0_0, .int .i64 a0_1, .int .i64 a0_2, .int .i64 a0_3, .int .i64 a0_4, .string a0_5, .slice A0_6 l0_6.length c0_6] 65 ?_; intro gb151 hg w17 hbox hb; have BK151 := Aside0.mk hbox; have GW151 := nGB hg; have GE151 := nGB hg; replace HB := nSB hb; clear hb hbox hg) | ((with_reducible refine gd 3 rfl ?_); refine bxE 3 #[.int .i64 a1_0, .int .i64 a1_1, .int .i64 a1_2, .int .i64 a1_3, .int .i64 a1_4, .string a1_5, .slice A1_6 l1_6.length c1_6] 65 ?_; intro gb152 hg w18 hbox hb; have BK152 := Aside0.mk hbox; have GW152 := nGC hg; have GE152 := nGC hg; replace HB := nSC hb; have NB151_152 := nL BK151 hg; have NB152_151 := nH BK151 hg; replace BK151 := nK BK151 hb; clear hb hbox hg; have hnb19 := NB151_152.out; have hnc19 := NB152_151.out; have hcz20 := cb7 BK151; have hcz21 := cb7 BK152) | ((with_reducible refine gt 78 rfl ?_); refine gL 78 39 Tryz.func78 #[.slice A0_6 l0_6.length c0_6, .slice A1_6 l1_6.length c1_6] ?_; (with_reducible refine (laws_eqEntryS.calls k _ _ l0_6 _ _ l1_6 false _ ?side1 ?side2 ?side3 ?side4 A9.out).mono ?_); (case side1 => exact sD (Kd.C_below HR0_6.out HB.out)); (case side2 => exact HC0_6.out); (case side3 => exact sD (Kd.C_below HR1_6.out HB.out)); (case side4 => exact HC1_6.out); rintro e w22 ⟨rfl, hb⟩; refine ⟨_, rfl, ?_⟩; replace BK151 := nK BK151 hb; replace BK152 := nK BK152 hb; replace HB := nSC hb; try clear hb))
        go_ret
        exact ⟨sE, sC⟩
      ·rw [if_neg c8] at H
       have c8b0 := beq_eq_false_iff_ne.mpr c8
       have c8b1 := bne_iff_ne.mpr c8
       obtain rfl := Option.some.inj H
       go_enter Tryz.func50, Tryz.ntmps50
       go_wp2_with (first | ((with_reducible refine gd 2 rfl ?_); refine bxE 2 #[.int .i64 a0_0, .int .i64 a0_1, .int .i64 a0_2, .int .i64 a0_3, .int .i64 a0_4, .string a0_5, .slice A0_6 l0_6.length c0_6] 65 ?_; intro gb151 hg w23 hbox hb; have BK151 := Aside0.mk hbox; have GW151 := nGB hg; have GE151 := nGB hg; replace HB := nSB hb; clear hb hbox hg) | ((with_reducible refine gd 3 rfl ?_); refine bxE 3 #[.int .i64 a1_0, .int .i64 a1_1, .int .i64 a1_2, .int .i64 a1_3, .int .i64 a1_4, .string a1_5, .slice A1_6 l1_6.length c1_6] 65 ?_; intro gb152 hg w24 hbox hb; have BK152 := Aside0.mk hbox; have GW152 := nGC hg; have GE152 := nGC hg; replace HB := nSC hb; have NB151_152 := nL BK151 hg; have NB152_151 := nH BK151 hg; replace BK151 := nK BK151 hb; clear hb hbox hg; have hnb25 := NB151_152.out; have hnc25 := NB152_151.out; have hcz26 := cb7 BK151; have hcz27 := cb7 BK152))
       go_ret
       exact ⟨sE, sC⟩
     ·rw [if_neg c7] at H
      have c7b0 := beq_eq_false_iff_ne.mpr c7
      have c7b1 := bne_iff_ne.mpr c7
      obtain rfl := Option.some.inj H
      go_enter Tryz.func50, Tryz.ntmps50
      go_wp2_with (first | ((with_reducible refine gd 2 rfl ?_); refine bxE 2 #[.int .i64 a0_0, .int .i64 a0_1, .int .i64 a0_2, .int .i64 a0_3, .int .i64 a0_4, .string a0_5, .slice A0_6 l0_6.length c0_6] 65 ?_; intro gb151 hg w28 hbox hb; have BK151 := Aside0.mk hbox; have GW151 := nGB hg; have GE151 := nGB hg; replace HB := nSB hb; clear hb hbox hg) | ((with_reducible refine gd 3 rfl ?_); refine bxE 3 #[.int .i64 a1_0, .int .i64 a1_1, .int .i64 a1_2, .int .i64 a1_3, .int .i64 a1_4, .string a1_5, .slice A1_6 l1_6.length c1_6] 65 ?_; intro gb152 hg w29 hbox hb; have BK152 := Aside0.mk hbox; have GW152 := nGC hg; have GE152 := nGC hg; replace HB := nSC hb; have NB151_152 := nL BK151 hg; have NB152_151 := nH BK151 hg; replace BK151 := nK BK151 hb; clear hb hbox hg; have hnb30 := NB151_152.out; have hnc30 := NB152_151.out; have hcz31 := cb7 BK151; have hcz32 := cb7 BK152))
      go_ret
      exact ⟨sE, sC⟩
    ·rw [if_neg c6] at H
     have c6b0 := beq_eq_false_iff_ne.mpr c6
     have c6b1 := bne_iff_ne.mpr c6
     obtain rfl := Option.some.inj H
     go_enter Tryz.func50, Tryz.ntmps50
     go_wp2_with (first | ((with_reducible refine gd 2 rfl ?_); refine bxE 2 #[.int .i64 a0_0, .int .i64 a0_1, .int .i64 a0_2, .int .i64 a0_3, .int .i64 a0_4, .string a0_5, .slice A0_6 l0_6.length c0_6] 65 ?_; intro gb151 hg w33 hbox hb; have BK151 := Aside0.mk hbox; have GW151 := nGB hg; have GE151 := nGB hg; replace HB := nSB hb; clear hb hbox hg) | ((with_reducible refine gd 3 rfl ?_); refine bxE 3 #[.int .i64 a1_0, .int .i64 a1_1, .int .i64 a1_2, .int .i64 a1_3, .int .i64 a1_4, .string a1_5, .slice A1_6 l1_6.length c1_6] 65 ?_; intro gb152 hg w34 hbox hb; have BK152 := Aside0.mk hbox; have GW152 := nGC hg; have GE152 := nGC hg; replace HB := nSC hb; have NB151_152 := nL BK151 hg; have NB152_151 := nH BK151 hg; replace BK151 := nK BK151 hb; clear hb hbox hg; have hnb35 := NB151_152.out; have hnc35 := NB152_151.out; have hcz36 := cb7 BK151; have hcz37 := cb7 BK152))
     go_ret
     exact ⟨sE, sC⟩
   ·rw [if_neg c5] at H
    have c5b0 := beq_eq_false_iff_ne.mpr c5
    have c5b1 := bne_iff_ne.mpr c5
    obtain rfl := Option.some.inj H
    go_enter Tryz.func50, Tryz.ntmps50
    go_wp2_with (first | ((with_reducible refine gd 2 rfl ?_); refine bxE 2 #[.int .i64 a0_0, .int .i64 a0_1, .int .i64 a0_2, .int .i64 a0_3, .int .i64 a0_4, .string a0_5, .slice A0_6 l0_6.length c0_6] 65 ?_; intro gb151 hg w38 hbox hb; have BK151 := Aside0.mk hbox; have GW151 := nGB hg; have GE151 := nGB hg; replace HB := nSB hb; clear hb hbox hg) | ((with_reducible refine gd 3 rfl ?_); refine bxE 3 #[.int .i64 a1_0, .int .i64 a1_1, .int .i64 a1_2, .int .i64 a1_3, .int .i64 a1_4, .string a1_5, .slice A1_6 l1_6.length c1_6] 65 ?_; intro gb152 hg w39 hbox hb; have BK152 := Aside0.mk hbox; have GW152 := nGC hg; have GE152 := nGC hg; replace HB := nSC hb; have NB151_152 := nL BK151 hg; have NB152_151 := nH BK151 hg; replace BK151 := nK BK151 hb; clear hb hbox hg; have hnb40 := NB151_152.out; have hnc40 := NB152_151.out; have hcz41 := cb7 BK151; have hcz42 := cb7 BK152))
    go_ret
    exact ⟨sE, sC⟩
  ·rw [if_neg c4] at H
   have c4b0 := beq_eq_false_iff_ne.mpr c4
   have c4b1 := bne_iff_ne.mpr c4
   obtain rfl := Option.some.inj H
   go_enter Tryz.func50, Tryz.ntmps50
   go_wp2_with (first | ((with_reducible refine gd 2 rfl ?_); refine bxE 2 #[.int .i64 a0_0, .int .i64 a0_1, .int .i64 a0_2, .int .i64 a0_3, .int .i64 a0_4, .string a0_5, .slice A0_6 l0_6.length c0_6] 65 ?_; intro gb151 hg w43 hbox hb; have BK151 := Aside0.mk hbox; have GW151 := nGB hg; have GE151 := nGB hg; replace HB := nSB hb; clear hb hbox hg) | ((with_reducible refine gd 3 rfl ?_); refine bxE 3 #[.int .i64 a1_0, .int .i64 a1_1, .int .i64 a1_2, .int .i64 a1_3, .int .i64 a1_4, .string a1_5, .slice A1_6 l1_6.length c1_6] 65 ?_; intro gb152 hg w44 hbox hb; have BK152 := Aside0.mk hbox; have GW152 := nGC hg; have GE152 := nGC hg; replace HB := nSC hb; have NB151_152 := nL BK151 hg; have NB152_151 := nH BK151 hg; replace BK151 := nK BK151 hb; clear hb hbox hg; have hnb45 := NB151_152.out; have hnc45 := NB152_151.out; have hcz46 := cb7 BK151; have hcz47 := cb7 BK152))
   go_ret
   exact ⟨sE, sC⟩
 ·rw [if_neg c3] at H
  have c3b0 := beq_eq_false_iff_ne.mpr c3
  have c3b1 := bne_iff_ne.mpr c3
  obtain rfl := Option.some.inj H
  go_enter Tryz.func50, Tryz.ntmps50
  go_wp2_with (first | ((with_reducible refine gd 2 rfl ?_); refine bxE 2 #[.int .i64 a0_0, .int .i64 a0_1, .int .i64 a0_2, .int .i64 a0_3, .int .i64 a0_4, .string a0_5, .slice A0_6 l0_6.length c0_6] 65 ?_; intro gb151 hg w48 hbox hb; have BK151 := Aside0.mk hbox; have GW151 := nGB hg; have GE151 := nGB hg; replace HB := nSB hb; clear hb hbox hg) | ((with_reducible refine gd 3 rfl ?_); refine bxE 3 #[.int .i64 a1_0, .int .i64 a1_1, .int .i64 a1_2, .int .i64 a1_3, .int .i64 a1_4, .string a1_5, .slice A1_6 l1_6.length c1_6] 65 ?_; intro gb152 hg w49 hbox hb; have BK152 := Aside0.mk hbox; have GW152 := nGC hg; have GE152 := nGC hg; replace HB := nSC hb; have NB151_152 := nL BK151 hg; have NB152_151 := nH BK151 hg; replace BK151 := nK BK151 hb; clear hb hbox hg; have hnb50 := NB151_152.out; have hnc50 := NB152_151.out; have hcz51 := cb7 BK151; have hcz52 := cb7 BK152))
  go_ret
  exact ⟨sE, sC⟩
end Go.Proofs.YtdjceippnokimaaGreatDoor.PGrp
