import Derived.Test.YtdjceippnokimaaGreatDoorPGrpx0
import Derived.Test.YtdjceippnokimaaGreatDoorPGrpx18
namespace Go.Proofs.YtdjceippnokimaaGreatDoor.PGrp
open Go.RowKit Go.Proofs.YtdjceippnokimaaGreatDoorW.PrintWords Go.Proofs.YtdjceippnokimaaGreatDoorW.PrintLast Go.Proofs.YtdjceippnokimaaGreatDoorW.PrintMore
attribute [local go_sem] max2_int min2_int max_two min_two max_three min_three max_four min_four   -- for this text's walks alone
set_option linter.unusedVariables false
set_option linter.unusedSimpArgs false
set_option maxHeartbeats 8000000
set_option maxRecDepth 100000
/-! ### laws_heldStringS: function 34 -/
def laws_heldStringS.l0 : Nat → List ByteArray → Int → Int → Option (Int)
 | 0, _, _, _ => none
 | k + 1, x0, x1, x5 => if x5 < (x0.length : Int) then (if 0 ≤ x5 then ((laws_markText.f k x1).bind fun t449 => (if (rdOf ByteArray.empty x0 x5).toList = t449.toList then (laws_heldStringS.l0 k x0 (wrap64 (x1 + 1)) (wrap64 (x5 + 1))) else (some (-1)))) else (none)) else (some x1)
def laws_heldStringS.f (k : Nat) (l0 : List ByteArray) (a1 : Int) : Option (Int) := laws_heldStringS.l0 k l0 a1 0
theorem laws_heldStringS.calls (k : Nat) (A0 : Option Addr) (c0 : Nat) (l0 : List ByteArray) (a1 : Int) (r : Int) (w : World) (hr0 : Kd.C Kd.string w A0 l0.length l0) (hc0 : l0.length ≤ c0) (h : laws_heldStringS.f k l0 a1 = some r) :
  Calls Tryz.prog 34 #[.slice A0 l0.length c0, .int .i64 a1] w fun e w' => e = .returned (.int .i64 r) ∧ Below w.heap.size w w' := by
 have HR0 := Aside0.mk hr0
 have HC0 := Aside0.mk hc0
 clear hr0 hc0
 have HB := Aside0.mk (Below.refl w.heap.size w)
 have H : (laws_heldStringS.l0 k l0 a1 0) = some r := h
 clear h
 have H' := Aside0.mk H
 clear H
 go_enter Tryz.func34, Tryz.ntmps34
 go_wp2
 go_loopg [1, 5] k (fun kq v1 v5 w' => ∃ (x1_1 : Int) (x5_1 : Int), v1 = .int .i64 x1_1 ∧ v5 = .int .i64 x5_1 ∧ Aside0 (laws_heldStringS.l0 kq l0 x1_1 x5_1 = some r) ∧ Aside0 (kq ≤ k) ∧ Aside0 (Below w.heap.size w w'))
 case atStart => exact ⟨(a1), (0), sR, sR, H', ⟨Nat.le_refl _⟩, ⟨sB⟩⟩
 case round =>
  clear H'
  try clear p2
  obtain ⟨x1_1, x5_1, rfl, rfl, HA, HK1, HB⟩ := hrel
  cases gk with
  | zero => exact absurd HA.out (by simp [laws_heldStringS.l0])
  | succ k1 =>
   have H := HA.out
   clear HA
   simp only [laws_heldStringS.l0] at H
   by_cases c3 : x5_1 < (l0.length : Int)
   ·rw [if_pos c3] at H
    have c3b0 := decide_eq_true c3
    clear c3
    obtain ⟨c4, H⟩ := iN H
    have c4b0 := decide_eq_true c4
    clear c4
    obtain ⟨t449, A5, H⟩ := bS H
    try dsimp only at H
    by_cases c6 : (rdOf ByteArray.empty l0 x5_1).toList = t449.toList
    ·rw [if_pos c6] at H
     have c6b0 := beq_iff_eq.mpr c6
     have c6b1 := bne_eq_false_iff_eq.mpr c6
     clear c6
     have H' := Aside0.mk H
     clear H
     try go_wp2
     have n0_ := Aside0.mk (below_drew1 HB.out)
     clear HB
     have HB := n0_
     clear n0_
     have p448 : 0 ≤ (x5_1 : Int) := sO
     have q448 : x5_1 < (l0.length : Int) := sO
     obtain ⟨ad448, e448, hx448_0⟩ := Kd.at_string HR0.out x5_1 p448 q448
     have hw448_0 := hx448_0
     cases e448
     replace hx448_0 := hB HB hx448_0
     replace p448 := eq_true p448
     replace q448 := eq_true q448
     refine start_ (n := 7) (S := fun w' => w'.cell? (ad448.add (x5_1).toNat) = some (.string (rdOf ByteArray.empty l0 x5_1))) (ds := []) #[false, false, false, false, false, false, false] (by kernel_rfl) rfl rfl ((hB HB hw448_0 :)) (fun hHeld => ?_)
     generalize wr.drew = w7 at HB hx448_0 hHeld ⊢
     refine pu 0 12 ?_
     refine pu 1 13 ?_
     refine pu 2 14 ?_
     refine pu 4 16 ?_
     refine tk1 3 15 ?_
     refine on 5 17 (fun K hK => ?_)
     refine gC Tryz.func55 #[.int .i64 x1_1] ?_
     with_reducible refine (laws_markText.calls k1 x1_1 t449 _ A5.out).mono ?_
     rintro e w8 ⟨rfl, hb⟩
     refine ⟨_, rfl, ?_⟩
     have n0_ := nSB hb
     clear HB
     have HB := n0_
     clear n0_
     (try clear hb)
     (try clear hb2)
     (try clear hk)
     (try clear hi)
     refine hK.out _ _ ((hB HB hw448_0 :)) (fun hHeld => ?_)
     clear hK K
     refine nm ?_
     refine pu 6 18 ?_
     refine dn ?_
     try go_wp2
     go_roundg k1
     case measure => have := HK1.out; omega
     case rel => exact ⟨(wrap64 (x1_1 + 1)), (wrap64 (x5_1 + 1)), sR, sR, H', ⟨by have := HK1.out; omega⟩, ⟨sB⟩⟩
    ·rw [if_neg c6] at H
     have c6b0 := beq_eq_false_iff_ne.mpr c6
     have c6b1 := bne_iff_ne.mpr c6
     obtain rfl := Option.some.inj H
     try go_wp2
     have n0_ := Aside0.mk (below_drew1 HB.out)
     clear HB
     have HB := n0_
     clear n0_
     have p448 : 0 ≤ (x5_1 : Int) := sO
     have q448 : x5_1 < (l0.length : Int) := sO
     obtain ⟨ad448, e448, hx448_0⟩ := Kd.at_string HR0.out x5_1 p448 q448
     have hw448_0 := hx448_0
     cases e448
     replace hx448_0 := hB HB hx448_0
     replace p448 := eq_true p448
     replace q448 := eq_true q448
     refine start_ (n := 7) (S := fun w' => w'.cell? (ad448.add (x5_1).toNat) = some (.string (rdOf ByteArray.empty l0 x5_1))) (ds := []) #[false, false, false, false, false, false, false] (by kernel_rfl) rfl rfl ((hB HB hw448_0 :)) (fun hHeld => ?_)
     generalize wr.drew = w9 at HB hx448_0 hHeld ⊢
     refine pu 0 12 ?_
     refine pu 1 13 ?_
     refine pu 2 14 ?_
     refine pu 4 16 ?_
     refine tk1 3 15 ?_
     refine on 5 17 (fun K hK => ?_)
     refine gC Tryz.func55 #[.int .i64 x1_1] ?_
     with_reducible refine (laws_markText.calls k1 x1_1 t449 _ A5.out).mono ?_
     rintro e w10 ⟨rfl, hb⟩
     refine ⟨_, rfl, ?_⟩
     have n0_ := nSB hb
     clear HB
     have HB := n0_
     clear n0_
     (try clear hb)
     (try clear hb2)
     (try clear hk)
     (try clear hi)
     refine hK.out _ _ ((hB HB hw448_0 :)) (fun hHeld => ?_)
     clear hK K
     refine nm ?_
     refine pu 6 18 ?_
     refine dn ?_
     try go_wp2
     go_ret
     exact ⟨sE, sB⟩
   ·rw [if_neg c3] at H
    have c3b0 := decide_eq_false c3
    clear c3
    obtain rfl := Option.some.inj H
    go_wp2
    go_ret
    exact ⟨sE, sB⟩
def laws_heldStringSS.l0 : Nat → List (List ByteArray) → Int → Int → Option (Int)
 | 0, _, _, _ => none
 | k + 1, x0, x1, x5 => if x5 < (x0.length : Int) then (if 0 ≤ x5 then ((laws_heldStringS.f k (rd_L8 x0 x5) x1).bind fun t451 => (if t451 < 0 then (some (-1)) else (laws_heldStringSS.l0 k x0 t451 (wrap64 (x5 + 1))))) else (none)) else (some x1)
def laws_heldStringSS.f (k : Nat) (l0 : List (List ByteArray)) (a1 : Int) : Option (Int) := laws_heldStringSS.l0 k l0 a1 0
theorem laws_heldStringSS.calls (k : Nat) (A0 : Option Addr) (c0 : Nat) (l0 : List (List ByteArray)) (a1 : Int) (r : Int) (w : World) (hr0 : Kd.C (Kd.slice 9 Kd.string) w A0 l0.length l0) (hc0 : l0.length ≤ c0) (h : laws_heldStringSS.f k l0 a1 = some r) :
  Calls Tryz.prog 16 #[.slice A0 l0.length c0, .int .i64 a1] w fun e w' => e = .returned (.int .i64 r) ∧ Below w.heap.size w w' := by
 have HR0 := Aside0.mk hr0
 have HC0 := Aside0.mk hc0
 clear hr0 hc0
 have HB := Aside0.mk (Below.refl w.heap.size w)
 have H : (laws_heldStringSS.l0 k l0 a1 0) = some r := h
 clear h
 have H' := Aside0.mk H
 clear H
 go_enter Tryz.func16, Tryz.ntmps16
 go_wp2
 go_loopg [1, 5] k (fun kq v1 v5 w' => ∃ (x1_1 : Int) (x5_1 : Int), v1 = .int .i64 x1_1 ∧ v5 = .int .i64 x5_1 ∧ Aside0 (laws_heldStringSS.l0 kq l0 x1_1 x5_1 = some r) ∧ Aside0 (kq ≤ k) ∧ Aside0 (Below w.heap.size w w'))
 case atStart => exact ⟨(a1), (0), sR, sR, H', ⟨Nat.le_refl _⟩, ⟨sB⟩⟩
 case round =>
  clear H'
  try clear c1
  try clear p2
  obtain ⟨x1_1, x5_1, rfl, rfl, HA, HK1, HB⟩ := hrel
  cases gk with
  | zero => exact absurd HA.out (by simp [laws_heldStringSS.l0])
  | succ k1 =>
   have H := HA.out
   clear HA
   simp only [laws_heldStringSS.l0] at H
   by_cases c3 : x5_1 < (l0.length : Int)
   ·rw [if_pos c3] at H
    have c3b0 := decide_eq_true c3
    clear c3
    obtain ⟨c4, H⟩ := iN H
    have c4b0 := decide_eq_true c4
    clear c4
    obtain ⟨t451, A5, H⟩ := bS H
    try dsimp only at H
    by_cases c6 : t451 < 0
    ·rw [if_pos c6] at H
     have c6b0 := decide_eq_true c6
     clear c6
     obtain rfl := Option.some.inj H
     have p450 : 0 ≤ (x5_1 : Int) := sO
     have q450 : x5_1 < (l0.length : Int) := sO
     obtain ⟨ad450, A450_0, c450_0, e450, hx450_0, hl450_0, hi450_0⟩ := at_L8 HR0.out x5_1 p450 q450
     cases e450
     replace hx450_0 := hB HB hx450_0
     have HR450_0 := Aside0.mk hi450_0
     have HC450_0 := Aside0.mk hl450_0
     clear hi450_0 hl450_0
     replace p450 := eq_true p450
     replace q450 := eq_true q450
     go_wp2_with (first | ((with_reducible refine gt 34 rfl ?_); refine gL 34 17 Tryz.func34 #[.slice A450_0 (rd_L8 l0 x5_1).length c450_0, .int .i64 x1_1] ?_; (with_reducible refine (laws_heldStringS.calls k1 _ _ (rd_L8 l0 x5_1) x1_1 t451 _ ?side1 ?side2 A5.out).mono ?_); (case side1 => exact sD (Kd.C_below HR450_0.out HB.out)); (case side2 => exact HC450_0.out); rintro e w7 ⟨rfl, hb⟩; refine ⟨_, rfl, ?_⟩; replace HB := nSB hb; try clear hb))
     go_ret
     exact ⟨sE, sB⟩
    ·rw [if_neg c6] at H
     have c6b0 := decide_eq_false c6
     clear c6
     have H' := Aside0.mk H
     clear H
     have p450 : 0 ≤ (x5_1 : Int) := sO
     have q450 : x5_1 < (l0.length : Int) := sO
     obtain ⟨ad450, A450_0, c450_0, e450, hx450_0, hl450_0, hi450_0⟩ := at_L8 HR0.out x5_1 p450 q450
     cases e450
     replace hx450_0 := hB HB hx450_0
     have HR450_0 := Aside0.mk hi450_0
     have HC450_0 := Aside0.mk hl450_0
     clear hi450_0 hl450_0
     replace p450 := eq_true p450
     replace q450 := eq_true q450
     go_wp2_with (first | ((with_reducible refine gt 34 rfl ?_); refine gL 34 17 Tryz.func34 #[.slice A450_0 (rd_L8 l0 x5_1).length c450_0, .int .i64 x1_1] ?_; (with_reducible refine (laws_heldStringS.calls k1 _ _ (rd_L8 l0 x5_1) x1_1 t451 _ ?side1 ?side2 A5.out).mono ?_); (case side1 => exact sD (Kd.C_below HR450_0.out HB.out)); (case side2 => exact HC450_0.out); rintro e w8 ⟨rfl, hb⟩; refine ⟨_, rfl, ?_⟩; replace HB := nSB hb; try clear hb))
     go_roundg k1
     case measure => have := HK1.out; omega
     case rel => exact ⟨(t451), (wrap64 (x5_1 + 1)), sR, sR, H', ⟨by have := HK1.out; omega⟩, ⟨sB⟩⟩
   ·rw [if_neg c3] at H
    have c3b0 := decide_eq_false c3
    clear c3
    obtain rfl := Option.some.inj H
    go_wp2
    go_ret
    exact ⟨sE, sB⟩
end Go.Proofs.YtdjceippnokimaaGreatDoor.PGrp
