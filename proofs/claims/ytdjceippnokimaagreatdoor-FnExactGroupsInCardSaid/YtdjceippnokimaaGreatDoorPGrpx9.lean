import Derived.Test.YtdjceippnokimaaGreatDoorPGrpx0
import Derived.Test.YtdjceippnokimaaGreatDoorPGrpx3
import Derived.Test.YtdjceippnokimaaGreatDoorPGrpx7
import Derived.Test.YtdjceippnokimaaGreatDoorPGrpx8
namespace Go.Proofs.YtdjceippnokimaaGreatDoor.PGrp
open Go.RowKit Go.Proofs.YtdjceippnokimaaGreatDoorW.PrintWords Go.Proofs.YtdjceippnokimaaGreatDoorW.PrintLast Go.Proofs.YtdjceippnokimaaGreatDoorW.PrintMore
attribute [local go_sem] max2_int min2_int max_two min_two max_three min_three max_four min_four   -- for this text's walks alone
set_option linter.unusedVariables false
set_option linter.unusedSimpArgs false
set_option maxHeartbeats 8000000
set_option maxRecDepth 100000
/-! ### spec_l3Good: function 37 -/
mutual
def spec_l3Good.j0 : Nat → Bool → List (S65) → Int → Option (Bool)
 | 0, _, _, _ => none
 | k + 1, x34, x261000, x261001 => if x34 = true then (some false) else (spec_l3Good.l0 k x261000 (x261000.length : Int) 0 x261000 x261001)
def spec_l3Good.l0 : Nat → List (S65) → Int → Int → List (S65) → Int → Option (Bool)
 | 0, _, _, _, _, _ => none
 | k + 1, x36, x37, x38, x261000, x261001 => if x38 < x37 then (if 0 ≤ x38 then (if x38 < (x36.length : Int) then ((spec_l3Node.f k x261000 x261001 ((rd_T65 x36 x38).f0) ((rd_T65 x36 x38).f1) ((rd_T65 x36 x38).f2) ((rd_T65 x36 x38).f3) ((rd_T65 x36 x38).f4) ((rd_T65 x36 x38).f5) ((rd_T65 x36 x38).f6)).bind fun t267 => (if t267 = true then (spec_l3Good.l0 k x36 x37 (wrap64 (x38 + 1)) x261000 x261001) else (some false))) else (none)) else (none)) else ((spec_l3Met.f k x261000 x261001 0 ([] : List Int)).bind fun t268 => (spec_l3Good.l1 k t268 x261000 (x261000.length : Int) 0 x261000 x261001))
def spec_l3Good.l1 : Nat → List Int → List (S65) → Int → Int → List (S65) → Int → Option (Bool)
 | 0, _, _, _, _, _, _ => none
 | k + 1, x5, x50, x51, x52, x261000, x261001 => if x52 < x51 then (if 0 ≤ x52 then (if x52 < (x50.length : Int) then ((spec_l3Links.f k x261000 x261001 x52).bind fun t273 => (if x52 = 0 then (if t273 > 0 then (some false) else (if x52 > 0 then (if ((rd_T65 x50 x52).f0) = 2 then (if t273 = 1 then (if ((rd_T65 x50 x52).f0) = 0 then (spec_l3Good.l1 k x5 x50 x51 (wrap64 (x52 + 1)) x261000 x261001) else ((spec_l1Has.f k x5 x52).bind fun t274 => (if t274 = true then (spec_l3Good.l1 k x5 x50 x51 (wrap64 (x52 + 1)) x261000 x261001) else (some false)))) else (some false)) else (if ((rd_T65 x50 x52).f0) = 0 then (spec_l3Good.l1 k x5 x50 x51 (wrap64 (x52 + 1)) x261000 x261001) else ((spec_l1Has.f k x5 x52).bind fun t275 => (if t275 = true then (spec_l3Good.l1 k x5 x50 x51 (wrap64 (x52 + 1)) x261000 x261001) else (some false))))) else (if ((rd_T65 x50 x52).f0) = 0 then (spec_l3Good.l1 k x5 x50 x51 (wrap64 (x52 + 1)) x261000 x261001) else ((spec_l1Has.f k x5 x52).bind fun t276 => (if t276 = true then (spec_l3Good.l1 k x5 x50 x51 (wrap64 (x52 + 1)) x261000 x261001) else (some false)))))) else (if x52 > 0 then (if ((rd_T65 x50 x52).f0) = 2 then (if t273 = 1 then (if ((rd_T65 x50 x52).f0) = 0 then (spec_l3Good.l1 k x5 x50 x51 (wrap64 (x52 + 1)) x261000 x261001) else ((spec_l1Has.f k x5 x52).bind fun t277 => (if t277 = true then (spec_l3Good.l1 k x5 x50 x51 (wrap64 (x52 + 1)) x261000 x261001) else (some false)))) else (some false)) else (if ((rd_T65 x50 x52).f0) = 0 then (spec_l3Good.l1 k x5 x50 x51 (wrap64 (x52 + 1)) x261000 x261001) else ((spec_l1Has.f k x5 x52).bind fun t278 => (if t278 = true then (spec_l3Good.l1 k x5 x50 x51 (wrap64 (x52 + 1)) x261000 x261001) else (some false))))) else (if ((rd_T65 x50 x52).f0) = 0 then (spec_l3Good.l1 k x5 x50 x51 (wrap64 (x52 + 1)) x261000 x261001) else ((spec_l1Has.f k x5 x52).bind fun t279 => (if t279 = true then (spec_l3Good.l1 k x5 x50 x51 (wrap64 (x52 + 1)) x261000 x261001) else (some false))))))) else (none)) else (none)) else (some true)
end
def spec_l3Good.f (k : Nat) (l0_0 : List (S65)) (a0_1 : Int) : Option (Bool) := (spec_l1In.f (l0_0.length : Int) 1 40).bind fun t261 => (if t261 = true then ((spec_l1In.f a0_1 0 1000).bind fun t262 => (if t262 = true then ((spec_l3Bytes.f k l0_0 a0_1).bind fun t263 => (if t263 > a0_1 then (spec_l3Good.j0 k true l0_0 a0_1) else (if 0 < (l0_0.length : Int) then (spec_l3Good.j0 k (((rd_T65 l0_0 0).f0) != 2) l0_0 a0_1) else (none)))) else (spec_l3Good.j0 k true l0_0 a0_1))) else (spec_l3Good.j0 k true l0_0 a0_1))
def spec_l3Good.T1 : Bool × List (List Nat × List Nat) := (true, [([], []), ([0], [0]), ([1], [1]), ([2], [2]), ([3], [3]), ([4, 3], [4]), ([5], [5]), ([6, 5], [5, 6]), ([7, 5, 5], [5, 7]), ([8, 5], [5, 8]), ([5, 9], [5, 9]), ([10, 8], [10]), ([11], [11]), ([12, 11, 11], [11, 12]), ([11], [11]), ([14, 11], [11, 14]), ([13, 15, 11], [11, 13, 15]), ([11, 16], [11, 16]), ([17, 13], [17]), ([18], [18]), ([19, 18], [18, 19]), ([20, 18], [18, 20]), ([21, 18], [18, 21]), ([22, 18], [18, 22]), ([23, 18], [18, 23]), ([18, 24], [18, 24])])
def spec_l3Good.B1 : List Nat := [0, 1, 3, 7, 15, 31, 63, 127, 255, 511, 1023, 2047, 4095, 8191, 4095, 20479, 65535, 131071, 262143, 524287, 1048575, 2097151, 4194303, 8388607, 16777215, 33554431]
theorem spec_l3Good.tab1 : rtab .any (opsOf Tryz.f37 1) = spec_l3Good.T1 := by kernel_rfl
theorem spec_l3Good.bits1 : waitsOk spec_l3Good.T1.2 spec_l3Good.B1 = true := by kernel_rfl
theorem spec_l3Good.calls (k : Nat) (A0_0 : Option Addr) (c0_0 : Nat) (l0_0 : List (S65)) (a0_1 : Int) (r : Bool) (w : World) (hr0_0 : Kd.C k65 w A0_0 l0_0.length l0_0) (hc0_0 : l0_0.length ≤ c0_0) (h : spec_l3Good.f k l0_0 a0_1 = some r) :
  Calls Tryz.prog 37 #[.agg #[.slice A0_0 l0_0.length c0_0, .int .i64 a0_1]] w fun e w' => e = .returned (.bool r) ∧ Below w.heap.size w w' := by
 have hu30 := Tryz.underlying30
 have hu65 := Tryz.underlying65
 have HR0_0 := Aside0.mk hr0_0
 have HC0_0 := Aside0.mk hc0_0
 clear hr0_0 hc0_0
 have HB := Aside0.mk (Below.refl w.heap.size w)
 have H : ((spec_l1In.f (l0_0.length : Int) 1 40).bind fun t261 => (if t261 = true then ((spec_l1In.f a0_1 0 1000).bind fun t262 => (if t262 = true then ((spec_l3Bytes.f k l0_0 a0_1).bind fun t263 => (if t263 > a0_1 then (spec_l3Good.j0 k true l0_0 a0_1) else (if 0 < (l0_0.length : Int) then (spec_l3Good.j0 k (((rd_T65 l0_0 0).f0) != 2) l0_0 a0_1) else (none)))) else (spec_l3Good.j0 k true l0_0 a0_1))) else (spec_l3Good.j0 k true l0_0 a0_1))) = some r := h
 clear h
 have HC2 := Aside0.mk H
 clear H
 go_enter Tryz.func37, Tryz.ntmps37
 go_upto_region 1 with (first | ((with_reducible refine gd 1 rfl ?_); refine bxE 1 #[.slice A0_0 l0_0.length c0_0, .int .i64 a0_1] 30 ?_; intro gb260 hg w3 hbox hb; have BK260 := Aside0.mk hbox; have GW260 := nGB hg; have GE260 := nGB hg; replace HB := nSB hb; clear hb hbox hg))
 (try simp only [Act.put, List.setIfInBounds_toArray, List.set_cons_zero, List.set_cons_succ])
 go_cut [34] (fun v34 wc => ∃ (kq : Nat) (x34_1 : Bool), v34 = .bool x34_1 ∧ Aside0 (spec_l3Good.j0 kq x34_1 l0_0 a0_1 = some r) ∧ Aside0 (kq ≤ k) ∧ Aside0 (wc.heap[gb260]? = some (.cells #[(.slice A0_0 l0_0.length c0_0), .int .i64 a0_1] 30 (0, 0))) ∧ Aside0 (Below w.heap.size w wc))
 case first =>
  have H := HC2.out
  clear HC2
  obtain ⟨t261, A4, H⟩ := bS H
  try dsimp only at H
  by_cases c5 : t261 = true
  ·subst c5
   rw [if_pos rfl] at H
   obtain ⟨t262, A6, H⟩ := bS H
   try dsimp only at H
   by_cases c7 : t262 = true
   ·subst c7
    rw [if_pos rfl] at H
    obtain ⟨t263, A8, H⟩ := bS H
    try dsimp only at H
    by_cases c9 : t263 > a0_1
    ·rw [if_pos c9] at H
     have c9b0 := decide_eq_true c9
     clear c9
     (first | rw [c9b0] | (simp only [i64_w, i32_w]; rw [c9b0]) | skip)
     have H' := Aside0.mk H
     clear H
     try go_wp2
     have n0_ := Aside0.mk (blk_drew BK260.out)
     have n1_ := Aside0.mk (below_drew1 HB.out)
     clear BK260
     clear HB
     have BK260 := n0_
     have HB := n1_
     clear n0_ n1_
     refine st2 26 [] (cz0 BK260) (cz1 BK260) (fun hHeld => ?_); refine with_tabW spec_l3Good.tab1 spec_l3Good.bits1 (fun HT_ HW_ => ?_)
     generalize w3.drew = w10 at BK260 HB hHeld ⊢
     refine pu 0 9 ?_
     refine tk2 1 10 ?_
     refine pu 2 11 ?_
     refine on 3 12 (fun K hK => ?_)
     refine gC Tryz.func60 #[.int .i64 (l0_0.length : Int), .int .i64 1, .int .i64 40] ?_
     with_reducible refine (spec_l1In.calls (l0_0.length : Int) 1 40 true _ A4.out).mono ?_
     rintro e w' ⟨rfl, ⟨nd, rfl⟩⟩
     refine ⟨_, rfl, ?_⟩
     refine hK.out _ _ ⟨cz0 BK260, cz1 BK260⟩ (fun hHeld => ?_)
     clear hK K
     refine nm ?_
     refine pu 4 13 ?_
     refine pu 5 14 ?_
     refine pu 6 15 ?_
     refine tk2 7 16 ?_
     refine on 8 17 (fun K hK => ?_)
     refine gC Tryz.func60 #[.int .i64 a0_1, .int .i64 0, .int .i64 1000] ?_
     with_reducible refine (spec_l1In.calls a0_1 0 1000 true _ A6.out).mono ?_
     rintro e w' ⟨rfl, ⟨nd, rfl⟩⟩
     refine ⟨_, rfl, ?_⟩
     refine hK.out _ _ ⟨cz0 BK260, cz1 BK260⟩ (fun hHeld => ?_)
     clear hK K
     refine nm ?_
     refine pu 9 18 ?_
     refine pu 10 19 ?_
     refine pu 11 20 ?_
     refine pu 14 23 ?_
     refine tk2 12 21 ?_
     refine tk2 15 24 ?_
     refine on 13 22 (fun K hK => ?_)
     refine gC Tryz.func61 #[.agg #[.slice A0_0 l0_0.length c0_0, .int .i64 a0_1]] ?_
     with_reducible refine (spec_l3Bytes.calls k _ _ l0_0 a0_1 t263 _ ?side1 ?side2 A8.out).mono ?_
     (case side1 => repeat (first | exact (Kd.C_below HR0_0.out sC) | (with_reducible refine Kd.C_alloc ?_ _) | (with_reducible refine Kd.C_drewN ?_ _) | (with_reducible refine Kd.C_drew ?_)))
     (case side2 => exact HC0_0.out)
     rintro e w11 ⟨rfl, hb⟩
     refine ⟨_, rfl, ?_⟩
     have n0_ := nK BK260 hb
     have n1_ := nSC hb
     clear BK260
     clear HB
     have BK260 := n0_
     have HB := n1_
     clear n0_ n1_
     (try clear hb)
     (try clear hb2)
     (try clear hk)
     (try clear hi)
     refine hK.out _ _ ⟨cz0 BK260, cz1 BK260⟩ (fun hHeld => ?_)
     clear hK K
     refine nm ?_
     refine pu 16 25 ?_
     refine pu 17 26 ?_
     refine pu 18 27 ?_
     refine pz 19 28 ?_
     refine pz 20 29 ?_
     refine pz 21 30 ?_
     refine pz 22 31 ?_
     refine pz 23 32 ?_
     refine pz 24 33 ?_
     refine pu 25 34 ?_
     refine dn ?_
     try go_wp2
     go_meet
     case rel => exact ⟨_, (true), sR, H', ⟨by first | omega | exact Nat.le_refl _⟩, ⟨sK BK260⟩, ⟨sC⟩⟩
    ·rw [if_neg c9] at H
     have c9b0 := decide_eq_false c9
     clear c9
     (first | rw [c9b0] | (simp only [i64_w, i32_w]; rw [c9b0]) | skip)
     obtain ⟨c12, H⟩ := iN H
     have c12b0 := decide_eq_true c12
     have c12b1 : decide (0 < l0_0.length) = true := decide_eq_true (by omega)
     clear c12
     have H' := Aside0.mk H
     clear H
     try go_wp2
     have n0_ := Aside0.mk (blk_drew BK260.out)
     have n1_ := Aside0.mk (below_drew1 HB.out)
     clear BK260
     clear HB
     have BK260 := n0_
     have HB := n1_
     clear n0_ n1_
     have p264 : 0 ≤ (0 : Int) := (by omega)
     have q264 : 0 < (l0_0.length : Int) := sO
     obtain ⟨ad264, A264_6, c264_6, e264, hx264_0, hx264_1, hx264_2, hx264_3, hx264_4, hx264_5, hx264_6, hl264_6, hi264_6⟩ := at_T65 HR0_0.out 0 p264 q264
     have hw264_6 := hx264_6
     (try rw [show ((0 : Int)).toNat = 0 from rfl] at hw264_6)
     (try rw [show 0 * 7 = 0 from rfl] at hw264_6)
     (try rw [Addr.add_zero'] at hw264_6)
     have hw264_5 := hx264_5
     (try rw [show ((0 : Int)).toNat = 0 from rfl] at hw264_5)
     (try rw [show 0 * 7 = 0 from rfl] at hw264_5)
     (try rw [Addr.add_zero'] at hw264_5)
     have hw264_4 := hx264_4
     (try rw [show ((0 : Int)).toNat = 0 from rfl] at hw264_4)
     (try rw [show 0 * 7 = 0 from rfl] at hw264_4)
     (try rw [Addr.add_zero'] at hw264_4)
     have hw264_3 := hx264_3
     (try rw [show ((0 : Int)).toNat = 0 from rfl] at hw264_3)
     (try rw [show 0 * 7 = 0 from rfl] at hw264_3)
     (try rw [Addr.add_zero'] at hw264_3)
     have hw264_2 := hx264_2
     (try rw [show ((0 : Int)).toNat = 0 from rfl] at hw264_2)
     (try rw [show 0 * 7 = 0 from rfl] at hw264_2)
     (try rw [Addr.add_zero'] at hw264_2)
     have hw264_1 := hx264_1
     (try rw [show ((0 : Int)).toNat = 0 from rfl] at hw264_1)
     (try rw [show 0 * 7 = 0 from rfl] at hw264_1)
     (try rw [Addr.add_zero'] at hw264_1)
     have hw264_0 := hx264_0
     (try rw [show ((0 : Int)).toNat = 0 from rfl] at hw264_0)
     (try rw [show 0 * 7 = 0 from rfl] at hw264_0)
     (try rw [Addr.add_zero'] at hw264_0)
     cases e264
     have qi264 : (0 < l0_0.length) = True := eq_true (by omega)
     (try rw [show ((0 : Int)).toNat = 0 from rfl] at hx264_0)
     (try rw [show 0 * 7 = 0 from rfl] at hx264_0)
     (try rw [Addr.add_zero'] at hx264_0)
     (try rw [show ((0 : Int)).toNat = 0 from rfl] at hx264_1)
     (try rw [show 0 * 7 = 0 from rfl] at hx264_1)
     (try rw [Addr.add_zero'] at hx264_1)
     (try rw [show ((0 : Int)).toNat = 0 from rfl] at hx264_2)
     (try rw [show 0 * 7 = 0 from rfl] at hx264_2)
     (try rw [Addr.add_zero'] at hx264_2)
     (try rw [show ((0 : Int)).toNat = 0 from rfl] at hx264_3)
     (try rw [show 0 * 7 = 0 from rfl] at hx264_3)
     (try rw [Addr.add_zero'] at hx264_3)
     (try rw [show ((0 : Int)).toNat = 0 from rfl] at hx264_4)
     (try rw [show 0 * 7 = 0 from rfl] at hx264_4)
     (try rw [Addr.add_zero'] at hx264_4)
     (try rw [show ((0 : Int)).toNat = 0 from rfl] at hx264_5)
     (try rw [show 0 * 7 = 0 from rfl] at hx264_5)
     (try rw [Addr.add_zero'] at hx264_5)
     (try rw [show ((0 : Int)).toNat = 0 from rfl] at hx264_6)
     (try rw [show 0 * 7 = 0 from rfl] at hx264_6)
     (try rw [Addr.add_zero'] at hx264_6)
     replace hx264_0 := hB HB hx264_0
     replace hx264_1 := hB HB hx264_1
     replace hx264_2 := hB HB hx264_2
     replace hx264_3 := hB HB hx264_3
     replace hx264_4 := hB HB hx264_4
     replace hx264_5 := hB HB hx264_5
     replace hx264_6 := hB HB hx264_6
     have HR264_6 := Aside0.mk hi264_6
     have HC264_6 := Aside0.mk hl264_6
     clear hi264_6 hl264_6
     replace p264 := eq_true p264
     replace q264 := eq_true q264
     refine st9 26 [] (cz0 BK260) (cz1 BK260) (hB HB hw264_0 :) (hB HB hw264_1 :) (hB HB hw264_2 :) (hB HB hw264_3 :) (hB HB hw264_4 :) (hB HB hw264_5 :) (hB HB hw264_6 :) (fun hHeld => ?_); refine with_tabW spec_l3Good.tab1 spec_l3Good.bits1 (fun HT_ HW_ => ?_)
     generalize w3.drew = w13 at BK260 HB HR264_6 hx264_0 hx264_1 hx264_2 hx264_3 hx264_4 hx264_5 hx264_6 hHeld ⊢
     refine pu 0 9 ?_
     refine tk9 1 10 ?_
     refine pu 2 11 ?_
     refine on 3 12 (fun K hK => ?_)
     refine gC Tryz.func60 #[.int .i64 (l0_0.length : Int), .int .i64 1, .int .i64 40] ?_
     with_reducible refine (spec_l1In.calls (l0_0.length : Int) 1 40 true _ A4.out).mono ?_
     rintro e w' ⟨rfl, ⟨nd, rfl⟩⟩
     refine ⟨_, rfl, ?_⟩
     refine hK.out _ _ ⟨cz0 BK260, cz1 BK260, (hB HB hw264_0 :), (hB HB hw264_1 :), (hB HB hw264_2 :), (hB HB hw264_3 :), (hB HB hw264_4 :), (hB HB hw264_5 :), (hB HB hw264_6 :)⟩ (fun hHeld => ?_)
     clear hK K
     refine nm ?_
     refine pu 4 13 ?_
     refine pu 5 14 ?_
     refine pu 6 15 ?_
     refine tk9 7 16 ?_
     refine on 8 17 (fun K hK => ?_)
     refine gC Tryz.func60 #[.int .i64 a0_1, .int .i64 0, .int .i64 1000] ?_
     with_reducible refine (spec_l1In.calls a0_1 0 1000 true _ A6.out).mono ?_
     rintro e w' ⟨rfl, ⟨nd, rfl⟩⟩
     refine ⟨_, rfl, ?_⟩
     refine hK.out _ _ ⟨cz0 BK260, cz1 BK260, (hB HB hw264_0 :), (hB HB hw264_1 :), (hB HB hw264_2 :), (hB HB hw264_3 :), (hB HB hw264_4 :), (hB HB hw264_5 :), (hB HB hw264_6 :)⟩ (fun hHeld => ?_)
     clear hK K
     refine nm ?_
     refine pu 9 18 ?_
     refine pu 10 19 ?_
     refine pu 11 20 ?_
     refine pu 14 23 ?_
     refine tk9 12 21 ?_
     refine tk9 15 24 ?_
     refine on 13 22 (fun K hK => ?_)
     refine gC Tryz.func61 #[.agg #[.slice (some ad264) l0_0.length c0_0, .int .i64 a0_1]] ?_
     with_reducible refine (spec_l3Bytes.calls k _ _ l0_0 a0_1 t263 _ ?side1 ?side2 A8.out).mono ?_
     (case side1 => repeat (first | exact (Kd.C_below HR0_0.out sC) | (with_reducible refine Kd.C_alloc ?_ _) | (with_reducible refine Kd.C_drewN ?_ _) | (with_reducible refine Kd.C_drew ?_)))
     (case side2 => exact HC0_0.out)
     rintro e w14 ⟨rfl, hb⟩
     refine ⟨_, rfl, ?_⟩
     have n0_ := nK BK260 hb
     have n1_ := nSC hb
     clear BK260
     clear HB
     have BK260 := n0_
     have HB := n1_
     clear n0_ n1_
     (try clear hb)
     (try clear hb2)
     (try clear hk)
     (try clear hi)
     refine hK.out _ _ ⟨cz0 BK260, cz1 BK260, (hB HB hw264_0 :), (hB HB hw264_1 :), (hB HB hw264_2 :), (hB HB hw264_3 :), (hB HB hw264_4 :), (hB HB hw264_5 :), (hB HB hw264_6 :)⟩ (fun hHeld => ?_)
     clear hK K
     refine nm ?_
     refine pu 16 25 ?_
     refine pu 17 26 ?_
     refine pu 18 27 ?_
     refine pu 19 28 ?_
     refine tk9 20 29 ?_
     refine pu 21 30 ?_
     refine pu 22 31 ?_
     refine tk9 23 32 ?_
     refine pu 24 33 ?_
     refine pu 25 34 ?_
     refine dn ?_
     try go_wp2
     go_meet
     case rel => exact ⟨_, ((((rd_T65 l0_0 0).f0) != 2)), sR, H', ⟨by first | omega | exact Nat.le_refl _⟩, ⟨sK BK260⟩, ⟨sC⟩⟩
   ·replace c7 := Bool.eq_false_iff.mpr c7
    subst c7
    rw [if_neg (show ¬ (false = true) by decide)] at H
    have H' := Aside0.mk H
    clear H
    try go_wp2
    have n0_ := Aside0.mk (blk_drew BK260.out)
    have n1_ := Aside0.mk (below_drew1 HB.out)
    clear BK260
    clear HB
    have BK260 := n0_
    have HB := n1_
    clear n0_ n1_
    refine st2 26 [] (cz0 BK260) (cz1 BK260) (fun hHeld => ?_); refine with_tabW spec_l3Good.tab1 spec_l3Good.bits1 (fun HT_ HW_ => ?_)
    generalize w3.drew = w15 at BK260 HB hHeld ⊢
    refine pu 0 9 ?_
    refine tk2 1 10 ?_
    refine pu 2 11 ?_
    refine on 3 12 (fun K hK => ?_)
    refine gC Tryz.func60 #[.int .i64 (l0_0.length : Int), .int .i64 1, .int .i64 40] ?_
    with_reducible refine (spec_l1In.calls (l0_0.length : Int) 1 40 true _ A4.out).mono ?_
    rintro e w' ⟨rfl, ⟨nd, rfl⟩⟩
    refine ⟨_, rfl, ?_⟩
    refine hK.out _ _ ⟨cz0 BK260, cz1 BK260⟩ (fun hHeld => ?_)
    clear hK K
    refine nm ?_
    refine pu 4 13 ?_
    refine pu 5 14 ?_
    refine pu 6 15 ?_
    refine tk2 7 16 ?_
    refine on 8 17 (fun K hK => ?_)
    refine gC Tryz.func60 #[.int .i64 a0_1, .int .i64 0, .int .i64 1000] ?_
    with_reducible refine (spec_l1In.calls a0_1 0 1000 false _ A6.out).mono ?_
    rintro e w' ⟨rfl, ⟨nd, rfl⟩⟩
    refine ⟨_, rfl, ?_⟩
    refine hK.out _ _ ⟨cz0 BK260, cz1 BK260⟩ (fun hHeld => ?_)
    clear hK K
    refine nm ?_
    refine pu 9 18 ?_
    refine pu 10 19 ?_
    refine pu 11 20 ?_
    refine pz 12 21 ?_
    refine pz 13 22 ?_
    refine pz 14 23 ?_
    refine pz 15 24 ?_
    refine pz 16 25 ?_
    refine pu 17 26 ?_
    refine pu 18 27 ?_
    refine pz 19 28 ?_
    refine pz 20 29 ?_
    refine pz 21 30 ?_
    refine pz 22 31 ?_
    refine pz 23 32 ?_
    refine pz 24 33 ?_
    refine pu 25 34 ?_
    refine dn ?_
    try go_wp2
    go_meet
    case rel => exact ⟨_, (true), sR, H', ⟨by first | omega | exact Nat.le_refl _⟩, ⟨sK BK260⟩, ⟨sC⟩⟩
  ·replace c5 := Bool.eq_false_iff.mpr c5
   subst c5
   rw [if_neg (show ¬ (false = true) by decide)] at H
   have H' := Aside0.mk H
   clear H
   try go_wp2
   have n0_ := Aside0.mk (blk_drew BK260.out)
   have n1_ := Aside0.mk (below_drew1 HB.out)
   clear BK260
   clear HB
   have BK260 := n0_
   have HB := n1_
   clear n0_ n1_
   refine st2 26 [] (cz0 BK260) (cz1 BK260) (fun hHeld => ?_); refine with_tabW spec_l3Good.tab1 spec_l3Good.bits1 (fun HT_ HW_ => ?_)
   generalize w3.drew = w16 at BK260 HB hHeld ⊢
   refine pu 0 9 ?_
   refine tk2 1 10 ?_
   refine pu 2 11 ?_
   refine on 3 12 (fun K hK => ?_)
   refine gC Tryz.func60 #[.int .i64 (l0_0.length : Int), .int .i64 1, .int .i64 40] ?_
   with_reducible refine (spec_l1In.calls (l0_0.length : Int) 1 40 false _ A4.out).mono ?_
   rintro e w' ⟨rfl, ⟨nd, rfl⟩⟩
   refine ⟨_, rfl, ?_⟩
   refine hK.out _ _ ⟨cz0 BK260, cz1 BK260⟩ (fun hHeld => ?_)
   clear hK K
   refine nm ?_
   refine pu 4 13 ?_
   refine pu 5 14 ?_
   refine pz 6 15 ?_
   refine pz 7 16 ?_
   refine pz 8 17 ?_
   refine pz 9 18 ?_
   refine pu 10 19 ?_
   refine pu 11 20 ?_
   refine pz 12 21 ?_
   refine pz 13 22 ?_
   refine pz 14 23 ?_
   refine pz 15 24 ?_
   refine pz 16 25 ?_
   refine pu 17 26 ?_
   refine pu 18 27 ?_
   refine pz 19 28 ?_
   refine pz 20 29 ?_
   refine pz 21 30 ?_
   refine pz 22 31 ?_
   refine pz 23 32 ?_
   refine pz 24 33 ?_
   refine pu 25 34 ?_
   refine dn ?_
   try go_wp2
   go_meet
   case rel => exact ⟨_, (true), sR, H', ⟨by first | omega | exact Nat.le_refl _⟩, ⟨sK BK260⟩, ⟨sC⟩⟩
 case rest =>
  clear HC2
  try clear c1
  try clear p2
  try clear c5
  try clear c6
  try clear c7
  try clear c12
  obtain ⟨kq, x34_1, rfl, HA, HJ1, BK260, HB⟩ := hcut
  cases kq with
  | zero => exact absurd HA.out (by simp [spec_l3Good.j0])
  | succ kj1 =>
   have H := HA.out
   clear HA
   simp only [spec_l3Good.j0] at H
   by_cases c17 : x34_1 = true
   ·subst c17
    rw [if_pos rfl] at H
    obtain rfl := Option.some.inj H
    go_wp2
    go_ret
    exact ⟨sE, sC⟩
   ·replace c17 := Bool.eq_false_iff.mpr c17
    subst c17
    rw [if_neg (show ¬ (false = true) by decide)] at H
    have H' := Aside0.mk H
    clear H
    have hcz18 := cb2 BK260
    go_wp2
    go_loopg [38] kj1 (fun kq v38 w' => ∃ (x38_2 : Int), v38 = .int .i64 x38_2 ∧ Aside0 (spec_l3Good.l0 kq l0_0 (l0_0.length : Int) x38_2 l0_0 a0_1 = some r) ∧ Aside0 (kq ≤ kj1) ∧ Aside0 (w'.heap[gb260]? = some (.cells #[(.slice A0_0 l0_0.length c0_0), .int .i64 a0_1] 30 (0, 0))) ∧ Aside0 (Below w.heap.size w w'))
    case atStart => exact ⟨(0), sR, H', ⟨Nat.le_refl _⟩, ⟨sK BK260⟩, ⟨sC⟩⟩
    case round =>
     clear H'
     try clear c1
     try clear p2
     try clear c5
     try clear c6
     try clear c7
     try clear c12
     try clear c17
     try clear hcz18
     try clear p2
     obtain ⟨x38_2, rfl, HA, HK2, BK260, HB⟩ := hrel
     cases gk with
     | zero => exact absurd HA.out (by simp [spec_l3Good.l0])
     | succ k2 =>
      have H := HA.out
      clear HA
      simp only [spec_l3Good.l0] at H
      by_cases c19 : x38_2 < (l0_0.length : Int)
      ·rw [if_pos c19] at H
       have c19b0 := decide_eq_true c19
       clear c19
       obtain ⟨c20, H⟩ := iN H
       have c20b0 := decide_eq_true c20
       clear c20
       obtain ⟨c21, H⟩ := iN H
       have c21b0 := decide_eq_true c21
       clear c21
       obtain ⟨t267, A22, H⟩ := bS H
       try dsimp only at H
       by_cases c23 : t267 = true
       ·subst c23
        rw [if_pos rfl] at H
        have H' := Aside0.mk H
        clear H
        have p265 : 0 ≤ (x38_2 : Int) := sO
        have q265 : x38_2 < (l0_0.length : Int) := sO
        obtain ⟨ad265, A265_6, c265_6, e265, hx265_0, hx265_1, hx265_2, hx265_3, hx265_4, hx265_5, hx265_6, hl265_6, hi265_6⟩ := ab65 HR0_0.out HB x38_2 p265 q265
        cases e265
        have HR265_6 := Aside0.mk hi265_6
        have HC265_6 := Aside0.mk hl265_6
        clear hi265_6 hl265_6
        replace p265 := eq_true p265
        replace q265 := eq_true q265
        go_wp2_with (first | ((with_reducible refine gd 4 rfl ?_); refine bxE 4 #[.int .i64 0, .int .i64 0, .int .i64 0, .int .i64 0, .int .i64 0, .string (⟨#[]⟩ : ByteArray), .slice none 0 0] 65 ?_; intro gb266 hg w24 hbox hb; have BK266 := Aside0.mk hbox; have GW266 := nGC hg; have GE266 := nGC hg; replace HB := nSC hb; have NB260_266 := nL BK260 hg; have NB266_260 := nH BK260 hg; replace BK260 := nK BK260 hb; clear hb hbox hg; have hnb25 := NB266_260.out; have hnc25 := NB260_266.out; have hcz26 := cb7 BK266; have hcz27 := cb2 BK260) | ((with_reducible refine gt 62 rfl ?_); refine gL 62 44 Tryz.func62 #[.agg #[.slice (some ad265) l0_0.length c0_0, .int .i64 a0_1], .agg #[.int .i64 ((rd_T65 l0_0 x38_2).f0), .int .i64 ((rd_T65 l0_0 x38_2).f1), .int .i64 ((rd_T65 l0_0 x38_2).f2), .int .i64 ((rd_T65 l0_0 x38_2).f3), .int .i64 ((rd_T65 l0_0 x38_2).f4), .string ((rd_T65 l0_0 x38_2).f5), .slice A265_6 ((rd_T65 l0_0 x38_2).f6).length c265_6]] ?_; (with_reducible refine (spec_l3Node.calls k2 _ _ l0_0 a0_1 ((rd_T65 l0_0 x38_2).f0) ((rd_T65 l0_0 x38_2).f1) ((rd_T65 l0_0 x38_2).f2) ((rd_T65 l0_0 x38_2).f3) ((rd_T65 l0_0 x38_2).f4) ((rd_T65 l0_0 x38_2).f5) _ _ ((rd_T65 l0_0 x38_2).f6) true _ ?side1 ?side2 ?side3 ?side4 A22.out).mono ?_); (case side1 => exact Kd.C_below HR0_0.out sC); (case side2 => exact HC0_0.out); (case side3 => exact Kd.C_below HR265_6.out sC); (case side4 => exact HC265_6.out); rintro e w28 ⟨rfl, hb⟩; refine ⟨_, rfl, ?_⟩; replace BK260 := nF BK260 hb; replace BK266 := nX #[.int .i64 ((rd_T65 l0_0 x38_2).f0), .int .i64 ((rd_T65 l0_0 x38_2).f1), .int .i64 ((rd_T65 l0_0 x38_2).f2), .int .i64 ((rd_T65 l0_0 x38_2).f3), .int .i64 ((rd_T65 l0_0 x38_2).f4), .string ((rd_T65 l0_0 x38_2).f5), .slice A265_6 ((rd_T65 l0_0 x38_2).f6).length c265_6] BK266 hb; replace HB := nSC hb; try clear hb))
        go_roundg k2
        case measure => have := HJ1.out; have := HK2.out; omega
        case rel => exact ⟨(wrap64 (x38_2 + 1)), sR, H', ⟨by have := HJ1.out; have := HK2.out; omega⟩, ⟨sK BK260⟩, ⟨sC⟩⟩
       ·replace c23 := Bool.eq_false_iff.mpr c23
        subst c23
        rw [if_neg (show ¬ (false = true) by decide)] at H
        obtain rfl := Option.some.inj H
        have p265 : 0 ≤ (x38_2 : Int) := sO
        have q265 : x38_2 < (l0_0.length : Int) := sO
        obtain ⟨ad265, A265_6, c265_6, e265, hx265_0, hx265_1, hx265_2, hx265_3, hx265_4, hx265_5, hx265_6, hl265_6, hi265_6⟩ := ab65 HR0_0.out HB x38_2 p265 q265
        cases e265
        have HR265_6 := Aside0.mk hi265_6
        have HC265_6 := Aside0.mk hl265_6
        clear hi265_6 hl265_6
        replace p265 := eq_true p265
        replace q265 := eq_true q265
        go_wp2_with (first | ((with_reducible refine gd 4 rfl ?_); refine bxE 4 #[.int .i64 0, .int .i64 0, .int .i64 0, .int .i64 0, .int .i64 0, .string (⟨#[]⟩ : ByteArray), .slice none 0 0] 65 ?_; intro gb266 hg w29 hbox hb; have BK266 := Aside0.mk hbox; have GW266 := nGC hg; have GE266 := nGC hg; replace HB := nSC hb; have NB260_266 := nL BK260 hg; have NB266_260 := nH BK260 hg; replace BK260 := nK BK260 hb; clear hb hbox hg; have hnb30 := NB266_260.out; have hnc30 := NB260_266.out; have hcz31 := cb7 BK266; have hcz32 := cb2 BK260) | ((with_reducible refine gt 62 rfl ?_); refine gL 62 44 Tryz.func62 #[.agg #[.slice (some ad265) l0_0.length c0_0, .int .i64 a0_1], .agg #[.int .i64 ((rd_T65 l0_0 x38_2).f0), .int .i64 ((rd_T65 l0_0 x38_2).f1), .int .i64 ((rd_T65 l0_0 x38_2).f2), .int .i64 ((rd_T65 l0_0 x38_2).f3), .int .i64 ((rd_T65 l0_0 x38_2).f4), .string ((rd_T65 l0_0 x38_2).f5), .slice A265_6 ((rd_T65 l0_0 x38_2).f6).length c265_6]] ?_; (with_reducible refine (spec_l3Node.calls k2 _ _ l0_0 a0_1 ((rd_T65 l0_0 x38_2).f0) ((rd_T65 l0_0 x38_2).f1) ((rd_T65 l0_0 x38_2).f2) ((rd_T65 l0_0 x38_2).f3) ((rd_T65 l0_0 x38_2).f4) ((rd_T65 l0_0 x38_2).f5) _ _ ((rd_T65 l0_0 x38_2).f6) false _ ?side1 ?side2 ?side3 ?side4 A22.out).mono ?_); (case side1 => exact Kd.C_below HR0_0.out sC); (case side2 => exact HC0_0.out); (case side3 => exact Kd.C_below HR265_6.out sC); (case side4 => exact HC265_6.out); rintro e w33 ⟨rfl, hb⟩; refine ⟨_, rfl, ?_⟩; replace BK260 := nF BK260 hb; replace BK266 := nX #[.int .i64 ((rd_T65 l0_0 x38_2).f0), .int .i64 ((rd_T65 l0_0 x38_2).f1), .int .i64 ((rd_T65 l0_0 x38_2).f2), .int .i64 ((rd_T65 l0_0 x38_2).f3), .int .i64 ((rd_T65 l0_0 x38_2).f4), .string ((rd_T65 l0_0 x38_2).f5), .slice A265_6 ((rd_T65 l0_0 x38_2).f6).length c265_6] BK266 hb; replace HB := nSC hb; try clear hb))
        go_ret
        exact ⟨sE, sC⟩
      ·rw [if_neg c19] at H
       have c19b0 := decide_eq_false c19
       clear c19
       obtain ⟨t268, A34, H⟩ := bS H
       try dsimp only at H
       have H' := Aside0.mk H
       clear H
       have hcz35 := cb2 BK260
       go_wp2_with (first | ((with_reducible refine gt 63 rfl ?_); refine gL 63 48 Tryz.func63 #[.agg #[.slice A0_0 l0_0.length c0_0, .int .i64 a0_1], .int .i64 0, .slice none 0 0] ?_; (refine (spec_l3Met.calls k2 _ _ l0_0 a0_1 0 (fun k_ => some k_ = (.slice none 0 0 : Value).ownBlock) (.slice none 0 0) ([] : List Int) t268 w _ ?side1 ?side2 ?side3 ?side4 A34.out).mono ?_); (case side1 => repeat (first | (with_reducible first | exact HB.out | apply below_alloc | apply pw_below_drewN | apply below_drew1 | refine below_set ?_ GE260.out) | exact HB.out)); (case side2 => exact Kd.C_kept_came k65_heap HR0_0.out sC (fun k_ hs_ => (fun e_ => by simp [Value.ownBlock] at e_) hs_)); (case side3 => exact HC0_0.out); (case side4 => exact Kd.R_nil _ _ _ _ _); rintro e w36 ⟨v269, rfl, ho0, hb, hkp⟩; refine ⟨_, rfl, ?_⟩; replace BK260 := Aside0.mk (blk_kept (sK BK260) hkp (fun hs_ => (fun e_ => by simp [Value.ownBlock] at e_) hs_)); have HO270 := Aside0.mk (Kd.R_mono (ok' := fun k_ => True) ho0 (fun k_ hk_ => trivial)); replace HB := Aside0.mk (hb); (try clear hb); (try clear hkp); (try clear ho0); have hcz37 := cb2 BK260))
       go_loopg [52] k2 (fun kq v52 w' => ∃ (x52_3 : Int), v52 = .int .i64 x52_3 ∧ Aside0 (spec_l3Good.l1 kq t268 l0_0 (l0_0.length : Int) x52_3 l0_0 a0_1 = some r) ∧ Aside0 (kq ≤ k2) ∧ Aside0 (Kd.R (Kd.int .i64) 3 w' w.heap.size (fun _ => True) v269 t268) ∧ Aside0 (w'.heap[gb260]? = some (.cells #[(.slice A0_0 l0_0.length c0_0), .int .i64 a0_1] 30 (0, 0))) ∧ Aside0 (Below w.heap.size w w'))
       case atStart => exact ⟨(0), sR, H', ⟨Nat.le_refl _⟩, ⟨rR HO270⟩, ⟨sK BK260⟩, ⟨sC⟩⟩
       case round =>
        clear H'
        try clear c1
        try clear c2
        try clear p2
        try clear q2
        try clear hx2
        try clear c3
        try clear c5
        try clear c6
        try clear p6
        try clear c7
        try clear c12
        try clear c17
        try clear c19
        try clear c19b0
        try clear c20
        try clear c20b0
        try clear c21
        try clear c21b0
        try clear c23
        try clear c25
        try clear c26
        try clear p26
        try clear q26
        try clear hx26
        try clear c30
        try clear hcz18
        try clear hcz26
        try clear hcz27
        try clear hcz31
        try clear hcz32
        try clear hcz35
        try clear hcz37
        try clear hx265_0
        try clear hx265_1
        try clear hx265_2
        try clear hx265_3
        try clear hx265_4
        try clear hx265_5
        try clear hx265_6
        try clear p2
        try clear p265
        try clear q265
        obtain ⟨x52_3, rfl, HA, HK3, HO_5, BK260, HB⟩ := hrel
        cases gk with
        | zero => exact absurd HA.out (by simp [spec_l3Good.l1])
        | succ k3 =>
         have H := HA.out
         clear HA
         simp only [spec_l3Good.l1] at H
         by_cases c38 : x52_3 < (l0_0.length : Int)
         ·rw [if_pos c38] at H
          have c38b0 := decide_eq_true c38
          clear c38
          obtain ⟨c39, H⟩ := iN H
          have c39b0 := decide_eq_true c39
          clear c39
          obtain ⟨c40, H⟩ := iN H
          have c40b0 := decide_eq_true c40
          clear c40
          obtain ⟨t273, A41, H⟩ := bS H
          try dsimp only at H
          by_cases c42 : x52_3 = 0
          ·rw [if_pos c42] at H
           have c42b0 := beq_iff_eq.mpr c42
           have c42b1 := bne_eq_false_iff_eq.mpr c42
           clear c42
           by_cases c43 : t273 > 0
           ·rw [if_pos c43] at H
            have c43b0 := decide_eq_true c43
            clear c43
            obtain rfl := Option.some.inj H
            have p271 : 0 ≤ (x52_3 : Int) := sO
            have q271 : x52_3 < (l0_0.length : Int) := sO
            obtain ⟨ad271, A271_6, c271_6, e271, hx271_0, hx271_1, hx271_2, hx271_3, hx271_4, hx271_5, hx271_6, hl271_6, hi271_6⟩ := ab65 HR0_0.out HB x52_3 p271 q271
            cases e271
            have HR271_6 := Aside0.mk hi271_6
            have HC271_6 := Aside0.mk hl271_6
            clear hi271_6 hl271_6
            replace p271 := eq_true p271
            replace q271 := eq_true q271
            go_wp2_with (first | ((with_reducible refine gd 7 rfl ?_); refine bxE 7 #[.int .i64 0, .int .i64 0, .int .i64 0, .int .i64 0, .int .i64 0, .string (⟨#[]⟩ : ByteArray), .slice none 0 0] 65 ?_; intro gb272 hg w44 hbox hb; replace HO_5 := nR HO_5 hb; have BK272 := Aside0.mk hbox; have GW272 := nGC hg; have GE272 := nGC hg; replace HB := nSC hb; have NB260_272 := nL BK260 hg; have NB272_260 := nH BK260 hg; replace BK260 := nK BK260 hb; clear hb hbox hg; have hnb45 := NB272_260.out; have hnc45 := NB260_272.out; have hcz46 := cb7 BK272; have hcz47 := cb2 BK260) | ((with_reducible refine gt 64 rfl ?_); refine gL 64 59 Tryz.func64 #[.agg #[.slice (some ad271) l0_0.length c0_0, .int .i64 a0_1], .int .i64 x52_3] ?_; (with_reducible refine (spec_l3Links.calls k3 _ _ l0_0 a0_1 x52_3 t273 _ ?side1 ?side2 A41.out).mono ?_); (case side1 => exact Kd.C_below HR0_0.out sC); (case side2 => exact HC0_0.out); rintro e w48 ⟨rfl, hb⟩; refine ⟨_, rfl, ?_⟩; replace HO_5 := nRf HO_5 BK272 hb; replace BK260 := nF BK260 hb; replace BK272 := nX #[.int .i64 ((rd_T65 l0_0 x52_3).f0), .int .i64 ((rd_T65 l0_0 x52_3).f1), .int .i64 ((rd_T65 l0_0 x52_3).f2), .int .i64 ((rd_T65 l0_0 x52_3).f3), .int .i64 ((rd_T65 l0_0 x52_3).f4), .string ((rd_T65 l0_0 x52_3).f5), .slice A271_6 ((rd_T65 l0_0 x52_3).f6).length c271_6] BK272 hb; replace HB := nSC hb; try clear hb))
            go_ret
            exact ⟨sE, sC⟩
           ·rw [if_neg c43] at H
            have c43b0 := decide_eq_false c43
            clear c43
            by_cases c49 : x52_3 > 0
            ·rw [if_pos c49] at H
             have c49b0 := decide_eq_true c49
             clear c49
             by_cases c50 : ((rd_T65 l0_0 x52_3).f0) = 2
             ·rw [if_pos c50] at H
              have c50b0 := beq_iff_eq.mpr c50
              have c50b1 := bne_eq_false_iff_eq.mpr c50
              clear c50
              by_cases c51 : t273 = 1
              ·rw [if_pos c51] at H
               have c51b0 := beq_iff_eq.mpr c51
               have c51b1 := bne_eq_false_iff_eq.mpr c51
               clear c51
               by_cases c52 : ((rd_T65 l0_0 x52_3).f0) = 0
               ·rw [if_pos c52] at H
                have c52b0 := beq_iff_eq.mpr c52
                have c52b1 := bne_eq_false_iff_eq.mpr c52
                clear c52
                have H' := Aside0.mk H
                clear H
                have p271 : 0 ≤ (x52_3 : Int) := sO
                have q271 : x52_3 < (l0_0.length : Int) := sO
                obtain ⟨ad271, A271_6, c271_6, e271, hx271_0, hx271_1, hx271_2, hx271_3, hx271_4, hx271_5, hx271_6, hl271_6, hi271_6⟩ := ab65 HR0_0.out HB x52_3 p271 q271
                cases e271
                have HR271_6 := Aside0.mk hi271_6
                have HC271_6 := Aside0.mk hl271_6
                clear hi271_6 hl271_6
                replace p271 := eq_true p271
                replace q271 := eq_true q271
                go_wp2_with (first | ((with_reducible refine gd 7 rfl ?_); refine bxE 7 #[.int .i64 0, .int .i64 0, .int .i64 0, .int .i64 0, .int .i64 0, .string (⟨#[]⟩ : ByteArray), .slice none 0 0] 65 ?_; intro gb272 hg w53 hbox hb; replace HO_5 := nR HO_5 hb; have BK272 := Aside0.mk hbox; have GW272 := nGC hg; have GE272 := nGC hg; replace HB := nSC hb; have NB260_272 := nL BK260 hg; have NB272_260 := nH BK260 hg; replace BK260 := nK BK260 hb; clear hb hbox hg; have hnb54 := NB272_260.out; have hnc54 := NB260_272.out; have hcz55 := cb7 BK272; have hcz56 := cb2 BK260) | ((with_reducible refine gt 64 rfl ?_); refine gL 64 59 Tryz.func64 #[.agg #[.slice (some ad271) l0_0.length c0_0, .int .i64 a0_1], .int .i64 x52_3] ?_; (with_reducible refine (spec_l3Links.calls k3 _ _ l0_0 a0_1 x52_3 t273 _ ?side1 ?side2 A41.out).mono ?_); (case side1 => exact Kd.C_below HR0_0.out sC); (case side2 => exact HC0_0.out); rintro e w57 ⟨rfl, hb⟩; refine ⟨_, rfl, ?_⟩; replace HO_5 := nRf HO_5 BK272 hb; replace BK260 := nF BK260 hb; replace BK272 := nX #[.int .i64 ((rd_T65 l0_0 x52_3).f0), .int .i64 ((rd_T65 l0_0 x52_3).f1), .int .i64 ((rd_T65 l0_0 x52_3).f2), .int .i64 ((rd_T65 l0_0 x52_3).f3), .int .i64 ((rd_T65 l0_0 x52_3).f4), .string ((rd_T65 l0_0 x52_3).f5), .slice A271_6 ((rd_T65 l0_0 x52_3).f6).length c271_6] BK272 hb; replace HB := nSC hb; try clear hb; have hcz58 := cb7 BK272))
                go_roundg k3
                case measure => have := HJ1.out; have := HK2.out; have := HK3.out; omega
                case rel => exact ⟨(wrap64 (x52_3 + 1)), sR, H', ⟨by have := HJ1.out; have := HK2.out; have := HK3.out; omega⟩, ⟨rR HO_5⟩, ⟨sK BK260⟩, ⟨sC⟩⟩
               ·rw [if_neg c52] at H
                have c52b0 := beq_eq_false_iff_ne.mpr c52
                have c52b1 := bne_iff_ne.mpr c52
                obtain ⟨t274, A59, H⟩ := bS H
                try dsimp only at H
                by_cases c60 : t274 = true
                ·subst c60
                 rw [if_pos rfl] at H
                 have H' := Aside0.mk H
                 clear H
                 have p271 : 0 ≤ (x52_3 : Int) := sO
                 have q271 : x52_3 < (l0_0.length : Int) := sO
                 obtain ⟨ad271, A271_6, c271_6, e271, hx271_0, hx271_1, hx271_2, hx271_3, hx271_4, hx271_5, hx271_6, hl271_6, hi271_6⟩ := ab65 HR0_0.out HB x52_3 p271 q271
                 cases e271
                 have HR271_6 := Aside0.mk hi271_6
                 have HC271_6 := Aside0.mk hl271_6
                 clear hi271_6 hl271_6
                 replace p271 := eq_true p271
                 replace q271 := eq_true q271
                 go_wp2_with (first | ((with_reducible refine gd 7 rfl ?_); refine bxE 7 #[.int .i64 0, .int .i64 0, .int .i64 0, .int .i64 0, .int .i64 0, .string (⟨#[]⟩ : ByteArray), .slice none 0 0] 65 ?_; intro gb272 hg w61 hbox hb; replace HO_5 := nR HO_5 hb; have BK272 := Aside0.mk hbox; have GW272 := nGC hg; have GE272 := nGC hg; replace HB := nSC hb; have NB260_272 := nL BK260 hg; have NB272_260 := nH BK260 hg; replace BK260 := nK BK260 hb; clear hb hbox hg; have hnb62 := NB272_260.out; have hnc62 := NB260_272.out; have hcz63 := cb7 BK272; have hcz64 := cb2 BK260) | ((with_reducible refine gt 64 rfl ?_); refine gL 64 59 Tryz.func64 #[.agg #[.slice (some ad271) l0_0.length c0_0, .int .i64 a0_1], .int .i64 x52_3] ?_; (with_reducible refine (spec_l3Links.calls k3 _ _ l0_0 a0_1 x52_3 t273 _ ?side1 ?side2 A41.out).mono ?_); (case side1 => exact Kd.C_below HR0_0.out sC); (case side2 => exact HC0_0.out); rintro e w65 ⟨rfl, hb⟩; refine ⟨_, rfl, ?_⟩; replace HO_5 := nRf HO_5 BK272 hb; replace BK260 := nF BK260 hb; replace BK272 := nX #[.int .i64 ((rd_T65 l0_0 x52_3).f0), .int .i64 ((rd_T65 l0_0 x52_3).f1), .int .i64 ((rd_T65 l0_0 x52_3).f2), .int .i64 ((rd_T65 l0_0 x52_3).f3), .int .i64 ((rd_T65 l0_0 x52_3).f4), .string ((rd_T65 l0_0 x52_3).f5), .slice A271_6 ((rd_T65 l0_0 x52_3).f6).length c271_6] BK272 hb; replace HB := nSC hb; try clear hb; have hcz66 := cb7 BK272; obtain ⟨Ao67, co67, eo67⟩ := Kd.R_slice HO_5.out; subst eo67) | (go_at_call 53; (with_reducible refine (spec_l1Has.calls k3 _ _ t268 x52_3 true _ ?side1 ?side2 A59.out).mono ?_); (case side1 => exact sD (Kd.R_reads' HO_5.out).2.2); (case side2 => exact (Kd.R_reads' HO_5.out).2.1); rintro e w' ⟨rfl, ⟨nd, rfl⟩⟩))
                 go_roundg k3
                 case measure => have := HJ1.out; have := HK2.out; have := HK3.out; omega
                 case rel => exact ⟨(wrap64 (x52_3 + 1)), sR, H', ⟨by have := HJ1.out; have := HK2.out; have := HK3.out; omega⟩, ⟨rR HO_5⟩, ⟨sK BK260⟩, ⟨sC⟩⟩
                ·replace c60 := Bool.eq_false_iff.mpr c60
                 subst c60
                 rw [if_neg (show ¬ (false = true) by decide)] at H
                 obtain rfl := Option.some.inj H
                 have p271 : 0 ≤ (x52_3 : Int) := sO
                 have q271 : x52_3 < (l0_0.length : Int) := sO
                 obtain ⟨ad271, A271_6, c271_6, e271, hx271_0, hx271_1, hx271_2, hx271_3, hx271_4, hx271_5, hx271_6, hl271_6, hi271_6⟩ := ab65 HR0_0.out HB x52_3 p271 q271
                 cases e271
                 have HR271_6 := Aside0.mk hi271_6
                 have HC271_6 := Aside0.mk hl271_6
                 clear hi271_6 hl271_6
                 replace p271 := eq_true p271
                 replace q271 := eq_true q271
                 go_wp2_with (first | ((with_reducible refine gd 7 rfl ?_); refine bxE 7 #[.int .i64 0, .int .i64 0, .int .i64 0, .int .i64 0, .int .i64 0, .string (⟨#[]⟩ : ByteArray), .slice none 0 0] 65 ?_; intro gb272 hg w68 hbox hb; replace HO_5 := nR HO_5 hb; have BK272 := Aside0.mk hbox; have GW272 := nGC hg; have GE272 := nGC hg; replace HB := nSC hb; have NB260_272 := nL BK260 hg; have NB272_260 := nH BK260 hg; replace BK260 := nK BK260 hb; clear hb hbox hg; have hnb69 := NB272_260.out; have hnc69 := NB260_272.out; have hcz70 := cb7 BK272; have hcz71 := cb2 BK260) | ((with_reducible refine gt 64 rfl ?_); refine gL 64 59 Tryz.func64 #[.agg #[.slice (some ad271) l0_0.length c0_0, .int .i64 a0_1], .int .i64 x52_3] ?_; (with_reducible refine (spec_l3Links.calls k3 _ _ l0_0 a0_1 x52_3 t273 _ ?side1 ?side2 A41.out).mono ?_); (case side1 => exact Kd.C_below HR0_0.out sC); (case side2 => exact HC0_0.out); rintro e w72 ⟨rfl, hb⟩; refine ⟨_, rfl, ?_⟩; replace HO_5 := nRf HO_5 BK272 hb; replace BK260 := nF BK260 hb; replace BK272 := nX #[.int .i64 ((rd_T65 l0_0 x52_3).f0), .int .i64 ((rd_T65 l0_0 x52_3).f1), .int .i64 ((rd_T65 l0_0 x52_3).f2), .int .i64 ((rd_T65 l0_0 x52_3).f3), .int .i64 ((rd_T65 l0_0 x52_3).f4), .string ((rd_T65 l0_0 x52_3).f5), .slice A271_6 ((rd_T65 l0_0 x52_3).f6).length c271_6] BK272 hb; replace HB := nSC hb; try clear hb; have hcz73 := cb7 BK272; obtain ⟨Ao74, co74, eo74⟩ := Kd.R_slice HO_5.out; subst eo74) | (go_at_call 53; (with_reducible refine (spec_l1Has.calls k3 _ _ t268 x52_3 false _ ?side1 ?side2 A59.out).mono ?_); (case side1 => exact sD (Kd.R_reads' HO_5.out).2.2); (case side2 => exact (Kd.R_reads' HO_5.out).2.1); rintro e w' ⟨rfl, ⟨nd, rfl⟩⟩))
                 go_ret
                 exact ⟨sE, sC⟩
              ·rw [if_neg c51] at H
               have c51b0 := beq_eq_false_iff_ne.mpr c51
               have c51b1 := bne_iff_ne.mpr c51
               obtain rfl := Option.some.inj H
               have p271 : 0 ≤ (x52_3 : Int) := sO
               have q271 : x52_3 < (l0_0.length : Int) := sO
               obtain ⟨ad271, A271_6, c271_6, e271, hx271_0, hx271_1, hx271_2, hx271_3, hx271_4, hx271_5, hx271_6, hl271_6, hi271_6⟩ := ab65 HR0_0.out HB x52_3 p271 q271
               cases e271
               have HR271_6 := Aside0.mk hi271_6
               have HC271_6 := Aside0.mk hl271_6
               clear hi271_6 hl271_6
               replace p271 := eq_true p271
               replace q271 := eq_true q271
               go_wp2_with (first | ((with_reducible refine gd 7 rfl ?_); refine bxE 7 #[.int .i64 0, .int .i64 0, .int .i64 0, .int .i64 0, .int .i64 0, .string (⟨#[]⟩ : ByteArray), .slice none 0 0] 65 ?_; intro gb272 hg w75 hbox hb; replace HO_5 := nR HO_5 hb; have BK272 := Aside0.mk hbox; have GW272 := nGC hg; have GE272 := nGC hg; replace HB := nSC hb; have NB260_272 := nL BK260 hg; have NB272_260 := nH BK260 hg; replace BK260 := nK BK260 hb; clear hb hbox hg; have hnb76 := NB272_260.out; have hnc76 := NB260_272.out; have hcz77 := cb7 BK272; have hcz78 := cb2 BK260) | ((with_reducible refine gt 64 rfl ?_); refine gL 64 59 Tryz.func64 #[.agg #[.slice (some ad271) l0_0.length c0_0, .int .i64 a0_1], .int .i64 x52_3] ?_; (with_reducible refine (spec_l3Links.calls k3 _ _ l0_0 a0_1 x52_3 t273 _ ?side1 ?side2 A41.out).mono ?_); (case side1 => exact Kd.C_below HR0_0.out sC); (case side2 => exact HC0_0.out); rintro e w79 ⟨rfl, hb⟩; refine ⟨_, rfl, ?_⟩; replace HO_5 := nRf HO_5 BK272 hb; replace BK260 := nF BK260 hb; replace BK272 := nX #[.int .i64 ((rd_T65 l0_0 x52_3).f0), .int .i64 ((rd_T65 l0_0 x52_3).f1), .int .i64 ((rd_T65 l0_0 x52_3).f2), .int .i64 ((rd_T65 l0_0 x52_3).f3), .int .i64 ((rd_T65 l0_0 x52_3).f4), .string ((rd_T65 l0_0 x52_3).f5), .slice A271_6 ((rd_T65 l0_0 x52_3).f6).length c271_6] BK272 hb; replace HB := nSC hb; try clear hb; have hcz80 := cb7 BK272))
               go_ret
               exact ⟨sE, sC⟩
             ·rw [if_neg c50] at H
              have c50b0 := beq_eq_false_iff_ne.mpr c50
              have c50b1 := bne_iff_ne.mpr c50
              by_cases c81 : ((rd_T65 l0_0 x52_3).f0) = 0
              ·rw [if_pos c81] at H
               have c81b0 := beq_iff_eq.mpr c81
               have c81b1 := bne_eq_false_iff_eq.mpr c81
               clear c81
               have H' := Aside0.mk H
               clear H
               have p271 : 0 ≤ (x52_3 : Int) := sO
               have q271 : x52_3 < (l0_0.length : Int) := sO
               obtain ⟨ad271, A271_6, c271_6, e271, hx271_0, hx271_1, hx271_2, hx271_3, hx271_4, hx271_5, hx271_6, hl271_6, hi271_6⟩ := ab65 HR0_0.out HB x52_3 p271 q271
               cases e271
               have HR271_6 := Aside0.mk hi271_6
               have HC271_6 := Aside0.mk hl271_6
               clear hi271_6 hl271_6
               replace p271 := eq_true p271
               replace q271 := eq_true q271
               go_wp2_with (first | ((with_reducible refine gd 7 rfl ?_); refine bxE 7 #[.int .i64 0, .int .i64 0, .int .i64 0, .int .i64 0, .int .i64 0, .string (⟨#[]⟩ : ByteArray), .slice none 0 0] 65 ?_; intro gb272 hg w82 hbox hb; replace HO_5 := nR HO_5 hb; have BK272 := Aside0.mk hbox; have GW272 := nGC hg; have GE272 := nGC hg; replace HB := nSC hb; have NB260_272 := nL BK260 hg; have NB272_260 := nH BK260 hg; replace BK260 := nK BK260 hb; clear hb hbox hg; have hnb83 := NB272_260.out; have hnc83 := NB260_272.out; have hcz84 := cb7 BK272; have hcz85 := cb2 BK260) | ((with_reducible refine gt 64 rfl ?_); refine gL 64 59 Tryz.func64 #[.agg #[.slice (some ad271) l0_0.length c0_0, .int .i64 a0_1], .int .i64 x52_3] ?_; (with_reducible refine (spec_l3Links.calls k3 _ _ l0_0 a0_1 x52_3 t273 _ ?side1 ?side2 A41.out).mono ?_); (case side1 => exact Kd.C_below HR0_0.out sC); (case side2 => exact HC0_0.out); rintro e w86 ⟨rfl, hb⟩; refine ⟨_, rfl, ?_⟩; replace HO_5 := nRf HO_5 BK272 hb; replace BK260 := nF BK260 hb; replace BK272 := nX #[.int .i64 ((rd_T65 l0_0 x52_3).f0), .int .i64 ((rd_T65 l0_0 x52_3).f1), .int .i64 ((rd_T65 l0_0 x52_3).f2), .int .i64 ((rd_T65 l0_0 x52_3).f3), .int .i64 ((rd_T65 l0_0 x52_3).f4), .string ((rd_T65 l0_0 x52_3).f5), .slice A271_6 ((rd_T65 l0_0 x52_3).f6).length c271_6] BK272 hb; replace HB := nSC hb; try clear hb; have hcz87 := cb7 BK272))
               go_roundg k3
               case measure => have := HJ1.out; have := HK2.out; have := HK3.out; omega
               case rel => exact ⟨(wrap64 (x52_3 + 1)), sR, H', ⟨by have := HJ1.out; have := HK2.out; have := HK3.out; omega⟩, ⟨rR HO_5⟩, ⟨sK BK260⟩, ⟨sC⟩⟩
              ·rw [if_neg c81] at H
               have c81b0 := beq_eq_false_iff_ne.mpr c81
               have c81b1 := bne_iff_ne.mpr c81
               obtain ⟨t275, A88, H⟩ := bS H
               try dsimp only at H
               by_cases c89 : t275 = true
               ·subst c89
                rw [if_pos rfl] at H
                have H' := Aside0.mk H
                clear H
                have p271 : 0 ≤ (x52_3 : Int) := sO
                have q271 : x52_3 < (l0_0.length : Int) := sO
                obtain ⟨ad271, A271_6, c271_6, e271, hx271_0, hx271_1, hx271_2, hx271_3, hx271_4, hx271_5, hx271_6, hl271_6, hi271_6⟩ := ab65 HR0_0.out HB x52_3 p271 q271
                cases e271
                have HR271_6 := Aside0.mk hi271_6
                have HC271_6 := Aside0.mk hl271_6
                clear hi271_6 hl271_6
                replace p271 := eq_true p271
                replace q271 := eq_true q271
                go_wp2_with (first | ((with_reducible refine gd 7 rfl ?_); refine bxE 7 #[.int .i64 0, .int .i64 0, .int .i64 0, .int .i64 0, .int .i64 0, .string (⟨#[]⟩ : ByteArray), .slice none 0 0] 65 ?_; intro gb272 hg w90 hbox hb; replace HO_5 := nR HO_5 hb; have BK272 := Aside0.mk hbox; have GW272 := nGC hg; have GE272 := nGC hg; replace HB := nSC hb; have NB260_272 := nL BK260 hg; have NB272_260 := nH BK260 hg; replace BK260 := nK BK260 hb; clear hb hbox hg; have hnb91 := NB272_260.out; have hnc91 := NB260_272.out; have hcz92 := cb7 BK272; have hcz93 := cb2 BK260) | ((with_reducible refine gt 64 rfl ?_); refine gL 64 59 Tryz.func64 #[.agg #[.slice (some ad271) l0_0.length c0_0, .int .i64 a0_1], .int .i64 x52_3] ?_; (with_reducible refine (spec_l3Links.calls k3 _ _ l0_0 a0_1 x52_3 t273 _ ?side1 ?side2 A41.out).mono ?_); (case side1 => exact Kd.C_below HR0_0.out sC); (case side2 => exact HC0_0.out); rintro e w94 ⟨rfl, hb⟩; refine ⟨_, rfl, ?_⟩; replace HO_5 := nRf HO_5 BK272 hb; replace BK260 := nF BK260 hb; replace BK272 := nX #[.int .i64 ((rd_T65 l0_0 x52_3).f0), .int .i64 ((rd_T65 l0_0 x52_3).f1), .int .i64 ((rd_T65 l0_0 x52_3).f2), .int .i64 ((rd_T65 l0_0 x52_3).f3), .int .i64 ((rd_T65 l0_0 x52_3).f4), .string ((rd_T65 l0_0 x52_3).f5), .slice A271_6 ((rd_T65 l0_0 x52_3).f6).length c271_6] BK272 hb; replace HB := nSC hb; try clear hb; have hcz95 := cb7 BK272; obtain ⟨Ao96, co96, eo96⟩ := Kd.R_slice HO_5.out; subst eo96) | (go_at_call 53; (with_reducible refine (spec_l1Has.calls k3 _ _ t268 x52_3 true _ ?side1 ?side2 A88.out).mono ?_); (case side1 => exact sD (Kd.R_reads' HO_5.out).2.2); (case side2 => exact (Kd.R_reads' HO_5.out).2.1); rintro e w' ⟨rfl, ⟨nd, rfl⟩⟩))
                go_roundg k3
                case measure => have := HJ1.out; have := HK2.out; have := HK3.out; omega
                case rel => exact ⟨(wrap64 (x52_3 + 1)), sR, H', ⟨by have := HJ1.out; have := HK2.out; have := HK3.out; omega⟩, ⟨rR HO_5⟩, ⟨sK BK260⟩, ⟨sC⟩⟩
               ·replace c89 := Bool.eq_false_iff.mpr c89
                subst c89
                rw [if_neg (show ¬ (false = true) by decide)] at H
                obtain rfl := Option.some.inj H
                have p271 : 0 ≤ (x52_3 : Int) := sO
                have q271 : x52_3 < (l0_0.length : Int) := sO
                obtain ⟨ad271, A271_6, c271_6, e271, hx271_0, hx271_1, hx271_2, hx271_3, hx271_4, hx271_5, hx271_6, hl271_6, hi271_6⟩ := ab65 HR0_0.out HB x52_3 p271 q271
                cases e271
                have HR271_6 := Aside0.mk hi271_6
                have HC271_6 := Aside0.mk hl271_6
                clear hi271_6 hl271_6
                replace p271 := eq_true p271
                replace q271 := eq_true q271
                go_wp2_with (first | ((with_reducible refine gd 7 rfl ?_); refine bxE 7 #[.int .i64 0, .int .i64 0, .int .i64 0, .int .i64 0, .int .i64 0, .string (⟨#[]⟩ : ByteArray), .slice none 0 0] 65 ?_; intro gb272 hg w97 hbox hb; replace HO_5 := nR HO_5 hb; have BK272 := Aside0.mk hbox; have GW272 := nGC hg; have GE272 := nGC hg; replace HB := nSC hb; have NB260_272 := nL BK260 hg; have NB272_260 := nH BK260 hg; replace BK260 := nK BK260 hb; clear hb hbox hg; have hnb98 := NB272_260.out; have hnc98 := NB260_272.out; have hcz99 := cb7 BK272; have hcz100 := cb2 BK260) | ((with_reducible refine gt 64 rfl ?_); refine gL 64 59 Tryz.func64 #[.agg #[.slice (some ad271) l0_0.length c0_0, .int .i64 a0_1], .int .i64 x52_3] ?_; (with_reducible refine (spec_l3Links.calls k3 _ _ l0_0 a0_1 x52_3 t273 _ ?side1 ?side2 A41.out).mono ?_); (case side1 => exact Kd.C_below HR0_0.out sC); (case side2 => exact HC0_0.out); rintro e w101 ⟨rfl, hb⟩; refine ⟨_, rfl, ?_⟩; replace HO_5 := nRf HO_5 BK272 hb; replace BK260 := nF BK260 hb; replace BK272 := nX #[.int .i64 ((rd_T65 l0_0 x52_3).f0), .int .i64 ((rd_T65 l0_0 x52_3).f1), .int .i64 ((rd_T65 l0_0 x52_3).f2), .int .i64 ((rd_T65 l0_0 x52_3).f3), .int .i64 ((rd_T65 l0_0 x52_3).f4), .string ((rd_T65 l0_0 x52_3).f5), .slice A271_6 ((rd_T65 l0_0 x52_3).f6).length c271_6] BK272 hb; replace HB := nSC hb; try clear hb; have hcz102 := cb7 BK272; obtain ⟨Ao103, co103, eo103⟩ := Kd.R_slice HO_5.out; subst eo103) | (go_at_call 53; (with_reducible refine (spec_l1Has.calls k3 _ _ t268 x52_3 false _ ?side1 ?side2 A88.out).mono ?_); (case side1 => exact sD (Kd.R_reads' HO_5.out).2.2); (case side2 => exact (Kd.R_reads' HO_5.out).2.1); rintro e w' ⟨rfl, ⟨nd, rfl⟩⟩))
                go_ret
                exact ⟨sE, sC⟩
            ·rw [if_neg c49] at H
             have c49b0 := decide_eq_false c49
             clear c49
             by_cases c104 : ((rd_T65 l0_0 x52_3).f0) = 0
             ·rw [if_pos c104] at H
              have c104b0 := beq_iff_eq.mpr c104
              have c104b1 := bne_eq_false_iff_eq.mpr c104
              clear c104
              have H' := Aside0.mk H
              clear H
              have p271 : 0 ≤ (x52_3 : Int) := sO
              have q271 : x52_3 < (l0_0.length : Int) := sO
              obtain ⟨ad271, A271_6, c271_6, e271, hx271_0, hx271_1, hx271_2, hx271_3, hx271_4, hx271_5, hx271_6, hl271_6, hi271_6⟩ := ab65 HR0_0.out HB x52_3 p271 q271
              cases e271
              have HR271_6 := Aside0.mk hi271_6
              have HC271_6 := Aside0.mk hl271_6
              clear hi271_6 hl271_6
              replace p271 := eq_true p271
              replace q271 := eq_true q271
              go_wp2_with (first | ((with_reducible refine gd 7 rfl ?_); refine bxE 7 #[.int .i64 0, .int .i64 0, .int .i64 0, .int .i64 0, .int .i64 0, .string (⟨#[]⟩ : ByteArray), .slice none 0 0] 65 ?_; intro gb272 hg w105 hbox hb; replace HO_5 := nR HO_5 hb; have BK272 := Aside0.mk hbox; have GW272 := nGC hg; have GE272 := nGC hg; replace HB := nSC hb; have NB260_272 := nL BK260 hg; have NB272_260 := nH BK260 hg; replace BK260 := nK BK260 hb; clear hb hbox hg; have hnb106 := NB272_260.out; have hnc106 := NB260_272.out; have hcz107 := cb7 BK272; have hcz108 := cb2 BK260) | ((with_reducible refine gt 64 rfl ?_); refine gL 64 59 Tryz.func64 #[.agg #[.slice (some ad271) l0_0.length c0_0, .int .i64 a0_1], .int .i64 x52_3] ?_; (with_reducible refine (spec_l3Links.calls k3 _ _ l0_0 a0_1 x52_3 t273 _ ?side1 ?side2 A41.out).mono ?_); (case side1 => exact Kd.C_below HR0_0.out sC); (case side2 => exact HC0_0.out); rintro e w109 ⟨rfl, hb⟩; refine ⟨_, rfl, ?_⟩; replace HO_5 := nRf HO_5 BK272 hb; replace BK260 := nF BK260 hb; replace BK272 := nX #[.int .i64 ((rd_T65 l0_0 x52_3).f0), .int .i64 ((rd_T65 l0_0 x52_3).f1), .int .i64 ((rd_T65 l0_0 x52_3).f2), .int .i64 ((rd_T65 l0_0 x52_3).f3), .int .i64 ((rd_T65 l0_0 x52_3).f4), .string ((rd_T65 l0_0 x52_3).f5), .slice A271_6 ((rd_T65 l0_0 x52_3).f6).length c271_6] BK272 hb; replace HB := nSC hb; try clear hb; have hcz110 := cb7 BK272))
              go_roundg k3
              case measure => have := HJ1.out; have := HK2.out; have := HK3.out; omega
              case rel => exact ⟨(wrap64 (x52_3 + 1)), sR, H', ⟨by have := HJ1.out; have := HK2.out; have := HK3.out; omega⟩, ⟨rR HO_5⟩, ⟨sK BK260⟩, ⟨sC⟩⟩
             ·rw [if_neg c104] at H
              have c104b0 := beq_eq_false_iff_ne.mpr c104
              have c104b1 := bne_iff_ne.mpr c104
              obtain ⟨t276, A111, H⟩ := bS H
              try dsimp only at H
              by_cases c112 : t276 = true
              ·subst c112
               rw [if_pos rfl] at H
               have H' := Aside0.mk H
               clear H
               have p271 : 0 ≤ (x52_3 : Int) := sO
               have q271 : x52_3 < (l0_0.length : Int) := sO
               obtain ⟨ad271, A271_6, c271_6, e271, hx271_0, hx271_1, hx271_2, hx271_3, hx271_4, hx271_5, hx271_6, hl271_6, hi271_6⟩ := ab65 HR0_0.out HB x52_3 p271 q271
               cases e271
               have HR271_6 := Aside0.mk hi271_6
               have HC271_6 := Aside0.mk hl271_6
               clear hi271_6 hl271_6
               replace p271 := eq_true p271
               replace q271 := eq_true q271
               go_wp2_with (first | ((with_reducible refine gd 7 rfl ?_); refine bxE 7 #[.int .i64 0, .int .i64 0, .int .i64 0, .int .i64 0, .int .i64 0, .string (⟨#[]⟩ : ByteArray), .slice none 0 0] 65 ?_; intro gb272 hg w113 hbox hb; replace HO_5 := nR HO_5 hb; have BK272 := Aside0.mk hbox; have GW272 := nGC hg; have GE272 := nGC hg; replace HB := nSC hb; have NB260_272 := nL BK260 hg; have NB272_260 := nH BK260 hg; replace BK260 := nK BK260 hb; clear hb hbox hg; have hnb114 := NB272_260.out; have hnc114 := NB260_272.out; have hcz115 := cb7 BK272; have hcz116 := cb2 BK260) | ((with_reducible refine gt 64 rfl ?_); refine gL 64 59 Tryz.func64 #[.agg #[.slice (some ad271) l0_0.length c0_0, .int .i64 a0_1], .int .i64 x52_3] ?_; (with_reducible refine (spec_l3Links.calls k3 _ _ l0_0 a0_1 x52_3 t273 _ ?side1 ?side2 A41.out).mono ?_); (case side1 => exact Kd.C_below HR0_0.out sC); (case side2 => exact HC0_0.out); rintro e w117 ⟨rfl, hb⟩; refine ⟨_, rfl, ?_⟩; replace HO_5 := nRf HO_5 BK272 hb; replace BK260 := nF BK260 hb; replace BK272 := nX #[.int .i64 ((rd_T65 l0_0 x52_3).f0), .int .i64 ((rd_T65 l0_0 x52_3).f1), .int .i64 ((rd_T65 l0_0 x52_3).f2), .int .i64 ((rd_T65 l0_0 x52_3).f3), .int .i64 ((rd_T65 l0_0 x52_3).f4), .string ((rd_T65 l0_0 x52_3).f5), .slice A271_6 ((rd_T65 l0_0 x52_3).f6).length c271_6] BK272 hb; replace HB := nSC hb; try clear hb; have hcz118 := cb7 BK272; obtain ⟨Ao119, co119, eo119⟩ := Kd.R_slice HO_5.out; subst eo119) | (go_at_call 53; (with_reducible refine (spec_l1Has.calls k3 _ _ t268 x52_3 true _ ?side1 ?side2 A111.out).mono ?_); (case side1 => exact sD (Kd.R_reads' HO_5.out).2.2); (case side2 => exact (Kd.R_reads' HO_5.out).2.1); rintro e w' ⟨rfl, ⟨nd, rfl⟩⟩))
               go_roundg k3
               case measure => have := HJ1.out; have := HK2.out; have := HK3.out; omega
               case rel => exact ⟨(wrap64 (x52_3 + 1)), sR, H', ⟨by have := HJ1.out; have := HK2.out; have := HK3.out; omega⟩, ⟨rR HO_5⟩, ⟨sK BK260⟩, ⟨sC⟩⟩
              ·replace c112 := Bool.eq_false_iff.mpr c112
               subst c112
               rw [if_neg (show ¬ (false = true) by decide)] at H
               obtain rfl := Option.some.inj H
               have p271 : 0 ≤ (x52_3 : Int) := sO
               have q271 : x52_3 < (l0_0.length : Int) := sO
               obtain ⟨ad271, A271_6, c271_6, e271, hx271_0, hx271_1, hx271_2, hx271_3, hx271_4, hx271_5, hx271_6, hl271_6, hi271_6⟩ := ab65 HR0_0.out HB x52_3 p271 q271
               cases e271
               have HR271_6 := Aside0.mk hi271_6
               have HC271_6 := Aside0.mk hl271_6
               clear hi271_6 hl271_6
               replace p271 := eq_true p271
               replace q271 := eq_true q271
               go_wp2_with (first | ((with_reducible refine gd 7 rfl ?_); refine bxE 7 #[.int .i64 0, .int .i64 0, .int .i64 0, .int .i64 0, .int .i64 0, .string (⟨#[]⟩ : ByteArray), .slice none 0 0] 65 ?_; intro gb272 hg w120 hbox hb; replace HO_5 := nR HO_5 hb; have BK272 := Aside0.mk hbox; have GW272 := nGC hg; have GE272 := nGC hg; replace HB := nSC hb; have NB260_272 := nL BK260 hg; have NB272_260 := nH BK260 hg; replace BK260 := nK BK260 hb; clear hb hbox hg; have hnb121 := NB272_260.out; have hnc121 := NB260_272.out; have hcz122 := cb7 BK272; have hcz123 := cb2 BK260) | ((with_reducible refine gt 64 rfl ?_); refine gL 64 59 Tryz.func64 #[.agg #[.slice (some ad271) l0_0.length c0_0, .int .i64 a0_1], .int .i64 x52_3] ?_; (with_reducible refine (spec_l3Links.calls k3 _ _ l0_0 a0_1 x52_3 t273 _ ?side1 ?side2 A41.out).mono ?_); (case side1 => exact Kd.C_below HR0_0.out sC); (case side2 => exact HC0_0.out); rintro e w124 ⟨rfl, hb⟩; refine ⟨_, rfl, ?_⟩; replace HO_5 := nRf HO_5 BK272 hb; replace BK260 := nF BK260 hb; replace BK272 := nX #[.int .i64 ((rd_T65 l0_0 x52_3).f0), .int .i64 ((rd_T65 l0_0 x52_3).f1), .int .i64 ((rd_T65 l0_0 x52_3).f2), .int .i64 ((rd_T65 l0_0 x52_3).f3), .int .i64 ((rd_T65 l0_0 x52_3).f4), .string ((rd_T65 l0_0 x52_3).f5), .slice A271_6 ((rd_T65 l0_0 x52_3).f6).length c271_6] BK272 hb; replace HB := nSC hb; try clear hb; have hcz125 := cb7 BK272; obtain ⟨Ao126, co126, eo126⟩ := Kd.R_slice HO_5.out; subst eo126) | (go_at_call 53; (with_reducible refine (spec_l1Has.calls k3 _ _ t268 x52_3 false _ ?side1 ?side2 A111.out).mono ?_); (case side1 => exact sD (Kd.R_reads' HO_5.out).2.2); (case side2 => exact (Kd.R_reads' HO_5.out).2.1); rintro e w' ⟨rfl, ⟨nd, rfl⟩⟩))
               go_ret
               exact ⟨sE, sC⟩
          ·rw [if_neg c42] at H
           have c42b0 := beq_eq_false_iff_ne.mpr c42
           have c42b1 := bne_iff_ne.mpr c42
           by_cases c127 : x52_3 > 0
           ·rw [if_pos c127] at H
            have c127b0 := decide_eq_true c127
            clear c127
            by_cases c128 : ((rd_T65 l0_0 x52_3).f0) = 2
            ·rw [if_pos c128] at H
             have c128b0 := beq_iff_eq.mpr c128
             have c128b1 := bne_eq_false_iff_eq.mpr c128
             clear c128
             by_cases c129 : t273 = 1
             ·rw [if_pos c129] at H
              have c129b0 := beq_iff_eq.mpr c129
              have c129b1 := bne_eq_false_iff_eq.mpr c129
              clear c129
              by_cases c130 : ((rd_T65 l0_0 x52_3).f0) = 0
              ·rw [if_pos c130] at H
               have c130b0 := beq_iff_eq.mpr c130
               have c130b1 := bne_eq_false_iff_eq.mpr c130
               clear c130
               have H' := Aside0.mk H
               clear H
               have p271 : 0 ≤ (x52_3 : Int) := sO
               have q271 : x52_3 < (l0_0.length : Int) := sO
               obtain ⟨ad271, A271_6, c271_6, e271, hx271_0, hx271_1, hx271_2, hx271_3, hx271_4, hx271_5, hx271_6, hl271_6, hi271_6⟩ := ab65 HR0_0.out HB x52_3 p271 q271
               cases e271
               have HR271_6 := Aside0.mk hi271_6
               have HC271_6 := Aside0.mk hl271_6
               clear hi271_6 hl271_6
               replace p271 := eq_true p271
               replace q271 := eq_true q271
               go_wp2_with (first | ((with_reducible refine gd 7 rfl ?_); refine bxE 7 #[.int .i64 0, .int .i64 0, .int .i64 0, .int .i64 0, .int .i64 0, .string (⟨#[]⟩ : ByteArray), .slice none 0 0] 65 ?_; intro gb272 hg w131 hbox hb; replace HO_5 := nR HO_5 hb; have BK272 := Aside0.mk hbox; have GW272 := nGC hg; have GE272 := nGC hg; replace HB := nSC hb; have NB260_272 := nL BK260 hg; have NB272_260 := nH BK260 hg; replace BK260 := nK BK260 hb; clear hb hbox hg; have hnb132 := NB272_260.out; have hnc132 := NB260_272.out; have hcz133 := cb7 BK272; have hcz134 := cb2 BK260) | ((with_reducible refine gt 64 rfl ?_); refine gL 64 59 Tryz.func64 #[.agg #[.slice (some ad271) l0_0.length c0_0, .int .i64 a0_1], .int .i64 x52_3] ?_; (with_reducible refine (spec_l3Links.calls k3 _ _ l0_0 a0_1 x52_3 t273 _ ?side1 ?side2 A41.out).mono ?_); (case side1 => exact Kd.C_below HR0_0.out sC); (case side2 => exact HC0_0.out); rintro e w135 ⟨rfl, hb⟩; refine ⟨_, rfl, ?_⟩; replace HO_5 := nRf HO_5 BK272 hb; replace BK260 := nF BK260 hb; replace BK272 := nX #[.int .i64 ((rd_T65 l0_0 x52_3).f0), .int .i64 ((rd_T65 l0_0 x52_3).f1), .int .i64 ((rd_T65 l0_0 x52_3).f2), .int .i64 ((rd_T65 l0_0 x52_3).f3), .int .i64 ((rd_T65 l0_0 x52_3).f4), .string ((rd_T65 l0_0 x52_3).f5), .slice A271_6 ((rd_T65 l0_0 x52_3).f6).length c271_6] BK272 hb; replace HB := nSC hb; try clear hb; have hcz136 := cb7 BK272))
               go_roundg k3
               case measure => have := HJ1.out; have := HK2.out; have := HK3.out; omega
               case rel => exact ⟨(wrap64 (x52_3 + 1)), sR, H', ⟨by have := HJ1.out; have := HK2.out; have := HK3.out; omega⟩, ⟨rR HO_5⟩, ⟨sK BK260⟩, ⟨sC⟩⟩
              ·rw [if_neg c130] at H
               have c130b0 := beq_eq_false_iff_ne.mpr c130
               have c130b1 := bne_iff_ne.mpr c130
               obtain ⟨t277, A137, H⟩ := bS H
               try dsimp only at H
               by_cases c138 : t277 = true
               ·subst c138
                rw [if_pos rfl] at H
                have H' := Aside0.mk H
                clear H
                have p271 : 0 ≤ (x52_3 : Int) := sO
                have q271 : x52_3 < (l0_0.length : Int) := sO
                obtain ⟨ad271, A271_6, c271_6, e271, hx271_0, hx271_1, hx271_2, hx271_3, hx271_4, hx271_5, hx271_6, hl271_6, hi271_6⟩ := ab65 HR0_0.out HB x52_3 p271 q271
                cases e271
                have HR271_6 := Aside0.mk hi271_6
                have HC271_6 := Aside0.mk hl271_6
                clear hi271_6 hl271_6
                replace p271 := eq_true p271
                replace q271 := eq_true q271
                go_wp2_with (first | ((with_reducible refine gd 7 rfl ?_); refine bxE 7 #[.int .i64 0, .int .i64 0, .int .i64 0, .int .i64 0, .int .i64 0, .string (⟨#[]⟩ : ByteArray), .slice none 0 0] 65 ?_; intro gb272 hg w139 hbox hb; replace HO_5 := nR HO_5 hb; have BK272 := Aside0.mk hbox; have GW272 := nGC hg; have GE272 := nGC hg; replace HB := nSC hb; have NB260_272 := nL BK260 hg; have NB272_260 := nH BK260 hg; replace BK260 := nK BK260 hb; clear hb hbox hg; have hnb140 := NB272_260.out; have hnc140 := NB260_272.out; have hcz141 := cb7 BK272; have hcz142 := cb2 BK260) | ((with_reducible refine gt 64 rfl ?_); refine gL 64 59 Tryz.func64 #[.agg #[.slice (some ad271) l0_0.length c0_0, .int .i64 a0_1], .int .i64 x52_3] ?_; (with_reducible refine (spec_l3Links.calls k3 _ _ l0_0 a0_1 x52_3 t273 _ ?side1 ?side2 A41.out).mono ?_); (case side1 => exact Kd.C_below HR0_0.out sC); (case side2 => exact HC0_0.out); rintro e w143 ⟨rfl, hb⟩; refine ⟨_, rfl, ?_⟩; replace HO_5 := nRf HO_5 BK272 hb; replace BK260 := nF BK260 hb; replace BK272 := nX #[.int .i64 ((rd_T65 l0_0 x52_3).f0), .int .i64 ((rd_T65 l0_0 x52_3).f1), .int .i64 ((rd_T65 l0_0 x52_3).f2), .int .i64 ((rd_T65 l0_0 x52_3).f3), .int .i64 ((rd_T65 l0_0 x52_3).f4), .string ((rd_T65 l0_0 x52_3).f5), .slice A271_6 ((rd_T65 l0_0 x52_3).f6).length c271_6] BK272 hb; replace HB := nSC hb; try clear hb; have hcz144 := cb7 BK272; obtain ⟨Ao145, co145, eo145⟩ := Kd.R_slice HO_5.out; subst eo145) | (go_at_call 53; (with_reducible refine (spec_l1Has.calls k3 _ _ t268 x52_3 true _ ?side1 ?side2 A137.out).mono ?_); (case side1 => exact sD (Kd.R_reads' HO_5.out).2.2); (case side2 => exact (Kd.R_reads' HO_5.out).2.1); rintro e w' ⟨rfl, ⟨nd, rfl⟩⟩))
                go_roundg k3
                case measure => have := HJ1.out; have := HK2.out; have := HK3.out; omega
                case rel => exact ⟨(wrap64 (x52_3 + 1)), sR, H', ⟨by have := HJ1.out; have := HK2.out; have := HK3.out; omega⟩, ⟨rR HO_5⟩, ⟨sK BK260⟩, ⟨sC⟩⟩
               ·replace c138 := Bool.eq_false_iff.mpr c138
                subst c138
                rw [if_neg (show ¬ (false = true) by decide)] at H
                obtain rfl := Option.some.inj H
                have p271 : 0 ≤ (x52_3 : Int) := sO
                have q271 : x52_3 < (l0_0.length : Int) := sO
                obtain ⟨ad271, A271_6, c271_6, e271, hx271_0, hx271_1, hx271_2, hx271_3, hx271_4, hx271_5, hx271_6, hl271_6, hi271_6⟩ := ab65 HR0_0.out HB x52_3 p271 q271
                cases e271
                have HR271_6 := Aside0.mk hi271_6
                have HC271_6 := Aside0.mk hl271_6
                clear hi271_6 hl271_6
                replace p271 := eq_true p271
                replace q271 := eq_true q271
                go_wp2_with (first | ((with_reducible refine gd 7 rfl ?_); refine bxE 7 #[.int .i64 0, .int .i64 0, .int .i64 0, .int .i64 0, .int .i64 0, .string (⟨#[]⟩ : ByteArray), .slice none 0 0] 65 ?_; intro gb272 hg w146 hbox hb; replace HO_5 := nR HO_5 hb; have BK272 := Aside0.mk hbox; have GW272 := nGC hg; have GE272 := nGC hg; replace HB := nSC hb; have NB260_272 := nL BK260 hg; have NB272_260 := nH BK260 hg; replace BK260 := nK BK260 hb; clear hb hbox hg; have hnb147 := NB272_260.out; have hnc147 := NB260_272.out; have hcz148 := cb7 BK272; have hcz149 := cb2 BK260) | ((with_reducible refine gt 64 rfl ?_); refine gL 64 59 Tryz.func64 #[.agg #[.slice (some ad271) l0_0.length c0_0, .int .i64 a0_1], .int .i64 x52_3] ?_; (with_reducible refine (spec_l3Links.calls k3 _ _ l0_0 a0_1 x52_3 t273 _ ?side1 ?side2 A41.out).mono ?_); (case side1 => exact Kd.C_below HR0_0.out sC); (case side2 => exact HC0_0.out); rintro e w150 ⟨rfl, hb⟩; refine ⟨_, rfl, ?_⟩; replace HO_5 := nRf HO_5 BK272 hb; replace BK260 := nF BK260 hb; replace BK272 := nX #[.int .i64 ((rd_T65 l0_0 x52_3).f0), .int .i64 ((rd_T65 l0_0 x52_3).f1), .int .i64 ((rd_T65 l0_0 x52_3).f2), .int .i64 ((rd_T65 l0_0 x52_3).f3), .int .i64 ((rd_T65 l0_0 x52_3).f4), .string ((rd_T65 l0_0 x52_3).f5), .slice A271_6 ((rd_T65 l0_0 x52_3).f6).length c271_6] BK272 hb; replace HB := nSC hb; try clear hb; have hcz151 := cb7 BK272; obtain ⟨Ao152, co152, eo152⟩ := Kd.R_slice HO_5.out; subst eo152) | (go_at_call 53; (with_reducible refine (spec_l1Has.calls k3 _ _ t268 x52_3 false _ ?side1 ?side2 A137.out).mono ?_); (case side1 => exact sD (Kd.R_reads' HO_5.out).2.2); (case side2 => exact (Kd.R_reads' HO_5.out).2.1); rintro e w' ⟨rfl, ⟨nd, rfl⟩⟩))
                go_ret
                exact ⟨sE, sC⟩
             ·rw [if_neg c129] at H
              have c129b0 := beq_eq_false_iff_ne.mpr c129
              have c129b1 := bne_iff_ne.mpr c129
              obtain rfl := Option.some.inj H
              have p271 : 0 ≤ (x52_3 : Int) := sO
              have q271 : x52_3 < (l0_0.length : Int) := sO
              obtain ⟨ad271, A271_6, c271_6, e271, hx271_0, hx271_1, hx271_2, hx271_3, hx271_4, hx271_5, hx271_6, hl271_6, hi271_6⟩ := ab65 HR0_0.out HB x52_3 p271 q271
              cases e271
              have HR271_6 := Aside0.mk hi271_6
              have HC271_6 := Aside0.mk hl271_6
              clear hi271_6 hl271_6
              replace p271 := eq_true p271
              replace q271 := eq_true q271
              go_wp2_with (first | ((with_reducible refine gd 7 rfl ?_); refine bxE 7 #[.int .i64 0, .int .i64 0, .int .i64 0, .int .i64 0, .int .i64 0, .string (⟨#[]⟩ : ByteArray), .slice none 0 0] 65 ?_; intro gb272 hg w153 hbox hb; replace HO_5 := nR HO_5 hb; have BK272 := Aside0.mk hbox; have GW272 := nGC hg; have GE272 := nGC hg; replace HB := nSC hb; have NB260_272 := nL BK260 hg; have NB272_260 := nH BK260 hg; replace BK260 := nK BK260 hb; clear hb hbox hg; have hnb154 := NB272_260.out; have hnc154 := NB260_272.out; have hcz155 := cb7 BK272; have hcz156 := cb2 BK260) | ((with_reducible refine gt 64 rfl ?_); refine gL 64 59 Tryz.func64 #[.agg #[.slice (some ad271) l0_0.length c0_0, .int .i64 a0_1], .int .i64 x52_3] ?_; (with_reducible refine (spec_l3Links.calls k3 _ _ l0_0 a0_1 x52_3 t273 _ ?side1 ?side2 A41.out).mono ?_); (case side1 => exact Kd.C_below HR0_0.out sC); (case side2 => exact HC0_0.out); rintro e w157 ⟨rfl, hb⟩; refine ⟨_, rfl, ?_⟩; replace HO_5 := nRf HO_5 BK272 hb; replace BK260 := nF BK260 hb; replace BK272 := nX #[.int .i64 ((rd_T65 l0_0 x52_3).f0), .int .i64 ((rd_T65 l0_0 x52_3).f1), .int .i64 ((rd_T65 l0_0 x52_3).f2), .int .i64 ((rd_T65 l0_0 x52_3).f3), .int .i64 ((rd_T65 l0_0 x52_3).f4), .string ((rd_T65 l0_0 x52_3).f5), .slice A271_6 ((rd_T65 l0_0 x52_3).f6).length c271_6] BK272 hb; replace HB := nSC hb; try clear hb; have hcz158 := cb7 BK272))
              go_ret
              exact ⟨sE, sC⟩
            ·rw [if_neg c128] at H
             have c128b0 := beq_eq_false_iff_ne.mpr c128
             have c128b1 := bne_iff_ne.mpr c128
             by_cases c159 : ((rd_T65 l0_0 x52_3).f0) = 0
             ·rw [if_pos c159] at H
              have c159b0 := beq_iff_eq.mpr c159
              have c159b1 := bne_eq_false_iff_eq.mpr c159
              clear c159
              have H' := Aside0.mk H
              clear H
              have p271 : 0 ≤ (x52_3 : Int) := sO
              have q271 : x52_3 < (l0_0.length : Int) := sO
              obtain ⟨ad271, A271_6, c271_6, e271, hx271_0, hx271_1, hx271_2, hx271_3, hx271_4, hx271_5, hx271_6, hl271_6, hi271_6⟩ := ab65 HR0_0.out HB x52_3 p271 q271
              cases e271
              have HR271_6 := Aside0.mk hi271_6
              have HC271_6 := Aside0.mk hl271_6
              clear hi271_6 hl271_6
              replace p271 := eq_true p271
              replace q271 := eq_true q271
              go_wp2_with (first | ((with_reducible refine gd 7 rfl ?_); refine bxE 7 #[.int .i64 0, .int .i64 0, .int .i64 0, .int .i64 0, .int .i64 0, .string (⟨#[]⟩ : ByteArray), .slice none 0 0] 65 ?_; intro gb272 hg w160 hbox hb; replace HO_5 := nR HO_5 hb; have BK272 := Aside0.mk hbox; have GW272 := nGC hg; have GE272 := nGC hg; replace HB := nSC hb; have NB260_272 := nL BK260 hg; have NB272_260 := nH BK260 hg; replace BK260 := nK BK260 hb; clear hb hbox hg; have hnb161 := NB272_260.out; have hnc161 := NB260_272.out; have hcz162 := cb7 BK272; have hcz163 := cb2 BK260) | ((with_reducible refine gt 64 rfl ?_); refine gL 64 59 Tryz.func64 #[.agg #[.slice (some ad271) l0_0.length c0_0, .int .i64 a0_1], .int .i64 x52_3] ?_; (with_reducible refine (spec_l3Links.calls k3 _ _ l0_0 a0_1 x52_3 t273 _ ?side1 ?side2 A41.out).mono ?_); (case side1 => exact Kd.C_below HR0_0.out sC); (case side2 => exact HC0_0.out); rintro e w164 ⟨rfl, hb⟩; refine ⟨_, rfl, ?_⟩; replace HO_5 := nRf HO_5 BK272 hb; replace BK260 := nF BK260 hb; replace BK272 := nX #[.int .i64 ((rd_T65 l0_0 x52_3).f0), .int .i64 ((rd_T65 l0_0 x52_3).f1), .int .i64 ((rd_T65 l0_0 x52_3).f2), .int .i64 ((rd_T65 l0_0 x52_3).f3), .int .i64 ((rd_T65 l0_0 x52_3).f4), .string ((rd_T65 l0_0 x52_3).f5), .slice A271_6 ((rd_T65 l0_0 x52_3).f6).length c271_6] BK272 hb; replace HB := nSC hb; try clear hb; have hcz165 := cb7 BK272))
              go_roundg k3
              case measure => have := HJ1.out; have := HK2.out; have := HK3.out; omega
              case rel => exact ⟨(wrap64 (x52_3 + 1)), sR, H', ⟨by have := HJ1.out; have := HK2.out; have := HK3.out; omega⟩, ⟨rR HO_5⟩, ⟨sK BK260⟩, ⟨sC⟩⟩
             ·rw [if_neg c159] at H
              have c159b0 := beq_eq_false_iff_ne.mpr c159
              have c159b1 := bne_iff_ne.mpr c159
              obtain ⟨t278, A166, H⟩ := bS H
              try dsimp only at H
              by_cases c167 : t278 = true
              ·subst c167
               rw [if_pos rfl] at H
               have H' := Aside0.mk H
               clear H
               have p271 : 0 ≤ (x52_3 : Int) := sO
               have q271 : x52_3 < (l0_0.length : Int) := sO
               obtain ⟨ad271, A271_6, c271_6, e271, hx271_0, hx271_1, hx271_2, hx271_3, hx271_4, hx271_5, hx271_6, hl271_6, hi271_6⟩ := ab65 HR0_0.out HB x52_3 p271 q271
               cases e271
               have HR271_6 := Aside0.mk hi271_6
               have HC271_6 := Aside0.mk hl271_6
               clear hi271_6 hl271_6
               replace p271 := eq_true p271
               replace q271 := eq_true q271
               go_wp2_with (first | ((with_reducible refine gd 7 rfl ?_); refine bxE 7 #[.int .i64 0, .int .i64 0, .int .i64 0, .int .i64 0, .int .i64 0, .string (⟨#[]⟩ : ByteArray), .slice none 0 0] 65 ?_; intro gb272 hg w168 hbox hb; replace HO_5 := nR HO_5 hb; have BK272 := Aside0.mk hbox; have GW272 := nGC hg; have GE272 := nGC hg; replace HB := nSC hb; have NB260_272 := nL BK260 hg; have NB272_260 := nH BK260 hg; replace BK260 := nK BK260 hb; clear hb hbox hg; have hnb169 := NB272_260.out; have hnc169 := NB260_272.out; have hcz170 := cb7 BK272; have hcz171 := cb2 BK260) | ((with_reducible refine gt 64 rfl ?_); refine gL 64 59 Tryz.func64 #[.agg #[.slice (some ad271) l0_0.length c0_0, .int .i64 a0_1], .int .i64 x52_3] ?_; (with_reducible refine (spec_l3Links.calls k3 _ _ l0_0 a0_1 x52_3 t273 _ ?side1 ?side2 A41.out).mono ?_); (case side1 => exact Kd.C_below HR0_0.out sC); (case side2 => exact HC0_0.out); rintro e w172 ⟨rfl, hb⟩; refine ⟨_, rfl, ?_⟩; replace HO_5 := nRf HO_5 BK272 hb; replace BK260 := nF BK260 hb; replace BK272 := nX #[.int .i64 ((rd_T65 l0_0 x52_3).f0), .int .i64 ((rd_T65 l0_0 x52_3).f1), .int .i64 ((rd_T65 l0_0 x52_3).f2), .int .i64 ((rd_T65 l0_0 x52_3).f3), .int .i64 ((rd_T65 l0_0 x52_3).f4), .string ((rd_T65 l0_0 x52_3).f5), .slice A271_6 ((rd_T65 l0_0 x52_3).f6).length c271_6] BK272 hb; replace HB := nSC hb; try clear hb; have hcz173 := cb7 BK272; obtain ⟨Ao174, co174, eo174⟩ := Kd.R_slice HO_5.out; subst eo174) | (go_at_call 53; (with_reducible refine (spec_l1Has.calls k3 _ _ t268 x52_3 true _ ?side1 ?side2 A166.out).mono ?_); (case side1 => exact sD (Kd.R_reads' HO_5.out).2.2); (case side2 => exact (Kd.R_reads' HO_5.out).2.1); rintro e w' ⟨rfl, ⟨nd, rfl⟩⟩))
               go_roundg k3
               case measure => have := HJ1.out; have := HK2.out; have := HK3.out; omega
               case rel => exact ⟨(wrap64 (x52_3 + 1)), sR, H', ⟨by have := HJ1.out; have := HK2.out; have := HK3.out; omega⟩, ⟨rR HO_5⟩, ⟨sK BK260⟩, ⟨sC⟩⟩
              ·replace c167 := Bool.eq_false_iff.mpr c167
               subst c167
               rw [if_neg (show ¬ (false = true) by decide)] at H
               obtain rfl := Option.some.inj H
               have p271 : 0 ≤ (x52_3 : Int) := sO
               have q271 : x52_3 < (l0_0.length : Int) := sO
               obtain ⟨ad271, A271_6, c271_6, e271, hx271_0, hx271_1, hx271_2, hx271_3, hx271_4, hx271_5, hx271_6, hl271_6, hi271_6⟩ := ab65 HR0_0.out HB x52_3 p271 q271
               cases e271
               have HR271_6 := Aside0.mk hi271_6
               have HC271_6 := Aside0.mk hl271_6
               clear hi271_6 hl271_6
               replace p271 := eq_true p271
               replace q271 := eq_true q271
               go_wp2_with (first | ((with_reducible refine gd 7 rfl ?_); refine bxE 7 #[.int .i64 0, .int .i64 0, .int .i64 0, .int .i64 0, .int .i64 0, .string (⟨#[]⟩ : ByteArray), .slice none 0 0] 65 ?_; intro gb272 hg w175 hbox hb; replace HO_5 := nR HO_5 hb; have BK272 := Aside0.mk hbox; have GW272 := nGC hg; have GE272 := nGC hg; replace HB := nSC hb; have NB260_272 := nL BK260 hg; have NB272_260 := nH BK260 hg; replace BK260 := nK BK260 hb; clear hb hbox hg; have hnb176 := NB272_260.out; have hnc176 := NB260_272.out; have hcz177 := cb7 BK272; have hcz178 := cb2 BK260) | ((with_reducible refine gt 64 rfl ?_); refine gL 64 59 Tryz.func64 #[.agg #[.slice (some ad271) l0_0.length c0_0, .int .i64 a0_1], .int .i64 x52_3] ?_; (with_reducible refine (spec_l3Links.calls k3 _ _ l0_0 a0_1 x52_3 t273 _ ?side1 ?side2 A41.out).mono ?_); (case side1 => exact Kd.C_below HR0_0.out sC); (case side2 => exact HC0_0.out); rintro e w179 ⟨rfl, hb⟩; refine ⟨_, rfl, ?_⟩; replace HO_5 := nRf HO_5 BK272 hb; replace BK260 := nF BK260 hb; replace BK272 := nX #[.int .i64 ((rd_T65 l0_0 x52_3).f0), .int .i64 ((rd_T65 l0_0 x52_3).f1), .int .i64 ((rd_T65 l0_0 x52_3).f2), .int .i64 ((rd_T65 l0_0 x52_3).f3), .int .i64 ((rd_T65 l0_0 x52_3).f4), .string ((rd_T65 l0_0 x52_3).f5), .slice A271_6 ((rd_T65 l0_0 x52_3).f6).length c271_6] BK272 hb; replace HB := nSC hb; try clear hb; have hcz180 := cb7 BK272; obtain ⟨Ao181, co181, eo181⟩ := Kd.R_slice HO_5.out; subst eo181) | (go_at_call 53; (with_reducible refine (spec_l1Has.calls k3 _ _ t268 x52_3 false _ ?side1 ?side2 A166.out).mono ?_); (case side1 => exact sD (Kd.R_reads' HO_5.out).2.2); (case side2 => exact (Kd.R_reads' HO_5.out).2.1); rintro e w' ⟨rfl, ⟨nd, rfl⟩⟩))
               go_ret
               exact ⟨sE, sC⟩
           ·rw [if_neg c127] at H
            have c127b0 := decide_eq_false c127
            clear c127
            by_cases c182 : ((rd_T65 l0_0 x52_3).f0) = 0
            ·rw [if_pos c182] at H
             have c182b0 := beq_iff_eq.mpr c182
             have c182b1 := bne_eq_false_iff_eq.mpr c182
             clear c182
             have H' := Aside0.mk H
             clear H
             have p271 : 0 ≤ (x52_3 : Int) := sO
             have q271 : x52_3 < (l0_0.length : Int) := sO
             obtain ⟨ad271, A271_6, c271_6, e271, hx271_0, hx271_1, hx271_2, hx271_3, hx271_4, hx271_5, hx271_6, hl271_6, hi271_6⟩ := ab65 HR0_0.out HB x52_3 p271 q271
             cases e271
             have HR271_6 := Aside0.mk hi271_6
             have HC271_6 := Aside0.mk hl271_6
             clear hi271_6 hl271_6
             replace p271 := eq_true p271
             replace q271 := eq_true q271
             go_wp2_with (first | ((with_reducible refine gd 7 rfl ?_); refine bxE 7 #[.int .i64 0, .int .i64 0, .int .i64 0, .int .i64 0, .int .i64 0, .string (⟨#[]⟩ : ByteArray), .slice none 0 0] 65 ?_; intro gb272 hg w183 hbox hb; replace HO_5 := nR HO_5 hb; have BK272 := Aside0.mk hbox; have GW272 := nGC hg; have GE272 := nGC hg; replace HB := nSC hb; have NB260_272 := nL BK260 hg; have NB272_260 := nH BK260 hg; replace BK260 := nK BK260 hb; clear hb hbox hg; have hnb184 := NB272_260.out; have hnc184 := NB260_272.out; have hcz185 := cb7 BK272; have hcz186 := cb2 BK260) | ((with_reducible refine gt 64 rfl ?_); refine gL 64 59 Tryz.func64 #[.agg #[.slice (some ad271) l0_0.length c0_0, .int .i64 a0_1], .int .i64 x52_3] ?_; (with_reducible refine (spec_l3Links.calls k3 _ _ l0_0 a0_1 x52_3 t273 _ ?side1 ?side2 A41.out).mono ?_); (case side1 => exact Kd.C_below HR0_0.out sC); (case side2 => exact HC0_0.out); rintro e w187 ⟨rfl, hb⟩; refine ⟨_, rfl, ?_⟩; replace HO_5 := nRf HO_5 BK272 hb; replace BK260 := nF BK260 hb; replace BK272 := nX #[.int .i64 ((rd_T65 l0_0 x52_3).f0), .int .i64 ((rd_T65 l0_0 x52_3).f1), .int .i64 ((rd_T65 l0_0 x52_3).f2), .int .i64 ((rd_T65 l0_0 x52_3).f3), .int .i64 ((rd_T65 l0_0 x52_3).f4), .string ((rd_T65 l0_0 x52_3).f5), .slice A271_6 ((rd_T65 l0_0 x52_3).f6).length c271_6] BK272 hb; replace HB := nSC hb; try clear hb; have hcz188 := cb7 BK272))
             go_roundg k3
             case measure => have := HJ1.out; have := HK2.out; have := HK3.out; omega
             case rel => exact ⟨(wrap64 (x52_3 + 1)), sR, H', ⟨by have := HJ1.out; have := HK2.out; have := HK3.out; omega⟩, ⟨rR HO_5⟩, ⟨sK BK260⟩, ⟨sC⟩⟩
            ·rw [if_neg c182] at H
             have c182b0 := beq_eq_false_iff_ne.mpr c182
             have c182b1 := bne_iff_ne.mpr c182
             obtain ⟨t279, A189, H⟩ := bS H
             try dsimp only at H
             by_cases c190 : t279 = true
             ·subst c190
              rw [if_pos rfl] at H
              have H' := Aside0.mk H
              clear H
              have p271 : 0 ≤ (x52_3 : Int) := sO
              have q271 : x52_3 < (l0_0.length : Int) := sO
              obtain ⟨ad271, A271_6, c271_6, e271, hx271_0, hx271_1, hx271_2, hx271_3, hx271_4, hx271_5, hx271_6, hl271_6, hi271_6⟩ := ab65 HR0_0.out HB x52_3 p271 q271
              cases e271
              have HR271_6 := Aside0.mk hi271_6
              have HC271_6 := Aside0.mk hl271_6
              clear hi271_6 hl271_6
              replace p271 := eq_true p271
              replace q271 := eq_true q271
              go_wp2_with (first | ((with_reducible refine gd 7 rfl ?_); refine bxE 7 #[.int .i64 0, .int .i64 0, .int .i64 0, .int .i64 0, .int .i64 0, .string (⟨#[]⟩ : ByteArray), .slice none 0 0] 65 ?_; intro gb272 hg w191 hbox hb; replace HO_5 := nR HO_5 hb; have BK272 := Aside0.mk hbox; have GW272 := nGC hg; have GE272 := nGC hg; replace HB := nSC hb; have NB260_272 := nL BK260 hg; have NB272_260 := nH BK260 hg; replace BK260 := nK BK260 hb; clear hb hbox hg; have hnb192 := NB272_260.out; have hnc192 := NB260_272.out; have hcz193 := cb7 BK272; have hcz194 := cb2 BK260) | ((with_reducible refine gt 64 rfl ?_); refine gL 64 59 Tryz.func64 #[.agg #[.slice (some ad271) l0_0.length c0_0, .int .i64 a0_1], .int .i64 x52_3] ?_; (with_reducible refine (spec_l3Links.calls k3 _ _ l0_0 a0_1 x52_3 t273 _ ?side1 ?side2 A41.out).mono ?_); (case side1 => exact Kd.C_below HR0_0.out sC); (case side2 => exact HC0_0.out); rintro e w195 ⟨rfl, hb⟩; refine ⟨_, rfl, ?_⟩; replace HO_5 := nRf HO_5 BK272 hb; replace BK260 := nF BK260 hb; replace BK272 := nX #[.int .i64 ((rd_T65 l0_0 x52_3).f0), .int .i64 ((rd_T65 l0_0 x52_3).f1), .int .i64 ((rd_T65 l0_0 x52_3).f2), .int .i64 ((rd_T65 l0_0 x52_3).f3), .int .i64 ((rd_T65 l0_0 x52_3).f4), .string ((rd_T65 l0_0 x52_3).f5), .slice A271_6 ((rd_T65 l0_0 x52_3).f6).length c271_6] BK272 hb; replace HB := nSC hb; try clear hb; have hcz196 := cb7 BK272; obtain ⟨Ao197, co197, eo197⟩ := Kd.R_slice HO_5.out; subst eo197) | (go_at_call 53; (with_reducible refine (spec_l1Has.calls k3 _ _ t268 x52_3 true _ ?side1 ?side2 A189.out).mono ?_); (case side1 => exact sD (Kd.R_reads' HO_5.out).2.2); (case side2 => exact (Kd.R_reads' HO_5.out).2.1); rintro e w' ⟨rfl, ⟨nd, rfl⟩⟩))
              go_roundg k3
              case measure => have := HJ1.out; have := HK2.out; have := HK3.out; omega
              case rel => exact ⟨(wrap64 (x52_3 + 1)), sR, H', ⟨by have := HJ1.out; have := HK2.out; have := HK3.out; omega⟩, ⟨rR HO_5⟩, ⟨sK BK260⟩, ⟨sC⟩⟩
             ·replace c190 := Bool.eq_false_iff.mpr c190
              subst c190
              rw [if_neg (show ¬ (false = true) by decide)] at H
              obtain rfl := Option.some.inj H
              have p271 : 0 ≤ (x52_3 : Int) := sO
              have q271 : x52_3 < (l0_0.length : Int) := sO
              obtain ⟨ad271, A271_6, c271_6, e271, hx271_0, hx271_1, hx271_2, hx271_3, hx271_4, hx271_5, hx271_6, hl271_6, hi271_6⟩ := ab65 HR0_0.out HB x52_3 p271 q271
              cases e271
              have HR271_6 := Aside0.mk hi271_6
              have HC271_6 := Aside0.mk hl271_6
              clear hi271_6 hl271_6
              replace p271 := eq_true p271
              replace q271 := eq_true q271
              go_wp2_with (first | ((with_reducible refine gd 7 rfl ?_); refine bxE 7 #[.int .i64 0, .int .i64 0, .int .i64 0, .int .i64 0, .int .i64 0, .string (⟨#[]⟩ : ByteArray), .slice none 0 0] 65 ?_; intro gb272 hg w198 hbox hb; replace HO_5 := nR HO_5 hb; have BK272 := Aside0.mk hbox; have GW272 := nGC hg; have GE272 := nGC hg; replace HB := nSC hb; have NB260_272 := nL BK260 hg; have NB272_260 := nH BK260 hg; replace BK260 := nK BK260 hb; clear hb hbox hg; have hnb199 := NB272_260.out; have hnc199 := NB260_272.out; have hcz200 := cb7 BK272; have hcz201 := cb2 BK260) | ((with_reducible refine gt 64 rfl ?_); refine gL 64 59 Tryz.func64 #[.agg #[.slice (some ad271) l0_0.length c0_0, .int .i64 a0_1], .int .i64 x52_3] ?_; (with_reducible refine (spec_l3Links.calls k3 _ _ l0_0 a0_1 x52_3 t273 _ ?side1 ?side2 A41.out).mono ?_); (case side1 => exact Kd.C_below HR0_0.out sC); (case side2 => exact HC0_0.out); rintro e w202 ⟨rfl, hb⟩; refine ⟨_, rfl, ?_⟩; replace HO_5 := nRf HO_5 BK272 hb; replace BK260 := nF BK260 hb; replace BK272 := nX #[.int .i64 ((rd_T65 l0_0 x52_3).f0), .int .i64 ((rd_T65 l0_0 x52_3).f1), .int .i64 ((rd_T65 l0_0 x52_3).f2), .int .i64 ((rd_T65 l0_0 x52_3).f3), .int .i64 ((rd_T65 l0_0 x52_3).f4), .string ((rd_T65 l0_0 x52_3).f5), .slice A271_6 ((rd_T65 l0_0 x52_3).f6).length c271_6] BK272 hb; replace HB := nSC hb; try clear hb; have hcz203 := cb7 BK272; obtain ⟨Ao204, co204, eo204⟩ := Kd.R_slice HO_5.out; subst eo204) | (go_at_call 53; (with_reducible refine (spec_l1Has.calls k3 _ _ t268 x52_3 false _ ?side1 ?side2 A189.out).mono ?_); (case side1 => exact sD (Kd.R_reads' HO_5.out).2.2); (case side2 => exact (Kd.R_reads' HO_5.out).2.1); rintro e w' ⟨rfl, ⟨nd, rfl⟩⟩))
              go_ret
              exact ⟨sE, sC⟩
         ·rw [if_neg c38] at H
          have c38b0 := decide_eq_false c38
          clear c38
          obtain rfl := Option.some.inj H
          go_wp2
          go_ret
          exact ⟨sE, sC⟩
end Go.Proofs.YtdjceippnokimaaGreatDoor.PGrp
