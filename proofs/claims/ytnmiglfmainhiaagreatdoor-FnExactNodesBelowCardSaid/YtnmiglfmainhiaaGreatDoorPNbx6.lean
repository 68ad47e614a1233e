-- Written by a program of this session (wip/print2) out of the translation. Lean checks it.
import Derived.Test.YtnmiglfmainhiaaGreatDoorPNbx0
import Derived.Test.YtnmiglfmainhiaaGreatDoorPNbx4
import Derived.Test.YtnmiglfmainhiaaGreatDoorPNbx5
namespace Go.Proofs.YtnmiglfmainhiaaGreatDoor.PNb
open Go.RowKit Go.Proofs.YtnmiglfmainhiaaGreatDoorW.PrintWords Go.Proofs.YtnmiglfmainhiaaGreatDoorW.PrintLast Go.Proofs.YtnmiglfmainhiaaGreatDoorW.PrintMore
attribute [local go_sem] max2_int min2_int max_two min_two max_three min_three max_four min_four   -- for this text's walks alone
set_option linter.unusedVariables false
set_option linter.unusedSimpArgs false
set_option maxHeartbeats 8000000
set_option maxRecDepth 100000

/-! ### spec_l3Entries: function 130 -/
def spec_l3Entries.l0 : Nat → List (S105) → List (S105) → Int → Int → List (S74) → Int → Option (Bool)
 | 0, _, _, _, _, _, _ => none
 | k + 1, x1, x7, x8, x9, x239000, x239001 => if x9 < x8 then (if 0 ≤ x9 then (if x9 < (x7.length : Int) then ((spec_l2Name.f k ((rd_T105 x7 x9).f0)).bind fun t241 => (if t241 = true then (if x9 > 0 then (if 0 ≤ (wrap64 (x9 - 1)) then (if (wrap64 (x9 - 1)) < (x1.length : Int) then (if ((Op.bytesLess (((rd_T105 x1 (wrap64 (x9 - 1))).f0).toList) (((rd_T105 x7 x9).f0).toList)) = true) then ((spec_l1In.f ((rd_T105 x7 x9).f1) 1 (wrap64 ((x239000.length : Int) - 1))).bind fun t243 => (if t243 = true then (if 0 ≤ ((rd_T105 x7 x9).f1) then (if ((rd_T105 x7 x9).f1) < (x239000.length : Int) then (if ((rd_T74 x239000 ((rd_T105 x7 x9).f1)).f0) = 0 then (some false) else (spec_l3Entries.l0 k x1 x7 x8 (wrap64 (x9 + 1)) x239000 x239001)) else (none)) else (none)) else (some false))) else (some false)) else (none)) else (none)) else ((spec_l1In.f ((rd_T105 x7 x9).f1) 1 (wrap64 ((x239000.length : Int) - 1))).bind fun t245 => (if t245 = true then (if 0 ≤ ((rd_T105 x7 x9).f1) then (if ((rd_T105 x7 x9).f1) < (x239000.length : Int) then (if ((rd_T74 x239000 ((rd_T105 x7 x9).f1)).f0) = 0 then (some false) else (spec_l3Entries.l0 k x1 x7 x8 (wrap64 (x9 + 1)) x239000 x239001)) else (none)) else (none)) else (some false)))) else (some false))) else (none)) else (none)) else (some true)
def spec_l3Entries.f (k : Nat) (l0_0 : List (S74)) (a0_1 : Int) (l1 : List (S105)) : Option (Bool) := spec_l3Entries.l0 k l1 l1 (l1.length : Int) 0 l0_0 a0_1
theorem spec_l3Entries.mono_l : ∀ k, (∀ y0 y1 y2 y3 y4 y5, LeO (spec_l3Entries.l0 k y0 y1 y2 y3 y4 y5) (spec_l3Entries.l0 (k + 1) y0 y1 y2 y3 y4 y5))
 | 0 => fun _ _ _ _ _ _ r h => by simp [spec_l3Entries.l0] at h
 | k + 1 => by
  have ih0 := spec_l3Entries.mono_l k
  ·intro y0 y1 y2 y3 y4 y5
   unfold spec_l3Entries.l0
   have m0 := @spec_l2Name.mono
   exact mo
theorem spec_l3Entries.mono : ∀ a0 a1 a2 k, LeO (spec_l3Entries.f k a0 a1 a2) (spec_l3Entries.f (k + 1) a0 a1 a2) := by
 intro a0 a1 a2 k
 have ih0 := spec_l3Entries.mono_l k
 unfold spec_l3Entries.f
 have m0 := @spec_l2Name.mono
 exact mo
def spec_l3Entries.T4 : Bool × List (List Nat × List Nat) := (true, [([], []), ([0], [0]), ([1], [1]), ([2], [2]), ([3, 2], [3]), ([4], [4]), ([5, 4], [4, 5]), ([6, 4, 4], [4, 6]), ([7], [7]), ([7], [7]), ([9, 7], [7, 9]), ([8, 10, 7], [7, 8, 10]), ([11, 7], [7, 11]), ([12, 7], [7, 12]), ([7], [7]), ([14, 7], [7, 14]), ([13, 15, 7], [7, 13, 15]), ([7, 16, 4], [4, 7, 16]), ([4, 17], [4, 17]), ([18, 7], [18]), ([19], [19]), ([20, 19], [19, 20]), ([19], [19]), ([22, 19], [19, 22]), ([23, 19], [19, 23]), ([24, 19], [19, 24]), ([21, 25, 19, 19], [19, 21, 25]), ([26, 19], [19, 26]), ([19, 27], [19, 27]), ([28, 26], [28]), ([29], [29]), ([30, 29], [29, 30]), ([29], [29]), ([32, 29], [29, 32]), ([31, 33, 29], [29, 31, 33]), ([34, 29], [29, 34]), ([35, 29], [29, 35]), ([36, 29], [29, 36]), ([29, 37], [29, 37])])
def spec_l3Entries.B4 : List Nat := [0, 1, 3, 7, 15, 31, 63, 127, 255, 255, 767, 2047, 4095, 8191, 255, 16639, 65535, 131071, 262143, 524287, 1048575, 2097151, 1048575, 5242879, 13631487, 30408703, 67108863, 134217727, 268435455, 536870911, 1073741823, 2147483647, 1073741823, 5368709119, 17179869183, 34359738367, 68719476735, 137438953471, 274877906943]
theorem spec_l3Entries.tab4 : rtab .any (opsOf Tryz.f130 4) = spec_l3Entries.T4 := by kernel_rfl
theorem spec_l3Entries.bits4 : waitsOk spec_l3Entries.T4.2 spec_l3Entries.B4 = true := by kernel_rfl
theorem spec_l3Entries.calls (k : Nat) (A0_0 : Option Addr) (c0_0 : Nat) (l0_0 : List (S74)) (a0_1 : Int) (A1 : Option Addr) (c1 : Nat) (l1 : List (S105)) (r : Bool) (w : World) (hr0_0 : Kd.C k74 w A0_0 l0_0.length l0_0) (hc0_0 : l0_0.length ≤ c0_0) (hr1 : Kd.C k105 w A1 l1.length l1) (hc1 : l1.length ≤ c1) (h : spec_l3Entries.f k l0_0 a0_1 l1 = some r) :
  Calls Tryz.prog 130 #[.agg #[.slice A0_0 l0_0.length c0_0, .int .i64 a0_1], .slice A1 l1.length c1] w fun e w' => e = .returned (.bool r) ∧ Below w.heap.size w w' := by
 have hu31 := Tryz.underlying31
 have hu105 := Tryz.underlying105
 have HR0_0 := Aside0.mk hr0_0
 have HC0_0 := Aside0.mk hc0_0
 clear hr0_0 hc0_0
 have HR1 := Aside0.mk hr1
 have HC1 := Aside0.mk hc1
 clear hr1 hc1
 have HB := Aside0.mk (Below.refl w.heap.size w)
 have H : (spec_l3Entries.l0 k l1 l1 (l1.length : Int) 0 l0_0 a0_1) = some r := h
 clear h
 have H' := Aside0.mk H
 clear H
 go_enter Tryz.func130, Tryz.ntmps130
 go_wp2_with (first | ((with_reducible refine gd 2 rfl ?_); (first | refine bxE 2 #[.slice A0_0 l0_0.length c0_0, .int .i64 a0_1] 31 ?_ | refine bgE 2 #[.slice A0_0 l0_0.length c0_0, .int .i64 a0_1] 31 ?_); intro gb238 hg w3 hbox hb; have BK238 := Aside0.mk hbox; have GW238 := nGB hg; have GE238 := nGB hg; replace HB := nSB hb; clear hb hbox hg))
 go_loopg [9] k (fun kq v9 w' => ∃ (x9_1 : Int), v9 = .int .i64 x9_1 ∧ Aside0 (spec_l3Entries.l0 kq l1 l1 (l1.length : Int) x9_1 l0_0 a0_1 = some r) ∧ Aside0 (kq ≤ k) ∧ Aside0 (w'.heap[gb238]? = some (.cells #[(.slice A0_0 l0_0.length c0_0), .int .i64 a0_1] 31 (0, 0))) ∧ Aside0 (Below w.heap.size w w'))
 case atStart => exact ⟨(0), sR, H', ⟨Nat.le_refl _⟩, ⟨sK BK238⟩, ⟨sC⟩⟩
 case round =>
  clear H'
  try clear c1
  try clear p2
  obtain ⟨x9_1, rfl, HA, HK1, BK238, HB⟩ := hrel
  cases gk with
  | zero => exact absurd HA.out (by simp [spec_l3Entries.l0])
  | succ k1 =>
   have H := HA.out
   clear HA
   simp only [spec_l3Entries.l0] at H
   by_cases c4 : x9_1 < (l1.length : Int)
   ·rw [if_pos c4] at H
    have c4b0 := decide_eq_true c4
    clear c4
    obtain ⟨c5, H⟩ := iN H
    have c5b0 := decide_eq_true c5
    clear c5
    obtain ⟨c6, H⟩ := iN H
    have c6b0 := decide_eq_true c6
    clear c6
    obtain ⟨t241, A7, H⟩ := bS H
    try dsimp only at H
    by_cases c8 : t241 = true
    ·subst c8
     rw [if_pos rfl] at H
     by_cases c9 : x9_1 > 0
     ·rw [if_pos c9] at H
      have c9b0 := decide_eq_true c9
      clear c9
      obtain ⟨ji10, hji10⟩ : ∃ j_ : Int, (wrap64 (x9_1 - 1)) = j_ := ⟨_, rfl⟩
      replace H : (if 0 ≤ (ji10) then (if (ji10) < (l1.length : Int) then (if ((Op.bytesLess (((rd_T105 l1 (ji10)).f0).toList) (((rd_T105 l1 x9_1).f0).toList)) = true) then ((spec_l1In.f ((rd_T105 l1 x9_1).f1) 1 (wrap64 ((l0_0.length : Int) - 1))).bind fun t243 => (if t243 = true then (if 0 ≤ ((rd_T105 l1 x9_1).f1) then (if ((rd_T105 l1 x9_1).f1) < (l0_0.length : Int) then (if ((rd_T74 l0_0 ((rd_T105 l1 x9_1).f1)).f0) = 0 then (some false) else (spec_l3Entries.l0 k1 l1 l1 (l1.length : Int) (wrap64 (x9_1 + 1)) l0_0 a0_1)) else (none)) else (none)) else (some false))) else (some false)) else (none)) else (none)) = some r := by first | (rw [hji10] at H; exact H) | (simp only [hji10] at H ⊢; exact H)
      (try rw [hji10] at A7)
      have hji10w : (IntKind.i64.wrap (x9_1 - 1)) = ji10 := (i64_w _).trans hji10
      obtain ⟨c11, H⟩ := iN H
      have c11b0 := decide_eq_true c11
      clear c11
      obtain ⟨c12, H⟩ := iN H
      have c12b0 := decide_eq_true c12
      clear c12
      by_cases c13 : ((Op.bytesLess (((rd_T105 l1 (ji10)).f0).toList) (((rd_T105 l1 x9_1).f0).toList)) = true)
      ·rw [if_pos c13] at H
       have c13b0 : (Op.bytesLess (((rd_T105 l1 (ji10)).f0).toList) (((rd_T105 l1 x9_1).f0).toList)) = true := c13
       clear c13
       obtain ⟨t243, A14, H⟩ := bS H
       try dsimp only at H
       by_cases c15 : t243 = true
       ·subst c15
        rw [if_pos rfl] at H
        obtain ⟨c16, H⟩ := iN H
        have c16b0 := decide_eq_true c16
        clear c16
        obtain ⟨c17, H⟩ := iN H
        have c17b0 := decide_eq_true c17
        clear c17
        by_cases c18 : ((rd_T74 l0_0 ((rd_T105 l1 x9_1).f1)).f0) = 0
        ·rw [if_pos c18] at H
         have c18b0 := beq_iff_eq.mpr c18
         have c18b1 := bne_eq_false_iff_eq.mpr c18
         clear c18
         obtain rfl := Option.some.inj H
         have p239 : 0 ≤ (x9_1 : Int) := sO
         have q239 : x9_1 < (l1.length : Int) := sO
         obtain ⟨ad239, e239, hx239_0, hx239_1⟩ := ab105 HR1.out HB x9_1 p239 q239
         cases e239
         replace p239 := eq_true p239
         replace q239 := eq_true q239
         try go_wp2_with (first | ((with_reducible refine gd 6 rfl ?_); (first | refine bxE 6 #[.string (⟨#[]⟩ : ByteArray), .int .i64 0] 105 ?_ | refine bgE 6 #[.string (⟨#[]⟩ : ByteArray), .int .i64 0] 105 ?_); intro gb240 hg w19 hbox hb; have BK240 := Aside0.mk hbox; have GW240 := nGC hg; have GE240 := nGC hg; replace HB := nSC hb; have NB238_240 := nL BK238 hg; have NB240_238 := nH BK238 hg; replace BK238 := nK BK238 hb; clear hb hbox hg; have hnb20 := NB240_238.out; have hnc20 := NB238_240.out; have hcz21 := cb2 BK240))
         have n0_ : Aside0 (((w19.setCell ⟨gb240, 0, none⟩ (.string ((rd_T105 l1 x9_1).f0))).setCell ⟨gb240, 1, none⟩ (.int .i64 ((rd_T105 l1 x9_1).f1))).heap[gb238]? = some (.cells #[.slice A0_0 l0_0.length c0_0, .int .i64 a0_1] 31 (0, 0))) := ⟨sX BK238⟩
         have n1_ : Aside0 (((w19.setCell ⟨gb240, 0, none⟩ (.string ((rd_T105 l1 x9_1).f0))).setCell ⟨gb240, 1, none⟩ (.int .i64 ((rd_T105 l1 x9_1).f1))).heap[gb240]? = some (.cells #[.string ((rd_T105 l1 x9_1).f0), .int .i64 ((rd_T105 l1 x9_1).f1)] 105 (0, 0))) := ⟨sX BK240⟩
         have n2_ : Aside0 (Below w.heap.size w ((w19.setCell ⟨gb240, 0, none⟩ (.string ((rd_T105 l1 x9_1).f0))).setCell ⟨gb240, 1, none⟩ (.int .i64 ((rd_T105 l1 x9_1).f1)))) := ⟨sC⟩
         (try clear BK238)
         (try clear BK240)
         (try clear HB)
         generalize ((w19.setCell ⟨gb240, 0, none⟩ (.string ((rd_T105 l1 x9_1).f0))).setCell ⟨gb240, 1, none⟩ (.int .i64 ((rd_T105 l1 x9_1).f1))) = w22 at n0_ n1_ n2_ ⊢
         have BK238 := n0_
         have BK240 := n1_
         have HB := n2_
         clear n0_ n1_ n2_
         have n0_ := Aside0.mk (blk_drew BK238.out)
         have n1_ := Aside0.mk (blk_drew BK240.out)
         have n2_ := Aside0.mk (below_drew1 HB.out)
         clear BK238
         clear BK240
         clear HB
         have BK238 := n0_
         have BK240 := n1_
         have HB := n2_
         clear n0_ n1_ n2_
         have p242 : 0 ≤ ((ji10) : Int) := sO
         have q242 : (ji10) < (l1.length : Int) := sO
         obtain ⟨ad242, e242, hx242_0, hx242_1⟩ := at_T105 HR1.out (ji10) p242 q242
         have hw242_1 := hx242_1
         have hw242_0 := hx242_0
         obtain rfl : ad239 = ad242 := (by injection e242)
         replace hx242_0 := hB HB hx242_0
         replace hx242_1 := hB HB hx242_1
         replace p242 := eq_true p242
         replace q242 := eq_true q242
         have p244 : 0 ≤ (((rd_T105 l1 x9_1).f1) : Int) := sO
         have q244 : ((rd_T105 l1 x9_1).f1) < (l0_0.length : Int) := sO
         obtain ⟨ad244, A244_6, c244_6, e244, hx244_0, hx244_1, hx244_2, hx244_3, hx244_4, hx244_5, hx244_6, hl244_6, hi244_6⟩ := at_T74 HR0_0.out ((rd_T105 l1 x9_1).f1) p244 q244
         have hw244_6 := hx244_6
         have hw244_5 := hx244_5
         have hw244_4 := hx244_4
         have hw244_3 := hx244_3
         have hw244_2 := hx244_2
         have hw244_1 := hx244_1
         have hw244_0 := hx244_0
         cases e244
         replace hx244_0 := hB HB hx244_0
         replace hx244_1 := hB HB hx244_1
         replace hx244_2 := hB HB hx244_2
         replace hx244_3 := hB HB hx244_3
         replace hx244_4 := hB HB hx244_4
         replace hx244_5 := hB HB hx244_5
         replace hx244_6 := hB HB hx244_6
         have HR244_6 := Aside0.mk hi244_6
         have HC244_6 := Aside0.mk hl244_6
         clear hi244_6 hl244_6
         replace p244 := eq_true p244
         replace q244 := eq_true q244
         refine st13 39 [] (cz0 BK240) (cz1 BK240) (cz0 BK238) (cz1 BK238) (hB HB hw242_0 :) (hB HB hw242_1 :) (hB HB hw244_0 :) (hB HB hw244_1 :) (hB HB hw244_2 :) (hB HB hw244_3 :) (hB HB hw244_4 :) (hB HB hw244_5 :) (hB HB hw244_6 :) (fun hHeld => ?_); refine with_tabW spec_l3Entries.tab4 spec_l3Entries.bits4 (fun HT_ HW_ => ?_)
         generalize w22.drew = w23 at BK238 BK240 HB HR244_6 hx242_0 hx242_1 hx244_0 hx244_1 hx244_2 hx244_3 hx244_4 hx244_5 hx244_6 hHeld ⊢
         refine pu 0 14 ?_
         refine tk13 1 15 ?_
         refine on 2 16 (fun K hK => ?_)
         refine gC Tryz.func131 #[.string ((rd_T105 l1 x9_1).f0)] ?_
         with_reducible refine (spec_l2Name.calls k1 ((rd_T105 l1 x9_1).f0) true _ A7.out).mono ?_
         rintro e w' ⟨rfl, ⟨nd, rfl⟩⟩
         refine ⟨_, rfl, ?_⟩
         refine hK.out _ _ ⟨cz0 BK240, cz1 BK240, cz0 BK238, cz1 BK238, (hB HB hw242_0 :), (hB HB hw242_1 :), (hB HB hw244_0 :), (hB HB hw244_1 :), (hB HB hw244_2 :), (hB HB hw244_3 :), (hB HB hw244_4 :), (hB HB hw244_5 :), (hB HB hw244_6 :)⟩ (fun hHeld => ?_)
         clear hK K
         refine nm ?_
         refine pu 3 17 ?_
         refine pu 4 18 ?_
         refine pu 5 19 ?_
         refine pu 6 20 ?_
         refine pu 7 21 ?_
         refine pu 8 22 ?_
         refine pu 9 23 ?_
         refine pu 10 24 ?_
         refine pu 11 25 ?_
         refine pu 12 26 ?_
         refine pu 14 28 ?_
         refine tk13 13 27 ?_
         refine tk13 15 29 ?_
         refine pu 16 30 ?_
         refine pu 17 31 ?_
         refine pu 18 32 ?_
         refine pu 19 33 ?_
         refine pu 20 34 ?_
         refine pu 22 36 ?_
         refine tk13 21 35 ?_
         refine tk13 23 37 ?_
         refine pu 24 38 ?_
         refine pu 25 39 ?_
         refine on 26 40 (fun K hK => ?_)
         refine gC Tryz.func91 #[.int .i64 ((rd_T105 l1 x9_1).f1), .int .i64 1, .int .i64 (wrap64 ((l0_0.length : Int) - 1))] ?_
         with_reducible refine (spec_l1In.calls ((rd_T105 l1 x9_1).f1) 1 (wrap64 ((l0_0.length : Int) - 1)) true _ A14.out).mono ?_
         rintro e w' ⟨rfl, ⟨nd, rfl⟩⟩
         refine ⟨_, rfl, ?_⟩
         refine hK.out _ _ ⟨cz0 BK240, cz1 BK240, cz0 BK238, cz1 BK238, (hB HB hw242_0 :), (hB HB hw242_1 :), (hB HB hw244_0 :), (hB HB hw244_1 :), (hB HB hw244_2 :), (hB HB hw244_3 :), (hB HB hw244_4 :), (hB HB hw244_5 :), (hB HB hw244_6 :)⟩ (fun hHeld => ?_)
         clear hK K
         refine nm ?_
         refine pu 27 41 ?_
         refine pu 28 42 ?_
         refine pu 29 43 ?_
         refine pu 30 44 ?_
         refine pu 32 46 ?_
         refine tk13 31 45 ?_
         refine tk13 33 47 ?_
         refine pu 34 48 ?_
         refine pu 35 49 ?_
         refine tk13 36 50 ?_
         refine pu 37 51 ?_
         refine pu 38 52 ?_
         refine dn ?_
         try go_wp2
         go_ret
         exact ⟨by first | rfl | (simp [errW_none, errW_some] <;> rfl) | (simp [errW_none, errW_some]; exact isEmpty_ne _) | (simp only [← hji10]; first | rfl | (simp [errW_none, errW_some] <;> rfl)) | (simp [*, errW_none, errW_some] <;> rfl), sC⟩
        ·rw [if_neg c18] at H
         have c18b0 := beq_eq_false_iff_ne.mpr c18
         have c18b1 := bne_iff_ne.mpr c18
         have H' := Aside0.mk H
         clear H
         have p239 : 0 ≤ (x9_1 : Int) := sO
         have q239 : x9_1 < (l1.length : Int) := sO
         obtain ⟨ad239, e239, hx239_0, hx239_1⟩ := ab105 HR1.out HB x9_1 p239 q239
         cases e239
         replace p239 := eq_true p239
         replace q239 := eq_true q239
         try go_wp2_with (first | ((with_reducible refine gd 6 rfl ?_); (first | refine bxE 6 #[.string (⟨#[]⟩ : ByteArray), .int .i64 0] 105 ?_ | refine bgE 6 #[.string (⟨#[]⟩ : ByteArray), .int .i64 0] 105 ?_); intro gb240 hg w24 hbox hb; have BK240 := Aside0.mk hbox; have GW240 := nGC hg; have GE240 := nGC hg; replace HB := nSC hb; have NB238_240 := nL BK238 hg; have NB240_238 := nH BK238 hg; replace BK238 := nK BK238 hb; clear hb hbox hg; have hnb25 := NB240_238.out; have hnc25 := NB238_240.out; have hcz26 := cb2 BK240))
         have n0_ : Aside0 (((w24.setCell ⟨gb240, 0, none⟩ (.string ((rd_T105 l1 x9_1).f0))).setCell ⟨gb240, 1, none⟩ (.int .i64 ((rd_T105 l1 x9_1).f1))).heap[gb238]? = some (.cells #[.slice A0_0 l0_0.length c0_0, .int .i64 a0_1] 31 (0, 0))) := ⟨sX BK238⟩
         have n1_ : Aside0 (((w24.setCell ⟨gb240, 0, none⟩ (.string ((rd_T105 l1 x9_1).f0))).setCell ⟨gb240, 1, none⟩ (.int .i64 ((rd_T105 l1 x9_1).f1))).heap[gb240]? = some (.cells #[.string ((rd_T105 l1 x9_1).f0), .int .i64 ((rd_T105 l1 x9_1).f1)] 105 (0, 0))) := ⟨sX BK240⟩
         have n2_ : Aside0 (Below w.heap.size w ((w24.setCell ⟨gb240, 0, none⟩ (.string ((rd_T105 l1 x9_1).f0))).setCell ⟨gb240, 1, none⟩ (.int .i64 ((rd_T105 l1 x9_1).f1)))) := ⟨sC⟩
         (try clear BK238)
         (try clear BK240)
         (try clear HB)
         generalize ((w24.setCell ⟨gb240, 0, none⟩ (.string ((rd_T105 l1 x9_1).f0))).setCell ⟨gb240, 1, none⟩ (.int .i64 ((rd_T105 l1 x9_1).f1))) = w27 at n0_ n1_ n2_ ⊢
         have BK238 := n0_
         have BK240 := n1_
         have HB := n2_
         clear n0_ n1_ n2_
         have n0_ := Aside0.mk (blk_drew BK238.out)
         have n1_ := Aside0.mk (blk_drew BK240.out)
         have n2_ := Aside0.mk (below_drew1 HB.out)
         clear BK238
         clear BK240
         clear HB
         have BK238 := n0_
         have BK240 := n1_
         have HB := n2_
         clear n0_ n1_ n2_
         have p242 : 0 ≤ ((ji10) : Int) := sO
         have q242 : (ji10) < (l1.length : Int) := sO
         obtain ⟨ad242, e242, hx242_0, hx242_1⟩ := at_T105 HR1.out (ji10) p242 q242
         have hw242_1 := hx242_1
         have hw242_0 := hx242_0
         obtain rfl : ad239 = ad242 := (by injection e242)
         replace hx242_0 := hB HB hx242_0
         replace hx242_1 := hB HB hx242_1
         replace p242 := eq_true p242
         replace q242 := eq_true q242
         have p244 : 0 ≤ (((rd_T105 l1 x9_1).f1) : Int) := sO
         have q244 : ((rd_T105 l1 x9_1).f1) < (l0_0.length : Int) := sO
         obtain ⟨ad244, A244_6, c244_6, e244, hx244_0, hx244_1, hx244_2, hx244_3, hx244_4, hx244_5, hx244_6, hl244_6, hi244_6⟩ := at_T74 HR0_0.out ((rd_T105 l1 x9_1).f1) p244 q244
         have hw244_6 := hx244_6
         have hw244_5 := hx244_5
         have hw244_4 := hx244_4
         have hw244_3 := hx244_3
         have hw244_2 := hx244_2
         have hw244_1 := hx244_1
         have hw244_0 := hx244_0
         cases e244
         replace hx244_0 := hB HB hx244_0
         replace hx244_1 := hB HB hx244_1
         replace hx244_2 := hB HB hx244_2
         replace hx244_3 := hB HB hx244_3
         replace hx244_4 := hB HB hx244_4
         replace hx244_5 := hB HB hx244_5
         replace hx244_6 := hB HB hx244_6
         have HR244_6 := Aside0.mk hi244_6
         have HC244_6 := Aside0.mk hl244_6
         clear hi244_6 hl244_6
         replace p244 := eq_true p244
         replace q244 := eq_true q244
         refine st13 39 [] (cz0 BK240) (cz1 BK240) (cz0 BK238) (cz1 BK238) (hB HB hw242_0 :) (hB HB hw242_1 :) (hB HB hw244_0 :) (hB HB hw244_1 :) (hB HB hw244_2 :) (hB HB hw244_3 :) (hB HB hw244_4 :) (hB HB hw244_5 :) (hB HB hw244_6 :) (fun hHeld => ?_); refine with_tabW spec_l3Entries.tab4 spec_l3Entries.bits4 (fun HT_ HW_ => ?_)
         generalize w27.drew = w28 at BK238 BK240 HB HR244_6 hx242_0 hx242_1 hx244_0 hx244_1 hx244_2 hx244_3 hx244_4 hx244_5 hx244_6 hHeld ⊢
         refine pu 0 14 ?_
         refine tk13 1 15 ?_
         refine on 2 16 (fun K hK => ?_)
         refine gC Tryz.func131 #[.string ((rd_T105 l1 x9_1).f0)] ?_
         with_reducible refine (spec_l2Name.calls k1 ((rd_T105 l1 x9_1).f0) true _ A7.out).mono ?_
         rintro e w' ⟨rfl, ⟨nd, rfl⟩⟩
         refine ⟨_, rfl, ?_⟩
         refine hK.out _ _ ⟨cz0 BK240, cz1 BK240, cz0 BK238, cz1 BK238, (hB HB hw242_0 :), (hB HB hw242_1 :), (hB HB hw244_0 :), (hB HB hw244_1 :), (hB HB hw244_2 :), (hB HB hw244_3 :), (hB HB hw244_4 :), (hB HB hw244_5 :), (hB HB hw244_6 :)⟩ (fun hHeld => ?_)
         clear hK K
         refine nm ?_
         refine pu 3 17 ?_
         refine pu 4 18 ?_
         refine pu 5 19 ?_
         refine pu 6 20 ?_
         refine pu 7 21 ?_
         refine pu 8 22 ?_
         refine pu 9 23 ?_
         refine pu 10 24 ?_
         refine pu 11 25 ?_
         refine pu 12 26 ?_
         refine pu 14 28 ?_
         refine tk13 13 27 ?_
         refine tk13 15 29 ?_
         refine pu 16 30 ?_
         refine pu 17 31 ?_
         refine pu 18 32 ?_
         refine pu 19 33 ?_
         refine pu 20 34 ?_
         refine pu 22 36 ?_
         refine tk13 21 35 ?_
         refine tk13 23 37 ?_
         refine pu 24 38 ?_
         refine pu 25 39 ?_
         refine on 26 40 (fun K hK => ?_)
         refine gC Tryz.func91 #[.int .i64 ((rd_T105 l1 x9_1).f1), .int .i64 1, .int .i64 (wrap64 ((l0_0.length : Int) - 1))] ?_
         with_reducible refine (spec_l1In.calls ((rd_T105 l1 x9_1).f1) 1 (wrap64 ((l0_0.length : Int) - 1)) true _ A14.out).mono ?_
         rintro e w' ⟨rfl, ⟨nd, rfl⟩⟩
         refine ⟨_, rfl, ?_⟩
         refine hK.out _ _ ⟨cz0 BK240, cz1 BK240, cz0 BK238, cz1 BK238, (hB HB hw242_0 :), (hB HB hw242_1 :), (hB HB hw244_0 :), (hB HB hw244_1 :), (hB HB hw244_2 :), (hB HB hw244_3 :), (hB HB hw244_4 :), (hB HB hw244_5 :), (hB HB hw244_6 :)⟩ (fun hHeld => ?_)
         clear hK K
         refine nm ?_
         refine pu 27 41 ?_
         refine pu 28 42 ?_
         refine pu 29 43 ?_
         refine pu 30 44 ?_
         refine pu 32 46 ?_
         refine tk13 31 45 ?_
         refine tk13 33 47 ?_
         refine pu 34 48 ?_
         refine pu 35 49 ?_
         refine tk13 36 50 ?_
         refine pu 37 51 ?_
         refine pu 38 52 ?_
         refine dn ?_
         try go_wp2
         go_roundg k1
         case measure => have := HK1.out; omega
         case rel => exact ⟨(wrap64 (x9_1 + 1)), sR, (by first | exact H' | (simp only [hji10]; exact H') | (simp only [hji10]; exact H')), ⟨by have := HK1.out; omega⟩, ⟨sK BK238⟩, ⟨sC⟩⟩
       ·replace c15 := Bool.eq_false_iff.mpr c15
        subst c15
        rw [if_neg (show ¬ (false = true) by decide)] at H
        obtain rfl := Option.some.inj H
        have p239 : 0 ≤ (x9_1 : Int) := sO
        have q239 : x9_1 < (l1.length : Int) := sO
        obtain ⟨ad239, e239, hx239_0, hx239_1⟩ := ab105 HR1.out HB x9_1 p239 q239
        cases e239
        replace p239 := eq_true p239
        replace q239 := eq_true q239
        try go_wp2_with (first | ((with_reducible refine gd 6 rfl ?_); (first | refine bxE 6 #[.string (⟨#[]⟩ : ByteArray), .int .i64 0] 105 ?_ | refine bgE 6 #[.string (⟨#[]⟩ : ByteArray), .int .i64 0] 105 ?_); intro gb240 hg w29 hbox hb; have BK240 := Aside0.mk hbox; have GW240 := nGC hg; have GE240 := nGC hg; replace HB := nSC hb; have NB238_240 := nL BK238 hg; have NB240_238 := nH BK238 hg; replace BK238 := nK BK238 hb; clear hb hbox hg; have hnb30 := NB240_238.out; have hnc30 := NB238_240.out; have hcz31 := cb2 BK240))
        have n0_ : Aside0 (((w29.setCell ⟨gb240, 0, none⟩ (.string ((rd_T105 l1 x9_1).f0))).setCell ⟨gb240, 1, none⟩ (.int .i64 ((rd_T105 l1 x9_1).f1))).heap[gb238]? = some (.cells #[.slice A0_0 l0_0.length c0_0, .int .i64 a0_1] 31 (0, 0))) := ⟨sX BK238⟩
        have n1_ : Aside0 (((w29.setCell ⟨gb240, 0, none⟩ (.string ((rd_T105 l1 x9_1).f0))).setCell ⟨gb240, 1, none⟩ (.int .i64 ((rd_T105 l1 x9_1).f1))).heap[gb240]? = some (.cells #[.string ((rd_T105 l1 x9_1).f0), .int .i64 ((rd_T105 l1 x9_1).f1)] 105 (0, 0))) := ⟨sX BK240⟩
        have n2_ : Aside0 (Below w.heap.size w ((w29.setCell ⟨gb240, 0, none⟩ (.string ((rd_T105 l1 x9_1).f0))).setCell ⟨gb240, 1, none⟩ (.int .i64 ((rd_T105 l1 x9_1).f1)))) := ⟨sC⟩
        (try clear BK238)
        (try clear BK240)
        (try clear HB)
        generalize ((w29.setCell ⟨gb240, 0, none⟩ (.string ((rd_T105 l1 x9_1).f0))).setCell ⟨gb240, 1, none⟩ (.int .i64 ((rd_T105 l1 x9_1).f1))) = w32 at n0_ n1_ n2_ ⊢
        have BK238 := n0_
        have BK240 := n1_
        have HB := n2_
        clear n0_ n1_ n2_
        have n0_ := Aside0.mk (blk_drew BK238.out)
        have n1_ := Aside0.mk (blk_drew BK240.out)
        have n2_ := Aside0.mk (below_drew1 HB.out)
        clear BK238
        clear BK240
        clear HB
        have BK238 := n0_
        have BK240 := n1_
        have HB := n2_
        clear n0_ n1_ n2_
        have p242 : 0 ≤ ((ji10) : Int) := sO
        have q242 : (ji10) < (l1.length : Int) := sO
        obtain ⟨ad242, e242, hx242_0, hx242_1⟩ := at_T105 HR1.out (ji10) p242 q242
        have hw242_1 := hx242_1
        have hw242_0 := hx242_0
        obtain rfl : ad239 = ad242 := (by injection e242)
        replace hx242_0 := hB HB hx242_0
        replace hx242_1 := hB HB hx242_1
        replace p242 := eq_true p242
        replace q242 := eq_true q242
        refine st6 39 [] (cz0 BK240) (cz1 BK240) (cz0 BK238) (cz1 BK238) (hB HB hw242_0 :) (hB HB hw242_1 :) (fun hHeld => ?_); refine with_tabW spec_l3Entries.tab4 spec_l3Entries.bits4 (fun HT_ HW_ => ?_)
        generalize w32.drew = w33 at BK238 BK240 HB hx242_0 hx242_1 hHeld ⊢
        refine pu 0 14 ?_
        refine tk6 1 15 ?_
        refine on 2 16 (fun K hK => ?_)
        refine gC Tryz.func131 #[.string ((rd_T105 l1 x9_1).f0)] ?_
        with_reducible refine (spec_l2Name.calls k1 ((rd_T105 l1 x9_1).f0) true _ A7.out).mono ?_
        rintro e w' ⟨rfl, ⟨nd, rfl⟩⟩
        refine ⟨_, rfl, ?_⟩
        refine hK.out _ _ ⟨cz0 BK240, cz1 BK240, cz0 BK238, cz1 BK238, (hB HB hw242_0 :), (hB HB hw242_1 :)⟩ (fun hHeld => ?_)
        clear hK K
        refine nm ?_
        refine pu 3 17 ?_
        refine pu 4 18 ?_
        refine pu 5 19 ?_
        refine pu 6 20 ?_
        refine pu 7 21 ?_
        refine pu 8 22 ?_
        refine pu 9 23 ?_
        refine pu 10 24 ?_
        refine pu 11 25 ?_
        refine pu 12 26 ?_
        refine pu 14 28 ?_
        refine tk6 13 27 ?_
        refine tk6 15 29 ?_
        refine pu 16 30 ?_
        refine pu 17 31 ?_
        refine pu 18 32 ?_
        refine pu 19 33 ?_
        refine pu 20 34 ?_
        refine pu 22 36 ?_
        refine tk6 21 35 ?_
        refine tk6 23 37 ?_
        refine pu 24 38 ?_
        refine pu 25 39 ?_
        refine on 26 40 (fun K hK => ?_)
        refine gC Tryz.func91 #[.int .i64 ((rd_T105 l1 x9_1).f1), .int .i64 1, .int .i64 (wrap64 ((l0_0.length : Int) - 1))] ?_
        with_reducible refine (spec_l1In.calls ((rd_T105 l1 x9_1).f1) 1 (wrap64 ((l0_0.length : Int) - 1)) false _ A14.out).mono ?_
        rintro e w' ⟨rfl, ⟨nd, rfl⟩⟩
        refine ⟨_, rfl, ?_⟩
        refine hK.out _ _ ⟨cz0 BK240, cz1 BK240, cz0 BK238, cz1 BK238, (hB HB hw242_0 :), (hB HB hw242_1 :)⟩ (fun hHeld => ?_)
        clear hK K
        refine nm ?_
        refine pu 27 41 ?_
        refine pu 28 42 ?_
        refine pu 29 43 ?_
        refine pz 30 44 ?_
        refine pz 31 45 ?_
        refine pz 32 46 ?_
        refine pz 33 47 ?_
        refine pz 34 48 ?_
        refine pz 35 49 ?_
        refine pz 36 50 ?_
        refine pz 37 51 ?_
        refine pu 38 52 ?_
        refine dn ?_
        try go_wp2
        go_ret
        exact ⟨by first | rfl | (simp [errW_none, errW_some] <;> rfl) | (simp [errW_none, errW_some]; exact isEmpty_ne _) | (simp only [← hji10]; first | rfl | (simp [errW_none, errW_some] <;> rfl)) | (simp [*, errW_none, errW_some] <;> rfl), sC⟩
      ·rw [if_neg c13] at H
       have c13b0 : (Op.bytesLess (((rd_T105 l1 (ji10)).f0).toList) (((rd_T105 l1 x9_1).f0).toList)) = false := by simpa using c13
       clear c13
       obtain rfl := Option.some.inj H
       have p239 : 0 ≤ (x9_1 : Int) := sO
       have q239 : x9_1 < (l1.length : Int) := sO
       obtain ⟨ad239, e239, hx239_0, hx239_1⟩ := ab105 HR1.out HB x9_1 p239 q239
       cases e239
       replace p239 := eq_true p239
       replace q239 := eq_true q239
       try go_wp2_with (first | ((with_reducible refine gd 6 rfl ?_); (first | refine bxE 6 #[.string (⟨#[]⟩ : ByteArray), .int .i64 0] 105 ?_ | refine bgE 6 #[.string (⟨#[]⟩ : ByteArray), .int .i64 0] 105 ?_); intro gb240 hg w34 hbox hb; have BK240 := Aside0.mk hbox; have GW240 := nGC hg; have GE240 := nGC hg; replace HB := nSC hb; have NB238_240 := nL BK238 hg; have NB240_238 := nH BK238 hg; replace BK238 := nK BK238 hb; clear hb hbox hg; have hnb35 := NB240_238.out; have hnc35 := NB238_240.out; have hcz36 := cb2 BK240))
       have n0_ : Aside0 (((w34.setCell ⟨gb240, 0, none⟩ (.string ((rd_T105 l1 x9_1).f0))).setCell ⟨gb240, 1, none⟩ (.int .i64 ((rd_T105 l1 x9_1).f1))).heap[gb238]? = some (.cells #[.slice A0_0 l0_0.length c0_0, .int .i64 a0_1] 31 (0, 0))) := ⟨sX BK238⟩
       have n1_ : Aside0 (((w34.setCell ⟨gb240, 0, none⟩ (.string ((rd_T105 l1 x9_1).f0))).setCell ⟨gb240, 1, none⟩ (.int .i64 ((rd_T105 l1 x9_1).f1))).heap[gb240]? = some (.cells #[.string ((rd_T105 l1 x9_1).f0), .int .i64 ((rd_T105 l1 x9_1).f1)] 105 (0, 0))) := ⟨sX BK240⟩
       have n2_ : Aside0 (Below w.heap.size w ((w34.setCell ⟨gb240, 0, none⟩ (.string ((rd_T105 l1 x9_1).f0))).setCell ⟨gb240, 1, none⟩ (.int .i64 ((rd_T105 l1 x9_1).f1)))) := ⟨sC⟩
       (try clear BK238)
       (try clear BK240)
       (try clear HB)
       generalize ((w34.setCell ⟨gb240, 0, none⟩ (.string ((rd_T105 l1 x9_1).f0))).setCell ⟨gb240, 1, none⟩ (.int .i64 ((rd_T105 l1 x9_1).f1))) = w37 at n0_ n1_ n2_ ⊢
       have BK238 := n0_
       have BK240 := n1_
       have HB := n2_
       clear n0_ n1_ n2_
       have n0_ := Aside0.mk (blk_drew BK238.out)
       have n1_ := Aside0.mk (blk_drew BK240.out)
       have n2_ := Aside0.mk (below_drew1 HB.out)
       clear BK238
       clear BK240
       clear HB
       have BK238 := n0_
       have BK240 := n1_
       have HB := n2_
       clear n0_ n1_ n2_
       have p242 : 0 ≤ ((ji10) : Int) := sO
       have q242 : (ji10) < (l1.length : Int) := sO
       obtain ⟨ad242, e242, hx242_0, hx242_1⟩ := at_T105 HR1.out (ji10) p242 q242
       have hw242_1 := hx242_1
       have hw242_0 := hx242_0
       obtain rfl : ad239 = ad242 := (by injection e242)
       replace hx242_0 := hB HB hx242_0
       replace hx242_1 := hB HB hx242_1
       replace p242 := eq_true p242
       replace q242 := eq_true q242
       refine st4 39 [] (cz0 BK240) (cz1 BK240) (hB HB hw242_0 :) (hB HB hw242_1 :) (fun hHeld => ?_); refine with_tabW spec_l3Entries.tab4 spec_l3Entries.bits4 (fun HT_ HW_ => ?_)
       generalize w37.drew = w38 at BK238 BK240 HB hx242_0 hx242_1 hHeld ⊢
       refine pu 0 14 ?_
       refine tk4 1 15 ?_
       refine on 2 16 (fun K hK => ?_)
       refine gC Tryz.func131 #[.string ((rd_T105 l1 x9_1).f0)] ?_
       with_reducible refine (spec_l2Name.calls k1 ((rd_T105 l1 x9_1).f0) true _ A7.out).mono ?_
       rintro e w' ⟨rfl, ⟨nd, rfl⟩⟩
       refine ⟨_, rfl, ?_⟩
       refine hK.out _ _ ⟨cz0 BK240, cz1 BK240, (hB HB hw242_0 :), (hB HB hw242_1 :)⟩ (fun hHeld => ?_)
       clear hK K
       refine nm ?_
       refine pu 3 17 ?_
       refine pu 4 18 ?_
       refine pu 5 19 ?_
       refine pu 6 20 ?_
       refine pu 7 21 ?_
       refine pu 8 22 ?_
       refine pu 9 23 ?_
       refine pu 10 24 ?_
       refine pu 11 25 ?_
       refine pu 12 26 ?_
       refine pu 14 28 ?_
       refine tk4 13 27 ?_
       refine tk4 15 29 ?_
       refine pu 16 30 ?_
       refine pu 17 31 ?_
       refine pu 18 32 ?_
       refine pu 19 33 ?_
       refine pz 20 34 ?_
       refine pz 21 35 ?_
       refine pz 22 36 ?_
       refine pz 23 37 ?_
       refine pz 24 38 ?_
       refine pz 25 39 ?_
       refine pz 26 40 ?_
       refine pz 27 41 ?_
       refine pu 28 42 ?_
       refine pu 29 43 ?_
       refine pz 30 44 ?_
       refine pz 31 45 ?_
       refine pz 32 46 ?_
       refine pz 33 47 ?_
       refine pz 34 48 ?_
       refine pz 35 49 ?_
       refine pz 36 50 ?_
       refine pz 37 51 ?_
       refine pu 38 52 ?_
       refine dn ?_
       try go_wp2
       go_ret
       exact ⟨by first | rfl | (simp [errW_none, errW_some] <;> rfl) | (simp [errW_none, errW_some]; exact isEmpty_ne _) | (simp only [← hji10]; first | rfl | (simp [errW_none, errW_some] <;> rfl)) | (simp [*, errW_none, errW_some] <;> rfl), sC⟩
     ·rw [if_neg c9] at H
      have c9b0 := decide_eq_false c9
      clear c9
      obtain ⟨t245, A39, H⟩ := bS H
      try dsimp only at H
      by_cases c40 : t245 = true
      ·subst c40
       rw [if_pos rfl] at H
       obtain ⟨c41, H⟩ := iN H
       have c41b0 := decide_eq_true c41
       clear c41
       obtain ⟨c42, H⟩ := iN H
       have c42b0 := decide_eq_true c42
       clear c42
       by_cases c43 : ((rd_T74 l0_0 ((rd_T105 l1 x9_1).f1)).f0) = 0
       ·rw [if_pos c43] at H
        have c43b0 := beq_iff_eq.mpr c43
        have c43b1 := bne_eq_false_iff_eq.mpr c43
        clear c43
        obtain rfl := Option.some.inj H
        have p239 : 0 ≤ (x9_1 : Int) := sO
        have q239 : x9_1 < (l1.length : Int) := sO
        obtain ⟨ad239, e239, hx239_0, hx239_1⟩ := ab105 HR1.out HB x9_1 p239 q239
        cases e239
        replace p239 := eq_true p239
        replace q239 := eq_true q239
        try go_wp2_with (first | ((with_reducible refine gd 6 rfl ?_); (first | refine bxE 6 #[.string (⟨#[]⟩ : ByteArray), .int .i64 0] 105 ?_ | refine bgE 6 #[.string (⟨#[]⟩ : ByteArray), .int .i64 0] 105 ?_); intro gb240 hg w44 hbox hb; have BK240 := Aside0.mk hbox; have GW240 := nGC hg; have GE240 := nGC hg; replace HB := nSC hb; have NB238_240 := nL BK238 hg; have NB240_238 := nH BK238 hg; replace BK238 := nK BK238 hb; clear hb hbox hg; have hnb45 := NB240_238.out; have hnc45 := NB238_240.out; have hcz46 := cb2 BK240))
        have n0_ : Aside0 (((w44.setCell ⟨gb240, 0, none⟩ (.string ((rd_T105 l1 x9_1).f0))).setCell ⟨gb240, 1, none⟩ (.int .i64 ((rd_T105 l1 x9_1).f1))).heap[gb238]? = some (.cells #[.slice A0_0 l0_0.length c0_0, .int .i64 a0_1] 31 (0, 0))) := ⟨sX BK238⟩
        have n1_ : Aside0 (((w44.setCell ⟨gb240, 0, none⟩ (.string ((rd_T105 l1 x9_1).f0))).setCell ⟨gb240, 1, none⟩ (.int .i64 ((rd_T105 l1 x9_1).f1))).heap[gb240]? = some (.cells #[.string ((rd_T105 l1 x9_1).f0), .int .i64 ((rd_T105 l1 x9_1).f1)] 105 (0, 0))) := ⟨sX BK240⟩
        have n2_ : Aside0 (Below w.heap.size w ((w44.setCell ⟨gb240, 0, none⟩ (.string ((rd_T105 l1 x9_1).f0))).setCell ⟨gb240, 1, none⟩ (.int .i64 ((rd_T105 l1 x9_1).f1)))) := ⟨sC⟩
        (try clear BK238)
        (try clear BK240)
        (try clear HB)
        generalize ((w44.setCell ⟨gb240, 0, none⟩ (.string ((rd_T105 l1 x9_1).f0))).setCell ⟨gb240, 1, none⟩ (.int .i64 ((rd_T105 l1 x9_1).f1))) = w47 at n0_ n1_ n2_ ⊢
        have BK238 := n0_
        have BK240 := n1_
        have HB := n2_
        clear n0_ n1_ n2_
        have n0_ := Aside0.mk (blk_drew BK238.out)
        have n1_ := Aside0.mk (blk_drew BK240.out)
        have n2_ := Aside0.mk (below_drew1 HB.out)
        clear BK238
        clear BK240
        clear HB
        have BK238 := n0_
        have BK240 := n1_
        have HB := n2_
        clear n0_ n1_ n2_
        have p246 : 0 ≤ (((rd_T105 l1 x9_1).f1) : Int) := sO
        have q246 : ((rd_T105 l1 x9_1).f1) < (l0_0.length : Int) := sO
        obtain ⟨ad246, A246_6, c246_6, e246, hx246_0, hx246_1, hx246_2, hx246_3, hx246_4, hx246_5, hx246_6, hl246_6, hi246_6⟩ := at_T74 HR0_0.out ((rd_T105 l1 x9_1).f1) p246 q246
        have hw246_6 := hx246_6
        have hw246_5 := hx246_5
        have hw246_4 := hx246_4
        have hw246_3 := hx246_3
        have hw246_2 := hx246_2
        have hw246_1 := hx246_1
        have hw246_0 := hx246_0
        cases e246
        replace hx246_0 := hB HB hx246_0
        replace hx246_1 := hB HB hx246_1
        replace hx246_2 := hB HB hx246_2
        replace hx246_3 := hB HB hx246_3
        replace hx246_4 := hB HB hx246_4
        replace hx246_5 := hB HB hx246_5
        replace hx246_6 := hB HB hx246_6
        have HR246_6 := Aside0.mk hi246_6
        have HC246_6 := Aside0.mk hl246_6
        clear hi246_6 hl246_6
        replace p246 := eq_true p246
        replace q246 := eq_true q246
        refine st11 39 [] (cz0 BK240) (cz1 BK240) (cz0 BK238) (cz1 BK238) (hB HB hw246_0 :) (hB HB hw246_1 :) (hB HB hw246_2 :) (hB HB hw246_3 :) (hB HB hw246_4 :) (hB HB hw246_5 :) (hB HB hw246_6 :) (fun hHeld => ?_); refine with_tabW spec_l3Entries.tab4 spec_l3Entries.bits4 (fun HT_ HW_ => ?_)
        generalize w47.drew = w48 at BK238 BK240 HB HR246_6 hx246_0 hx246_1 hx246_2 hx246_3 hx246_4 hx246_5 hx246_6 hHeld ⊢
        refine pu 0 14 ?_
        refine tk11 1 15 ?_
        refine on 2 16 (fun K hK => ?_)
        refine gC Tryz.func131 #[.string ((rd_T105 l1 x9_1).f0)] ?_
        with_reducible refine (spec_l2Name.calls k1 ((rd_T105 l1 x9_1).f0) true _ A7.out).mono ?_
        rintro e w' ⟨rfl, ⟨nd, rfl⟩⟩
        refine ⟨_, rfl, ?_⟩
        refine hK.out _ _ ⟨cz0 BK240, cz1 BK240, cz0 BK238, cz1 BK238, (hB HB hw246_0 :), (hB HB hw246_1 :), (hB HB hw246_2 :), (hB HB hw246_3 :), (hB HB hw246_4 :), (hB HB hw246_5 :), (hB HB hw246_6 :)⟩ (fun hHeld => ?_)
        clear hK K
        refine nm ?_
        refine pu 3 17 ?_
        refine pu 4 18 ?_
        refine pu 5 19 ?_
        refine pu 6 20 ?_
        refine pu 7 21 ?_
        refine pz 8 22 ?_
        refine pz 9 23 ?_
        refine pz 10 24 ?_
        refine pz 11 25 ?_
        refine pz 12 26 ?_
        refine pz 13 27 ?_
        refine pz 14 28 ?_
        refine pz 15 29 ?_
        refine pz 16 30 ?_
        refine pu 17 31 ?_
        refine pu 18 32 ?_
        refine pu 19 33 ?_
        refine pu 20 34 ?_
        refine pu 22 36 ?_
        refine tk11 21 35 ?_
        refine tk11 23 37 ?_
        refine pu 24 38 ?_
        refine pu 25 39 ?_
        refine on 26 40 (fun K hK => ?_)
        refine gC Tryz.func91 #[.int .i64 ((rd_T105 l1 x9_1).f1), .int .i64 1, .int .i64 (wrap64 ((l0_0.length : Int) - 1))] ?_
        with_reducible refine (spec_l1In.calls ((rd_T105 l1 x9_1).f1) 1 (wrap64 ((l0_0.length : Int) - 1)) true _ A39.out).mono ?_
        rintro e w' ⟨rfl, ⟨nd, rfl⟩⟩
        refine ⟨_, rfl, ?_⟩
        refine hK.out _ _ ⟨cz0 BK240, cz1 BK240, cz0 BK238, cz1 BK238, (hB HB hw246_0 :), (hB HB hw246_1 :), (hB HB hw246_2 :), (hB HB hw246_3 :), (hB HB hw246_4 :), (hB HB hw246_5 :), (hB HB hw246_6 :)⟩ (fun hHeld => ?_)
        clear hK K
        refine nm ?_
        refine pu 27 41 ?_
        refine pu 28 42 ?_
        refine pu 29 43 ?_
        refine pu 30 44 ?_
        refine pu 32 46 ?_
        refine tk11 31 45 ?_
        refine tk11 33 47 ?_
        refine pu 34 48 ?_
        refine pu 35 49 ?_
        refine tk11 36 50 ?_
        refine pu 37 51 ?_
        refine pu 38 52 ?_
        refine dn ?_
        try go_wp2
        go_ret
        exact ⟨sE, sC⟩
       ·rw [if_neg c43] at H
        have c43b0 := beq_eq_false_iff_ne.mpr c43
        have c43b1 := bne_iff_ne.mpr c43
        have H' := Aside0.mk H
        clear H
        have p239 : 0 ≤ (x9_1 : Int) := sO
        have q239 : x9_1 < (l1.length : Int) := sO
        obtain ⟨ad239, e239, hx239_0, hx239_1⟩ := ab105 HR1.out HB x9_1 p239 q239
        cases e239
        replace p239 := eq_true p239
        replace q239 := eq_true q239
        try go_wp2_with (first | ((with_reducible refine gd 6 rfl ?_); (first | refine bxE 6 #[.string (⟨#[]⟩ : ByteArray), .int .i64 0] 105 ?_ | refine bgE 6 #[.string (⟨#[]⟩ : ByteArray), .int .i64 0] 105 ?_); intro gb240 hg w49 hbox hb; have BK240 := Aside0.mk hbox; have GW240 := nGC hg; have GE240 := nGC hg; replace HB := nSC hb; have NB238_240 := nL BK238 hg; have NB240_238 := nH BK238 hg; replace BK238 := nK BK238 hb; clear hb hbox hg; have hnb50 := NB240_238.out; have hnc50 := NB238_240.out; have hcz51 := cb2 BK240))
        have n0_ : Aside0 (((w49.setCell ⟨gb240, 0, none⟩ (.string ((rd_T105 l1 x9_1).f0))).setCell ⟨gb240, 1, none⟩ (.int .i64 ((rd_T105 l1 x9_1).f1))).heap[gb238]? = some (.cells #[.slice A0_0 l0_0.length c0_0, .int .i64 a0_1] 31 (0, 0))) := ⟨sX BK238⟩
        have n1_ : Aside0 (((w49.setCell ⟨gb240, 0, none⟩ (.string ((rd_T105 l1 x9_1).f0))).setCell ⟨gb240, 1, none⟩ (.int .i64 ((rd_T105 l1 x9_1).f1))).heap[gb240]? = some (.cells #[.string ((rd_T105 l1 x9_1).f0), .int .i64 ((rd_T105 l1 x9_1).f1)] 105 (0, 0))) := ⟨sX BK240⟩
        have n2_ : Aside0 (Below w.heap.size w ((w49.setCell ⟨gb240, 0, none⟩ (.string ((rd_T105 l1 x9_1).f0))).setCell ⟨gb240, 1, none⟩ (.int .i64 ((rd_T105 l1 x9_1).f1)))) := ⟨sC⟩
        (try clear BK238)
        (try clear BK240)
        (try clear HB)
        generalize ((w49.setCell ⟨gb240, 0, none⟩ (.string ((rd_T105 l1 x9_1).f0))).setCell ⟨gb240, 1, none⟩ (.int .i64 ((rd_T105 l1 x9_1).f1))) = w52 at n0_ n1_ n2_ ⊢
        have BK238 := n0_
        have BK240 := n1_
        have HB := n2_
        clear n0_ n1_ n2_
        have n0_ := Aside0.mk (blk_drew BK238.out)
        have n1_ := Aside0.mk (blk_drew BK240.out)
        have n2_ := Aside0.mk (below_drew1 HB.out)
        clear BK238
        clear BK240
        clear HB
        have BK238 := n0_
        have BK240 := n1_
        have HB := n2_
        clear n0_ n1_ n2_
        have p246 : 0 ≤ (((rd_T105 l1 x9_1).f1) : Int) := sO
        have q246 : ((rd_T105 l1 x9_1).f1) < (l0_0.length : Int) := sO
        obtain ⟨ad246, A246_6, c246_6, e246, hx246_0, hx246_1, hx246_2, hx246_3, hx246_4, hx246_5, hx246_6, hl246_6, hi246_6⟩ := at_T74 HR0_0.out ((rd_T105 l1 x9_1).f1) p246 q246
        have hw246_6 := hx246_6
        have hw246_5 := hx246_5
        have hw246_4 := hx246_4
        have hw246_3 := hx246_3
        have hw246_2 := hx246_2
        have hw246_1 := hx246_1
        have hw246_0 := hx246_0
        cases e246
        replace hx246_0 := hB HB hx246_0
        replace hx246_1 := hB HB hx246_1
        replace hx246_2 := hB HB hx246_2
        replace hx246_3 := hB HB hx246_3
        replace hx246_4 := hB HB hx246_4
        replace hx246_5 := hB HB hx246_5
        replace hx246_6 := hB HB hx246_6
        have HR246_6 := Aside0.mk hi246_6
        have HC246_6 := Aside0.mk hl246_6
        clear hi246_6 hl246_6
        replace p246 := eq_true p246
        replace q246 := eq_true q246
        refine st11 39 [] (cz0 BK240) (cz1 BK240) (cz0 BK238) (cz1 BK238) (hB HB hw246_0 :) (hB HB hw246_1 :) (hB HB hw246_2 :) (hB HB hw246_3 :) (hB HB hw246_4 :) (hB HB hw246_5 :) (hB HB hw246_6 :) (fun hHeld => ?_); refine with_tabW spec_l3Entries.tab4 spec_l3Entries.bits4 (fun HT_ HW_ => ?_)
        generalize w52.drew = w53 at BK238 BK240 HB HR246_6 hx246_0 hx246_1 hx246_2 hx246_3 hx246_4 hx246_5 hx246_6 hHeld ⊢
        refine pu 0 14 ?_
        refine tk11 1 15 ?_
        refine on 2 16 (fun K hK => ?_)
        refine gC Tryz.func131 #[.string ((rd_T105 l1 x9_1).f0)] ?_
        with_reducible refine (spec_l2Name.calls k1 ((rd_T105 l1 x9_1).f0) true _ A7.out).mono ?_
        rintro e w' ⟨rfl, ⟨nd, rfl⟩⟩
        refine ⟨_, rfl, ?_⟩
        refine hK.out _ _ ⟨cz0 BK240, cz1 BK240, cz0 BK238, cz1 BK238, (hB HB hw246_0 :), (hB HB hw246_1 :), (hB HB hw246_2 :), (hB HB hw246_3 :), (hB HB hw246_4 :), (hB HB hw246_5 :), (hB HB hw246_6 :)⟩ (fun hHeld => ?_)
        clear hK K
        refine nm ?_
        refine pu 3 17 ?_
        refine pu 4 18 ?_
        refine pu 5 19 ?_
        refine pu 6 20 ?_
        refine pu 7 21 ?_
        refine pz 8 22 ?_
        refine pz 9 23 ?_
        refine pz 10 24 ?_
        refine pz 11 25 ?_
        refine pz 12 26 ?_
        refine pz 13 27 ?_
        refine pz 14 28 ?_
        refine pz 15 29 ?_
        refine pz 16 30 ?_
        refine pu 17 31 ?_
        refine pu 18 32 ?_
        refine pu 19 33 ?_
        refine pu 20 34 ?_
        refine pu 22 36 ?_
        refine tk11 21 35 ?_
        refine tk11 23 37 ?_
        refine pu 24 38 ?_
        refine pu 25 39 ?_
        refine on 26 40 (fun K hK => ?_)
        refine gC Tryz.func91 #[.int .i64 ((rd_T105 l1 x9_1).f1), .int .i64 1, .int .i64 (wrap64 ((l0_0.length : Int) - 1))] ?_
        with_reducible refine (spec_l1In.calls ((rd_T105 l1 x9_1).f1) 1 (wrap64 ((l0_0.length : Int) - 1)) true _ A39.out).mono ?_
        rintro e w' ⟨rfl, ⟨nd, rfl⟩⟩
        refine ⟨_, rfl, ?_⟩
        refine hK.out _ _ ⟨cz0 BK240, cz1 BK240, cz0 BK238, cz1 BK238, (hB HB hw246_0 :), (hB HB hw246_1 :), (hB HB hw246_2 :), (hB HB hw246_3 :), (hB HB hw246_4 :), (hB HB hw246_5 :), (hB HB hw246_6 :)⟩ (fun hHeld => ?_)
        clear hK K
        refine nm ?_
        refine pu 27 41 ?_
        refine pu 28 42 ?_
        refine pu 29 43 ?_
        refine pu 30 44 ?_
        refine pu 32 46 ?_
        refine tk11 31 45 ?_
        refine tk11 33 47 ?_
        refine pu 34 48 ?_
        refine pu 35 49 ?_
        refine tk11 36 50 ?_
        refine pu 37 51 ?_
        refine pu 38 52 ?_
        refine dn ?_
        try go_wp2
        go_roundg k1
        case measure => have := HK1.out; omega
        case rel => exact ⟨(wrap64 (x9_1 + 1)), sR, H', ⟨by have := HK1.out; omega⟩, ⟨sK BK238⟩, ⟨sC⟩⟩
      ·replace c40 := Bool.eq_false_iff.mpr c40
       subst c40
       rw [if_neg (show ¬ (false = true) by decide)] at H
       obtain rfl := Option.some.inj H
       have p239 : 0 ≤ (x9_1 : Int) := sO
       have q239 : x9_1 < (l1.length : Int) := sO
       obtain ⟨ad239, e239, hx239_0, hx239_1⟩ := ab105 HR1.out HB x9_1 p239 q239
       cases e239
       replace p239 := eq_true p239
       replace q239 := eq_true q239
       try go_wp2_with (first | ((with_reducible refine gd 6 rfl ?_); (first | refine bxE 6 #[.string (⟨#[]⟩ : ByteArray), .int .i64 0] 105 ?_ | refine bgE 6 #[.string (⟨#[]⟩ : ByteArray), .int .i64 0] 105 ?_); intro gb240 hg w54 hbox hb; have BK240 := Aside0.mk hbox; have GW240 := nGC hg; have GE240 := nGC hg; replace HB := nSC hb; have NB238_240 := nL BK238 hg; have NB240_238 := nH BK238 hg; replace BK238 := nK BK238 hb; clear hb hbox hg; have hnb55 := NB240_238.out; have hnc55 := NB238_240.out; have hcz56 := cb2 BK240))
       have n0_ : Aside0 (((w54.setCell ⟨gb240, 0, none⟩ (.string ((rd_T105 l1 x9_1).f0))).setCell ⟨gb240, 1, none⟩ (.int .i64 ((rd_T105 l1 x9_1).f1))).heap[gb238]? = some (.cells #[.slice A0_0 l0_0.length c0_0, .int .i64 a0_1] 31 (0, 0))) := ⟨sX BK238⟩
       have n1_ : Aside0 (((w54.setCell ⟨gb240, 0, none⟩ (.string ((rd_T105 l1 x9_1).f0))).setCell ⟨gb240, 1, none⟩ (.int .i64 ((rd_T105 l1 x9_1).f1))).heap[gb240]? = some (.cells #[.string ((rd_T105 l1 x9_1).f0), .int .i64 ((rd_T105 l1 x9_1).f1)] 105 (0, 0))) := ⟨sX BK240⟩
       have n2_ : Aside0 (Below w.heap.size w ((w54.setCell ⟨gb240, 0, none⟩ (.string ((rd_T105 l1 x9_1).f0))).setCell ⟨gb240, 1, none⟩ (.int .i64 ((rd_T105 l1 x9_1).f1)))) := ⟨sC⟩
       (try clear BK238)
       (try clear BK240)
       (try clear HB)
       generalize ((w54.setCell ⟨gb240, 0, none⟩ (.string ((rd_T105 l1 x9_1).f0))).setCell ⟨gb240, 1, none⟩ (.int .i64 ((rd_T105 l1 x9_1).f1))) = w57 at n0_ n1_ n2_ ⊢
       have BK238 := n0_
       have BK240 := n1_
       have HB := n2_
       clear n0_ n1_ n2_
       have n0_ := Aside0.mk (blk_drew BK238.out)
       have n1_ := Aside0.mk (blk_drew BK240.out)
       have n2_ := Aside0.mk (below_drew1 HB.out)
       clear BK238
       clear BK240
       clear HB
       have BK238 := n0_
       have BK240 := n1_
       have HB := n2_
       clear n0_ n1_ n2_
       refine st4 39 [] (cz0 BK240) (cz1 BK240) (cz0 BK238) (cz1 BK238) (fun hHeld => ?_); refine with_tabW spec_l3Entries.tab4 spec_l3Entries.bits4 (fun HT_ HW_ => ?_)
       generalize w57.drew = w58 at BK238 BK240 HB hHeld ⊢
       refine pu 0 14 ?_
       refine tk4 1 15 ?_
       refine on 2 16 (fun K hK => ?_)
       refine gC Tryz.func131 #[.string ((rd_T105 l1 x9_1).f0)] ?_
       with_reducible refine (spec_l2Name.calls k1 ((rd_T105 l1 x9_1).f0) true _ A7.out).mono ?_
       rintro e w' ⟨rfl, ⟨nd, rfl⟩⟩
       refine ⟨_, rfl, ?_⟩
       refine hK.out _ _ ⟨cz0 BK240, cz1 BK240, cz0 BK238, cz1 BK238⟩ (fun hHeld => ?_)
       clear hK K
       refine nm ?_
       refine pu 3 17 ?_
       refine pu 4 18 ?_
       refine pu 5 19 ?_
       refine pu 6 20 ?_
       refine pu 7 21 ?_
       refine pz 8 22 ?_
       refine pz 9 23 ?_
       refine pz 10 24 ?_
       refine pz 11 25 ?_
       refine pz 12 26 ?_
       refine pz 13 27 ?_
       refine pz 14 28 ?_
       refine pz 15 29 ?_
       refine pz 16 30 ?_
       refine pu 17 31 ?_
       refine pu 18 32 ?_
       refine pu 19 33 ?_
       refine pu 20 34 ?_
       refine pu 22 36 ?_
       refine tk4 21 35 ?_
       refine tk4 23 37 ?_
       refine pu 24 38 ?_
       refine pu 25 39 ?_
       refine on 26 40 (fun K hK => ?_)
       refine gC Tryz.func91 #[.int .i64 ((rd_T105 l1 x9_1).f1), .int .i64 1, .int .i64 (wrap64 ((l0_0.length : Int) - 1))] ?_
       with_reducible refine (spec_l1In.calls ((rd_T105 l1 x9_1).f1) 1 (wrap64 ((l0_0.length : Int) - 1)) false _ A39.out).mono ?_
       rintro e w' ⟨rfl, ⟨nd, rfl⟩⟩
       refine ⟨_, rfl, ?_⟩
       refine hK.out _ _ ⟨cz0 BK240, cz1 BK240, cz0 BK238, cz1 BK238⟩ (fun hHeld => ?_)
       clear hK K
       refine nm ?_
       refine pu 27 41 ?_
       refine pu 28 42 ?_
       refine pu 29 43 ?_
       refine pz 30 44 ?_
       refine pz 31 45 ?_
       refine pz 32 46 ?_
       refine pz 33 47 ?_
       refine pz 34 48 ?_
       refine pz 35 49 ?_
       refine pz 36 50 ?_
       refine pz 37 51 ?_
       refine pu 38 52 ?_
       refine dn ?_
       try go_wp2
       go_ret
       exact ⟨sE, sC⟩
    ·replace c8 := Bool.eq_false_iff.mpr c8
     subst c8
     rw [if_neg (show ¬ (false = true) by decide)] at H
     obtain rfl := Option.some.inj H
     have p239 : 0 ≤ (x9_1 : Int) := sO
     have q239 : x9_1 < (l1.length : Int) := sO
     obtain ⟨ad239, e239, hx239_0, hx239_1⟩ := ab105 HR1.out HB x9_1 p239 q239
     cases e239
     replace p239 := eq_true p239
     replace q239 := eq_true q239
     try go_wp2_with (first | ((with_reducible refine gd 6 rfl ?_); (first | refine bxE 6 #[.string (⟨#[]⟩ : ByteArray), .int .i64 0] 105 ?_ | refine bgE 6 #[.string (⟨#[]⟩ : ByteArray), .int .i64 0] 105 ?_); intro gb240 hg w59 hbox hb; have BK240 := Aside0.mk hbox; have GW240 := nGC hg; have GE240 := nGC hg; replace HB := nSC hb; have NB238_240 := nL BK238 hg; have NB240_238 := nH BK238 hg; replace BK238 := nK BK238 hb; clear hb hbox hg; have hnb60 := NB240_238.out; have hnc60 := NB238_240.out; have hcz61 := cb2 BK240))
     have n0_ : Aside0 (((w59.setCell ⟨gb240, 0, none⟩ (.string ((rd_T105 l1 x9_1).f0))).setCell ⟨gb240, 1, none⟩ (.int .i64 ((rd_T105 l1 x9_1).f1))).heap[gb238]? = some (.cells #[.slice A0_0 l0_0.length c0_0, .int .i64 a0_1] 31 (0, 0))) := ⟨sX BK238⟩
     have n1_ : Aside0 (((w59.setCell ⟨gb240, 0, none⟩ (.string ((rd_T105 l1 x9_1).f0))).setCell ⟨gb240, 1, none⟩ (.int .i64 ((rd_T105 l1 x9_1).f1))).heap[gb240]? = some (.cells #[.string ((rd_T105 l1 x9_1).f0), .int .i64 ((rd_T105 l1 x9_1).f1)] 105 (0, 0))) := ⟨sX BK240⟩
     have n2_ : Aside0 (Below w.heap.size w ((w59.setCell ⟨gb240, 0, none⟩ (.string ((rd_T105 l1 x9_1).f0))).setCell ⟨gb240, 1, none⟩ (.int .i64 ((rd_T105 l1 x9_1).f1)))) := ⟨sC⟩
     (try clear BK238)
     (try clear BK240)
     (try clear HB)
     generalize ((w59.setCell ⟨gb240, 0, none⟩ (.string ((rd_T105 l1 x9_1).f0))).setCell ⟨gb240, 1, none⟩ (.int .i64 ((rd_T105 l1 x9_1).f1))) = w62 at n0_ n1_ n2_ ⊢
     have BK238 := n0_
     have BK240 := n1_
     have HB := n2_
     clear n0_ n1_ n2_
     have n0_ := Aside0.mk (blk_drew BK238.out)
     have n1_ := Aside0.mk (blk_drew BK240.out)
     have n2_ := Aside0.mk (below_drew1 HB.out)
     clear BK238
     clear BK240
     clear HB
     have BK238 := n0_
     have BK240 := n1_
     have HB := n2_
     clear n0_ n1_ n2_
     refine st2 39 [] (cz0 BK240) (cz1 BK240) (fun hHeld => ?_); refine with_tabW spec_l3Entries.tab4 spec_l3Entries.bits4 (fun HT_ HW_ => ?_)
     generalize w62.drew = w63 at BK238 BK240 HB hHeld ⊢
     refine pu 0 14 ?_
     refine tk2 1 15 ?_
     refine on 2 16 (fun K hK => ?_)
     refine gC Tryz.func131 #[.string ((rd_T105 l1 x9_1).f0)] ?_
     with_reducible refine (spec_l2Name.calls k1 ((rd_T105 l1 x9_1).f0) false _ A7.out).mono ?_
     rintro e w' ⟨rfl, ⟨nd, rfl⟩⟩
     refine ⟨_, rfl, ?_⟩
     refine hK.out _ _ ⟨cz0 BK240, cz1 BK240⟩ (fun hHeld => ?_)
     clear hK K
     refine nm ?_
     refine pu 3 17 ?_
     refine pu 4 18 ?_
     refine pz 5 19 ?_
     refine pz 6 20 ?_
     refine pz 7 21 ?_
     refine pz 8 22 ?_
     refine pz 9 23 ?_
     refine pz 10 24 ?_
     refine pz 11 25 ?_
     refine pz 12 26 ?_
     refine pz 13 27 ?_
     refine pz 14 28 ?_
     refine pz 15 29 ?_
     refine pz 16 30 ?_
     refine pz 17 31 ?_
     refine pu 18 32 ?_
     refine pu 19 33 ?_
     refine pz 20 34 ?_
     refine pz 21 35 ?_
     refine pz 22 36 ?_
     refine pz 23 37 ?_
     refine pz 24 38 ?_
     refine pz 25 39 ?_
     refine pz 26 40 ?_
     refine pz 27 41 ?_
     refine pu 28 42 ?_
     refine pu 29 43 ?_
     refine pz 30 44 ?_
     refine pz 31 45 ?_
     refine pz 32 46 ?_
     refine pz 33 47 ?_
     refine pz 34 48 ?_
     refine pz 35 49 ?_
     refine pz 36 50 ?_
     refine pz 37 51 ?_
     refine pu 38 52 ?_
     refine dn ?_
     try go_wp2
     go_ret
     exact ⟨sE, sC⟩
   ·rw [if_neg c4] at H
    have c4b0 := decide_eq_false c4
    clear c4
    obtain rfl := Option.some.inj H
    go_wp2
    go_ret
    exact ⟨sE, sC⟩

end Go.Proofs.YtnmiglfmainhiaaGreatDoor.PNb
