import Derived.Test.YtdjceippnokimaaGreatDoorPGrpx0
import Derived.Test.YtdjceippnokimaaGreatDoorPGrpx3
import Derived.Test.YtdjceippnokimaaGreatDoorPGrpx4
namespace Go.Proofs.YtdjceippnokimaaGreatDoor.PGrp
open Go.RowKit Go.Proofs.YtdjceippnokimaaGreatDoorW.PrintWords Go.Proofs.YtdjceippnokimaaGreatDoorW.PrintLast Go.Proofs.YtdjceippnokimaaGreatDoorW.PrintMore
attribute [local go_sem] max2_int min2_int max_two min_two max_three min_three max_four min_four   -- for this text's walks alone
set_option linter.unusedVariables false
set_option linter.unusedSimpArgs false
set_option maxHeartbeats 8000000
set_option maxRecDepth 100000
/-! ### spec_l3Entries: function 83 -/
def spec_l3Entries.l0 : Nat → List (S104) → List (S104) → Int → Int → List (S65) → Int → Option (Bool)
 | 0, _, _, _, _, _, _ => none
 | k + 1, x1, x7, x8, x9, x167000, x167001 => if x9 < x8 then (if 0 ≤ x9 then (if x9 < (x7.length : Int) then ((spec_l2Name.f k ((rd_T104 x7 x9).f0)).bind fun t169 => (if t169 = true then (if x9 > 0 then (if 0 ≤ (wrap64 (x9 - 1)) then (if (wrap64 (x9 - 1)) < (x1.length : Int) then (if ((Op.bytesLess (((rd_T104 x1 (wrap64 (x9 - 1))).f0).toList) (((rd_T104 x7 x9).f0).toList)) = true) then ((spec_l1In.f ((rd_T104 x7 x9).f1) 1 (wrap64 ((x167000.length : Int) - 1))).bind fun t171 => (if t171 = true then (if 0 ≤ ((rd_T104 x7 x9).f1) then (if ((rd_T104 x7 x9).f1) < (x167000.length : Int) then (if ((rd_T65 x167000 ((rd_T104 x7 x9).f1)).f0) = 0 then (some false) else (spec_l3Entries.l0 k x1 x7 x8 (wrap64 (x9 + 1)) x167000 x167001)) else (none)) else (none)) else (some false))) else (some false)) else (none)) else (none)) else ((spec_l1In.f ((rd_T104 x7 x9).f1) 1 (wrap64 ((x167000.length : Int) - 1))).bind fun t173 => (if t173 = true then (if 0 ≤ ((rd_T104 x7 x9).f1) then (if ((rd_T104 x7 x9).f1) < (x167000.length : Int) then (if ((rd_T65 x167000 ((rd_T104 x7 x9).f1)).f0) = 0 then (some false) else (spec_l3Entries.l0 k x1 x7 x8 (wrap64 (x9 + 1)) x167000 x167001)) else (none)) else (none)) else (some false)))) else (some false))) else (none)) else (none)) else (some true)
def spec_l3Entries.f (k : Nat) (l0_0 : List (S65)) (a0_1 : Int) (l1 : List (S104)) : Option (Bool) := spec_l3Entries.l0 k l1 l1 (l1.length : Int) 0 l0_0 a0_1
def spec_l3Entries.T4 : Bool × List (List Nat × List Nat) := (true, [([], []), ([0], [0]), ([1], [1]), ([2], [2]), ([3, 2], [3]), ([4], [4]), ([5, 4], [4, 5]), ([6, 4, 4], [4, 6]), ([7], [7]), ([7], [7]), ([9, 7], [7, 9]), ([8, 10, 7], [7, 8, 10]), ([11, 7], [7, 11]), ([12, 7], [7, 12]), ([7], [7]), ([14, 7], [7, 14]), ([13, 15, 7], [7, 13, 15]), ([7, 16, 4], [4, 7, 16]), ([4, 17], [4, 17]), ([18, 7], [18]), ([19], [19]), ([20, 19], [19, 20]), ([19], [19]), ([22, 19], [19, 22]), ([23, 19], [19, 23]), ([24, 19], [19, 24]), ([21, 25, 19, 19], [19, 21, 25]), ([26, 19], [19, 26]), ([19, 27], [19, 27]), ([28, 26], [28]), ([29], [29]), ([30, 29], [29, 30]), ([29], [29]), ([32, 29], [29, 32]), ([31, 33, 29], [29, 31, 33]), ([34, 29], [29, 34]), ([35, 29], [29, 35]), ([36, 29], [29, 36]), ([29, 37], [29, 37])])
def spec_l3Entries.B4 : List Nat := [0, 1, 3, 7, 15, 31, 63, 127, 255, 255, 767, 2047, 4095, 8191, 255, 16639, 65535, 131071, 262143, 524287, 1048575, 2097151, 1048575, 5242879, 13631487, 30408703, 67108863, 134217727, 268435455, 536870911, 1073741823, 2147483647, 1073741823, 5368709119, 17179869183, 34359738367, 68719476735, 137438953471, 274877906943]
theorem spec_l3Entries.tab4 : rtab .any (opsOf Tryz.f83 4) = spec_l3Entries.T4 := by kernel_rfl
theorem spec_l3Entries.bits4 : waitsOk spec_l3Entries.T4.2 spec_l3Entries.B4 = true := by kernel_rfl
theorem spec_l3Entries.calls (k : Nat) (A0_0 : Option Addr) (c0_0 : Nat) (l0_0 : List (S65)) (a0_1 : Int) (A1 : Option Addr) (c1 : Nat) (l1 : List (S104)) (r : Bool) (w : World) (hr0_0 : Kd.C k65 w A0_0 l0_0.length l0_0) (hc0_0 : l0_0.length ≤ c0_0) (hr1 : Kd.C k104 w A1 l1.length l1) (hc1 : l1.length ≤ c1) (h : spec_l3Entries.f k l0_0 a0_1 l1 = some r) :
  Calls Tryz.prog 83 #[.agg #[.slice A0_0 l0_0.length c0_0, .int .i64 a0_1], .slice A1 l1.length c1] w fun e w' => e = .returned (.bool r) ∧ Below w.heap.size w w' := by
 have hu30 := Tryz.underlying30
 have hu104 := Tryz.underlying104
 have HR0_0 := Aside0.mk hr0_0
 have HC0_0 := Aside0.mk hc0_0
 clear hr0_0 hc0_0
 have HR1 := Aside0.mk hr1
 have HC1 := Aside0.mk hc1
 clear hr1 hc1
 have HB := Aside0.mk (Below.refl w.heap.size w)
 have H : (spec_l3Entries.l0 k l1 l1 (l1.length : Int) 0 l0_0 a0_1) = some r := h
 clear h
 have H' := Aside0.mk H
 clear H
 go_enter Tryz.func83, Tryz.ntmps83
 go_wp2_with (first | ((with_reducible refine gd 2 rfl ?_); (first | refine bxE 2 #[.slice A0_0 l0_0.length c0_0, .int .i64 a0_1] 30 ?_ | refine bgE 2 #[.slice A0_0 l0_0.length c0_0, .int .i64 a0_1] 30 ?_); intro gb166 hg w3 hbox hb; have BK166 := Aside0.mk hbox; have GW166 := nGB hg; have GE166 := nGB hg; replace HB := nSB hb; clear hb hbox hg))
 go_loopg [9] k (fun kq v9 w' => ∃ (x9_1 : Int), v9 = .int .i64 x9_1 ∧ Aside0 (spec_l3Entries.l0 kq l1 l1 (l1.length : Int) x9_1 l0_0 a0_1 = some r) ∧ Aside0 (kq ≤ k) ∧ Aside0 (w'.heap[gb166]? = some (.cells #[(.slice A0_0 l0_0.length c0_0), .int .i64 a0_1] 30 (0, 0))) ∧ Aside0 (Below w.heap.size w w'))
 case atStart => exact ⟨(0), sR, H', ⟨Nat.le_refl _⟩, ⟨sK BK166⟩, ⟨sC⟩⟩
 case round =>
  clear H'
  try clear c1
  try clear p2
  obtain ⟨x9_1, rfl, HA, HK1, BK166, HB⟩ := hrel
  cases gk with
  | zero => exact absurd HA.out (by simp [spec_l3Entries.l0])
  | succ k1 =>
   have H := HA.out
   clear HA
   simp only [spec_l3Entries.l0] at H
   by_cases c4 : x9_1 < (l1.length : Int)
   ·rw [if_pos c4] at H
    have c4b0 := decide_eq_true c4
    clear c4
    obtain ⟨c5, H⟩ := iN H
    have c5b0 := decide_eq_true c5
    clear c5
    obtain ⟨c6, H⟩ := iN H
    have c6b0 := decide_eq_true c6
    clear c6
    obtain ⟨t169, A7, H⟩ := bS H
    try dsimp only at H
    by_cases c8 : t169 = true
    ·subst c8
     rw [if_pos rfl] at H
     by_cases c9 : x9_1 > 0
     ·rw [if_pos c9] at H
      have c9b0 := decide_eq_true c9
      clear c9
      obtain ⟨ji10, hji10⟩ : ∃ j_ : Int, (wrap64 (x9_1 - 1)) = j_ := ⟨_, rfl⟩
      replace H : (if 0 ≤ (ji10) then (if (ji10) < (l1.length : Int) then (if ((Op.bytesLess (((rd_T104 l1 (ji10)).f0).toList) (((rd_T104 l1 x9_1).f0).toList)) = true) then ((spec_l1In.f ((rd_T104 l1 x9_1).f1) 1 (wrap64 ((l0_0.length : Int) - 1))).bind fun t171 => (if t171 = true then (if 0 ≤ ((rd_T104 l1 x9_1).f1) then (if ((rd_T104 l1 x9_1).f1) < (l0_0.length : Int) then (if ((rd_T65 l0_0 ((rd_T104 l1 x9_1).f1)).f0) = 0 then (some false) else (spec_l3Entries.l0 k1 l1 l1 (l1.length : Int) (wrap64 (x9_1 + 1)) l0_0 a0_1)) else (none)) else (none)) else (some false))) else (some false)) else (none)) else (none)) = some r := by first | (rw [hji10] at H; exact H) | (simp only [hji10] at H ⊢; exact H)
      (try rw [hji10] at A7)
      have hji10w : (IntKind.i64.wrap (x9_1 - 1)) = ji10 := (i64_w _).trans hji10
      obtain ⟨c11, H⟩ := iN H
      have c11b0 := decide_eq_true c11
      clear c11
      obtain ⟨c12, H⟩ := iN H
      have c12b0 := decide_eq_true c12
      clear c12
      by_cases c13 : ((Op.bytesLess (((rd_T104 l1 (ji10)).f0).toList) (((rd_T104 l1 x9_1).f0).toList)) = true)
      ·rw [if_pos c13] at H
       have c13b0 : (Op.bytesLess (((rd_T104 l1 (ji10)).f0).toList) (((rd_T104 l1 x9_1).f0).toList)) = true := c13
       clear c13
       obtain ⟨t171, A14, H⟩ := bS H
       try dsimp only at H
       by_cases c15 : t171 = true
       ·subst c15
        rw [if_pos rfl] at H
        obtain ⟨c16, H⟩ := iN H
        have c16b0 := decide_eq_true c16
        clear c16
        obtain ⟨c17, H⟩ := iN H
        have c17b0 := decide_eq_true c17
        clear c17
        by_cases c18 : ((rd_T65 l0_0 ((rd_T104 l1 x9_1).f1)).f0) = 0
        ·rw [if_pos c18] at H
         have c18b0 := beq_iff_eq.mpr c18
         have c18b1 := bne_eq_false_iff_eq.mpr c18
         clear c18
         obtain rfl := Option.some.inj H
         have p167 : 0 ≤ (x9_1 : Int) := sO
         have q167 : x9_1 < (l1.length : Int) := sO
         obtain ⟨ad167, e167, hx167_0, hx167_1⟩ := ab104 HR1.out HB x9_1 p167 q167
         cases e167
         replace p167 := eq_true p167
         replace q167 := eq_true q167
         try go_wp2_with (first | ((with_reducible refine gd 6 rfl ?_); (first | refine bxE 6 #[.string (⟨#[]⟩ : ByteArray), .int .i64 0] 104 ?_ | refine bgE 6 #[.string (⟨#[]⟩ : ByteArray), .int .i64 0] 104 ?_); intro gb168 hg w19 hbox hb; have BK168 := Aside0.mk hbox; have GW168 := nGC hg; have GE168 := nGC hg; replace HB := nSC hb; have NB166_168 := nL BK166 hg; have NB168_166 := nH BK166 hg; replace BK166 := nK BK166 hb; clear hb hbox hg; have hnb20 := NB168_166.out; have hnc20 := NB166_168.out; have hcz21 := cb2 BK168))
         have n0_ : Aside0 (((w19.setCell ⟨gb168, 0, none⟩ (.string ((rd_T104 l1 x9_1).f0))).setCell ⟨gb168, 1, none⟩ (.int .i64 ((rd_T104 l1 x9_1).f1))).heap[gb166]? = some (.cells #[.slice A0_0 l0_0.length c0_0, .int .i64 a0_1] 30 (0, 0))) := ⟨sX BK166⟩
         have n1_ : Aside0 (((w19.setCell ⟨gb168, 0, none⟩ (.string ((rd_T104 l1 x9_1).f0))).setCell ⟨gb168, 1, none⟩ (.int .i64 ((rd_T104 l1 x9_1).f1))).heap[gb168]? = some (.cells #[.string ((rd_T104 l1 x9_1).f0), .int .i64 ((rd_T104 l1 x9_1).f1)] 104 (0, 0))) := ⟨sX BK168⟩
         have n2_ : Aside0 (Below w.heap.size w ((w19.setCell ⟨gb168, 0, none⟩ (.string ((rd_T104 l1 x9_1).f0))).setCell ⟨gb168, 1, none⟩ (.int .i64 ((rd_T104 l1 x9_1).f1)))) := ⟨sC⟩
         (try clear BK166)
         (try clear BK168)
         (try clear HB)
         generalize ((w19.setCell ⟨gb168, 0, none⟩ (.string ((rd_T104 l1 x9_1).f0))).setCell ⟨gb168, 1, none⟩ (.int .i64 ((rd_T104 l1 x9_1).f1))) = w22 at n0_ n1_ n2_ ⊢
         have BK166 := n0_
         have BK168 := n1_
         have HB := n2_
         clear n0_ n1_ n2_
         have n0_ := Aside0.mk (blk_drew BK166.out)
         have n1_ := Aside0.mk (blk_drew BK168.out)
         have n2_ := Aside0.mk (below_drew1 HB.out)
         clear BK166
         clear BK168
         clear HB
         have BK166 := n0_
         have BK168 := n1_
         have HB := n2_
         clear n0_ n1_ n2_
         have p170 : 0 ≤ ((ji10) : Int) := sO
         have q170 : (ji10) < (l1.length : Int) := sO
         obtain ⟨ad170, e170, hx170_0, hx170_1⟩ := at_T104 HR1.out (ji10) p170 q170
         have hw170_1 := hx170_1
         have hw170_0 := hx170_0
         obtain rfl : ad167 = ad170 := (by injection e170)
         replace hx170_0 := hB HB hx170_0
         replace hx170_1 := hB HB hx170_1
         replace p170 := eq_true p170
         replace q170 := eq_true q170
         have p172 : 0 ≤ (((rd_T104 l1 x9_1).f1) : Int) := sO
         have q172 : ((rd_T104 l1 x9_1).f1) < (l0_0.length : Int) := sO
         obtain ⟨ad172, A172_6, c172_6, e172, hx172_0, hx172_1, hx172_2, hx172_3, hx172_4, hx172_5, hx172_6, hl172_6, hi172_6⟩ := at_T65 HR0_0.out ((rd_T104 l1 x9_1).f1) p172 q172
         have hw172_6 := hx172_6
         have hw172_5 := hx172_5
         have hw172_4 := hx172_4
         have hw172_3 := hx172_3
         have hw172_2 := hx172_2
         have hw172_1 := hx172_1
         have hw172_0 := hx172_0
         cases e172
         replace hx172_0 := hB HB hx172_0
         replace hx172_1 := hB HB hx172_1
         replace hx172_2 := hB HB hx172_2
         replace hx172_3 := hB HB hx172_3
         replace hx172_4 := hB HB hx172_4
         replace hx172_5 := hB HB hx172_5
         replace hx172_6 := hB HB hx172_6
         have HR172_6 := Aside0.mk hi172_6
         have HC172_6 := Aside0.mk hl172_6
         clear hi172_6 hl172_6
         replace p172 := eq_true p172
         replace q172 := eq_true q172
         refine st13 39 [] (cz0 BK168) (cz1 BK168) (cz0 BK166) (cz1 BK166) (hB HB hw170_0 :) (hB HB hw170_1 :) (hB HB hw172_0 :) (hB HB hw172_1 :) (hB HB hw172_2 :) (hB HB hw172_3 :) (hB HB hw172_4 :) (hB HB hw172_5 :) (hB HB hw172_6 :) (fun hHeld => ?_); refine with_tabW spec_l3Entries.tab4 spec_l3Entries.bits4 (fun HT_ HW_ => ?_)
         generalize w22.drew = w23 at BK166 BK168 HB HR172_6 hx170_0 hx170_1 hx172_0 hx172_1 hx172_2 hx172_3 hx172_4 hx172_5 hx172_6 hHeld ⊢
         refine pu 0 14 ?_
         refine tk13 1 15 ?_
         refine on 2 16 (fun K hK => ?_)
         refine gC Tryz.func97 #[.string ((rd_T104 l1 x9_1).f0)] ?_
         with_reducible refine (spec_l2Name.calls k1 ((rd_T104 l1 x9_1).f0) true _ A7.out).mono ?_
         rintro e w' ⟨rfl, ⟨nd, rfl⟩⟩
         refine ⟨_, rfl, ?_⟩
         refine hK.out _ _ ⟨cz0 BK168, cz1 BK168, cz0 BK166, cz1 BK166, (hB HB hw170_0 :), (hB HB hw170_1 :), (hB HB hw172_0 :), (hB HB hw172_1 :), (hB HB hw172_2 :), (hB HB hw172_3 :), (hB HB hw172_4 :), (hB HB hw172_5 :), (hB HB hw172_6 :)⟩ (fun hHeld => ?_)
         clear hK K
         refine nm ?_
         refine pu 3 17 ?_
         refine pu 4 18 ?_
         refine pu 5 19 ?_
         refine pu 6 20 ?_
         refine pu 7 21 ?_
         refine pu 8 22 ?_
         refine pu 9 23 ?_
         refine pu 10 24 ?_
         refine pu 11 25 ?_
         refine pu 12 26 ?_
         refine pu 14 28 ?_
         refine tk13 13 27 ?_
         refine tk13 15 29 ?_
         refine pu 16 30 ?_
         refine pu 17 31 ?_
         refine pu 18 32 ?_
         refine pu 19 33 ?_
         refine pu 20 34 ?_
         refine pu 22 36 ?_
         refine tk13 21 35 ?_
         refine tk13 23 37 ?_
         refine pu 24 38 ?_
         refine pu 25 39 ?_
         refine on 26 40 (fun K hK => ?_)
         refine gC Tryz.func60 #[.int .i64 ((rd_T104 l1 x9_1).f1), .int .i64 1, .int .i64 (wrap64 ((l0_0.length : Int) - 1))] ?_
         with_reducible refine (spec_l1In.calls ((rd_T104 l1 x9_1).f1) 1 (wrap64 ((l0_0.length : Int) - 1)) true _ A14.out).mono ?_
         rintro e w' ⟨rfl, ⟨nd, rfl⟩⟩
         refine ⟨_, rfl, ?_⟩
         refine hK.out _ _ ⟨cz0 BK168, cz1 BK168, cz0 BK166, cz1 BK166, (hB HB hw170_0 :), (hB HB hw170_1 :), (hB HB hw172_0 :), (hB HB hw172_1 :), (hB HB hw172_2 :), (hB HB hw172_3 :), (hB HB hw172_4 :), (hB HB hw172_5 :), (hB HB hw172_6 :)⟩ (fun hHeld => ?_)
         clear hK K
         refine nm ?_
         refine pu 27 41 ?_
         refine pu 28 42 ?_
         refine pu 29 43 ?_
         refine pu 30 44 ?_
         refine pu 32 46 ?_
         refine tk13 31 45 ?_
         refine tk13 33 47 ?_
         refine pu 34 48 ?_
         refine pu 35 49 ?_
         refine tk13 36 50 ?_
         refine pu 37 51 ?_
         refine pu 38 52 ?_
         refine dn ?_
         try go_wp2
         go_ret
         exact ⟨by first | rfl | (simp [errW_none, errW_some] <;> rfl) | (simp [errW_none, errW_some]; exact isEmpty_ne _) | (simp only [← hji10]; first | rfl | (simp [errW_none, errW_some] <;> rfl)) | (simp [*, errW_none, errW_some] <;> rfl), sC⟩
        ·rw [if_neg c18] at H
         have c18b0 := beq_eq_false_iff_ne.mpr c18
         have c18b1 := bne_iff_ne.mpr c18
         have H' := Aside0.mk H
         clear H
         have p167 : 0 ≤ (x9_1 : Int) := sO
         have q167 : x9_1 < (l1.length : Int) := sO
         obtain ⟨ad167, e167, hx167_0, hx167_1⟩ := ab104 HR1.out HB x9_1 p167 q167
         cases e167
         replace p167 := eq_true p167
         replace q167 := eq_true q167
         try go_wp2_with (first | ((with_reducible refine gd 6 rfl ?_); (first | refine bxE 6 #[.string (⟨#[]⟩ : ByteArray), .int .i64 0] 104 ?_ | refine bgE 6 #[.string (⟨#[]⟩ : ByteArray), .int .i64 0] 104 ?_); intro gb168 hg w24 hbox hb; have BK168 := Aside0.mk hbox; have GW168 := nGC hg; have GE168 := nGC hg; replace HB := nSC hb; have NB166_168 := nL BK166 hg; have NB168_166 := nH BK166 hg; replace BK166 := nK BK166 hb; clear hb hbox hg; have hnb25 := NB168_166.out; have hnc25 := NB166_168.out; have hcz26 := cb2 BK168))
         have n0_ : Aside0 (((w24.setCell ⟨gb168, 0, none⟩ (.string ((rd_T104 l1 x9_1).f0))).setCell ⟨gb168, 1, none⟩ (.int .i64 ((rd_T104 l1 x9_1).f1))).heap[gb166]? = some (.cells #[.slice A0_0 l0_0.length c0_0, .int .i64 a0_1] 30 (0, 0))) := ⟨sX BK166⟩
         have n1_ : Aside0 (((w24.setCell ⟨gb168, 0, none⟩ (.string ((rd_T104 l1 x9_1).f0))).setCell ⟨gb168, 1, none⟩ (.int .i64 ((rd_T104 l1 x9_1).f1))).heap[gb168]? = some (.cells #[.string ((rd_T104 l1 x9_1).f0), .int .i64 ((rd_T104 l1 x9_1).f1)] 104 (0, 0))) := ⟨sX BK168⟩
         have n2_ : Aside0 (Below w.heap.size w ((w24.setCell ⟨gb168, 0, none⟩ (.string ((rd_T104 l1 x9_1).f0))).setCell ⟨gb168, 1, none⟩ (.int .i64 ((rd_T104 l1 x9_1).f1)))) := ⟨sC⟩
         (try clear BK166)
         (try clear BK168)
         (try clear HB)
         generalize ((w24.setCell ⟨gb168, 0, none⟩ (.string ((rd_T104 l1 x9_1).f0))).setCell ⟨gb168, 1, none⟩ (.int .i64 ((rd_T104 l1 x9_1).f1))) = w27 at n0_ n1_ n2_ ⊢
         have BK166 := n0_
         have BK168 := n1_
         have HB := n2_
         clear n0_ n1_ n2_
         have n0_ := Aside0.mk (blk_drew BK166.out)
         have n1_ := Aside0.mk (blk_drew BK168.out)
         have n2_ := Aside0.mk (below_drew1 HB.out)
         clear BK166
         clear BK168
         clear HB
         have BK166 := n0_
         have BK168 := n1_
         have HB := n2_
         clear n0_ n1_ n2_
         have p170 : 0 ≤ ((ji10) : Int) := sO
         have q170 : (ji10) < (l1.length : Int) := sO
         obtain ⟨ad170, e170, hx170_0, hx170_1⟩ := at_T104 HR1.out (ji10) p170 q170
         have hw170_1 := hx170_1
         have hw170_0 := hx170_0
         obtain rfl : ad167 = ad170 := (by injection e170)
         replace hx170_0 := hB HB hx170_0
         replace hx170_1 := hB HB hx170_1
         replace p170 := eq_true p170
         replace q170 := eq_true q170
         have p172 : 0 ≤ (((rd_T104 l1 x9_1).f1) : Int) := sO
         have q172 : ((rd_T104 l1 x9_1).f1) < (l0_0.length : Int) := sO
         obtain ⟨ad172, A172_6, c172_6, e172, hx172_0, hx172_1, hx172_2, hx172_3, hx172_4, hx172_5, hx172_6, hl172_6, hi172_6⟩ := at_T65 HR0_0.out ((rd_T104 l1 x9_1).f1) p172 q172
         have hw172_6 := hx172_6
         have hw172_5 := hx172_5
         have hw172_4 := hx172_4
         have hw172_3 := hx172_3
         have hw172_2 := hx172_2
         have hw172_1 := hx172_1
         have hw172_0 := hx172_0
         cases e172
         replace hx172_0 := hB HB hx172_0
         replace hx172_1 := hB HB hx172_1
         replace hx172_2 := hB HB hx172_2
         replace hx172_3 := hB HB hx172_3
         replace hx172_4 := hB HB hx172_4
         replace hx172_5 := hB HB hx172_5
         replace hx172_6 := hB HB hx172_6
         have HR172_6 := Aside0.mk hi172_6
         have HC172_6 := Aside0.mk hl172_6
         clear hi172_6 hl172_6
         replace p172 := eq_true p172
         replace q172 := eq_true q172
         refine st13 39 [] (cz0 BK168) (cz1 BK168) (cz0 BK166) (cz1 BK166) (hB HB hw170_0 :) (hB HB hw170_1 :) (hB HB hw172_0 :) (hB HB hw172_1 :) (hB HB hw172_2 :) (hB HB hw172_3 :) (hB HB hw172_4 :) (hB HB hw172_5 :) (hB HB hw172_6 :) (fun hHeld => ?_); refine with_tabW spec_l3Entries.tab4 spec_l3Entries.bits4 (fun HT_ HW_ => ?_)
         generalize w27.drew = w28 at BK166 BK168 HB HR172_6 hx170_0 hx170_1 hx172_0 hx172_1 hx172_2 hx172_3 hx172_4 hx172_5 hx172_6 hHeld ⊢
         refine pu 0 14 ?_
         refine tk13 1 15 ?_
         refine on 2 16 (fun K hK => ?_)
         refine gC Tryz.func97 #[.string ((rd_T104 l1 x9_1).f0)] ?_
         with_reducible refine (spec_l2Name.calls k1 ((rd_T104 l1 x9_1).f0) true _ A7.out).mono ?_
         rintro e w' ⟨rfl, ⟨nd, rfl⟩⟩
         refine ⟨_, rfl, ?_⟩
         refine hK.out _ _ ⟨cz0 BK168, cz1 BK168, cz0 BK166, cz1 BK166, (hB HB hw170_0 :), (hB HB hw170_1 :), (hB HB hw172_0 :), (hB HB hw172_1 :), (hB HB hw172_2 :), (hB HB hw172_3 :), (hB HB hw172_4 :), (hB HB hw172_5 :), (hB HB hw172_6 :)⟩ (fun hHeld => ?_)
         clear hK K
         refine nm ?_
         refine pu 3 17 ?_
         refine pu 4 18 ?_
         refine pu 5 19 ?_
         refine pu 6 20 ?_
         refine pu 7 21 ?_
         refine pu 8 22 ?_
         refine pu 9 23 ?_
         refine pu 10 24 ?_
         refine pu 11 25 ?_
         refine pu 12 26 ?_
         refine pu 14 28 ?_
         refine tk13 13 27 ?_
         refine tk13 15 29 ?_
         refine pu 16 30 ?_
         refine pu 17 31 ?_
         refine pu 18 32 ?_
         refine pu 19 33 ?_
         refine pu 20 34 ?_
         refine pu 22 36 ?_
         refine tk13 21 35 ?_
         refine tk13 23 37 ?_
         refine pu 24 38 ?_
         refine pu 25 39 ?_
         refine on 26 40 (fun K hK => ?_)
         refine gC Tryz.func60 #[.int .i64 ((rd_T104 l1 x9_1).f1), .int .i64 1, .int .i64 (wrap64 ((l0_0.length : Int) - 1))] ?_
         with_reducible refine (spec_l1In.calls ((rd_T104 l1 x9_1).f1) 1 (wrap64 ((l0_0.length : Int) - 1)) true _ A14.out).mono ?_
         rintro e w' ⟨rfl, ⟨nd, rfl⟩⟩
         refine ⟨_, rfl, ?_⟩
         refine hK.out _ _ ⟨cz0 BK168, cz1 BK168, cz0 BK166, cz1 BK166, (hB HB hw170_0 :), (hB HB hw170_1 :), (hB HB hw172_0 :), (hB HB hw172_1 :), (hB HB hw172_2 :), (hB HB hw172_3 :), (hB HB hw172_4 :), (hB HB hw172_5 :), (hB HB hw172_6 :)⟩ (fun hHeld => ?_)
         clear hK K
         refine nm ?_
         refine pu 27 41 ?_
         refine pu 28 42 ?_
         refine pu 29 43 ?_
         refine pu 30 44 ?_
         refine pu 32 46 ?_
         refine tk13 31 45 ?_
         refine tk13 33 47 ?_
         refine pu 34 48 ?_
         refine pu 35 49 ?_
         refine tk13 36 50 ?_
         refine pu 37 51 ?_
         refine pu 38 52 ?_
         refine dn ?_
         try go_wp2
         go_roundg k1
         case measure => have := HK1.out; omega
         case rel => exact ⟨(wrap64 (x9_1 + 1)), sR, (by first | exact H' | (simp only [hji10]; exact H') | (simp only [hji10]; exact H')), ⟨by have := HK1.out; omega⟩, ⟨sK BK166⟩, ⟨sC⟩⟩
       ·replace c15 := Bool.eq_false_iff.mpr c15
        subst c15
        rw [if_neg (show ¬ (false = true) by decide)] at H
        obtain rfl := Option.some.inj H
        have p167 : 0 ≤ (x9_1 : Int) := sO
        have q167 : x9_1 < (l1.length : Int) := sO
        obtain ⟨ad167, e167, hx167_0, hx167_1⟩ := ab104 HR1.out HB x9_1 p167 q167
        cases e167
        replace p167 := eq_true p167
        replace q167 := eq_true q167
        try go_wp2_with (first | ((with_reducible refine gd 6 rfl ?_); (first | refine bxE 6 #[.string (⟨#[]⟩ : ByteArray), .int .i64 0] 104 ?_ | refine bgE 6 #[.string (⟨#[]⟩ : ByteArray), .int .i64 0] 104 ?_); intro gb168 hg w29 hbox hb; have BK168 := Aside0.mk hbox; have GW168 := nGC hg; have GE168 := nGC hg; replace HB := nSC hb; have NB166_168 := nL BK166 hg; have NB168_166 := nH BK166 hg; replace BK166 := nK BK166 hb; clear hb hbox hg; have hnb30 := NB168_166.out; have hnc30 := NB166_168.out; have hcz31 := cb2 BK168))
        have n0_ : Aside0 (((w29.setCell ⟨gb168, 0, none⟩ (.string ((rd_T104 l1 x9_1).f0))).setCell ⟨gb168, 1, none⟩ (.int .i64 ((rd_T104 l1 x9_1).f1))).heap[gb166]? = some (.cells #[.slice A0_0 l0_0.length c0_0, .int .i64 a0_1] 30 (0, 0))) := ⟨sX BK166⟩
        have n1_ : Aside0 (((w29.setCell ⟨gb168, 0, none⟩ (.string ((rd_T104 l1 x9_1).f0))).setCell ⟨gb168, 1, none⟩ (.int .i64 ((rd_T104 l1 x9_1).f1))).heap[gb168]? = some (.cells #[.string ((rd_T104 l1 x9_1).f0), .int .i64 ((rd_T104 l1 x9_1).f1)] 104 (0, 0))) := ⟨sX BK168⟩
        have n2_ : Aside0 (Below w.heap.size w ((w29.setCell ⟨gb168, 0, none⟩ (.string ((rd_T104 l1 x9_1).f0))).setCell ⟨gb168, 1, none⟩ (.int .i64 ((rd_T104 l1 x9_1).f1)))) := ⟨sC⟩
        (try clear BK166)
        (try clear BK168)
        (try clear HB)
        generalize ((w29.setCell ⟨gb168, 0, none⟩ (.string ((rd_T104 l1 x9_1).f0))).setCell ⟨gb168, 1, none⟩ (.int .i64 ((rd_T104 l1 x9_1).f1))) = w32 at n0_ n1_ n2_ ⊢
        have BK166 := n0_
        have BK168 := n1_
        have HB := n2_
        clear n0_ n1_ n2_
        have n0_ := Aside0.mk (blk_drew BK166.out)
        have n1_ := Aside0.mk (blk_drew BK168.out)
        have n2_ := Aside0.mk (below_drew1 HB.out)
        clear BK166
        clear BK168
        clear HB
        have BK166 := n0_
        have BK168 := n1_
        have HB := n2_
        clear n0_ n1_ n2_
        have p170 : 0 ≤ ((ji10) : Int) := sO
        have q170 : (ji10) < (l1.length : Int) := sO
        obtain ⟨ad170, e170, hx170_0, hx170_1⟩ := at_T104 HR1.out (ji10) p170 q170
        have hw170_1 := hx170_1
        have hw170_0 := hx170_0
        obtain rfl : ad167 = ad170 := (by injection e170)
        replace hx170_0 := hB HB hx170_0
        replace hx170_1 := hB HB hx170_1
        replace p170 := eq_true p170
        replace q170 := eq_true q170
        refine st6 39 [] (cz0 BK168) (cz1 BK168) (cz0 BK166) (cz1 BK166) (hB HB hw170_0 :) (hB HB hw170_1 :) (fun hHeld => ?_); refine with_tabW spec_l3Entries.tab4 spec_l3Entries.bits4 (fun HT_ HW_ => ?_)
        generalize w32.drew = w33 at BK166 BK168 HB hx170_0 hx170_1 hHeld ⊢
        refine pu 0 14 ?_
        refine tk6 1 15 ?_
        refine on 2 16 (fun K hK => ?_)
        refine gC Tryz.func97 #[.string ((rd_T104 l1 x9_1).f0)] ?_
        with_reducible refine (spec_l2Name.calls k1 ((rd_T104 l1 x9_1).f0) true _ A7.out).mono ?_
        rintro e w' ⟨rfl, ⟨nd, rfl⟩⟩
        refine ⟨_, rfl, ?_⟩
        refine hK.out _ _ ⟨cz0 BK168, cz1 BK168, cz0 BK166, cz1 BK166, (hB HB hw170_0 :), (hB HB hw170_1 :)⟩ (fun hHeld => ?_)
        clear hK K
        refine nm ?_
        refine pu 3 17 ?_
        refine pu 4 18 ?_
        refine pu 5 19 ?_
        refine pu 6 20 ?_
        refine pu 7 21 ?_
        refine pu 8 22 ?_
        refine pu 9 23 ?_
        refine pu 10 24 ?_
        refine pu 11 25 ?_
        refine pu 12 26 ?_
        refine pu 14 28 ?_
        refine tk6 13 27 ?_
        refine tk6 15 29 ?_
        refine pu 16 30 ?_
        refine pu 17 31 ?_
        refine pu 18 32 ?_
        refine pu 19 33 ?_
        refine pu 20 34 ?_
        refine pu 22 36 ?_
        refine tk6 21 35 ?_
        refine tk6 23 37 ?_
        refine pu 24 38 ?_
        refine pu 25 39 ?_
        refine on 26 40 (fun K hK => ?_)
        refine gC Tryz.func60 #[.int .i64 ((rd_T104 l1 x9_1).f1), .int .i64 1, .int .i64 (wrap64 ((l0_0.length : Int) - 1))] ?_
        with_reducible refine (spec_l1In.calls ((rd_T104 l1 x9_1).f1) 1 (wrap64 ((l0_0.length : Int) - 1)) false _ A14.out).mono ?_
        rintro e w' ⟨rfl, ⟨nd, rfl⟩⟩
        refine ⟨_, rfl, ?_⟩
        refine hK.out _ _ ⟨cz0 BK168, cz1 BK168, cz0 BK166, cz1 BK166, (hB HB hw170_0 :), (hB HB hw170_1 :)⟩ (fun hHeld => ?_)
        clear hK K
        refine nm ?_
        refine pu 27 41 ?_
        refine pu 28 42 ?_
        refine pu 29 43 ?_
        refine pz 30 44 ?_
        refine pz 31 45 ?_
        refine pz 32 46 ?_
        refine pz 33 47 ?_
        refine pz 34 48 ?_
        refine pz 35 49 ?_
        refine pz 36 50 ?_
        refine pz 37 51 ?_
        refine pu 38 52 ?_
        refine dn ?_
        try go_wp2
        go_ret
        exact ⟨by first | rfl | (simp [errW_none, errW_some] <;> rfl) | (simp [errW_none, errW_some]; exact isEmpty_ne _) | (simp only [← hji10]; first | rfl | (simp [errW_none, errW_some] <;> rfl)) | (simp [*, errW_none, errW_some] <;> rfl), sC⟩
      ·rw [if_neg c13] at H
       have c13b0 : (Op.bytesLess (((rd_T104 l1 (ji10)).f0).toList) (((rd_T104 l1 x9_1).f0).toList)) = false := by simpa using c13
       clear c13
       obtain rfl := Option.some.inj H
       have p167 : 0 ≤ (x9_1 : Int) := sO
       have q167 : x9_1 < (l1.length : Int) := sO
       obtain ⟨ad167, e167, hx167_0, hx167_1⟩ := ab104 HR1.out HB x9_1 p167 q167
       cases e167
       replace p167 := eq_true p167
       replace q167 := eq_true q167
       try go_wp2_with (first | ((with_reducible refine gd 6 rfl ?_); (first | refine bxE 6 #[.string (⟨#[]⟩ : ByteArray), .int .i64 0] 104 ?_ | refine bgE 6 #[.string (⟨#[]⟩ : ByteArray), .int .i64 0] 104 ?_); intro gb168 hg w34 hbox hb; have BK168 := Aside0.mk hbox; have GW168 := nGC hg; have GE168 := nGC hg; replace HB := nSC hb; have NB166_168 := nL BK166 hg; have NB168_166 := nH BK166 hg; replace BK166 := nK BK166 hb; clear hb hbox hg; have hnb35 := NB168_166.out; have hnc35 := NB166_168.out; have hcz36 := cb2 BK168))
       have n0_ : Aside0 (((w34.setCell ⟨gb168, 0, none⟩ (.string ((rd_T104 l1 x9_1).f0))).setCell ⟨gb168, 1, none⟩ (.int .i64 ((rd_T104 l1 x9_1).f1))).heap[gb166]? = some (.cells #[.slice A0_0 l0_0.length c0_0, .int .i64 a0_1] 30 (0, 0))) := ⟨sX BK166⟩
       have n1_ : Aside0 (((w34.setCell ⟨gb168, 0, none⟩ (.string ((rd_T104 l1 x9_1).f0))).setCell ⟨gb168, 1, none⟩ (.int .i64 ((rd_T104 l1 x9_1).f1))).heap[gb168]? = some (.cells #[.string ((rd_T104 l1 x9_1).f0), .int .i64 ((rd_T104 l1 x9_1).f1)] 104 (0, 0))) := ⟨sX BK168⟩
       have n2_ : Aside0 (Below w.heap.size w ((w34.setCell ⟨gb168, 0, none⟩ (.string ((rd_T104 l1 x9_1).f0))).setCell ⟨gb168, 1, none⟩ (.int .i64 ((rd_T104 l1 x9_1).f1)))) := ⟨sC⟩
       (try clear BK166)
       (try clear BK168)
       (try clear HB)
       generalize ((w34.setCell ⟨gb168, 0, none⟩ (.string ((rd_T104 l1 x9_1).f0))).setCell ⟨gb168, 1, none⟩ (.int .i64 ((rd_T104 l1 x9_1).f1))) = w37 at n0_ n1_ n2_ ⊢
       have BK166 := n0_
       have BK168 := n1_
       have HB := n2_
       clear n0_ n1_ n2_
       have n0_ := Aside0.mk (blk_drew BK166.out)
       have n1_ := Aside0.mk (blk_drew BK168.out)
       have n2_ := Aside0.mk (below_drew1 HB.out)
       clear BK166
       clear BK168
       clear HB
       have BK166 := n0_
       have BK168 := n1_
       have HB := n2_
       clear n0_ n1_ n2_
       have p170 : 0 ≤ ((ji10) : Int) := sO
       have q170 : (ji10) < (l1.length : Int) := sO
       obtain ⟨ad170, e170, hx170_0, hx170_1⟩ := at_T104 HR1.out (ji10) p170 q170
       have hw170_1 := hx170_1
       have hw170_0 := hx170_0
       obtain rfl : ad167 = ad170 := (by injection e170)
       replace hx170_0 := hB HB hx170_0
       replace hx170_1 := hB HB hx170_1
       replace p170 := eq_true p170
       replace q170 := eq_true q170
       refine st4 39 [] (cz0 BK168) (cz1 BK168) (hB HB hw170_0 :) (hB HB hw170_1 :) (fun hHeld => ?_); refine with_tabW spec_l3Entries.tab4 spec_l3Entries.bits4 (fun HT_ HW_ => ?_)
       generalize w37.drew = w38 at BK166 BK168 HB hx170_0 hx170_1 hHeld ⊢
       refine pu 0 14 ?_
       refine tk4 1 15 ?_
       refine on 2 16 (fun K hK => ?_)
       refine gC Tryz.func97 #[.string ((rd_T104 l1 x9_1).f0)] ?_
       with_reducible refine (spec_l2Name.calls k1 ((rd_T104 l1 x9_1).f0) true _ A7.out).mono ?_
       rintro e w' ⟨rfl, ⟨nd, rfl⟩⟩
       refine ⟨_, rfl, ?_⟩
       refine hK.out _ _ ⟨cz0 BK168, cz1 BK168, (hB HB hw170_0 :), (hB HB hw170_1 :)⟩ (fun hHeld => ?_)
       clear hK K
       refine nm ?_
       refine pu 3 17 ?_
       refine pu 4 18 ?_
       refine pu 5 19 ?_
       refine pu 6 20 ?_
       refine pu 7 21 ?_
       refine pu 8 22 ?_
       refine pu 9 23 ?_
       refine pu 10 24 ?_
       refine pu 11 25 ?_
       refine pu 12 26 ?_
       refine pu 14 28 ?_
       refine tk4 13 27 ?_
       refine tk4 15 29 ?_
       refine pu 16 30 ?_
       refine pu 17 31 ?_
       refine pu 18 32 ?_
       refine pu 19 33 ?_
       refine pz 20 34 ?_
       refine pz 21 35 ?_
       refine pz 22 36 ?_
       refine pz 23 37 ?_
       refine pz 24 38 ?_
       refine pz 25 39 ?_
       refine pz 26 40 ?_
       refine pz 27 41 ?_
       refine pu 28 42 ?_
       refine pu 29 43 ?_
       refine pz 30 44 ?_
       refine pz 31 45 ?_
       refine pz 32 46 ?_
       refine pz 33 47 ?_
       refine pz 34 48 ?_
       refine pz 35 49 ?_
       refine pz 36 50 ?_
       refine pz 37 51 ?_
       refine pu 38 52 ?_
       refine dn ?_
       try go_wp2
       go_ret
       exact ⟨by first | rfl | (simp [errW_none, errW_some] <;> rfl) | (simp [errW_none, errW_some]; exact isEmpty_ne _) | (simp only [← hji10]; first | rfl | (simp [errW_none, errW_some] <;> rfl)) | (simp [*, errW_none, errW_some] <;> rfl), sC⟩
     ·rw [if_neg c9] at H
      have c9b0 := decide_eq_false c9
      clear c9
      obtain ⟨t173, A39, H⟩ := bS H
      try dsimp only at H
      by_cases c40 : t173 = true
      ·subst c40
       rw [if_pos rfl] at H
       obtain ⟨c41, H⟩ := iN H
       have c41b0 := decide_eq_true c41
       clear c41
       obtain ⟨c42, H⟩ := iN H
       have c42b0 := decide_eq_true c42
       clear c42
       by_cases c43 : ((rd_T65 l0_0 ((rd_T104 l1 x9_1).f1)).f0) = 0
       ·rw [if_pos c43] at H
        have c43b0 := beq_iff_eq.mpr c43
        have c43b1 := bne_eq_false_iff_eq.mpr c43
        clear c43
        obtain rfl := Option.some.inj H
        have p167 : 0 ≤ (x9_1 : Int) := sO
        have q167 : x9_1 < (l1.length : Int) := sO
        obtain ⟨ad167, e167, hx167_0, hx167_1⟩ := ab104 HR1.out HB x9_1 p167 q167
        cases e167
        replace p167 := eq_true p167
        replace q167 := eq_true q167
        try go_wp2_with (first | ((with_reducible refine gd 6 rfl ?_); (first | refine bxE 6 #[.string (⟨#[]⟩ : ByteArray), .int .i64 0] 104 ?_ | refine bgE 6 #[.string (⟨#[]⟩ : ByteArray), .int .i64 0] 104 ?_); intro gb168 hg w44 hbox hb; have BK168 := Aside0.mk hbox; have GW168 := nGC hg; have GE168 := nGC hg; replace HB := nSC hb; have NB166_168 := nL BK166 hg; have NB168_166 := nH BK166 hg; replace BK166 := nK BK166 hb; clear hb hbox hg; have hnb45 := NB168_166.out; have hnc45 := NB166_168.out; have hcz46 := cb2 BK168))
        have n0_ : Aside0 (((w44.setCell ⟨gb168, 0, none⟩ (.string ((rd_T104 l1 x9_1).f0))).setCell ⟨gb168, 1, none⟩ (.int .i64 ((rd_T104 l1 x9_1).f1))).heap[gb166]? = some (.cells #[.slice A0_0 l0_0.length c0_0, .int .i64 a0_1] 30 (0, 0))) := ⟨sX BK166⟩
        have n1_ : Aside0 (((w44.setCell ⟨gb168, 0, none⟩ (.string ((rd_T104 l1 x9_1).f0))).setCell ⟨gb168, 1, none⟩ (.int .i64 ((rd_T104 l1 x9_1).f1))).heap[gb168]? = some (.cells #[.string ((rd_T104 l1 x9_1).f0), .int .i64 ((rd_T104 l1 x9_1).f1)] 104 (0, 0))) := ⟨sX BK168⟩
        have n2_ : Aside0 (Below w.heap.size w ((w44.setCell ⟨gb168, 0, none⟩ (.string ((rd_T104 l1 x9_1).f0))).setCell ⟨gb168, 1, none⟩ (.int .i64 ((rd_T104 l1 x9_1).f1)))) := ⟨sC⟩
        (try clear BK166)
        (try clear BK168)
        (try clear HB)
        generalize ((w44.setCell ⟨gb168, 0, none⟩ (.string ((rd_T104 l1 x9_1).f0))).setCell ⟨gb168, 1, none⟩ (.int .i64 ((rd_T104 l1 x9_1).f1))) = w47 at n0_ n1_ n2_ ⊢
        have BK166 := n0_
        have BK168 := n1_
        have HB := n2_
        clear n0_ n1_ n2_
        have n0_ := Aside0.mk (blk_drew BK166.out)
        have n1_ := Aside0.mk (blk_drew BK168.out)
        have n2_ := Aside0.mk (below_drew1 HB.out)
        clear BK166
        clear BK168
        clear HB
        have BK166 := n0_
        have BK168 := n1_
        have HB := n2_
        clear n0_ n1_ n2_
        have p174 : 0 ≤ (((rd_T104 l1 x9_1).f1) : Int) := sO
        have q174 : ((rd_T104 l1 x9_1).f1) < (l0_0.length : Int) := sO
        obtain ⟨ad174, A174_6, c174_6, e174, hx174_0, hx174_1, hx174_2, hx174_3, hx174_4, hx174_5, hx174_6, hl174_6, hi174_6⟩ := at_T65 HR0_0.out ((rd_T104 l1 x9_1).f1) p174 q174
        have hw174_6 := hx174_6
        have hw174_5 := hx174_5
        have hw174_4 := hx174_4
        have hw174_3 := hx174_3
        have hw174_2 := hx174_2
        have hw174_1 := hx174_1
        have hw174_0 := hx174_0
        cases e174
        replace hx174_0 := hB HB hx174_0
        replace hx174_1 := hB HB hx174_1
        replace hx174_2 := hB HB hx174_2
        replace hx174_3 := hB HB hx174_3
        replace hx174_4 := hB HB hx174_4
        replace hx174_5 := hB HB hx174_5
        replace hx174_6 := hB HB hx174_6
        have HR174_6 := Aside0.mk hi174_6
        have HC174_6 := Aside0.mk hl174_6
        clear hi174_6 hl174_6
        replace p174 := eq_true p174
        replace q174 := eq_true q174
        refine st11 39 [] (cz0 BK168) (cz1 BK168) (cz0 BK166) (cz1 BK166) (hB HB hw174_0 :) (hB HB hw174_1 :) (hB HB hw174_2 :) (hB HB hw174_3 :) (hB HB hw174_4 :) (hB HB hw174_5 :) (hB HB hw174_6 :) (fun hHeld => ?_); refine with_tabW spec_l3Entries.tab4 spec_l3Entries.bits4 (fun HT_ HW_ => ?_)
        generalize w47.drew = w48 at BK166 BK168 HB HR174_6 hx174_0 hx174_1 hx174_2 hx174_3 hx174_4 hx174_5 hx174_6 hHeld ⊢
        refine pu 0 14 ?_
        refine tk11 1 15 ?_
        refine on 2 16 (fun K hK => ?_)
        refine gC Tryz.func97 #[.string ((rd_T104 l1 x9_1).f0)] ?_
        with_reducible refine (spec_l2Name.calls k1 ((rd_T104 l1 x9_1).f0) true _ A7.out).mono ?_
        rintro e w' ⟨rfl, ⟨nd, rfl⟩⟩
        refine ⟨_, rfl, ?_⟩
        refine hK.out _ _ ⟨cz0 BK168, cz1 BK168, cz0 BK166, cz1 BK166, (hB HB hw174_0 :), (hB HB hw174_1 :), (hB HB hw174_2 :), (hB HB hw174_3 :), (hB HB hw174_4 :), (hB HB hw174_5 :), (hB HB hw174_6 :)⟩ (fun hHeld => ?_)
        clear hK K
        refine nm ?_
        refine pu 3 17 ?_
        refine pu 4 18 ?_
        refine pu 5 19 ?_
        refine pu 6 20 ?_
        refine pu 7 21 ?_
        refine pz 8 22 ?_
        refine pz 9 23 ?_
        refine pz 10 24 ?_
        refine pz 11 25 ?_
        refine pz 12 26 ?_
        refine pz 13 27 ?_
        refine pz 14 28 ?_
        refine pz 15 29 ?_
        refine pz 16 30 ?_
        refine pu 17 31 ?_
        refine pu 18 32 ?_
        refine pu 19 33 ?_
        refine pu 20 34 ?_
        refine pu 22 36 ?_
        refine tk11 21 35 ?_
        refine tk11 23 37 ?_
        refine pu 24 38 ?_
        refine pu 25 39 ?_
        refine on 26 40 (fun K hK => ?_)
        refine gC Tryz.func60 #[.int .i64 ((rd_T104 l1 x9_1).f1), .int .i64 1, .int .i64 (wrap64 ((l0_0.length : Int) - 1))] ?_
        with_reducible refine (spec_l1In.calls ((rd_T104 l1 x9_1).f1) 1 (wrap64 ((l0_0.length : Int) - 1)) true _ A39.out).mono ?_
        rintro e w' ⟨rfl, ⟨nd, rfl⟩⟩
        refine ⟨_, rfl, ?_⟩
        refine hK.out _ _ ⟨cz0 BK168, cz1 BK168, cz0 BK166, cz1 BK166, (hB HB hw174_0 :), (hB HB hw174_1 :), (hB HB hw174_2 :), (hB HB hw174_3 :), (hB HB hw174_4 :), (hB HB hw174_5 :), (hB HB hw174_6 :)⟩ (fun hHeld => ?_)
        clear hK K
        refine nm ?_
        refine pu 27 41 ?_
        refine pu 28 42 ?_
        refine pu 29 43 ?_
        refine pu 30 44 ?_
        refine pu 32 46 ?_
        refine tk11 31 45 ?_
        refine tk11 33 47 ?_
        refine pu 34 48 ?_
        refine pu 35 49 ?_
        refine tk11 36 50 ?_
        refine pu 37 51 ?_
        refine pu 38 52 ?_
        refine dn ?_
        try go_wp2
        go_ret
        exact ⟨sE, sC⟩
       ·rw [if_neg c43] at H
        have c43b0 := beq_eq_false_iff_ne.mpr c43
        have c43b1 := bne_iff_ne.mpr c43
        have H' := Aside0.mk H
        clear H
        have p167 : 0 ≤ (x9_1 : Int) := sO
        have q167 : x9_1 < (l1.length : Int) := sO
        obtain ⟨ad167, e167, hx167_0, hx167_1⟩ := ab104 HR1.out HB x9_1 p167 q167
        cases e167
        replace p167 := eq_true p167
        replace q167 := eq_true q167
        try go_wp2_with (first | ((with_reducible refine gd 6 rfl ?_); (first | refine bxE 6 #[.string (⟨#[]⟩ : ByteArray), .int .i64 0] 104 ?_ | refine bgE 6 #[.string (⟨#[]⟩ : ByteArray), .int .i64 0] 104 ?_); intro gb168 hg w49 hbox hb; have BK168 := Aside0.mk hbox; have GW168 := nGC hg; have GE168 := nGC hg; replace HB := nSC hb; have NB166_168 := nL BK166 hg; have NB168_166 := nH BK166 hg; replace BK166 := nK BK166 hb; clear hb hbox hg; have hnb50 := NB168_166.out; have hnc50 := NB166_168.out; have hcz51 := cb2 BK168))
        have n0_ : Aside0 (((w49.setCell ⟨gb168, 0, none⟩ (.string ((rd_T104 l1 x9_1).f0))).setCell ⟨gb168, 1, none⟩ (.int .i64 ((rd_T104 l1 x9_1).f1))).heap[gb166]? = some (.cells #[.slice A0_0 l0_0.length c0_0, .int .i64 a0_1] 30 (0, 0))) := ⟨sX BK166⟩
        have n1_ : Aside0 (((w49.setCell ⟨gb168, 0, none⟩ (.string ((rd_T104 l1 x9_1).f0))).setCell ⟨gb168, 1, none⟩ (.int .i64 ((rd_T104 l1 x9_1).f1))).heap[gb168]? = some (.cells #[.string ((rd_T104 l1 x9_1).f0), .int .i64 ((rd_T104 l1 x9_1).f1)] 104 (0, 0))) := ⟨sX BK168⟩
        have n2_ : Aside0 (Below w.heap.size w ((w49.setCell ⟨gb168, 0, none⟩ (.string ((rd_T104 l1 x9_1).f0))).setCell ⟨gb168, 1, none⟩ (.int .i64 ((rd_T104 l1 x9_1).f1)))) := ⟨sC⟩
        (try clear BK166)
        (try clear BK168)
        (try clear HB)
        generalize ((w49.setCell ⟨gb168, 0, none⟩ (.string ((rd_T104 l1 x9_1).f0))).setCell ⟨gb168, 1, none⟩ (.int .i64 ((rd_T104 l1 x9_1).f1))) = w52 at n0_ n1_ n2_ ⊢
        have BK166 := n0_
        have BK168 := n1_
        have HB := n2_
        clear n0_ n1_ n2_
        have n0_ := Aside0.mk (blk_drew BK166.out)
        have n1_ := Aside0.mk (blk_drew BK168.out)
        have n2_ := Aside0.mk (below_drew1 HB.out)
        clear BK166
        clear BK168
        clear HB
        have BK166 := n0_
        have BK168 := n1_
        have HB := n2_
        clear n0_ n1_ n2_
        have p174 : 0 ≤ (((rd_T104 l1 x9_1).f1) : Int) := sO
        have q174 : ((rd_T104 l1 x9_1).f1) < (l0_0.length : Int) := sO
        obtain ⟨ad174, A174_6, c174_6, e174, hx174_0, hx174_1, hx174_2, hx174_3, hx174_4, hx174_5, hx174_6, hl174_6, hi174_6⟩ := at_T65 HR0_0.out ((rd_T104 l1 x9_1).f1) p174 q174
        have hw174_6 := hx174_6
        have hw174_5 := hx174_5
        have hw174_4 := hx174_4
        have hw174_3 := hx174_3
        have hw174_2 := hx174_2
        have hw174_1 := hx174_1
        have hw174_0 := hx174_0
        cases e174
        replace hx174_0 := hB HB hx174_0
        replace hx174_1 := hB HB hx174_1
        replace hx174_2 := hB HB hx174_2
        replace hx174_3 := hB HB hx174_3
        replace hx174_4 := hB HB hx174_4
        replace hx174_5 := hB HB hx174_5
        replace hx174_6 := hB HB hx174_6
        have HR174_6 := Aside0.mk hi174_6
        have HC174_6 := Aside0.mk hl174_6
        clear hi174_6 hl174_6
        replace p174 := eq_true p174
        replace q174 := eq_true q174
        refine st11 39 [] (cz0 BK168) (cz1 BK168) (cz0 BK166) (cz1 BK166) (hB HB hw174_0 :) (hB HB hw174_1 :) (hB HB hw174_2 :) (hB HB hw174_3 :) (hB HB hw174_4 :) (hB HB hw174_5 :) (hB HB hw174_6 :) (fun hHeld => ?_); refine with_tabW spec_l3Entries.tab4 spec_l3Entries.bits4 (fun HT_ HW_ => ?_)
        generalize w52.drew = w53 at BK166 BK168 HB HR174_6 hx174_0 hx174_1 hx174_2 hx174_3 hx174_4 hx174_5 hx174_6 hHeld ⊢
        refine pu 0 14 ?_
        refine tk11 1 15 ?_
        refine on 2 16 (fun K hK => ?_)
        refine gC Tryz.func97 #[.string ((rd_T104 l1 x9_1).f0)] ?_
        with_reducible refine (spec_l2Name.calls k1 ((rd_T104 l1 x9_1).f0) true _ A7.out).mono ?_
        rintro e w' ⟨rfl, ⟨nd, rfl⟩⟩
        refine ⟨_, rfl, ?_⟩
        refine hK.out _ _ ⟨cz0 BK168, cz1 BK168, cz0 BK166, cz1 BK166, (hB HB hw174_0 :), (hB HB hw174_1 :), (hB HB hw174_2 :), (hB HB hw174_3 :), (hB HB hw174_4 :), (hB HB hw174_5 :), (hB HB hw174_6 :)⟩ (fun hHeld => ?_)
        clear hK K
        refine nm ?_
        refine pu 3 17 ?_
        refine pu 4 18 ?_
        refine pu 5 19 ?_
        refine pu 6 20 ?_
        refine pu 7 21 ?_
        refine pz 8 22 ?_
        refine pz 9 23 ?_
        refine pz 10 24 ?_
        refine pz 11 25 ?_
        refine pz 12 26 ?_
        refine pz 13 27 ?_
        refine pz 14 28 ?_
        refine pz 15 29 ?_
        refine pz 16 30 ?_
        refine pu 17 31 ?_
        refine pu 18 32 ?_
        refine pu 19 33 ?_
        refine pu 20 34 ?_
        refine pu 22 36 ?_
        refine tk11 21 35 ?_
        refine tk11 23 37 ?_
        refine pu 24 38 ?_
        refine pu 25 39 ?_
        refine on 26 40 (fun K hK => ?_)
        refine gC Tryz.func60 #[.int .i64 ((rd_T104 l1 x9_1).f1), .int .i64 1, .int .i64 (wrap64 ((l0_0.length : Int) - 1))] ?_
        with_reducible refine (spec_l1In.calls ((rd_T104 l1 x9_1).f1) 1 (wrap64 ((l0_0.length : Int) - 1)) true _ A39.out).mono ?_
        rintro e w' ⟨rfl, ⟨nd, rfl⟩⟩
        refine ⟨_, rfl, ?_⟩
        refine hK.out _ _ ⟨cz0 BK168, cz1 BK168, cz0 BK166, cz1 BK166, (hB HB hw174_0 :), (hB HB hw174_1 :), (hB HB hw174_2 :), (hB HB hw174_3 :), (hB HB hw174_4 :), (hB HB hw174_5 :), (hB HB hw174_6 :)⟩ (fun hHeld => ?_)
        clear hK K
        refine nm ?_
        refine pu 27 41 ?_
        refine pu 28 42 ?_
        refine pu 29 43 ?_
        refine pu 30 44 ?_
        refine pu 32 46 ?_
        refine tk11 31 45 ?_
        refine tk11 33 47 ?_
        refine pu 34 48 ?_
        refine pu 35 49 ?_
        refine tk11 36 50 ?_
        refine pu 37 51 ?_
        refine pu 38 52 ?_
        refine dn ?_
        try go_wp2
        go_roundg k1
        case measure => have := HK1.out; omega
        case rel => exact ⟨(wrap64 (x9_1 + 1)), sR, H', ⟨by have := HK1.out; omega⟩, ⟨sK BK166⟩, ⟨sC⟩⟩
      ·replace c40 := Bool.eq_false_iff.mpr c40
       subst c40
       rw [if_neg (show ¬ (false = true) by decide)] at H
       obtain rfl := Option.some.inj H
       have p167 : 0 ≤ (x9_1 : Int) := sO
       have q167 : x9_1 < (l1.length : Int) := sO
       obtain ⟨ad167, e167, hx167_0, hx167_1⟩ := ab104 HR1.out HB x9_1 p167 q167
       cases e167
       replace p167 := eq_true p167
       replace q167 := eq_true q167
       try go_wp2_with (first | ((with_reducible refine gd 6 rfl ?_); (first | refine bxE 6 #[.string (⟨#[]⟩ : ByteArray), .int .i64 0] 104 ?_ | refine bgE 6 #[.string (⟨#[]⟩ : ByteArray), .int .i64 0] 104 ?_); intro gb168 hg w54 hbox hb; have BK168 := Aside0.mk hbox; have GW168 := nGC hg; have GE168 := nGC hg; replace HB := nSC hb; have NB166_168 := nL BK166 hg; have NB168_166 := nH BK166 hg; replace BK166 := nK BK166 hb; clear hb hbox hg; have hnb55 := NB168_166.out; have hnc55 := NB166_168.out; have hcz56 := cb2 BK168))
       have n0_ : Aside0 (((w54.setCell ⟨gb168, 0, none⟩ (.string ((rd_T104 l1 x9_1).f0))).setCell ⟨gb168, 1, none⟩ (.int .i64 ((rd_T104 l1 x9_1).f1))).heap[gb166]? = some (.cells #[.slice A0_0 l0_0.length c0_0, .int .i64 a0_1] 30 (0, 0))) := ⟨sX BK166⟩
       have n1_ : Aside0 (((w54.setCell ⟨gb168, 0, none⟩ (.string ((rd_T104 l1 x9_1).f0))).setCell ⟨gb168, 1, none⟩ (.int .i64 ((rd_T104 l1 x9_1).f1))).heap[gb168]? = some (.cells #[.string ((rd_T104 l1 x9_1).f0), .int .i64 ((rd_T104 l1 x9_1).f1)] 104 (0, 0))) := ⟨sX BK168⟩
       have n2_ : Aside0 (Below w.heap.size w ((w54.setCell ⟨gb168, 0, none⟩ (.string ((rd_T104 l1 x9_1).f0))).setCell ⟨gb168, 1, none⟩ (.int .i64 ((rd_T104 l1 x9_1).f1)))) := ⟨sC⟩
       (try clear BK166)
       (try clear BK168)
       (try clear HB)
       generalize ((w54.setCell ⟨gb168, 0, none⟩ (.string ((rd_T104 l1 x9_1).f0))).setCell ⟨gb168, 1, none⟩ (.int .i64 ((rd_T104 l1 x9_1).f1))) = w57 at n0_ n1_ n2_ ⊢
       have BK166 := n0_
       have BK168 := n1_
       have HB := n2_
       clear n0_ n1_ n2_
       have n0_ := Aside0.mk (blk_drew BK166.out)
       have n1_ := Aside0.mk (blk_drew BK168.out)
       have n2_ := Aside0.mk (below_drew1 HB.out)
       clear BK166
       clear BK168
       clear HB
       have BK166 := n0_
       have BK168 := n1_
       have HB := n2_
       clear n0_ n1_ n2_
       refine st4 39 [] (cz0 BK168) (cz1 BK168) (cz0 BK166) (cz1 BK166) (fun hHeld => ?_); refine with_tabW spec_l3Entries.tab4 spec_l3Entries.bits4 (fun HT_ HW_ => ?_)
       generalize w57.drew = w58 at BK166 BK168 HB hHeld ⊢
       refine pu 0 14 ?_
       refine tk4 1 15 ?_
       refine on 2 16 (fun K hK => ?_)
       refine gC Tryz.func97 #[.string ((rd_T104 l1 x9_1).f0)] ?_
       with_reducible refine (spec_l2Name.calls k1 ((rd_T104 l1 x9_1).f0) true _ A7.out).mono ?_
       rintro e w' ⟨rfl, ⟨nd, rfl⟩⟩
       refine ⟨_, rfl, ?_⟩
       refine hK.out _ _ ⟨cz0 BK168, cz1 BK168, cz0 BK166, cz1 BK166⟩ (fun hHeld => ?_)
       clear hK K
       refine nm ?_
       refine pu 3 17 ?_
       refine pu 4 18 ?_
       refine pu 5 19 ?_
       refine pu 6 20 ?_
       refine pu 7 21 ?_
       refine pz 8 22 ?_
       refine pz 9 23 ?_
       refine pz 10 24 ?_
       refine pz 11 25 ?_
       refine pz 12 26 ?_
       refine pz 13 27 ?_
       refine pz 14 28 ?_
       refine pz 15 29 ?_
       refine pz 16 30 ?_
       refine pu 17 31 ?_
       refine pu 18 32 ?_
       refine pu 19 33 ?_
       refine pu 20 34 ?_
       refine pu 22 36 ?_
       refine tk4 21 35 ?_
       refine tk4 23 37 ?_
       refine pu 24 38 ?_
       refine pu 25 39 ?_
       refine on 26 40 (fun K hK => ?_)
       refine gC Tryz.func60 #[.int .i64 ((rd_T104 l1 x9_1).f1), .int .i64 1, .int .i64 (wrap64 ((l0_0.length : Int) - 1))] ?_
       with_reducible refine (spec_l1In.calls ((rd_T104 l1 x9_1).f1) 1 (wrap64 ((l0_0.length : Int) - 1)) false _ A39.out).mono ?_
       rintro e w' ⟨rfl, ⟨nd, rfl⟩⟩
       refine ⟨_, rfl, ?_⟩
       refine hK.out _ _ ⟨cz0 BK168, cz1 BK168, cz0 BK166, cz1 BK166⟩ (fun hHeld => ?_)
       clear hK K
       refine nm ?_
       refine pu 27 41 ?_
       refine pu 28 42 ?_
       refine pu 29 43 ?_
       refine pz 30 44 ?_
       refine pz 31 45 ?_
       refine pz 32 46 ?_
       refine pz 33 47 ?_
       refine pz 34 48 ?_
       refine pz 35 49 ?_
       refine pz 36 50 ?_
       refine pz 37 51 ?_
       refine pu 38 52 ?_
       refine dn ?_
       try go_wp2
       go_ret
       exact ⟨sE, sC⟩
    ·replace c8 := Bool.eq_false_iff.mpr c8
     subst c8
     rw [if_neg (show ¬ (false = true) by decide)] at H
     obtain rfl := Option.some.inj H
     have p167 : 0 ≤ (x9_1 : Int) := sO
     have q167 : x9_1 < (l1.length : Int) := sO
     obtain ⟨ad167, e167, hx167_0, hx167_1⟩ := ab104 HR1.out HB x9_1 p167 q167
     cases e167
     replace p167 := eq_true p167
     replace q167 := eq_true q167
     try go_wp2_with (first | ((with_reducible refine gd 6 rfl ?_); (first | refine bxE 6 #[.string (⟨#[]⟩ : ByteArray), .int .i64 0] 104 ?_ | refine bgE 6 #[.string (⟨#[]⟩ : ByteArray), .int .i64 0] 104 ?_); intro gb168 hg w59 hbox hb; have BK168 := Aside0.mk hbox; have GW168 := nGC hg; have GE168 := nGC hg; replace HB := nSC hb; have NB166_168 := nL BK166 hg; have NB168_166 := nH BK166 hg; replace BK166 := nK BK166 hb; clear hb hbox hg; have hnb60 := NB168_166.out; have hnc60 := NB166_168.out; have hcz61 := cb2 BK168))
     have n0_ : Aside0 (((w59.setCell ⟨gb168, 0, none⟩ (.string ((rd_T104 l1 x9_1).f0))).setCell ⟨gb168, 1, none⟩ (.int .i64 ((rd_T104 l1 x9_1).f1))).heap[gb166]? = some (.cells #[.slice A0_0 l0_0.length c0_0, .int .i64 a0_1] 30 (0, 0))) := ⟨sX BK166⟩
     have n1_ : Aside0 (((w59.setCell ⟨gb168, 0, none⟩ (.string ((rd_T104 l1 x9_1).f0))).setCell ⟨gb168, 1, none⟩ (.int .i64 ((rd_T104 l1 x9_1).f1))).heap[gb168]? = some (.cells #[.string ((rd_T104 l1 x9_1).f0), .int .i64 ((rd_T104 l1 x9_1).f1)] 104 (0, 0))) := ⟨sX BK168⟩
     have n2_ : Aside0 (Below w.heap.size w ((w59.setCell ⟨gb168, 0, none⟩ (.string ((rd_T104 l1 x9_1).f0))).setCell ⟨gb168, 1, none⟩ (.int .i64 ((rd_T104 l1 x9_1).f1)))) := ⟨sC⟩
     (try clear BK166)
     (try clear BK168)
     (try clear HB)
     generalize ((w59.setCell ⟨gb168, 0, none⟩ (.string ((rd_T104 l1 x9_1).f0))).setCell ⟨gb168, 1, none⟩ (.int .i64 ((rd_T104 l1 x9_1).f1))) = w62 at n0_ n1_ n2_ ⊢
     have BK166 := n0_
     have BK168 := n1_
     have HB := n2_
     clear n0_ n1_ n2_
     have n0_ := Aside0.mk (blk_drew BK166.out)
     have n1_ := Aside0.mk (blk_drew BK168.out)
     have n2_ := Aside0.mk (below_drew1 HB.out)
     clear BK166
     clear BK168
     clear HB
     have BK166 := n0_
     have BK168 := n1_
     have HB := n2_
     clear n0_ n1_ n2_
     refine st2 39 [] (cz0 BK168) (cz1 BK168) (fun hHeld => ?_); refine with_tabW spec_l3Entries.tab4 spec_l3Entries.bits4 (fun HT_ HW_ => ?_)
     generalize w62.drew = w63 at BK166 BK168 HB hHeld ⊢
     refine pu 0 14 ?_
     refine tk2 1 15 ?_
     refine on 2 16 (fun K hK => ?_)
     refine gC Tryz.func97 #[.string ((rd_T104 l1 x9_1).f0)] ?_
     with_reducible refine (spec_l2Name.calls k1 ((rd_T104 l1 x9_1).f0) false _ A7.out).mono ?_
     rintro e w' ⟨rfl, ⟨nd, rfl⟩⟩
     refine ⟨_, rfl, ?_⟩
     refine hK.out _ _ ⟨cz0 BK168, cz1 BK168⟩ (fun hHeld => ?_)
     clear hK K
     refine nm ?_
     refine pu 3 17 ?_
     refine pu 4 18 ?_
     refine pz 5 19 ?_
     refine pz 6 20 ?_
     refine pz 7 21 ?_
     refine pz 8 22 ?_
     refine pz 9 23 ?_
     refine pz 10 24 ?_
     refine pz 11 25 ?_
     refine pz 12 26 ?_
     refine pz 13 27 ?_
     refine pz 14 28 ?_
     refine pz 15 29 ?_
     refine pz 16 30 ?_
     refine pz 17 31 ?_
     refine pu 18 32 ?_
     refine pu 19 33 ?_
     refine pz 20 34 ?_
     refine pz 21 35 ?_
     refine pz 22 36 ?_
     refine pz 23 37 ?_
     refine pz 24 38 ?_
     refine pz 25 39 ?_
     refine pz 26 40 ?_
     refine pz 27 41 ?_
     refine pu 28 42 ?_
     refine pu 29 43 ?_
     refine pz 30 44 ?_
     refine pz 31 45 ?_
     refine pz 32 46 ?_
     refine pz 33 47 ?_
     refine pz 34 48 ?_
     refine pz 35 49 ?_
     refine pz 36 50 ?_
     refine pz 37 51 ?_
     refine pu 38 52 ?_
     refine dn ?_
     try go_wp2
     go_ret
     exact ⟨sE, sC⟩
   ·rw [if_neg c4] at H
    have c4b0 := decide_eq_false c4
    clear c4
    obtain rfl := Option.some.inj H
    go_wp2
    go_ret
    exact ⟨sE, sC⟩
end Go.Proofs.YtdjceippnokimaaGreatDoor.PGrp
