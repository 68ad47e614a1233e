import Derived.Test.YtdjceippnokimaaGreatDoorPTrx0
import Derived.Test.YtdjceippnokimaaGreatDoorPTrx10
import Derived.Test.YtdjceippnokimaaGreatDoorPTrx11
namespace Go.Proofs.YtdjceippnokimaaGreatDoor.PTr
open Go.RowKit Go.Proofs.YtdjceippnokimaaGreatDoorW.PrintWords Go.Proofs.YtdjceippnokimaaGreatDoorW.PrintLast Go.Proofs.YtdjceippnokimaaGreatDoorW.PrintMore
attribute [local go_sem] max2_int min2_int max_two min_two max_three min_three max_four min_four   -- for this text's walks alone
set_option linter.unusedVariables false
set_option linter.unusedSimpArgs false
set_option maxHeartbeats 8000000
set_option maxRecDepth 100000
/-! ### spec_l7Text: function 35 -/
def spec_l7Text.l0 : Nat → Int → ByteArray → List ByteArray → Int → Int → List (S65) → Int → Option (ByteArray)
 | 0, _, _, _, _, _, _, _ => none
 | k + 1, x1, x5, x11, x12, x13, x328000, x328001 => if x13 < x12 then (if 0 ≤ x13 then (if x13 < (x11.length : Int) then ((spec_l7At.f k x328000 x328001 x1 (rdOf ByteArray.empty x11 x13)).bind fun t332 => (if 0 ≤ t332 then (if t332 < (x328000.length : Int) then (if 0 ≤ ((rd_T65 x328000 t332).f0) then (if ((rd_T65 x328000 t332).f0) ≤ (wrap64 (((rd_T65 x328000 t332).f0) + 1)) then (if (wrap64 (((rd_T65 x328000 t332).f0) + 1)) ≤ 4 then ((spec_l1Signs.f k ((rd_T65 x328000 t332).f1)).bind fun t335 => (if ((⟨#[63, 45, 100, 108]⟩ : ByteArray).extract (((rd_T65 x328000 t332).f0) : Int).toNat ((wrap64 (((rd_T65 x328000 t332).f0) + 1)) : Int).toNat).size + t335.size ≤ 9223372036854775807 then (if ((⟨#[63, 45, 100, 108]⟩ : ByteArray).extract (((rd_T65 x328000 t332).f0) : Int).toNat ((wrap64 (((rd_T65 x328000 t332).f0) + 1)) : Int).toNat).size + t335.size + 1 ≤ 9223372036854775807 then ((spec_l1Num.f k ((rd_T65 x328000 t332).f2)).bind fun t336 => (if ((⟨#[63, 45, 100, 108]⟩ : ByteArray).extract (((rd_T65 x328000 t332).f0) : Int).toNat ((wrap64 (((rd_T65 x328000 t332).f0) + 1)) : Int).toNat).size + t335.size + 1 + t336.size ≤ 9223372036854775807 then (if ((⟨#[63, 45, 100, 108]⟩ : ByteArray).extract (((rd_T65 x328000 t332).f0) : Int).toNat ((wrap64 (((rd_T65 x328000 t332).f0) + 1)) : Int).toNat).size + t335.size + 1 + t336.size + 1 ≤ 9223372036854775807 then ((spec_l1Num.f k ((rd_T65 x328000 t332).f3)).bind fun t337 => (if ((⟨#[63, 45, 100, 108]⟩ : ByteArray).extract (((rd_T65 x328000 t332).f0) : Int).toNat ((wrap64 (((rd_T65 x328000 t332).f0) + 1)) : Int).toNat).size + t335.size + 1 + t336.size + 1 + t337.size ≤ 9223372036854775807 then (if ((⟨#[63, 45, 100, 108]⟩ : ByteArray).extract (((rd_T65 x328000 t332).f0) : Int).toNat ((wrap64 (((rd_T65 x328000 t332).f0) + 1)) : Int).toNat).size + t335.size + 1 + t336.size + 1 + t337.size + 1 ≤ 9223372036854775807 then ((spec_l1Num.f k ((rd_T65 x328000 t332).f4)).bind fun t338 => (if ((⟨#[63, 45, 100, 108]⟩ : ByteArray).extract (((rd_T65 x328000 t332).f0) : Int).toNat ((wrap64 (((rd_T65 x328000 t332).f0) + 1)) : Int).toNat).size + t335.size + 1 + t336.size + 1 + t337.size + 1 + t338.size ≤ 9223372036854775807 then (if ((⟨#[63, 45, 100, 108]⟩ : ByteArray).extract (((rd_T65 x328000 t332).f0) : Int).toNat ((wrap64 (((rd_T65 x328000 t332).f0) + 1)) : Int).toNat).size + t335.size + 1 + t336.size + 1 + t337.size + 1 + t338.size + 1 ≤ 9223372036854775807 then (if ((⟨#[63, 45, 100, 108]⟩ : ByteArray).extract (((rd_T65 x328000 t332).f0) : Int).toNat ((wrap64 (((rd_T65 x328000 t332).f0) + 1)) : Int).toNat).size + t335.size + 1 + t336.size + 1 + t337.size + 1 + t338.size + 1 + (rdOf ByteArray.empty x11 x13).size ≤ 9223372036854775807 then (if x5.size + (((⟨#[63, 45, 100, 108]⟩ : ByteArray).extract (((rd_T65 x328000 t332).f0) : Int).toNat ((wrap64 (((rd_T65 x328000 t332).f0) + 1)) : Int).toNat).size + t335.size + 1 + t336.size + 1 + t337.size + 1 + t338.size + 1 + (rdOf ByteArray.empty x11 x13).size) ≤ 9223372036854775807 then (if ((rd_T65 x328000 t332).f0) = 2 then (if x5.size + (((⟨#[63, 45, 100, 108]⟩ : ByteArray).extract (((rd_T65 x328000 t332).f0) : Int).toNat ((wrap64 (((rd_T65 x328000 t332).f0) + 1)) : Int).toNat).size + t335.size + 1 + t336.size + 1 + t337.size + 1 + t338.size + 1 + (rdOf ByteArray.empty x11 x13).size) + 1 ≤ 9223372036854775807 then (spec_l7Text.l0 k x1 ((x5 ++ (((((((((((⟨#[63, 45, 100, 108]⟩ : ByteArray).extract (((rd_T65 x328000 t332).f0) : Int).toNat ((wrap64 (((rd_T65 x328000 t332).f0) + 1)) : Int).toNat) ++ t335) ++ (⟨#[32]⟩ : ByteArray)) ++ t336) ++ (⟨#[32]⟩ : ByteArray)) ++ t337) ++ (⟨#[32]⟩ : ByteArray)) ++ t338) ++ (⟨#[32]⟩ : ByteArray)) ++ (rdOf ByteArray.empty x11 x13))) ++ (⟨#[10]⟩ : ByteArray)) x11 x12 (wrap64 (x13 + 1)) x328000 x328001) else (none)) else (if 1 + ((rd_T65 x328000 t332).f5).size ≤ 9223372036854775807 then (if x5.size + (((⟨#[63, 45, 100, 108]⟩ : ByteArray).extract (((rd_T65 x328000 t332).f0) : Int).toNat ((wrap64 (((rd_T65 x328000 t332).f0) + 1)) : Int).toNat).size + t335.size + 1 + t336.size + 1 + t337.size + 1 + t338.size + 1 + (rdOf ByteArray.empty x11 x13).size) + (1 + ((rd_T65 x328000 t332).f5).size) ≤ 9223372036854775807 then (if x5.size + (((⟨#[63, 45, 100, 108]⟩ : ByteArray).extract (((rd_T65 x328000 t332).f0) : Int).toNat ((wrap64 (((rd_T65 x328000 t332).f0) + 1)) : Int).toNat).size + t335.size + 1 + t336.size + 1 + t337.size + 1 + t338.size + 1 + (rdOf ByteArray.empty x11 x13).size) + (1 + ((rd_T65 x328000 t332).f5).size) + 1 ≤ 9223372036854775807 then (spec_l7Text.l0 k x1 (((x5 ++ (((((((((((⟨#[63, 45, 100, 108]⟩ : ByteArray).extract (((rd_T65 x328000 t332).f0) : Int).toNat ((wrap64 (((rd_T65 x328000 t332).f0) + 1)) : Int).toNat) ++ t335) ++ (⟨#[32]⟩ : ByteArray)) ++ t336) ++ (⟨#[32]⟩ : ByteArray)) ++ t337) ++ (⟨#[32]⟩ : ByteArray)) ++ t338) ++ (⟨#[32]⟩ : ByteArray)) ++ (rdOf ByteArray.empty x11 x13))) ++ ((⟨#[32]⟩ : ByteArray) ++ ((rd_T65 x328000 t332).f5))) ++ (⟨#[10]⟩ : ByteArray)) x11 x12 (wrap64 (x13 + 1)) x328000 x328001) else (none)) else (none)) else (none))) else (none)) else (none)) else (none)) else (none))) else (none)) else (none))) else (none)) else (none))) else (none)) else (none))) else (none)) else (none)) else (none)) else (none)) else (none))) else (none)) else (none)) else (some x5)
def spec_l7Text.f (k : Nat) (l0_0 : List (S65)) (a0_1 : Int) (a1 : Int) : Option (ByteArray) := (spec_l7Walk.f k l0_0 a0_1 a1 (⟨#[46]⟩ : ByteArray) false).bind fun t328 => (spec_l7Text.l0 k a1 (⟨#[]⟩ : ByteArray) t328 (t328.length : Int) 0 l0_0 a0_1)
def spec_l7Text.T5 : Bool × List (List Nat × List Nat) := (true, [([], []), ([0], [0]), ([], []), ([], []), ([], []), ([2, 3, 4], [2, 3, 4]), ([1, 5], [1, 5]), ([6], [6]), ([], []), ([8, 7, 5, 0, 1, 2, 3, 4, 5, 6, 7, 8], [7, 8])])
def spec_l7Text.B5 : List Nat := [0, 1, 0, 0, 0, 28, 63, 127, 0, 511]
theorem spec_l7Text.tab5 : rtab .any (opsOf Tryz.f35 5) = spec_l7Text.T5 := by kernel_rfl
theorem spec_l7Text.bits5 : waitsOk spec_l7Text.T5.2 spec_l7Text.B5 = true := by kernel_rfl
def spec_l7Text.T6 : Bool × List (List Nat × List Nat) := (true, [([], []), ([], []), ([1], [1]), ([], []), ([3], [3]), ([4], [4]), ([2, 5], [2, 5]), ([], []), ([7], [7]), ([8], [8]), ([6, 9], [6, 9]), ([10], [10]), ([], []), ([12], [12]), ([13, 9], [13]), ([11, 14], [11, 14]), ([15], [15]), ([], []), ([17], [17]), ([18, 14], [18]), ([16, 19], [16, 19]), ([20], [20]), ([], []), ([22], [22]), ([23, 19], [23]), ([21, 24], [21, 24]), ([25], [25]), ([], []), ([26, 27], [26, 27]), ([0, 28], [0, 28]), ([29, 24, 0, 1, 2, 3, 4, 5, 6, 7, 8, 9, 10, 11, 12, 13, 14, 15, 16, 17, 18, 19, 20, 21, 22, 23, 24, 25, 26, 27, 28, 29], [0, 29])])
def spec_l7Text.B6 : List Nat := [0, 0, 2, 0, 8, 24, 62, 0, 128, 384, 1022, 2046, 0, 4096, 13184, 32766, 65534, 0, 131072, 422784, 1048574, 2097150, 0, 4194304, 13529984, 33554430, 67108862, 0, 268435454, 536870911, 1073741823]
theorem spec_l7Text.tab6 : rtab .any (opsOf Tryz.f35 6) = spec_l7Text.T6 := by kernel_rfl
theorem spec_l7Text.bits6 : waitsOk spec_l7Text.T6.2 spec_l7Text.B6 = true := by kernel_rfl
theorem spec_l7Text.calls (k : Nat) (A0_0 : Option Addr) (c0_0 : Nat) (l0_0 : List (S65)) (a0_1 : Int) (a1 : Int) (r : ByteArray) (w : World) (hr0_0 : Kd.C k65 w A0_0 l0_0.length l0_0) (hc0_0 : l0_0.length ≤ c0_0) (h : spec_l7Text.f k l0_0 a0_1 a1 = some r) :
  Calls Tryz.prog 35 #[.agg #[.slice A0_0 l0_0.length c0_0, .int .i64 a0_1], .int .i64 a1] w fun e w' => e = .returned (.string r) ∧ Below w.heap.size w w' := by
 have hu30 := Tryz.underlying30
 have hu65 := Tryz.underlying65
 have HR0_0 := Aside0.mk hr0_0
 have HC0_0 := Aside0.mk hc0_0
 clear hr0_0 hc0_0
 have HB := Aside0.mk (Below.refl w.heap.size w)
 have H : ((spec_l7Walk.f k l0_0 a0_1 a1 (⟨#[46]⟩ : ByteArray) false).bind fun t328 => (spec_l7Text.l0 k a1 (⟨#[]⟩ : ByteArray) t328 (t328.length : Int) 0 l0_0 a0_1)) = some r := h
 clear h
 obtain ⟨t328, A3, H⟩ := bS H
 try dsimp only at H
 have H' := Aside0.mk H
 clear H
 go_enter Tryz.func35, Tryz.ntmps35
 go_wp2_with (first | ((with_reducible refine gd 2 rfl ?_); refine bxE 2 #[.slice A0_0 l0_0.length c0_0, .int .i64 a0_1] 30 ?_; intro gb327 hg w4 hbox hb; have BK327 := Aside0.mk hbox; have GW327 := nGB hg; have GE327 := nGB hg; replace HB := nSB hb; clear hb hbox hg; have hcz5 := cb2 BK327) | ((with_reducible refine gt 51 rfl ?_); refine gL 51 11 Tryz.func51 #[.agg #[.slice A0_0 l0_0.length c0_0, .int .i64 a0_1], .int .i64 a1, .string (⟨#[46]⟩ : ByteArray), .bool false] ?_; (with_reducible refine (spec_l7Walk.calls k _ _ l0_0 a0_1 a1 (⟨#[46]⟩ : ByteArray) false t328 _ ?side1 ?side2 A3.out).mono ?_); (case side1 => exact sD (Kd.C_below HR0_0.out HB.out)); (case side2 => exact HC0_0.out); rintro e w6 ⟨v329, rfl, ho0, hb⟩; refine ⟨_, rfl, ?_⟩; have HO330 := Aside0.mk (Kd.R_lower ho0 (below_size sC)); replace BK327 := nK BK327 hb; replace HB := nSC hb; try clear hb; (try clear ho0); obtain ⟨Ao7, co7, eo7⟩ := Kd.R_slice HO330.out; subst eo7))
 go_loopg [5, 13] k (fun kq v5 v13 w' => ∃ (x5_1 : ByteArray) (x13_1 : Int), v5 = .string x5_1 ∧ v13 = .int .i64 x13_1 ∧ Aside0 (spec_l7Text.l0 kq a1 x5_1 t328 (t328.length : Int) x13_1 l0_0 a0_1 = some r) ∧ Aside0 (kq ≤ k) ∧ Aside0 (Kd.R Kd.string 9 w' w.heap.size (fun _ => True) (.slice Ao7 t328.length co7) t328) ∧ Aside0 (w'.heap[gb327]? = some (.cells #[(.slice A0_0 l0_0.length c0_0), .int .i64 a0_1] 30 (0, 0))) ∧ Aside0 (Below w.heap.size w w'))
 case atStart => exact ⟨((⟨#[]⟩ : ByteArray)), (0), sR, sR, H', ⟨Nat.le_refl _⟩, ⟨rR HO330⟩, ⟨sK BK327⟩, ⟨sC⟩⟩
 case round =>
  clear H'
  try clear p2
  try clear c3
  try clear c5
  try clear hcz5
  obtain ⟨x5_1, x13_1, rfl, rfl, HA, HK1, HO_11, BK327, HB⟩ := hrel
  cases gk with
  | zero => exact absurd HA.out (by simp [spec_l7Text.l0])
  | succ k1 =>
   have H := HA.out
   clear HA
   simp only [spec_l7Text.l0] at H
   by_cases c8 : x13_1 < (t328.length : Int)
   ·rw [if_pos c8] at H
    have c8b0 := decide_eq_true c8
    clear c8
    obtain ⟨c9, H⟩ := iN H
    have c9b0 := decide_eq_true c9
    clear c9
    obtain ⟨c10, H⟩ := iN H
    have c10b0 := decide_eq_true c10
    clear c10
    obtain ⟨t332, A110, H⟩ := Option.bind_eq_some_iff.mp H
    try dsimp only at H
    obtain ⟨xs_, hxs_⟩ : ∃ y_ : ByteArray, ((⟨#[63, 45, 100, 108]⟩ : ByteArray).extract (((rd_T65 l0_0 t332).f0) : Int).toNat ((wrap64 (((rd_T65 l0_0 t332).f0) + 1)) : Int).toNat) = y_ := ⟨_, rfl⟩
    simp only [hxs_] at H
    have A11 := Aside0.mk A110
    clear A110
    obtain ⟨c12, H⟩ := iN H
    have c12b0 := decide_eq_true c12
    clear c12
    obtain ⟨c13, H⟩ := iN H
    have c13b0 := decide_eq_true c13
    clear c13
    obtain ⟨c14, H⟩ := iN H
    have c14b0 := eq_true c14
    have c14b1 := decide_eq_true c14
    clear c14
    obtain ⟨c15, H⟩ := iN H
    have c15b0 := eq_true c15
    have c15b1 := decide_eq_true c15
    obtain ⟨c16, H⟩ := iN H
    have c16b0 := eq_true c16
    have c16b1 := decide_eq_true c16
    obtain ⟨t335, A17, H⟩ := bS H
    try dsimp only at H
    obtain ⟨c18, H⟩ := iN H
    have c18b0 := eq_true c18
    have c18b1 := decide_eq_true c18
    try have c18b2 : (9223372036854775807 < xs_.size + t335.size) = False := eq_false (Nat.not_lt.2 c18)
    obtain ⟨c19, H⟩ := iN H
    have c19b0 := eq_true c19
    have c19b1 := decide_eq_true c19
    try have c19b2 : (9223372036854775807 < xs_.size + t335.size + 1) = False := eq_false (Nat.not_lt.2 c19)
    obtain ⟨t336, A20, H⟩ := bS H
    try dsimp only at H
    obtain ⟨c21, H⟩ := iN H
    have c21b0 := eq_true c21
    have c21b1 := decide_eq_true c21
    try have c21b2 : (9223372036854775807 < xs_.size + t335.size + 1 + t336.size) = False := eq_false (Nat.not_lt.2 c21)
    obtain ⟨c22, H⟩ := iN H
    have c22b0 := eq_true c22
    have c22b1 := decide_eq_true c22
    try have c22b2 : (9223372036854775807 < xs_.size + t335.size + 1 + t336.size + 1) = False := eq_false (Nat.not_lt.2 c22)
    obtain ⟨t337, A23, H⟩ := bS H
    try dsimp only at H
    obtain ⟨c24, H⟩ := iN H
    have c24b0 := eq_true c24
    have c24b1 := decide_eq_true c24
    try have c24b2 : (9223372036854775807 < xs_.size + t335.size + 1 + t336.size + 1 + t337.size) = False := eq_false (Nat.not_lt.2 c24)
    obtain ⟨c25, H⟩ := iN H
    have c25b0 := eq_true c25
    have c25b1 := decide_eq_true c25
    try have c25b2 : (9223372036854775807 < xs_.size + t335.size + 1 + t336.size + 1 + t337.size + 1) = False := eq_false (Nat.not_lt.2 c25)
    obtain ⟨t338, A26, H⟩ := bS H
    try dsimp only at H
    obtain ⟨c27, H⟩ := iN H
    have c27b0 := eq_true c27
    have c27b1 := decide_eq_true c27
    try have c27b2 : (9223372036854775807 < xs_.size + t335.size + 1 + t336.size + 1 + t337.size + 1 + t338.size) = False := eq_false (Nat.not_lt.2 c27)
    obtain ⟨c28, H⟩ := iN H
    have c28b0 := eq_true c28
    have c28b1 := decide_eq_true c28
    try have c28b2 : (9223372036854775807 < xs_.size + t335.size + 1 + t336.size + 1 + t337.size + 1 + t338.size + 1) = False := eq_false (Nat.not_lt.2 c28)
    obtain ⟨c29, H⟩ := iN H
    have c29b0 := eq_true c29
    have c29b1 := decide_eq_true c29
    try have c29b2 : (9223372036854775807 < xs_.size + t335.size + 1 + t336.size + 1 + t337.size + 1 + t338.size + 1 + (rdOf ByteArray.empty t328 x13_1).size) = False := eq_false (Nat.not_lt.2 c29)
    obtain ⟨c30, H⟩ := iN H
    have c30b0 := eq_true c30
    have c30b1 := decide_eq_true c30
    try have c30b2 : (9223372036854775807 < x5_1.size + (xs_.size + t335.size + 1 + t336.size + 1 + t337.size + 1 + t338.size + 1 + (rdOf ByteArray.empty t328 x13_1).size)) = False := eq_false (Nat.not_lt.2 c30)
    by_cases c31 : ((rd_T65 l0_0 t332).f0) = 2
    ·rw [if_pos c31] at H
     have c31b0 := beq_iff_eq.mpr c31
     have c31b1 := bne_eq_false_iff_eq.mpr c31
     clear c31
     obtain ⟨c32, H⟩ := iN H
     have c32b0 := eq_true c32
     have c32b1 := decide_eq_true c32
     try have c32b2 : (9223372036854775807 < x5_1.size + (xs_.size + t335.size + 1 + t336.size + 1 + t337.size + 1 + t338.size + 1 + (rdOf ByteArray.empty t328 x13_1).size) + 1) = False := eq_false (Nat.not_lt.2 c32)
     have H' := Aside0.mk H
     clear H
     have p331 : 0 ≤ (x13_1 : Int) := sO
     have q331 : x13_1 < (t328.length : Int) := sO
     obtain ⟨ad331, e331, hx331_0⟩ := Kd.at_string (Kd.R_reads' HO_11.out).2.2 x13_1 p331 q331
     cases e331
     replace p331 := eq_true p331
     replace q331 := eq_true q331
     try go_wp2
     have n0_ := Aside0.mk (Kd.R_drew HO_11.out)
     have n1_ := Aside0.mk (blk_drew BK327.out)
     have n2_ := Aside0.mk (below_drew1 HB.out)
     clear HO_11
     clear BK327
     clear HB
     have HO_11 := n0_
     have BK327 := n1_
     have HB := n2_
     clear n0_ n1_ n2_
     have p333 : 0 ≤ (t332 : Int) := sO
     have q333 : t332 < (l0_0.length : Int) := sO
     obtain ⟨ad333, A333_6, c333_6, e333, hx333_0, hx333_1, hx333_2, hx333_3, hx333_4, hx333_5, hx333_6, hl333_6, hi333_6⟩ := at_T65 HR0_0.out t332 p333 q333
     have hw333_6 := hx333_6
     have hw333_5 := hx333_5
     have hw333_4 := hx333_4
     have hw333_3 := hx333_3
     have hw333_2 := hx333_2
     have hw333_1 := hx333_1
     have hw333_0 := hx333_0
     cases e333
     replace hx333_0 := hB HB hx333_0
     replace hx333_1 := hB HB hx333_1
     replace hx333_2 := hB HB hx333_2
     replace hx333_3 := hB HB hx333_3
     replace hx333_4 := hB HB hx333_4
     replace hx333_5 := hB HB hx333_5
     replace hx333_6 := hB HB hx333_6
     have HR333_6 := Aside0.mk hi333_6
     have HC333_6 := Aside0.mk hl333_6
     clear hi333_6 hl333_6
     replace p333 := eq_true p333
     replace q333 := eq_true q333
     refine st9 10 [] (cz0 BK327) (cz1 BK327) (hB HB hw333_0 :) (hB HB hw333_1 :) (hB HB hw333_2 :) (hB HB hw333_3 :) (hB HB hw333_4 :) (hB HB hw333_5 :) (hB HB hw333_6 :) (fun hHeld => ?_); refine with_tabW spec_l7Text.tab5 spec_l7Text.bits5 (fun HT_ HW_ => ?_)
     generalize wr.drew = w33 at HO_11 BK327 HB HR333_6 hx333_0 hx333_1 hx333_2 hx333_3 hx333_4 hx333_5 hx333_6 hHeld ⊢
     refine pu 0 17 ?_
     refine pu 3 20 ?_
     refine pu 4 21 ?_
     refine tk9 1 18 ?_
     refine tk9 2 19 ?_
     refine join_ (σ := Nat) 1 #[true, true, true, true, true, true, true, true, true, false] (fun s_ => [(22, .int .i64 t332), (8, .pointer (some ⟨s_, 0, none⟩)), (23, .pointer (some (ad333.add ((t332).toNat * 7)))), (24, .agg #[.int .i64 ((rd_T65 l0_0 t332).f0), .int .i64 ((rd_T65 l0_0 t332).f1), .int .i64 ((rd_T65 l0_0 t332).f2), .int .i64 ((rd_T65 l0_0 t332).f3), .int .i64 ((rd_T65 l0_0 t332).f4), .string ((rd_T65 l0_0 t332).f5), .slice A333_6 ((rd_T65 l0_0 t332).f6).length c333_6])]) (fun s_ w' => (w'.cell? ⟨gb327, 0, none⟩ = some (.slice (some ad333) l0_0.length c0_0) ∧ w'.cell? ⟨gb327, 1, none⟩ = some (.int .i64 a0_1) ∧ w'.cell? (ad333.add ((t332).toNat * 7)) = some (.int .i64 ((rd_T65 l0_0 t332).f0)) ∧ w'.cell? ⟨(ad333.add ((t332).toNat * 7)).block, (ad333.add ((t332).toNat * 7)).off + 1, none⟩ = some (.int .i64 ((rd_T65 l0_0 t332).f1)) ∧ w'.cell? ⟨(ad333.add ((t332).toNat * 7)).block, (ad333.add ((t332).toNat * 7)).off + 2, none⟩ = some (.int .i64 ((rd_T65 l0_0 t332).f2)) ∧ w'.cell? ⟨(ad333.add ((t332).toNat * 7)).block, (ad333.add ((t332).toNat * 7)).off + 3, none⟩ = some (.int .i64 ((rd_T65 l0_0 t332).f3)) ∧ w'.cell? ⟨(ad333.add ((t332).toNat * 7)).block, (ad333.add ((t332).toNat * 7)).off + 4, none⟩ = some (.int .i64 ((rd_T65 l0_0 t332).f4)) ∧ w'.cell? ⟨(ad333.add ((t332).toNat * 7)).block, (ad333.add ((t332).toNat * 7)).off + 5, none⟩ = some (.string ((rd_T65 l0_0 t332).f5)) ∧ w'.cell? ⟨(ad333.add ((t332).toNat * 7)).block, (ad333.add ((t332).toNat * 7)).off + 6, none⟩ = some (.slice A333_6 ((rd_T65 l0_0 t332).f6).length c333_6)) ∧ (Kd.R Kd.string 9 w' w.heap.size (fun _ => True) (.slice (some ad331) t328.length co7) t328) ∧ (w'.heap[gb327]? = some (.cells #[.slice (some ad333) l0_0.length c0_0, .int .i64 a0_1] 30 (0, 0))) ∧ (w'.heap[s_]? = some (.cells #[.int .i64 0, .int .i64 0, .int .i64 0, .int .i64 0, .int .i64 0, .string (⟨#[]⟩ : ByteArray), .slice none 0 0] 65 (0, 0))) ∧ (w.heap.size ≤ s_) ∧ (w.heap.size ≤ s_) ∧ (gb327 ≠ s_) ∧ (s_ ≠ gb327) ∧ (Below w.heap.size w w')) ?_ ?_
     rotate_left
     ·intro hCont
      refine two_ (i := 5) (j := 8) (Ni := some 22) (Nj := some 8) #[true, true, true, true, true, true, false, false, false, false] #[true, true, true, true, true, false, false, false, true, false] rfl rfl rfl rfl (two_of HT_.out (by kernel_rfl)) (by decide) (by decide) (fun K hK => ?_) (fun K hK => ?_)
      ·skip
       refine gC Tryz.func52 #[.agg #[.slice (some ad333) l0_0.length c0_0, .int .i64 a0_1], .int .i64 a1, .string (rdOf ByteArray.empty t328 x13_1)] ?_
       with_reducible refine (spec_l7At.calls k1 _ _ l0_0 a0_1 a1 (rdOf ByteArray.empty t328 x13_1) t332 _ ?side1 ?side2 A11.out).mono ?_
       (case side1 => exact sD (Kd.C_below HR0_0.out HB.out))
       (case side2 => exact HC0_0.out)
       rintro e w34 ⟨rfl, hb⟩
       refine ⟨_, rfl, ?_⟩
       have n0_ := nR HO_11 hb
       have n1_ := nK BK327 hb
       have n2_ := nSC hb
       clear HO_11
       clear BK327
       clear HB
       have HO_11 := n0_
       have BK327 := n1_
       have HB := n2_
       clear n0_ n1_ n2_
       (try clear hb)
       (try clear hb2)
       (try clear hk)
       (try clear hi)
       refine hK.out _ _ ⟨cz0 BK327, cz1 BK327, (hB HB hw333_0 :), (hB HB hw333_1 :), (hB HB hw333_2 :), (hB HB hw333_3 :), (hB HB hw333_4 :), (hB HB hw333_5 :), (hB HB hw333_6 :)⟩ (fun hHeld => ?_)
       clear hK K
       refine ndN 22 ?_
       refine pu 6 23 ?_
       refine tk9 7 24 ?_
       refine on 8 8 (fun K hK => ?_)
       refine box_step ?hg (N := 8) ?hd (cs := #[.int .i64 0, .int .i64 0, .int .i64 0, .int .i64 0, .int .i64 0, .string (⟨#[]⟩ : ByteArray), .slice none 0 0]) (t := 65) ?hr ?_; (case hd => rfl); (case hg => rfl); (case hr => first | (go_simp; done) | (go_simp; rfl))
       intro gb334 hg w35 hbox hb
       have n0_ := nR HO_11 hb
       have n1_ := nK BK327 hb
       have n2_ := nSC hb
       have n3_ := Aside0.mk hbox
       have n4_ := nGC hg
       have n5_ := nGC hg
       have n6_ := nL BK327 hg
       have n7_ := nH BK327 hg
       clear HO_11
       clear BK327
       clear HB
       have HO_11 := n0_
       have BK327 := n1_
       have HB := n2_
       have BK334 := n3_
       have GW334 := n4_
       have GE334 := n5_
       have NB327_334 := n6_
       have NB334_327 := n7_
       clear n0_ n1_ n2_ n3_ n4_ n5_ n6_ n7_
       clear hb hbox hg
       refine hK.out _ _ ⟨cz0 BK327, cz1 BK327, (hB HB hw333_0 :), (hB HB hw333_1 :), (hB HB hw333_2 :), (hB HB hw333_3 :), (hB HB hw333_4 :), (hB HB hw333_5 :), (hB HB hw333_6 :)⟩ (fun hHeld => ?_)
       clear hK K
       refine ndN 8 ?_
       exact norm_ (by simp only [putAll, Act.put, List.setIfInBounds_toArray, List.set_cons_zero, List.set_cons_succ]) (hCont (gb334) _ ⟨hHeld, (by (with_reducible repeat (first | apply Kd.R_alloc | apply Kd.R_drewN | apply Kd.R_drew)); exact HO_11.out), (sK BK327), (sK BK334), GW334.out, GE334.out, NB327_334.out, NB334_327.out, sC⟩)
      ·skip
       refine box_step ?hg (N := 8) ?hd (cs := #[.int .i64 0, .int .i64 0, .int .i64 0, .int .i64 0, .int .i64 0, .string (⟨#[]⟩ : ByteArray), .slice none 0 0]) (t := 65) ?hr ?_; (case hd => rfl); (case hg => rfl); (case hr => first | (go_simp; done) | (go_simp; rfl))
       intro gb334 hg w34 hbox hb
       have n0_ := nR HO_11 hb
       have n1_ := nK BK327 hb
       have n2_ := nSC hb
       have n3_ := Aside0.mk hbox
       have n4_ := nGC hg
       have n5_ := nGC hg
       have n6_ := nL BK327 hg
       have n7_ := nH BK327 hg
       clear HO_11
       clear BK327
       clear HB
       have HO_11 := n0_
       have BK327 := n1_
       have HB := n2_
       have BK334 := n3_
       have GW334 := n4_
       have GE334 := n5_
       have NB327_334 := n6_
       have NB334_327 := n7_
       clear n0_ n1_ n2_ n3_ n4_ n5_ n6_ n7_
       clear hb hbox hg
       refine hK.out _ _ ⟨cz0 BK327, cz1 BK327, (hB HB hw333_0 :), (hB HB hw333_1 :), (hB HB hw333_2 :), (hB HB hw333_3 :), (hB HB hw333_4 :), (hB HB hw333_5 :), (hB HB hw333_6 :)⟩ (fun hHeld => ?_)
       clear hK K
       refine ndN 8 ?_
       refine on 5 22 (fun K hK => ?_)
       refine gC Tryz.func52 #[.agg #[.slice (some ad333) l0_0.length c0_0, .int .i64 a0_1], .int .i64 a1, .string (rdOf ByteArray.empty t328 x13_1)] ?_
       with_reducible refine (spec_l7At.calls k1 _ _ l0_0 a0_1 a1 (rdOf ByteArray.empty t328 x13_1) t332 _ ?side1 ?side2 A11.out).mono ?_
       (case side1 => exact sD (Kd.C_below HR0_0.out HB.out))
       (case side2 => exact HC0_0.out)
       rintro e w35 ⟨rfl, hb⟩
       refine ⟨_, rfl, ?_⟩
       have n0_ := nR HO_11 hb
       have n1_ := nK BK327 hb
       have n2_ := Aside0.mk (blk_below (g := gb334) (o := .cells #[.int .i64 0, .int .i64 0, .int .i64 0, .int .i64 0, .int .i64 0, .string (⟨#[]⟩ : ByteArray), .slice none 0 0] 65 (0, 0)) (sK BK334) hb)
       have n3_ := nSC hb
       clear HO_11
       clear BK327
       clear BK334
       clear HB
       have HO_11 := n0_
       have BK327 := n1_
       have BK334 := n2_
       have HB := n3_
       clear n0_ n1_ n2_ n3_
       (try clear hb)
       (try clear hb2)
       (try clear hk)
       (try clear hi)
       refine hK.out _ _ ⟨cz0 BK327, cz1 BK327, (hB HB hw333_0 :), (hB HB hw333_1 :), (hB HB hw333_2 :), (hB HB hw333_3 :), (hB HB hw333_4 :), (hB HB hw333_5 :), (hB HB hw333_6 :)⟩ (fun hHeld => ?_)
       clear hK K
       refine ndN 22 ?_
       refine pu 6 23 ?_
       refine tk9 7 24 ?_
       exact norm_ (by simp only [putAll, Act.put, List.setIfInBounds_toArray, List.set_cons_zero, List.set_cons_succ]) (hCont (gb334) _ ⟨hHeld, (by (with_reducible repeat (first | apply Kd.R_alloc | apply Kd.R_drewN | apply Kd.R_drew)); exact HO_11.out), (sK BK327), (sK BK334), GW334.out, GE334.out, NB327_334.out, NB334_327.out, sC⟩)
     rintro gb334 w36 ⟨hS_, h0_, h1_, h2_, h3_, h4_, h5_, h6_, h7_⟩
     have n0_ : Aside0 (Kd.R Kd.string 9 w36 w.heap.size (fun _ => True) (.slice (some ad331) t328.length co7) t328) := ⟨h0_⟩
     have n1_ : Aside0 (w36.heap[gb327]? = some (.cells #[.slice (some ad333) l0_0.length c0_0, .int .i64 a0_1] 30 (0, 0))) := ⟨h1_⟩
     have n2_ : Aside0 (w36.heap[gb334]? = some (.cells #[.int .i64 0, .int .i64 0, .int .i64 0, .int .i64 0, .int .i64 0, .string (⟨#[]⟩ : ByteArray), .slice none 0 0] 65 (0, 0))) := ⟨h2_⟩
     have n3_ : Aside0 (w.heap.size ≤ gb334) := ⟨h3_⟩
     have n4_ : Aside0 (w.heap.size ≤ gb334) := ⟨h4_⟩
     have n5_ : Aside0 (gb327 ≠ gb334) := ⟨h5_⟩
     have n6_ : Aside0 (gb334 ≠ gb327) := ⟨h6_⟩
     have n7_ : Aside0 (Below w.heap.size w w36) := ⟨h7_⟩
     clear HO_11
     clear BK327
     clear HB
     clear h0_ h1_ h2_ h3_ h4_ h5_ h6_ h7_
     have HO_11 := n0_
     have BK327 := n1_
     have BK334 := n2_
     have GW334 := n3_
     have GE334 := n4_
     have NB327_334 := n5_
     have NB334_327 := n6_
     have HB := n7_
     clear n0_ n1_ n2_ n3_ n4_ n5_ n6_ n7_
     have hHeld : w36.cell? ⟨gb327, 0, none⟩ = some (.slice (some ad333) l0_0.length c0_0) ∧ w36.cell? ⟨gb327, 1, none⟩ = some (.int .i64 a0_1) ∧ w36.cell? (ad333.add ((t332).toNat * 7)) = some (.int .i64 ((rd_T65 l0_0 t332).f0)) ∧ w36.cell? ⟨(ad333.add ((t332).toNat * 7)).block, (ad333.add ((t332).toNat * 7)).off + 1, none⟩ = some (.int .i64 ((rd_T65 l0_0 t332).f1)) ∧ w36.cell? ⟨(ad333.add ((t332).toNat * 7)).block, (ad333.add ((t332).toNat * 7)).off + 2, none⟩ = some (.int .i64 ((rd_T65 l0_0 t332).f2)) ∧ w36.cell? ⟨(ad333.add ((t332).toNat * 7)).block, (ad333.add ((t332).toNat * 7)).off + 3, none⟩ = some (.int .i64 ((rd_T65 l0_0 t332).f3)) ∧ w36.cell? ⟨(ad333.add ((t332).toNat * 7)).block, (ad333.add ((t332).toNat * 7)).off + 4, none⟩ = some (.int .i64 ((rd_T65 l0_0 t332).f4)) ∧ w36.cell? ⟨(ad333.add ((t332).toNat * 7)).block, (ad333.add ((t332).toNat * 7)).off + 5, none⟩ = some (.string ((rd_T65 l0_0 t332).f5)) ∧ w36.cell? ⟨(ad333.add ((t332).toNat * 7)).block, (ad333.add ((t332).toNat * 7)).off + 6, none⟩ = some (.slice A333_6 ((rd_T65 l0_0 t332).f6).length c333_6) := hS_
     refine norm_ (a' := ?_) ?_ ?_
     rotate_left
     ·simp only [putAll, Act.put, List.setIfInBounds_toArray, List.set_cons_zero, List.set_cons_succ]
      rfl
     refine one_ (i := 9) (N := none) #[true, true, true, true, true, true, true, true, true, true] rfl rfl (one_of HT_.out (by kernel_rfl)) (by decide) (fun K hK => ?_)
     have hs37 : w36.cell? ⟨gb334, 0, none⟩ = some (.int .i64 0) := (blk_cell BK334.out 0).trans rfl
     have hfs37 := blk_frozen BK334.out 0
     have hns37_0 := NB327_334.out
     have hms37_0 := NB334_327.out
     have hs38 : w36.cell? ⟨gb334, 1, none⟩ = some (.int .i64 0) := (blk_cell BK334.out 1).trans rfl
     have hfs38 := blk_frozen BK334.out 1
     have hns38_0 := NB327_334.out
     have hms38_0 := NB334_327.out
     have hs39 : w36.cell? ⟨gb334, 2, none⟩ = some (.int .i64 0) := (blk_cell BK334.out 2).trans rfl
     have hfs39 := blk_frozen BK334.out 2
     have hns39_0 := NB327_334.out
     have hms39_0 := NB334_327.out
     have hs40 : w36.cell? ⟨gb334, 3, none⟩ = some (.int .i64 0) := (blk_cell BK334.out 3).trans rfl
     have hfs40 := blk_frozen BK334.out 3
     have hns40_0 := NB327_334.out
     have hms40_0 := NB334_327.out
     have hs41 : w36.cell? ⟨gb334, 4, none⟩ = some (.int .i64 0) := (blk_cell BK334.out 4).trans rfl
     have hfs41 := blk_frozen BK334.out 4
     have hns41_0 := NB327_334.out
     have hms41_0 := NB334_327.out
     have hs42 : w36.cell? ⟨gb334, 5, none⟩ = some (.string (⟨#[]⟩ : ByteArray)) := (blk_cell BK334.out 5).trans rfl
     have hfs42 := blk_frozen BK334.out 5
     have hns42_0 := NB327_334.out
     have hms42_0 := NB334_327.out
     have hs43 : w36.cell? ⟨gb334, 6, none⟩ = some (.slice none 0 0) := (blk_cell BK334.out 6).trans rfl
     have hfs43 := blk_frozen BK334.out 6
     have hns43_0 := NB327_334.out
     have hms43_0 := NB334_327.out
     refine skip_ (w1 := ?_) (by rfl) rfl ?_ ?_
     rotate_left
     ·go_simp
      rfl
     refine hK.out _ _ ⟨((cell_far (p := ⟨gb334, _, none⟩) NB327_334.out _).trans (((cell_far (p := ⟨gb334, _, none⟩) NB327_334.out _).trans (((cell_far (p := ⟨gb334, _, none⟩) NB327_334.out _).trans (((cell_far (p := ⟨gb334, _, none⟩) NB327_334.out _).trans (((cell_far (p := ⟨gb334, _, none⟩) NB327_334.out _).trans (((cell_far (p := ⟨gb334, _, none⟩) NB327_334.out _).trans (((cell_far (p := ⟨gb334, _, none⟩) NB327_334.out _).trans (hHeld.1)))))))))))))), ((cell_far (p := ⟨gb334, _, none⟩) NB327_334.out _).trans (((cell_far (p := ⟨gb334, _, none⟩) NB327_334.out _).trans (((cell_far (p := ⟨gb334, _, none⟩) NB327_334.out _).trans (((cell_far (p := ⟨gb334, _, none⟩) NB327_334.out _).trans (((cell_far (p := ⟨gb334, _, none⟩) NB327_334.out _).trans (((cell_far (p := ⟨gb334, _, none⟩) NB327_334.out _).trans (((cell_far (p := ⟨gb334, _, none⟩) NB327_334.out _).trans (hHeld.2.1)))))))))))))), ((cell_far (p := ⟨gb334, _, none⟩) (by first | exact Nat.ne_of_lt (Nat.lt_of_lt_of_le (by have := World.block_lt_of_cell? _ _ hw333_0; first | rwa [add_block] at this | exact this) GW334.out) | (rw [add_block]; exact Nat.ne_of_lt (Nat.lt_of_lt_of_le (by have := World.block_lt_of_cell? _ _ hw333_0; first | rwa [add_block] at this | exact this) GW334.out)) | (show (Addr.add _ _).block ≠ _; rw [add_block]; exact Nat.ne_of_lt (Nat.lt_of_lt_of_le (by have := World.block_lt_of_cell? _ _ hw333_0; first | rwa [add_block] at this | exact this) GW334.out)) | (dsimp only; exact Nat.ne_of_lt (Nat.lt_of_lt_of_le (by have := World.block_lt_of_cell? _ _ hw333_0; first | rwa [add_block] at this | exact this) GW334.out))) _).trans (((cell_far (p := ⟨gb334, _, none⟩) (by first | exact Nat.ne_of_lt (Nat.lt_of_lt_of_le (by have := World.block_lt_of_cell? _ _ hw333_0; first | rwa [add_block] at this | exact this) GW334.out) | (rw [add_block]; exact Nat.ne_of_lt (Nat.lt_of_lt_of_le (by have := World.block_lt_of_cell? _ _ hw333_0; first | rwa [add_block] at this | exact this) GW334.out)) | (show (Addr.add _ _).block ≠ _; rw [add_block]; exact Nat.ne_of_lt (Nat.lt_of_lt_of_le (by have := World.block_lt_of_cell? _ _ hw333_0; first | rwa [add_block] at this | exact this) GW334.out)) | (dsimp only; exact Nat.ne_of_lt (Nat.lt_of_lt_of_le (by have := World.block_lt_of_cell? _ _ hw333_0; first | rwa [add_block] at this | exact this) GW334.out))) _).trans (((cell_far (p := ⟨gb334, _, none⟩) (by first | exact Nat.ne_of_lt (Nat.lt_of_lt_of_le (by have := World.block_lt_of_cell? _ _ hw333_0; first | rwa [add_block] at this | exact this) GW334.out) | (rw [add_block]; exact Nat.ne_of_lt (Nat.lt_of_lt_of_le (by have := World.block_lt_of_cell? _ _ hw333_0; first | rwa [add_block] at this | exact this) GW334.out)) | (show (Addr.add _ _).block ≠ _; rw [add_block]; exact Nat.ne_of_lt (Nat.lt_of_lt_of_le (by have := World.block_lt_of_cell? _ _ hw333_0; first | rwa [add_block] at this | exact this) GW334.out)) | (dsimp only; exact Nat.ne_of_lt (Nat.lt_of_lt_of_le (by have := World.block_lt_of_cell? _ _ hw333_0; first | rwa [add_block] at this | exact this) GW334.out))) _).trans (((cell_far (p := ⟨gb334, _, none⟩) (by first | exact Nat.ne_of_lt (Nat.lt_of_lt_of_le (by have := World.block_lt_of_cell? _ _ hw333_0; first | rwa [add_block] at this | exact this) GW334.out) | (rw [add_block]; exact Nat.ne_of_lt (Nat.lt_of_lt_of_le (by have := World.block_lt_of_cell? _ _ hw333_0; first | rwa [add_block] at this | exact this) GW334.out)) | (show (Addr.add _ _).block ≠ _; rw [add_block]; exact Nat.ne_of_lt (Nat.lt_of_lt_of_le (by have := World.block_lt_of_cell? _ _ hw333_0; first | rwa [add_block] at this | exact this) GW334.out)) | (dsimp only; exact Nat.ne_of_lt (Nat.lt_of_lt_of_le (by have := World.block_lt_of_cell? _ _ hw333_0; first | rwa [add_block] at this | exact this) GW334.out))) _).trans (((cell_far (p := ⟨gb334, _, none⟩) (by first | exact Nat.ne_of_lt (Nat.lt_of_lt_of_le (by have := World.block_lt_of_cell? _ _ hw333_0; first | rwa [add_block] at this | exact this) GW334.out) | (rw [add_block]; exact Nat.ne_of_lt (Nat.lt_of_lt_of_le (by have := World.block_lt_of_cell? _ _ hw333_0; first | rwa [add_block] at this | exact this) GW334.out)) | (show (Addr.add _ _).block ≠ _; rw [add_block]; exact Nat.ne_of_lt (Nat.lt_of_lt_of_le (by have := World.block_lt_of_cell? _ _ hw333_0; first | rwa [add_block] at this | exact this) GW334.out)) | (dsimp only; exact Nat.ne_of_lt (Nat.lt_of_lt_of_le (by have := World.block_lt_of_cell? _ _ hw333_0; first | rwa [add_block] at this | exact this) GW334.out))) _).trans (((cell_far (p := ⟨gb334, _, none⟩) (by first | exact Nat.ne_of_lt (Nat.lt_of_lt_of_le (by have := World.block_lt_of_cell? _ _ hw333_0; first | rwa [add_block] at this | exact this) GW334.out) | (rw [add_block]; exact Nat.ne_of_lt (Nat.lt_of_lt_of_le (by have := World.block_lt_of_cell? _ _ hw333_0; first | rwa [add_block] at this | exact this) GW334.out)) | (show (Addr.add _ _).block ≠ _; rw [add_block]; exact Nat.ne_of_lt (Nat.lt_of_lt_of_le (by have := World.block_lt_of_cell? _ _ hw333_0; first | rwa [add_block] at this | exact this) GW334.out)) | (dsimp only; exact Nat.ne_of_lt (Nat.lt_of_lt_of_le (by have := World.block_lt_of_cell? _ _ hw333_0; first | rwa [add_block] at this | exact this) GW334.out))) _).trans (((cell_far (p := ⟨gb334, _, none⟩) (by first | exact Nat.ne_of_lt (Nat.lt_of_lt_of_le (by have := World.block_lt_of_cell? _ _ hw333_0; first | rwa [add_block] at this | exact this) GW334.out) | (rw [add_block]; exact Nat.ne_of_lt (Nat.lt_of_lt_of_le (by have := World.block_lt_of_cell? _ _ hw333_0; first | rwa [add_block] at this | exact this) GW334.out)) | (show (Addr.add _ _).block ≠ _; rw [add_block]; exact Nat.ne_of_lt (Nat.lt_of_lt_of_le (by have := World.block_lt_of_cell? _ _ hw333_0; first | rwa [add_block] at this | exact this) GW334.out)) | (dsimp only; exact Nat.ne_of_lt (Nat.lt_of_lt_of_le (by have := World.block_lt_of_cell? _ _ hw333_0; first | rwa [add_block] at this | exact this) GW334.out))) _).trans (hHeld.2.2.1)))))))))))))), ((cell_far (p := ⟨gb334, _, none⟩) (by first | exact Nat.ne_of_lt (Nat.lt_of_lt_of_le (by have := World.block_lt_of_cell? _ _ hw333_1; first | rwa [add_block] at this | exact this) GW334.out) | (rw [add_block]; exact Nat.ne_of_lt (Nat.lt_of_lt_of_le (by have := World.block_lt_of_cell? _ _ hw333_1; first | rwa [add_block] at this | exact this) GW334.out)) | (show (Addr.add _ _).block ≠ _; rw [add_block]; exact Nat.ne_of_lt (Nat.lt_of_lt_of_le (by have := World.block_lt_of_cell? _ _ hw333_1; first | rwa [add_block] at this | exact this) GW334.out)) | (dsimp only; exact Nat.ne_of_lt (Nat.lt_of_lt_of_le (by have := World.block_lt_of_cell? _ _ hw333_1; first | rwa [add_block] at this | exact this) GW334.out))) _).trans (((cell_far (p := ⟨gb334, _, none⟩) (by first | exact Nat.ne_of_lt (Nat.lt_of_lt_of_le (by have := World.block_lt_of_cell? _ _ hw333_1; first | rwa [add_block] at this | exact this) GW334.out) | (rw [add_block]; exact Nat.ne_of_lt (Nat.lt_of_lt_of_le (by have := World.block_lt_of_cell? _ _ hw333_1; first | rwa [add_block] at this | exact this) GW334.out)) | (show (Addr.add _ _).block ≠ _; rw [add_block]; exact Nat.ne_of_lt (Nat.lt_of_lt_of_le (by have := World.block_lt_of_cell? _ _ hw333_1; first | rwa [add_block] at this | exact this) GW334.out)) | (dsimp only; exact Nat.ne_of_lt (Nat.lt_of_lt_of_le (by have := World.block_lt_of_cell? _ _ hw333_1; first | rwa [add_block] at this | exact this) GW334.out))) _).trans (((cell_far (p := ⟨gb334, _, none⟩) (by first | exact Nat.ne_of_lt (Nat.lt_of_lt_of_le (by have := World.block_lt_of_cell? _ _ hw333_1; first | rwa [add_block] at this | exact this) GW334.out) | (rw [add_block]; exact Nat.ne_of_lt (Nat.lt_of_lt_of_le (by have := World.block_lt_of_cell? _ _ hw333_1; first | rwa [add_block] at this | exact this) GW334.out)) | (show (Addr.add _ _).block ≠ _; rw [add_block]; exact Nat.ne_of_lt (Nat.lt_of_lt_of_le (by have := World.block_lt_of_cell? _ _ hw333_1; first | rwa [add_block] at this | exact this) GW334.out)) | (dsimp only; exact Nat.ne_of_lt (Nat.lt_of_lt_of_le (by have := World.block_lt_of_cell? _ _ hw333_1; first | rwa [add_block] at this | exact this) GW334.out))) _).trans (((cell_far (p := ⟨gb334, _, none⟩) (by first | exact Nat.ne_of_lt (Nat.lt_of_lt_of_le (by have := World.block_lt_of_cell? _ _ hw333_1; first | rwa [add_block] at this | exact this) GW334.out) | (rw [add_block]; exact Nat.ne_of_lt (Nat.lt_of_lt_of_le (by have := World.block_lt_of_cell? _ _ hw333_1; first | rwa [add_block] at this | exact this) GW334.out)) | (show (Addr.add _ _).block ≠ _; rw [add_block]; exact Nat.ne_of_lt (Nat.lt_of_lt_of_le (by have := World.block_lt_of_cell? _ _ hw333_1; first | rwa [add_block] at this | exact this) GW334.out)) | (dsimp only; exact Nat.ne_of_lt (Nat.lt_of_lt_of_le (by have := World.block_lt_of_cell? _ _ hw333_1; first | rwa [add_block] at this | exact this) GW334.out))) _).trans (((cell_far (p := ⟨gb334, _, none⟩) (by first | exact Nat.ne_of_lt (Nat.lt_of_lt_of_le (by have := World.block_lt_of_cell? _ _ hw333_1; first | rwa [add_block] at this | exact this) GW334.out) | (rw [add_block]; exact Nat.ne_of_lt (Nat.lt_of_lt_of_le (by have := World.block_lt_of_cell? _ _ hw333_1; first | rwa [add_block] at this | exact this) GW334.out)) | (show (Addr.add _ _).block ≠ _; rw [add_block]; exact Nat.ne_of_lt (Nat.lt_of_lt_of_le (by have := World.block_lt_of_cell? _ _ hw333_1; first | rwa [add_block] at this | exact this) GW334.out)) | (dsimp only; exact Nat.ne_of_lt (Nat.lt_of_lt_of_le (by have := World.block_lt_of_cell? _ _ hw333_1; first | rwa [add_block] at this | exact this) GW334.out))) _).trans (((cell_far (p := ⟨gb334, _, none⟩) (by first | exact Nat.ne_of_lt (Nat.lt_of_lt_of_le (by have := World.block_lt_of_cell? _ _ hw333_1; first | rwa [add_block] at this | exact this) GW334.out) | (rw [add_block]; exact Nat.ne_of_lt (Nat.lt_of_lt_of_le (by have := World.block_lt_of_cell? _ _ hw333_1; first | rwa [add_block] at this | exact this) GW334.out)) | (show (Addr.add _ _).block ≠ _; rw [add_block]; exact Nat.ne_of_lt (Nat.lt_of_lt_of_le (by have := World.block_lt_of_cell? _ _ hw333_1; first | rwa [add_block] at this | exact this) GW334.out)) | (dsimp only; exact Nat.ne_of_lt (Nat.lt_of_lt_of_le (by have := World.block_lt_of_cell? _ _ hw333_1; first | rwa [add_block] at this | exact this) GW334.out))) _).trans (((cell_far (p := ⟨gb334, _, none⟩) (by first | exact Nat.ne_of_lt (Nat.lt_of_lt_of_le (by have := World.block_lt_of_cell? _ _ hw333_1; first | rwa [add_block] at this | exact this) GW334.out) | (rw [add_block]; exact Nat.ne_of_lt (Nat.lt_of_lt_of_le (by have := World.block_lt_of_cell? _ _ hw333_1; first | rwa [add_block] at this | exact this) GW334.out)) | (show (Addr.add _ _).block ≠ _; rw [add_block]; exact Nat.ne_of_lt (Nat.lt_of_lt_of_le (by have := World.block_lt_of_cell? _ _ hw333_1; first | rwa [add_block] at this | exact this) GW334.out)) | (dsimp only; exact Nat.ne_of_lt (Nat.lt_of_lt_of_le (by have := World.block_lt_of_cell? _ _ hw333_1; first | rwa [add_block] at this | exact this) GW334.out))) _).trans (hHeld.2.2.2.1)))))))))))))), ((cell_far (p := ⟨gb334, _, none⟩) (by first | exact Nat.ne_of_lt (Nat.lt_of_lt_of_le (by have := World.block_lt_of_cell? _ _ hw333_2; first | rwa [add_block] at this | exact this) GW334.out) | (rw [add_block]; exact Nat.ne_of_lt (Nat.lt_of_lt_of_le (by have := World.block_lt_of_cell? _ _ hw333_2; first | rwa [add_block] at this | exact this) GW334.out)) | (show (Addr.add _ _).block ≠ _; rw [add_block]; exact Nat.ne_of_lt (Nat.lt_of_lt_of_le (by have := World.block_lt_of_cell? _ _ hw333_2; first | rwa [add_block] at this | exact this) GW334.out)) | (dsimp only; exact Nat.ne_of_lt (Nat.lt_of_lt_of_le (by have := World.block_lt_of_cell? _ _ hw333_2; first | rwa [add_block] at this | exact this) GW334.out))) _).trans (((cell_far (p := ⟨gb334, _, none⟩) (by first | exact Nat.ne_of_lt (Nat.lt_of_lt_of_le (by have := World.block_lt_of_cell? _ _ hw333_2; first | rwa [add_block] at this | exact this) GW334.out) | (rw [add_block]; exact Nat.ne_of_lt (Nat.lt_of_lt_of_le (by have := World.block_lt_of_cell? _ _ hw333_2; first | rwa [add_block] at this | exact this) GW334.out)) | (show (Addr.add _ _).block ≠ _; rw [add_block]; exact Nat.ne_of_lt (Nat.lt_of_lt_of_le (by have := World.block_lt_of_cell? _ _ hw333_2; first | rwa [add_block] at this | exact this) GW334.out)) | (dsimp only; exact Nat.ne_of_lt (Nat.lt_of_lt_of_le (by have := World.block_lt_of_cell? _ _ hw333_2; first | rwa [add_block] at this | exact this) GW334.out))) _).trans (((cell_far (p := ⟨gb334, _, none⟩) (by first | exact Nat.ne_of_lt (Nat.lt_of_lt_of_le (by have := World.block_lt_of_cell? _ _ hw333_2; first | rwa [add_block] at this | exact this) GW334.out) | (rw [add_block]; exact Nat.ne_of_lt (Nat.lt_of_lt_of_le (by have := World.block_lt_of_cell? _ _ hw333_2; first | rwa [add_block] at this | exact this) GW334.out)) | (show (Addr.add _ _).block ≠ _; rw [add_block]; exact Nat.ne_of_lt (Nat.lt_of_lt_of_le (by have := World.block_lt_of_cell? _ _ hw333_2; first | rwa [add_block] at this | exact this) GW334.out)) | (dsimp only; exact Nat.ne_of_lt (Nat.lt_of_lt_of_le (by have := World.block_lt_of_cell? _ _ hw333_2; first | rwa [add_block] at this | exact this) GW334.out))) _).trans (((cell_far (p := ⟨gb334, _, none⟩) (by first | exact Nat.ne_of_lt (Nat.lt_of_lt_of_le (by have := World.block_lt_of_cell? _ _ hw333_2; first | rwa [add_block] at this | exact this) GW334.out) | (rw [add_block]; exact Nat.ne_of_lt (Nat.lt_of_lt_of_le (by have := World.block_lt_of_cell? _ _ hw333_2; first | rwa [add_block] at this | exact this) GW334.out)) | (show (Addr.add _ _).block ≠ _; rw [add_block]; exact Nat.ne_of_lt (Nat.lt_of_lt_of_le (by have := World.block_lt_of_cell? _ _ hw333_2; first | rwa [add_block] at this | exact this) GW334.out)) | (dsimp only; exact Nat.ne_of_lt (Nat.lt_of_lt_of_le (by have := World.block_lt_of_cell? _ _ hw333_2; first | rwa [add_block] at this | exact this) GW334.out))) _).trans (((cell_far (p := ⟨gb334, _, none⟩) (by first | exact Nat.ne_of_lt (Nat.lt_of_lt_of_le (by have := World.block_lt_of_cell? _ _ hw333_2; first | rwa [add_block] at this | exact this) GW334.out) | (rw [add_block]; exact Nat.ne_of_lt (Nat.lt_of_lt_of_le (by have := World.block_lt_of_cell? _ _ hw333_2; first | rwa [add_block] at this | exact this) GW334.out)) | (show (Addr.add _ _).block ≠ _; rw [add_block]; exact Nat.ne_of_lt (Nat.lt_of_lt_of_le (by have := World.block_lt_of_cell? _ _ hw333_2; first | rwa [add_block] at this | exact this) GW334.out)) | (dsimp only; exact Nat.ne_of_lt (Nat.lt_of_lt_of_le (by have := World.block_lt_of_cell? _ _ hw333_2; first | rwa [add_block] at this | exact this) GW334.out))) _).trans (((cell_far (p := ⟨gb334, _, none⟩) (by first | exact Nat.ne_of_lt (Nat.lt_of_lt_of_le (by have := World.block_lt_of_cell? _ _ hw333_2; first | rwa [add_block] at this | exact this) GW334.out) | (rw [add_block]; exact Nat.ne_of_lt (Nat.lt_of_lt_of_le (by have := World.block_lt_of_cell? _ _ hw333_2; first | rwa [add_block] at this | exact this) GW334.out)) | (show (Addr.add _ _).block ≠ _; rw [add_block]; exact Nat.ne_of_lt (Nat.lt_of_lt_of_le (by have := World.block_lt_of_cell? _ _ hw333_2; first | rwa [add_block] at this | exact this) GW334.out)) | (dsimp only; exact Nat.ne_of_lt (Nat.lt_of_lt_of_le (by have := World.block_lt_of_cell? _ _ hw333_2; first | rwa [add_block] at this | exact this) GW334.out))) _).trans (((cell_far (p := ⟨gb334, _, none⟩) (by first | exact Nat.ne_of_lt (Nat.lt_of_lt_of_le (by have := World.block_lt_of_cell? _ _ hw333_2; first | rwa [add_block] at this | exact this) GW334.out) | (rw [add_block]; exact Nat.ne_of_lt (Nat.lt_of_lt_of_le (by have := World.block_lt_of_cell? _ _ hw333_2; first | rwa [add_block] at this | exact this) GW334.out)) | (show (Addr.add _ _).block ≠ _; rw [add_block]; exact Nat.ne_of_lt (Nat.lt_of_lt_of_le (by have := World.block_lt_of_cell? _ _ hw333_2; first | rwa [add_block] at this | exact this) GW334.out)) | (dsimp only; exact Nat.ne_of_lt (Nat.lt_of_lt_of_le (by have := World.block_lt_of_cell? _ _ hw333_2; first | rwa [add_block] at this | exact this) GW334.out))) _).trans (hHeld.2.2.2.2.1)))))))))))))), ((cell_far (p := ⟨gb334, _, none⟩) (by first | exact Nat.ne_of_lt (Nat.lt_of_lt_of_le (by have := World.block_lt_of_cell? _ _ hw333_3; first | rwa [add_block] at this | exact this) GW334.out) | (rw [add_block]; exact Nat.ne_of_lt (Nat.lt_of_lt_of_le (by have := World.block_lt_of_cell? _ _ hw333_3; first | rwa [add_block] at this | exact this) GW334.out)) | (show (Addr.add _ _).block ≠ _; rw [add_block]; exact Nat.ne_of_lt (Nat.lt_of_lt_of_le (by have := World.block_lt_of_cell? _ _ hw333_3; first | rwa [add_block] at this | exact this) GW334.out)) | (dsimp only; exact Nat.ne_of_lt (Nat.lt_of_lt_of_le (by have := World.block_lt_of_cell? _ _ hw333_3; first | rwa [add_block] at this | exact this) GW334.out))) _).trans (((cell_far (p := ⟨gb334, _, none⟩) (by first | exact Nat.ne_of_lt (Nat.lt_of_lt_of_le (by have := World.block_lt_of_cell? _ _ hw333_3; first | rwa [add_block] at this | exact this) GW334.out) | (rw [add_block]; exact Nat.ne_of_lt (Nat.lt_of_lt_of_le (by have := World.block_lt_of_cell? _ _ hw333_3; first | rwa [add_block] at this | exact this) GW334.out)) | (show (Addr.add _ _).block ≠ _; rw [add_block]; exact Nat.ne_of_lt (Nat.lt_of_lt_of_le (by have := World.block_lt_of_cell? _ _ hw333_3; first | rwa [add_block] at this | exact this) GW334.out)) | (dsimp only; exact Nat.ne_of_lt (Nat.lt_of_lt_of_le (by have := World.block_lt_of_cell? _ _ hw333_3; first | rwa [add_block] at this | exact this) GW334.out))) _).trans (((cell_far (p := ⟨gb334, _, none⟩) (by first | exact Nat.ne_of_lt (Nat.lt_of_lt_of_le (by have := World.block_lt_of_cell? _ _ hw333_3; first | rwa [add_block] at this | exact this) GW334.out) | (rw [add_block]; exact Nat.ne_of_lt (Nat.lt_of_lt_of_le (by have := World.block_lt_of_cell? _ _ hw333_3; first | rwa [add_block] at this | exact this) GW334.out)) | (show (Addr.add _ _).block ≠ _; rw [add_block]; exact Nat.ne_of_lt (Nat.lt_of_lt_of_le (by have := World.block_lt_of_cell? _ _ hw333_3; first | rwa [add_block] at this | exact this) GW334.out)) | (dsimp only; exact Nat.ne_of_lt (Nat.lt_of_lt_of_le (by have := World.block_lt_of_cell? _ _ hw333_3; first | rwa [add_block] at this | exact this) GW334.out))) _).trans (((cell_far (p := ⟨gb334, _, none⟩) (by first | exact Nat.ne_of_lt (Nat.lt_of_lt_of_le (by have := World.block_lt_of_cell? _ _ hw333_3; first | rwa [add_block] at this | exact this) GW334.out) | (rw [add_block]; exact Nat.ne_of_lt (Nat.lt_of_lt_of_le (by have := World.block_lt_of_cell? _ _ hw333_3; first | rwa [add_block] at this | exact this) GW334.out)) | (show (Addr.add _ _).block ≠ _; rw [add_block]; exact Nat.ne_of_lt (Nat.lt_of_lt_of_le (by have := World.block_lt_of_cell? _ _ hw333_3; first | rwa [add_block] at this | exact this) GW334.out)) | (dsimp only; exact Nat.ne_of_lt (Nat.lt_of_lt_of_le (by have := World.block_lt_of_cell? _ _ hw333_3; first | rwa [add_block] at this | exact this) GW334.out))) _).trans (((cell_far (p := ⟨gb334, _, none⟩) (by first | exact Nat.ne_of_lt (Nat.lt_of_lt_of_le (by have := World.block_lt_of_cell? _ _ hw333_3; first | rwa [add_block] at this | exact this) GW334.out) | (rw [add_block]; exact Nat.ne_of_lt (Nat.lt_of_lt_of_le (by have := World.block_lt_of_cell? _ _ hw333_3; first | rwa [add_block] at this | exact this) GW334.out)) | (show (Addr.add _ _).block ≠ _; rw [add_block]; exact Nat.ne_of_lt (Nat.lt_of_lt_of_le (by have := World.block_lt_of_cell? _ _ hw333_3; first | rwa [add_block] at this | exact this) GW334.out)) | (dsimp only; exact Nat.ne_of_lt (Nat.lt_of_lt_of_le (by have := World.block_lt_of_cell? _ _ hw333_3; first | rwa [add_block] at this | exact this) GW334.out))) _).trans (((cell_far (p := ⟨gb334, _, none⟩) (by first | exact Nat.ne_of_lt (Nat.lt_of_lt_of_le (by have := World.block_lt_of_cell? _ _ hw333_3; first | rwa [add_block] at this | exact this) GW334.out) | (rw [add_block]; exact Nat.ne_of_lt (Nat.lt_of_lt_of_le (by have := World.block_lt_of_cell? _ _ hw333_3; first | rwa [add_block] at this | exact this) GW334.out)) | (show (Addr.add _ _).block ≠ _; rw [add_block]; exact Nat.ne_of_lt (Nat.lt_of_lt_of_le (by have := World.block_lt_of_cell? _ _ hw333_3; first | rwa [add_block] at this | exact this) GW334.out)) | (dsimp only; exact Nat.ne_of_lt (Nat.lt_of_lt_of_le (by have := World.block_lt_of_cell? _ _ hw333_3; first | rwa [add_block] at this | exact this) GW334.out))) _).trans (((cell_far (p := ⟨gb334, _, none⟩) (by first | exact Nat.ne_of_lt (Nat.lt_of_lt_of_le (by have := World.block_lt_of_cell? _ _ hw333_3; first | rwa [add_block] at this | exact this) GW334.out) | (rw [add_block]; exact Nat.ne_of_lt (Nat.lt_of_lt_of_le (by have := World.block_lt_of_cell? _ _ hw333_3; first | rwa [add_block] at this | exact this) GW334.out)) | (show (Addr.add _ _).block ≠ _; rw [add_block]; exact Nat.ne_of_lt (Nat.lt_of_lt_of_le (by have := World.block_lt_of_cell? _ _ hw333_3; first | rwa [add_block] at this | exact this) GW334.out)) | (dsimp only; exact Nat.ne_of_lt (Nat.lt_of_lt_of_le (by have := World.block_lt_of_cell? _ _ hw333_3; first | rwa [add_block] at this | exact this) GW334.out))) _).trans (hHeld.2.2.2.2.2.1)))))))))))))), ((cell_far (p := ⟨gb334, _, none⟩) (by first | exact Nat.ne_of_lt (Nat.lt_of_lt_of_le (by have := World.block_lt_of_cell? _ _ hw333_4; first | rwa [add_block] at this | exact this) GW334.out) | (rw [add_block]; exact Nat.ne_of_lt (Nat.lt_of_lt_of_le (by have := World.block_lt_of_cell? _ _ hw333_4; first | rwa [add_block] at this | exact this) GW334.out)) | (show (Addr.add _ _).block ≠ _; rw [add_block]; exact Nat.ne_of_lt (Nat.lt_of_lt_of_le (by have := World.block_lt_of_cell? _ _ hw333_4; first | rwa [add_block] at this | exact this) GW334.out)) | (dsimp only; exact Nat.ne_of_lt (Nat.lt_of_lt_of_le (by have := World.block_lt_of_cell? _ _ hw333_4; first | rwa [add_block] at this | exact this) GW334.out))) _).trans (((cell_far (p := ⟨gb334, _, none⟩) (by first | exact Nat.ne_of_lt (Nat.lt_of_lt_of_le (by have := World.block_lt_of_cell? _ _ hw333_4; first | rwa [add_block] at this | exact this) GW334.out) | (rw [add_block]; exact Nat.ne_of_lt (Nat.lt_of_lt_of_le (by have := World.block_lt_of_cell? _ _ hw333_4; first | rwa [add_block] at this | exact this) GW334.out)) | (show (Addr.add _ _).block ≠ _; rw [add_block]; exact Nat.ne_of_lt (Nat.lt_of_lt_of_le (by have := World.block_lt_of_cell? _ _ hw333_4; first | rwa [add_block] at this | exact this) GW334.out)) | (dsimp only; exact Nat.ne_of_lt (Nat.lt_of_lt_of_le (by have := World.block_lt_of_cell? _ _ hw333_4; first | rwa [add_block] at this | exact this) GW334.out))) _).trans (((cell_far (p := ⟨gb334, _, none⟩) (by first | exact Nat.ne_of_lt (Nat.lt_of_lt_of_le (by have := World.block_lt_of_cell? _ _ hw333_4; first | rwa [add_block] at this | exact this) GW334.out) | (rw [add_block]; exact Nat.ne_of_lt (Nat.lt_of_lt_of_le (by have := World.block_lt_of_cell? _ _ hw333_4; first | rwa [add_block] at this | exact this) GW334.out)) | (show (Addr.add _ _).block ≠ _; rw [add_block]; exact Nat.ne_of_lt (Nat.lt_of_lt_of_le (by have := World.block_lt_of_cell? _ _ hw333_4; first | rwa [add_block] at this | exact this) GW334.out)) | (dsimp only; exact Nat.ne_of_lt (Nat.lt_of_lt_of_le (by have := World.block_lt_of_cell? _ _ hw333_4; first | rwa [add_block] at this | exact this) GW334.out))) _).trans (((cell_far (p := ⟨gb334, _, none⟩) (by first | exact Nat.ne_of_lt (Nat.lt_of_lt_of_le (by have := World.block_lt_of_cell? _ _ hw333_4; first | rwa [add_block] at this | exact this) GW334.out) | (rw [add_block]; exact Nat.ne_of_lt (Nat.lt_of_lt_of_le (by have := World.block_lt_of_cell? _ _ hw333_4; first | rwa [add_block] at this | exact this) GW334.out)) | (show (Addr.add _ _).block ≠ _; rw [add_block]; exact Nat.ne_of_lt (Nat.lt_of_lt_of_le (by have := World.block_lt_of_cell? _ _ hw333_4; first | rwa [add_block] at this | exact this) GW334.out)) | (dsimp only; exact Nat.ne_of_lt (Nat.lt_of_lt_of_le (by have := World.block_lt_of_cell? _ _ hw333_4; first | rwa [add_block] at this | exact this) GW334.out))) _).trans (((cell_far (p := ⟨gb334, _, none⟩) (by first | exact Nat.ne_of_lt (Nat.lt_of_lt_of_le (by have := World.block_lt_of_cell? _ _ hw333_4; first | rwa [add_block] at this | exact this) GW334.out) | (rw [add_block]; exact Nat.ne_of_lt (Nat.lt_of_lt_of_le (by have := World.block_lt_of_cell? _ _ hw333_4; first | rwa [add_block] at this | exact this) GW334.out)) | (show (Addr.add _ _).block ≠ _; rw [add_block]; exact Nat.ne_of_lt (Nat.lt_of_lt_of_le (by have := World.block_lt_of_cell? _ _ hw333_4; first | rwa [add_block] at this | exact this) GW334.out)) | (dsimp only; exact Nat.ne_of_lt (Nat.lt_of_lt_of_le (by have := World.block_lt_of_cell? _ _ hw333_4; first | rwa [add_block] at this | exact this) GW334.out))) _).trans (((cell_far (p := ⟨gb334, _, none⟩) (by first | exact Nat.ne_of_lt (Nat.lt_of_lt_of_le (by have := World.block_lt_of_cell? _ _ hw333_4; first | rwa [add_block] at this | exact this) GW334.out) | (rw [add_block]; exact Nat.ne_of_lt (Nat.lt_of_lt_of_le (by have := World.block_lt_of_cell? _ _ hw333_4; first | rwa [add_block] at this | exact this) GW334.out)) | (show (Addr.add _ _).block ≠ _; rw [add_block]; exact Nat.ne_of_lt (Nat.lt_of_lt_of_le (by have := World.block_lt_of_cell? _ _ hw333_4; first | rwa [add_block] at this | exact this) GW334.out)) | (dsimp only; exact Nat.ne_of_lt (Nat.lt_of_lt_of_le (by have := World.block_lt_of_cell? _ _ hw333_4; first | rwa [add_block] at this | exact this) GW334.out))) _).trans (((cell_far (p := ⟨gb334, _, none⟩) (by first | exact Nat.ne_of_lt (Nat.lt_of_lt_of_le (by have := World.block_lt_of_cell? _ _ hw333_4; first | rwa [add_block] at this | exact this) GW334.out) | (rw [add_block]; exact Nat.ne_of_lt (Nat.lt_of_lt_of_le (by have := World.block_lt_of_cell? _ _ hw333_4; first | rwa [add_block] at this | exact this) GW334.out)) | (show (Addr.add _ _).block ≠ _; rw [add_block]; exact Nat.ne_of_lt (Nat.lt_of_lt_of_le (by have := World.block_lt_of_cell? _ _ hw333_4; first | rwa [add_block] at this | exact this) GW334.out)) | (dsimp only; exact Nat.ne_of_lt (Nat.lt_of_lt_of_le (by have := World.block_lt_of_cell? _ _ hw333_4; first | rwa [add_block] at this | exact this) GW334.out))) _).trans (hHeld.2.2.2.2.2.2.1)))))))))))))), ((cell_far (p := ⟨gb334, _, none⟩) (by first | exact Nat.ne_of_lt (Nat.lt_of_lt_of_le (by have := World.block_lt_of_cell? _ _ hw333_5; first | rwa [add_block] at this | exact this) GW334.out) | (rw [add_block]; exact Nat.ne_of_lt (Nat.lt_of_lt_of_le (by have := World.block_lt_of_cell? _ _ hw333_5; first | rwa [add_block] at this | exact this) GW334.out)) | (show (Addr.add _ _).block ≠ _; rw [add_block]; exact Nat.ne_of_lt (Nat.lt_of_lt_of_le (by have := World.block_lt_of_cell? _ _ hw333_5; first | rwa [add_block] at this | exact this) GW334.out)) | (dsimp only; exact Nat.ne_of_lt (Nat.lt_of_lt_of_le (by have := World.block_lt_of_cell? _ _ hw333_5; first | rwa [add_block] at this | exact this) GW334.out))) _).trans (((cell_far (p := ⟨gb334, _, none⟩) (by first | exact Nat.ne_of_lt (Nat.lt_of_lt_of_le (by have := World.block_lt_of_cell? _ _ hw333_5; first | rwa [add_block] at this | exact this) GW334.out) | (rw [add_block]; exact Nat.ne_of_lt (Nat.lt_of_lt_of_le (by have := World.block_lt_of_cell? _ _ hw333_5; first | rwa [add_block] at this | exact this) GW334.out)) | (show (Addr.add _ _).block ≠ _; rw [add_block]; exact Nat.ne_of_lt (Nat.lt_of_lt_of_le (by have := World.block_lt_of_cell? _ _ hw333_5; first | rwa [add_block] at this | exact this) GW334.out)) | (dsimp only; exact Nat.ne_of_lt (Nat.lt_of_lt_of_le (by have := World.block_lt_of_cell? _ _ hw333_5; first | rwa [add_block] at this | exact this) GW334.out))) _).trans (((cell_far (p := ⟨gb334, _, none⟩) (by first | exact Nat.ne_of_lt (Nat.lt_of_lt_of_le (by have := World.block_lt_of_cell? _ _ hw333_5; first | rwa [add_block] at this | exact this) GW334.out) | (rw [add_block]; exact Nat.ne_of_lt (Nat.lt_of_lt_of_le (by have := World.block_lt_of_cell? _ _ hw333_5; first | rwa [add_block] at this | exact this) GW334.out)) | (show (Addr.add _ _).block ≠ _; rw [add_block]; exact Nat.ne_of_lt (Nat.lt_of_lt_of_le (by have := World.block_lt_of_cell? _ _ hw333_5; first | rwa [add_block] at this | exact this) GW334.out)) | (dsimp only; exact Nat.ne_of_lt (Nat.lt_of_lt_of_le (by have := World.block_lt_of_cell? _ _ hw333_5; first | rwa [add_block] at this | exact this) GW334.out))) _).trans (((cell_far (p := ⟨gb334, _, none⟩) (by first | exact Nat.ne_of_lt (Nat.lt_of_lt_of_le (by have := World.block_lt_of_cell? _ _ hw333_5; first | rwa [add_block] at this | exact this) GW334.out) | (rw [add_block]; exact Nat.ne_of_lt (Nat.lt_of_lt_of_le (by have := World.block_lt_of_cell? _ _ hw333_5; first | rwa [add_block] at this | exact this) GW334.out)) | (show (Addr.add _ _).block ≠ _; rw [add_block]; exact Nat.ne_of_lt (Nat.lt_of_lt_of_le (by have := World.block_lt_of_cell? _ _ hw333_5; first | rwa [add_block] at this | exact this) GW334.out)) | (dsimp only; exact Nat.ne_of_lt (Nat.lt_of_lt_of_le (by have := World.block_lt_of_cell? _ _ hw333_5; first | rwa [add_block] at this | exact this) GW334.out))) _).trans (((cell_far (p := ⟨gb334, _, none⟩) (by first | exact Nat.ne_of_lt (Nat.lt_of_lt_of_le (by have := World.block_lt_of_cell? _ _ hw333_5; first | rwa [add_block] at this | exact this) GW334.out) | (rw [add_block]; exact Nat.ne_of_lt (Nat.lt_of_lt_of_le (by have := World.block_lt_of_cell? _ _ hw333_5; first | rwa [add_block] at this | exact this) GW334.out)) | (show (Addr.add _ _).block ≠ _; rw [add_block]; exact Nat.ne_of_lt (Nat.lt_of_lt_of_le (by have := World.block_lt_of_cell? _ _ hw333_5; first | rwa [add_block] at this | exact this) GW334.out)) | (dsimp only; exact Nat.ne_of_lt (Nat.lt_of_lt_of_le (by have := World.block_lt_of_cell? _ _ hw333_5; first | rwa [add_block] at this | exact this) GW334.out))) _).trans (((cell_far (p := ⟨gb334, _, none⟩) (by first | exact Nat.ne_of_lt (Nat.lt_of_lt_of_le (by have := World.block_lt_of_cell? _ _ hw333_5; first | rwa [add_block] at this | exact this) GW334.out) | (rw [add_block]; exact Nat.ne_of_lt (Nat.lt_of_lt_of_le (by have := World.block_lt_of_cell? _ _ hw333_5; first | rwa [add_block] at this | exact this) GW334.out)) | (show (Addr.add _ _).block ≠ _; rw [add_block]; exact Nat.ne_of_lt (Nat.lt_of_lt_of_le (by have := World.block_lt_of_cell? _ _ hw333_5; first | rwa [add_block] at this | exact this) GW334.out)) | (dsimp only; exact Nat.ne_of_lt (Nat.lt_of_lt_of_le (by have := World.block_lt_of_cell? _ _ hw333_5; first | rwa [add_block] at this | exact this) GW334.out))) _).trans (((cell_far (p := ⟨gb334, _, none⟩) (by first | exact Nat.ne_of_lt (Nat.lt_of_lt_of_le (by have := World.block_lt_of_cell? _ _ hw333_5; first | rwa [add_block] at this | exact this) GW334.out) | (rw [add_block]; exact Nat.ne_of_lt (Nat.lt_of_lt_of_le (by have := World.block_lt_of_cell? _ _ hw333_5; first | rwa [add_block] at this | exact this) GW334.out)) | (show (Addr.add _ _).block ≠ _; rw [add_block]; exact Nat.ne_of_lt (Nat.lt_of_lt_of_le (by have := World.block_lt_of_cell? _ _ hw333_5; first | rwa [add_block] at this | exact this) GW334.out)) | (dsimp only; exact Nat.ne_of_lt (Nat.lt_of_lt_of_le (by have := World.block_lt_of_cell? _ _ hw333_5; first | rwa [add_block] at this | exact this) GW334.out))) _).trans (hHeld.2.2.2.2.2.2.2.1)))))))))))))), ((cell_far (p := ⟨gb334, _, none⟩) (by first | exact Nat.ne_of_lt (Nat.lt_of_lt_of_le (by have := World.block_lt_of_cell? _ _ hw333_6; first | rwa [add_block] at this | exact this) GW334.out) | (rw [add_block]; exact Nat.ne_of_lt (Nat.lt_of_lt_of_le (by have := World.block_lt_of_cell? _ _ hw333_6; first | rwa [add_block] at this | exact this) GW334.out)) | (show (Addr.add _ _).block ≠ _; rw [add_block]; exact Nat.ne_of_lt (Nat.lt_of_lt_of_le (by have := World.block_lt_of_cell? _ _ hw333_6; first | rwa [add_block] at this | exact this) GW334.out)) | (dsimp only; exact Nat.ne_of_lt (Nat.lt_of_lt_of_le (by have := World.block_lt_of_cell? _ _ hw333_6; first | rwa [add_block] at this | exact this) GW334.out))) _).trans (((cell_far (p := ⟨gb334, _, none⟩) (by first | exact Nat.ne_of_lt (Nat.lt_of_lt_of_le (by have := World.block_lt_of_cell? _ _ hw333_6; first | rwa [add_block] at this | exact this) GW334.out) | (rw [add_block]; exact Nat.ne_of_lt (Nat.lt_of_lt_of_le (by have := World.block_lt_of_cell? _ _ hw333_6; first | rwa [add_block] at this | exact this) GW334.out)) | (show (Addr.add _ _).block ≠ _; rw [add_block]; exact Nat.ne_of_lt (Nat.lt_of_lt_of_le (by have := World.block_lt_of_cell? _ _ hw333_6; first | rwa [add_block] at this | exact this) GW334.out)) | (dsimp only; exact Nat.ne_of_lt (Nat.lt_of_lt_of_le (by have := World.block_lt_of_cell? _ _ hw333_6; first | rwa [add_block] at this | exact this) GW334.out))) _).trans (((cell_far (p := ⟨gb334, _, none⟩) (by first | exact Nat.ne_of_lt (Nat.lt_of_lt_of_le (by have := World.block_lt_of_cell? _ _ hw333_6; first | rwa [add_block] at this | exact this) GW334.out) | (rw [add_block]; exact Nat.ne_of_lt (Nat.lt_of_lt_of_le (by have := World.block_lt_of_cell? _ _ hw333_6; first | rwa [add_block] at this | exact this) GW334.out)) | (show (Addr.add _ _).block ≠ _; rw [add_block]; exact Nat.ne_of_lt (Nat.lt_of_lt_of_le (by have := World.block_lt_of_cell? _ _ hw333_6; first | rwa [add_block] at this | exact this) GW334.out)) | (dsimp only; exact Nat.ne_of_lt (Nat.lt_of_lt_of_le (by have := World.block_lt_of_cell? _ _ hw333_6; first | rwa [add_block] at this | exact this) GW334.out))) _).trans (((cell_far (p := ⟨gb334, _, none⟩) (by first | exact Nat.ne_of_lt (Nat.lt_of_lt_of_le (by have := World.block_lt_of_cell? _ _ hw333_6; first | rwa [add_block] at this | exact this) GW334.out) | (rw [add_block]; exact Nat.ne_of_lt (Nat.lt_of_lt_of_le (by have := World.block_lt_of_cell? _ _ hw333_6; first | rwa [add_block] at this | exact this) GW334.out)) | (show (Addr.add _ _).block ≠ _; rw [add_block]; exact Nat.ne_of_lt (Nat.lt_of_lt_of_le (by have := World.block_lt_of_cell? _ _ hw333_6; first | rwa [add_block] at this | exact this) GW334.out)) | (dsimp only; exact Nat.ne_of_lt (Nat.lt_of_lt_of_le (by have := World.block_lt_of_cell? _ _ hw333_6; first | rwa [add_block] at this | exact this) GW334.out))) _).trans (((cell_far (p := ⟨gb334, _, none⟩) (by first | exact Nat.ne_of_lt (Nat.lt_of_lt_of_le (by have := World.block_lt_of_cell? _ _ hw333_6; first | rwa [add_block] at this | exact this) GW334.out) | (rw [add_block]; exact Nat.ne_of_lt (Nat.lt_of_lt_of_le (by have := World.block_lt_of_cell? _ _ hw333_6; first | rwa [add_block] at this | exact this) GW334.out)) | (show (Addr.add _ _).block ≠ _; rw [add_block]; exact Nat.ne_of_lt (Nat.lt_of_lt_of_le (by have := World.block_lt_of_cell? _ _ hw333_6; first | rwa [add_block] at this | exact this) GW334.out)) | (dsimp only; exact Nat.ne_of_lt (Nat.lt_of_lt_of_le (by have := World.block_lt_of_cell? _ _ hw333_6; first | rwa [add_block] at this | exact this) GW334.out))) _).trans (((cell_far (p := ⟨gb334, _, none⟩) (by first | exact Nat.ne_of_lt (Nat.lt_of_lt_of_le (by have := World.block_lt_of_cell? _ _ hw333_6; first | rwa [add_block] at this | exact this) GW334.out) | (rw [add_block]; exact Nat.ne_of_lt (Nat.lt_of_lt_of_le (by have := World.block_lt_of_cell? _ _ hw333_6; first | rwa [add_block] at this | exact this) GW334.out)) | (show (Addr.add _ _).block ≠ _; rw [add_block]; exact Nat.ne_of_lt (Nat.lt_of_lt_of_le (by have := World.block_lt_of_cell? _ _ hw333_6; first | rwa [add_block] at this | exact this) GW334.out)) | (dsimp only; exact Nat.ne_of_lt (Nat.lt_of_lt_of_le (by have := World.block_lt_of_cell? _ _ hw333_6; first | rwa [add_block] at this | exact this) GW334.out))) _).trans (((cell_far (p := ⟨gb334, _, none⟩) (by first | exact Nat.ne_of_lt (Nat.lt_of_lt_of_le (by have := World.block_lt_of_cell? _ _ hw333_6; first | rwa [add_block] at this | exact this) GW334.out) | (rw [add_block]; exact Nat.ne_of_lt (Nat.lt_of_lt_of_le (by have := World.block_lt_of_cell? _ _ hw333_6; first | rwa [add_block] at this | exact this) GW334.out)) | (show (Addr.add _ _).block ≠ _; rw [add_block]; exact Nat.ne_of_lt (Nat.lt_of_lt_of_le (by have := World.block_lt_of_cell? _ _ hw333_6; first | rwa [add_block] at this | exact this) GW334.out)) | (dsimp only; exact Nat.ne_of_lt (Nat.lt_of_lt_of_le (by have := World.block_lt_of_cell? _ _ hw333_6; first | rwa [add_block] at this | exact this) GW334.out))) _).trans (hHeld.2.2.2.2.2.2.2.2))))))))))))))⟩ (fun hHeld => ?_)
     clear hK K
     refine dn ?_
     try go_wp2
     have n0_ : Aside0 (Kd.R Kd.string 9 (((((((w36.setCell ⟨gb334, 0, none⟩ (.int .i64 ((rd_T65 l0_0 t332).f0))).setCell ⟨gb334, 1, none⟩ (.int .i64 ((rd_T65 l0_0 t332).f1))).setCell ⟨gb334, 2, none⟩ (.int .i64 ((rd_T65 l0_0 t332).f2))).setCell ⟨gb334, 3, none⟩ (.int .i64 ((rd_T65 l0_0 t332).f3))).setCell ⟨gb334, 4, none⟩ (.int .i64 ((rd_T65 l0_0 t332).f4))).setCell ⟨gb334, 5, none⟩ (.string ((rd_T65 l0_0 t332).f5))).setCell ⟨gb334, 6, none⟩ (.slice A333_6 ((rd_T65 l0_0 t332).f6).length c333_6)) w.heap.size (fun _ => True) (.slice (some ad331) t328.length co7) t328) := ⟨rRf HO_11 BK334 (fun _ hk => trivial)⟩
     have n1_ : Aside0 ((((((((w36.setCell ⟨gb334, 0, none⟩ (.int .i64 ((rd_T65 l0_0 t332).f0))).setCell ⟨gb334, 1, none⟩ (.int .i64 ((rd_T65 l0_0 t332).f1))).setCell ⟨gb334, 2, none⟩ (.int .i64 ((rd_T65 l0_0 t332).f2))).setCell ⟨gb334, 3, none⟩ (.int .i64 ((rd_T65 l0_0 t332).f3))).setCell ⟨gb334, 4, none⟩ (.int .i64 ((rd_T65 l0_0 t332).f4))).setCell ⟨gb334, 5, none⟩ (.string ((rd_T65 l0_0 t332).f5))).setCell ⟨gb334, 6, none⟩ (.slice A333_6 ((rd_T65 l0_0 t332).f6).length c333_6)).heap[gb327]? = some (.cells #[.slice (some ad333) l0_0.length c0_0, .int .i64 a0_1] 30 (0, 0))) := ⟨sX BK327⟩
     have n2_ : Aside0 ((((((((w36.setCell ⟨gb334, 0, none⟩ (.int .i64 ((rd_T65 l0_0 t332).f0))).setCell ⟨gb334, 1, none⟩ (.int .i64 ((rd_T65 l0_0 t332).f1))).setCell ⟨gb334, 2, none⟩ (.int .i64 ((rd_T65 l0_0 t332).f2))).setCell ⟨gb334, 3, none⟩ (.int .i64 ((rd_T65 l0_0 t332).f3))).setCell ⟨gb334, 4, none⟩ (.int .i64 ((rd_T65 l0_0 t332).f4))).setCell ⟨gb334, 5, none⟩ (.string ((rd_T65 l0_0 t332).f5))).setCell ⟨gb334, 6, none⟩ (.slice A333_6 ((rd_T65 l0_0 t332).f6).length c333_6)).heap[gb334]? = some (.cells #[.int .i64 ((rd_T65 l0_0 t332).f0), .int .i64 ((rd_T65 l0_0 t332).f1), .int .i64 ((rd_T65 l0_0 t332).f2), .int .i64 ((rd_T65 l0_0 t332).f3), .int .i64 ((rd_T65 l0_0 t332).f4), .string ((rd_T65 l0_0 t332).f5), .slice A333_6 ((rd_T65 l0_0 t332).f6).length c333_6] 65 (0, 0))) := ⟨sX BK334⟩
     have n3_ : Aside0 (Below w.heap.size w (((((((w36.setCell ⟨gb334, 0, none⟩ (.int .i64 ((rd_T65 l0_0 t332).f0))).setCell ⟨gb334, 1, none⟩ (.int .i64 ((rd_T65 l0_0 t332).f1))).setCell ⟨gb334, 2, none⟩ (.int .i64 ((rd_T65 l0_0 t332).f2))).setCell ⟨gb334, 3, none⟩ (.int .i64 ((rd_T65 l0_0 t332).f3))).setCell ⟨gb334, 4, none⟩ (.int .i64 ((rd_T65 l0_0 t332).f4))).setCell ⟨gb334, 5, none⟩ (.string ((rd_T65 l0_0 t332).f5))).setCell ⟨gb334, 6, none⟩ (.slice A333_6 ((rd_T65 l0_0 t332).f6).length c333_6))) := ⟨sC⟩
     (try clear HO_11)
     (try clear BK327)
     (try clear BK334)
     (try clear HB)
     generalize (((((((w36.setCell ⟨gb334, 0, none⟩ (.int .i64 ((rd_T65 l0_0 t332).f0))).setCell ⟨gb334, 1, none⟩ (.int .i64 ((rd_T65 l0_0 t332).f1))).setCell ⟨gb334, 2, none⟩ (.int .i64 ((rd_T65 l0_0 t332).f2))).setCell ⟨gb334, 3, none⟩ (.int .i64 ((rd_T65 l0_0 t332).f3))).setCell ⟨gb334, 4, none⟩ (.int .i64 ((rd_T65 l0_0 t332).f4))).setCell ⟨gb334, 5, none⟩ (.string ((rd_T65 l0_0 t332).f5))).setCell ⟨gb334, 6, none⟩ (.slice A333_6 ((rd_T65 l0_0 t332).f6).length c333_6)) = w44 at n0_ n1_ n2_ n3_ ⊢
     have HO_11 := n0_
     have BK327 := n1_
     have BK334 := n2_
     have HB := n3_
     clear n0_ n1_ n2_ n3_
     have n0_ := Aside0.mk (Kd.R_drew HO_11.out)
     have n1_ := Aside0.mk (blk_drew BK327.out)
     have n2_ := Aside0.mk (blk_drew BK334.out)
     have n3_ := Aside0.mk (below_drew1 HB.out)
     clear HO_11
     clear BK327
     clear BK334
     clear HB
     have HO_11 := n0_
     have BK327 := n1_
     have BK334 := n2_
     have HB := n3_
     clear n0_ n1_ n2_ n3_
     refine st7 31 [] (cz0 BK334) (cz1 BK334) (cz2 BK334) (cz3 BK334) (cz4 BK334) (cz5 BK334) (cz6 BK334) (fun hHeld => ?_); refine with_tabW spec_l7Text.tab6 spec_l7Text.bits6 (fun HT_ HW_ => ?_)
     generalize w44.drew = w45 at HO_11 BK327 BK334 HB hHeld ⊢
     refine pu 0 25 ?_
     refine pu 1 26 ?_
     refine pu 3 28 ?_
     refine pu 7 32 ?_
     refine pu 12 37 ?_
     refine pu 17 42 ?_
     refine pu 22 47 ?_
     refine pu 27 52 ?_
     refine tk7 2 27 ?_
     refine tk7 4 29 ?_
     refine pu 5 30 ?_
     refine pu 6 31 ?_
     refine tk7 8 33 ?_
     refine tk7 13 38 ?_
     refine tk7 18 43 ?_
     refine tk7 23 48 ?_
     refine on 9 34 (fun K hK => ?_)
     refine gC Tryz.func57 #[.int .i64 ((rd_T65 l0_0 t332).f1)] ?_
     with_reducible refine (spec_l1Signs.calls k1 ((rd_T65 l0_0 t332).f1) t335 _ A17.out).mono ?_
     rintro e w' ⟨rfl, ⟨nd, rfl⟩⟩
     refine ⟨_, rfl, ?_⟩
     refine hK.out _ _ ⟨cz0 BK334, cz1 BK334, cz2 BK334, cz3 BK334, cz4 BK334, cz5 BK334, cz6 BK334⟩ (fun hHeld => ?_)
     clear hK K
     refine ndN 34 ?_
     refine pu 10 35 ?_
     refine pu 11 36 ?_
     refine on 14 39 (fun K hK => ?_)
     refine gC Tryz.func58 #[.int .i64 ((rd_T65 l0_0 t332).f2)] ?_
     with_reducible refine (spec_l1Num.calls k1 ((rd_T65 l0_0 t332).f2) t336 _ A20.out).mono ?_
     rintro e w46 ⟨rfl, hb⟩
     refine ⟨_, rfl, ?_⟩
     have n0_ := nR HO_11 hb
     have n1_ := nK BK327 hb
     have n2_ := nK BK334 hb
     have n3_ := nSC hb
     clear HO_11
     clear BK327
     clear BK334
     clear HB
     have HO_11 := n0_
     have BK327 := n1_
     have BK334 := n2_
     have HB := n3_
     clear n0_ n1_ n2_ n3_
     (try clear hb)
     (try clear hb2)
     (try clear hk)
     (try clear hi)
     refine hK.out _ _ ⟨cz0 BK334, cz1 BK334, cz2 BK334, cz3 BK334, cz4 BK334, cz5 BK334, cz6 BK334⟩ (fun hHeld => ?_)
     clear hK K
     refine ndN 39 ?_
     refine pu 15 40 ?_
     refine pu 16 41 ?_
     refine on 19 44 (fun K hK => ?_)
     refine gC Tryz.func58 #[.int .i64 ((rd_T65 l0_0 t332).f3)] ?_
     with_reducible refine (spec_l1Num.calls k1 ((rd_T65 l0_0 t332).f3) t337 _ A23.out).mono ?_
     rintro e w47 ⟨rfl, hb⟩
     refine ⟨_, rfl, ?_⟩
     have n0_ := nR HO_11 hb
     have n1_ := nK BK327 hb
     have n2_ := nK BK334 hb
     have n3_ := nSC hb
     clear HO_11
     clear BK327
     clear BK334
     clear HB
     have HO_11 := n0_
     have BK327 := n1_
     have BK334 := n2_
     have HB := n3_
     clear n0_ n1_ n2_ n3_
     (try clear hb)
     (try clear hb2)
     (try clear hk)
     (try clear hi)
     refine hK.out _ _ ⟨cz0 BK334, cz1 BK334, cz2 BK334, cz3 BK334, cz4 BK334, cz5 BK334, cz6 BK334⟩ (fun hHeld => ?_)
     clear hK K
     refine ndN 44 ?_
     refine pu 20 45 ?_
     refine pu 21 46 ?_
     refine on 24 49 (fun K hK => ?_)
     refine gC Tryz.func58 #[.int .i64 ((rd_T65 l0_0 t332).f4)] ?_
     with_reducible refine (spec_l1Num.calls k1 ((rd_T65 l0_0 t332).f4) t338 _ A26.out).mono ?_
     rintro e w48 ⟨rfl, hb⟩
     refine ⟨_, rfl, ?_⟩
     have n0_ := nR HO_11 hb
     have n1_ := nK BK327 hb
     have n2_ := nK BK334 hb
     have n3_ := nSC hb
     clear HO_11
     clear BK327
     clear BK334
     clear HB
     have HO_11 := n0_
     have BK327 := n1_
     have BK334 := n2_
     have HB := n3_
     clear n0_ n1_ n2_ n3_
     (try clear hb)
     (try clear hb2)
     (try clear hk)
     (try clear hi)
     refine hK.out _ _ ⟨cz0 BK334, cz1 BK334, cz2 BK334, cz3 BK334, cz4 BK334, cz5 BK334, cz6 BK334⟩ (fun hHeld => ?_)
     clear hK K
     refine ndN 49 ?_
     refine pu 25 50 ?_
     refine pu 26 51 ?_
     refine pu 28 53 ?_
     refine pu 29 54 ?_
     refine pu 30 5 ?_
     refine dn ?_
     have hnb49 := NB334_327.out
     have hnc49 := NB327_334.out
     have hcz50 := cb7 BK334
     try go_wp2
     go_roundg k1
     case measure => have := HK1.out; omega
     case rel => exact ⟨((x5_1 ++ (((((((((xs_ ++ t335) ++ (⟨#[32]⟩ : ByteArray)) ++ t336) ++ (⟨#[32]⟩ : ByteArray)) ++ t337) ++ (⟨#[32]⟩ : ByteArray)) ++ t338) ++ (⟨#[32]⟩ : ByteArray)) ++ (rdOf ByteArray.empty t328 x13_1))) ++ (⟨#[10]⟩ : ByteArray)), (wrap64 (x13_1 + 1)), sR, sR, H', ⟨by have := HK1.out; omega⟩, ⟨rR HO_11⟩, ⟨sK BK327⟩, ⟨sC⟩⟩
    ·rw [if_neg c31] at H
     have c31b0 := beq_eq_false_iff_ne.mpr c31
     have c31b1 := bne_iff_ne.mpr c31
     obtain ⟨c51, H⟩ := iN H
     have c51b0 := eq_true c51
     have c51b1 := decide_eq_true c51
     try have c51b2 : (9223372036854775807 < 1 + ((rd_T65 l0_0 t332).f5).size) = False := eq_false (Nat.not_lt.2 c51)
     obtain ⟨c52, H⟩ := iN H
     have c52b0 := eq_true c52
     have c52b1 := decide_eq_true c52
     try have c52b2 : (9223372036854775807 < x5_1.size + (xs_.size + t335.size + 1 + t336.size + 1 + t337.size + 1 + t338.size + 1 + (rdOf ByteArray.empty t328 x13_1).size) + (1 + ((rd_T65 l0_0 t332).f5).size)) = False := eq_false (Nat.not_lt.2 c52)
     obtain ⟨c53, H⟩ := iN H
     have c53b0 := eq_true c53
     have c53b1 := decide_eq_true c53
     try have c53b2 : (9223372036854775807 < x5_1.size + (xs_.size + t335.size + 1 + t336.size + 1 + t337.size + 1 + t338.size + 1 + (rdOf ByteArray.empty t328 x13_1).size) + (1 + ((rd_T65 l0_0 t332).f5).size) + 1) = False := eq_false (Nat.not_lt.2 c53)
     have H' := Aside0.mk H
     clear H
     have p331 : 0 ≤ (x13_1 : Int) := sO
     have q331 : x13_1 < (t328.length : Int) := sO
     obtain ⟨ad331, e331, hx331_0⟩ := Kd.at_string (Kd.R_reads' HO_11.out).2.2 x13_1 p331 q331
     cases e331
     replace p331 := eq_true p331
     replace q331 := eq_true q331
     try go_wp2
     have n0_ := Aside0.mk (Kd.R_drew HO_11.out)
     have n1_ := Aside0.mk (blk_drew BK327.out)
     have n2_ := Aside0.mk (below_drew1 HB.out)
     clear HO_11
     clear BK327
     clear HB
     have HO_11 := n0_
     have BK327 := n1_
     have HB := n2_
     clear n0_ n1_ n2_
     have p333 : 0 ≤ (t332 : Int) := sO
     have q333 : t332 < (l0_0.length : Int) := sO
     obtain ⟨ad333, A333_6, c333_6, e333, hx333_0, hx333_1, hx333_2, hx333_3, hx333_4, hx333_5, hx333_6, hl333_6, hi333_6⟩ := at_T65 HR0_0.out t332 p333 q333
     have hw333_6 := hx333_6
     have hw333_5 := hx333_5
     have hw333_4 := hx333_4
     have hw333_3 := hx333_3
     have hw333_2 := hx333_2
     have hw333_1 := hx333_1
     have hw333_0 := hx333_0
     cases e333
     replace hx333_0 := hB HB hx333_0
     replace hx333_1 := hB HB hx333_1
     replace hx333_2 := hB HB hx333_2
     replace hx333_3 := hB HB hx333_3
     replace hx333_4 := hB HB hx333_4
     replace hx333_5 := hB HB hx333_5
     replace hx333_6 := hB HB hx333_6
     have HR333_6 := Aside0.mk hi333_6
     have HC333_6 := Aside0.mk hl333_6
     clear hi333_6 hl333_6
     replace p333 := eq_true p333
     replace q333 := eq_true q333
     refine st9 10 [] (cz0 BK327) (cz1 BK327) (hB HB hw333_0 :) (hB HB hw333_1 :) (hB HB hw333_2 :) (hB HB hw333_3 :) (hB HB hw333_4 :) (hB HB hw333_5 :) (hB HB hw333_6 :) (fun hHeld => ?_); refine with_tabW spec_l7Text.tab5 spec_l7Text.bits5 (fun HT_ HW_ => ?_)
     generalize wr.drew = w54 at HO_11 BK327 HB HR333_6 hx333_0 hx333_1 hx333_2 hx333_3 hx333_4 hx333_5 hx333_6 hHeld ⊢
     refine pu 0 17 ?_
     refine pu 3 20 ?_
     refine pu 4 21 ?_
     refine tk9 1 18 ?_
     refine tk9 2 19 ?_
     refine join_ (σ := Nat) 1 #[true, true, true, true, true, true, true, true, true, false] (fun s_ => [(22, .int .i64 t332), (8, .pointer (some ⟨s_, 0, none⟩)), (23, .pointer (some (ad333.add ((t332).toNat * 7)))), (24, .agg #[.int .i64 ((rd_T65 l0_0 t332).f0), .int .i64 ((rd_T65 l0_0 t332).f1), .int .i64 ((rd_T65 l0_0 t332).f2), .int .i64 ((rd_T65 l0_0 t332).f3), .int .i64 ((rd_T65 l0_0 t332).f4), .string ((rd_T65 l0_0 t332).f5), .slice A333_6 ((rd_T65 l0_0 t332).f6).length c333_6])]) (fun s_ w' => (w'.cell? ⟨gb327, 0, none⟩ = some (.slice (some ad333) l0_0.length c0_0) ∧ w'.cell? ⟨gb327, 1, none⟩ = some (.int .i64 a0_1) ∧ w'.cell? (ad333.add ((t332).toNat * 7)) = some (.int .i64 ((rd_T65 l0_0 t332).f0)) ∧ w'.cell? ⟨(ad333.add ((t332).toNat * 7)).block, (ad333.add ((t332).toNat * 7)).off + 1, none⟩ = some (.int .i64 ((rd_T65 l0_0 t332).f1)) ∧ w'.cell? ⟨(ad333.add ((t332).toNat * 7)).block, (ad333.add ((t332).toNat * 7)).off + 2, none⟩ = some (.int .i64 ((rd_T65 l0_0 t332).f2)) ∧ w'.cell? ⟨(ad333.add ((t332).toNat * 7)).block, (ad333.add ((t332).toNat * 7)).off + 3, none⟩ = some (.int .i64 ((rd_T65 l0_0 t332).f3)) ∧ w'.cell? ⟨(ad333.add ((t332).toNat * 7)).block, (ad333.add ((t332).toNat * 7)).off + 4, none⟩ = some (.int .i64 ((rd_T65 l0_0 t332).f4)) ∧ w'.cell? ⟨(ad333.add ((t332).toNat * 7)).block, (ad333.add ((t332).toNat * 7)).off + 5, none⟩ = some (.string ((rd_T65 l0_0 t332).f5)) ∧ w'.cell? ⟨(ad333.add ((t332).toNat * 7)).block, (ad333.add ((t332).toNat * 7)).off + 6, none⟩ = some (.slice A333_6 ((rd_T65 l0_0 t332).f6).length c333_6)) ∧ (Kd.R Kd.string 9 w' w.heap.size (fun _ => True) (.slice (some ad331) t328.length co7) t328) ∧ (w'.heap[gb327]? = some (.cells #[.slice (some ad333) l0_0.length c0_0, .int .i64 a0_1] 30 (0, 0))) ∧ (w'.heap[s_]? = some (.cells #[.int .i64 0, .int .i64 0, .int .i64 0, .int .i64 0, .int .i64 0, .string (⟨#[]⟩ : ByteArray), .slice none 0 0] 65 (0, 0))) ∧ (w.heap.size ≤ s_) ∧ (w.heap.size ≤ s_) ∧ (gb327 ≠ s_) ∧ (s_ ≠ gb327) ∧ (Below w.heap.size w w')) ?_ ?_
     rotate_left
     ·intro hCont
      refine two_ (i := 5) (j := 8) (Ni := some 22) (Nj := some 8) #[true, true, true, true, true, true, false, false, false, false] #[true, true, true, true, true, false, false, false, true, false] rfl rfl rfl rfl (two_of HT_.out (by kernel_rfl)) (by decide) (by decide) (fun K hK => ?_) (fun K hK => ?_)
      ·skip
       refine gC Tryz.func52 #[.agg #[.slice (some ad333) l0_0.length c0_0, .int .i64 a0_1], .int .i64 a1, .string (rdOf ByteArray.empty t328 x13_1)] ?_
       with_reducible refine (spec_l7At.calls k1 _ _ l0_0 a0_1 a1 (rdOf ByteArray.empty t328 x13_1) t332 _ ?side1 ?side2 A11.out).mono ?_
       (case side1 => exact sD (Kd.C_below HR0_0.out HB.out))
       (case side2 => exact HC0_0.out)
       rintro e w55 ⟨rfl, hb⟩
       refine ⟨_, rfl, ?_⟩
       have n0_ := nR HO_11 hb
       have n1_ := nK BK327 hb
       have n2_ := nSC hb
       clear HO_11
       clear BK327
       clear HB
       have HO_11 := n0_
       have BK327 := n1_
       have HB := n2_
       clear n0_ n1_ n2_
       (try clear hb)
       (try clear hb2)
       (try clear hk)
       (try clear hi)
       refine hK.out _ _ ⟨cz0 BK327, cz1 BK327, (hB HB hw333_0 :), (hB HB hw333_1 :), (hB HB hw333_2 :), (hB HB hw333_3 :), (hB HB hw333_4 :), (hB HB hw333_5 :), (hB HB hw333_6 :)⟩ (fun hHeld => ?_)
       clear hK K
       refine ndN 22 ?_
       refine pu 6 23 ?_
       refine tk9 7 24 ?_
       refine on 8 8 (fun K hK => ?_)
       refine box_step ?hg (N := 8) ?hd (cs := #[.int .i64 0, .int .i64 0, .int .i64 0, .int .i64 0, .int .i64 0, .string (⟨#[]⟩ : ByteArray), .slice none 0 0]) (t := 65) ?hr ?_; (case hd => rfl); (case hg => rfl); (case hr => first | (go_simp; done) | (go_simp; rfl))
       intro gb334 hg w56 hbox hb
       have n0_ := nR HO_11 hb
       have n1_ := nK BK327 hb
       have n2_ := nSC hb
       have n3_ := Aside0.mk hbox
       have n4_ := nGC hg
       have n5_ := nGC hg
       have n6_ := nL BK327 hg
       have n7_ := nH BK327 hg
       clear HO_11
       clear BK327
       clear HB
       have HO_11 := n0_
       have BK327 := n1_
       have HB := n2_
       have BK334 := n3_
       have GW334 := n4_
       have GE334 := n5_
       have NB327_334 := n6_
       have NB334_327 := n7_
       clear n0_ n1_ n2_ n3_ n4_ n5_ n6_ n7_
       clear hb hbox hg
       refine hK.out _ _ ⟨cz0 BK327, cz1 BK327, (hB HB hw333_0 :), (hB HB hw333_1 :), (hB HB hw333_2 :), (hB HB hw333_3 :), (hB HB hw333_4 :), (hB HB hw333_5 :), (hB HB hw333_6 :)⟩ (fun hHeld => ?_)
       clear hK K
       refine ndN 8 ?_
       exact norm_ (by simp only [putAll, Act.put, List.setIfInBounds_toArray, List.set_cons_zero, List.set_cons_succ]) (hCont (gb334) _ ⟨hHeld, (by (with_reducible repeat (first | apply Kd.R_alloc | apply Kd.R_drewN | apply Kd.R_drew)); exact HO_11.out), (sK BK327), (sK BK334), GW334.out, GE334.out, NB327_334.out, NB334_327.out, sC⟩)
      ·skip
       refine box_step ?hg (N := 8) ?hd (cs := #[.int .i64 0, .int .i64 0, .int .i64 0, .int .i64 0, .int .i64 0, .string (⟨#[]⟩ : ByteArray), .slice none 0 0]) (t := 65) ?hr ?_; (case hd => rfl); (case hg => rfl); (case hr => first | (go_simp; done) | (go_simp; rfl))
       intro gb334 hg w55 hbox hb
       have n0_ := nR HO_11 hb
       have n1_ := nK BK327 hb
       have n2_ := nSC hb
       have n3_ := Aside0.mk hbox
       have n4_ := nGC hg
       have n5_ := nGC hg
       have n6_ := nL BK327 hg
       have n7_ := nH BK327 hg
       clear HO_11
       clear BK327
       clear HB
       have HO_11 := n0_
       have BK327 := n1_
       have HB := n2_
       have BK334 := n3_
       have GW334 := n4_
       have GE334 := n5_
       have NB327_334 := n6_
       have NB334_327 := n7_
       clear n0_ n1_ n2_ n3_ n4_ n5_ n6_ n7_
       clear hb hbox hg
       refine hK.out _ _ ⟨cz0 BK327, cz1 BK327, (hB HB hw333_0 :), (hB HB hw333_1 :), (hB HB hw333_2 :), (hB HB hw333_3 :), (hB HB hw333_4 :), (hB HB hw333_5 :), (hB HB hw333_6 :)⟩ (fun hHeld => ?_)
       clear hK K
       refine ndN 8 ?_
       refine on 5 22 (fun K hK => ?_)
       refine gC Tryz.func52 #[.agg #[.slice (some ad333) l0_0.length c0_0, .int .i64 a0_1], .int .i64 a1, .string (rdOf ByteArray.empty t328 x13_1)] ?_
       with_reducible refine (spec_l7At.calls k1 _ _ l0_0 a0_1 a1 (rdOf ByteArray.empty t328 x13_1) t332 _ ?side1 ?side2 A11.out).mono ?_
       (case side1 => exact sD (Kd.C_below HR0_0.out HB.out))
       (case side2 => exact HC0_0.out)
       rintro e w56 ⟨rfl, hb⟩
       refine ⟨_, rfl, ?_⟩
       have n0_ := nR HO_11 hb
       have n1_ := nK BK327 hb
       have n2_ := Aside0.mk (blk_below (g := gb334) (o := .cells #[.int .i64 0, .int .i64 0, .int .i64 0, .int .i64 0, .int .i64 0, .string (⟨#[]⟩ : ByteArray), .slice none 0 0] 65 (0, 0)) (sK BK334) hb)
       have n3_ := nSC hb
       clear HO_11
       clear BK327
       clear BK334
       clear HB
       have HO_11 := n0_
       have BK327 := n1_
       have BK334 := n2_
       have HB := n3_
       clear n0_ n1_ n2_ n3_
       (try clear hb)
       (try clear hb2)
       (try clear hk)
       (try clear hi)
       refine hK.out _ _ ⟨cz0 BK327, cz1 BK327, (hB HB hw333_0 :), (hB HB hw333_1 :), (hB HB hw333_2 :), (hB HB hw333_3 :), (hB HB hw333_4 :), (hB HB hw333_5 :), (hB HB hw333_6 :)⟩ (fun hHeld => ?_)
       clear hK K
       refine ndN 22 ?_
       refine pu 6 23 ?_
       refine tk9 7 24 ?_
       exact norm_ (by simp only [putAll, Act.put, List.setIfInBounds_toArray, List.set_cons_zero, List.set_cons_succ]) (hCont (gb334) _ ⟨hHeld, (by (with_reducible repeat (first | apply Kd.R_alloc | apply Kd.R_drewN | apply Kd.R_drew)); exact HO_11.out), (sK BK327), (sK BK334), GW334.out, GE334.out, NB327_334.out, NB334_327.out, sC⟩)
     rintro gb334 w57 ⟨hS_, h0_, h1_, h2_, h3_, h4_, h5_, h6_, h7_⟩
     have n0_ : Aside0 (Kd.R Kd.string 9 w57 w.heap.size (fun _ => True) (.slice (some ad331) t328.length co7) t328) := ⟨h0_⟩
     have n1_ : Aside0 (w57.heap[gb327]? = some (.cells #[.slice (some ad333) l0_0.length c0_0, .int .i64 a0_1] 30 (0, 0))) := ⟨h1_⟩
     have n2_ : Aside0 (w57.heap[gb334]? = some (.cells #[.int .i64 0, .int .i64 0, .int .i64 0, .int .i64 0, .int .i64 0, .string (⟨#[]⟩ : ByteArray), .slice none 0 0] 65 (0, 0))) := ⟨h2_⟩
     have n3_ : Aside0 (w.heap.size ≤ gb334) := ⟨h3_⟩
     have n4_ : Aside0 (w.heap.size ≤ gb334) := ⟨h4_⟩
     have n5_ : Aside0 (gb327 ≠ gb334) := ⟨h5_⟩
     have n6_ : Aside0 (gb334 ≠ gb327) := ⟨h6_⟩
     have n7_ : Aside0 (Below w.heap.size w w57) := ⟨h7_⟩
     clear HO_11
     clear BK327
     clear HB
     clear h0_ h1_ h2_ h3_ h4_ h5_ h6_ h7_
     have HO_11 := n0_
     have BK327 := n1_
     have BK334 := n2_
     have GW334 := n3_
     have GE334 := n4_
     have NB327_334 := n5_
     have NB334_327 := n6_
     have HB := n7_
     clear n0_ n1_ n2_ n3_ n4_ n5_ n6_ n7_
     have hHeld : w57.cell? ⟨gb327, 0, none⟩ = some (.slice (some ad333) l0_0.length c0_0) ∧ w57.cell? ⟨gb327, 1, none⟩ = some (.int .i64 a0_1) ∧ w57.cell? (ad333.add ((t332).toNat * 7)) = some (.int .i64 ((rd_T65 l0_0 t332).f0)) ∧ w57.cell? ⟨(ad333.add ((t332).toNat * 7)).block, (ad333.add ((t332).toNat * 7)).off + 1, none⟩ = some (.int .i64 ((rd_T65 l0_0 t332).f1)) ∧ w57.cell? ⟨(ad333.add ((t332).toNat * 7)).block, (ad333.add ((t332).toNat * 7)).off + 2, none⟩ = some (.int .i64 ((rd_T65 l0_0 t332).f2)) ∧ w57.cell? ⟨(ad333.add ((t332).toNat * 7)).block, (ad333.add ((t332).toNat * 7)).off + 3, none⟩ = some (.int .i64 ((rd_T65 l0_0 t332).f3)) ∧ w57.cell? ⟨(ad333.add ((t332).toNat * 7)).block, (ad333.add ((t332).toNat * 7)).off + 4, none⟩ = some (.int .i64 ((rd_T65 l0_0 t332).f4)) ∧ w57.cell? ⟨(ad333.add ((t332).toNat * 7)).block, (ad333.add ((t332).toNat * 7)).off + 5, none⟩ = some (.string ((rd_T65 l0_0 t332).f5)) ∧ w57.cell? ⟨(ad333.add ((t332).toNat * 7)).block, (ad333.add ((t332).toNat * 7)).off + 6, none⟩ = some (.slice A333_6 ((rd_T65 l0_0 t332).f6).length c333_6) := hS_
     refine norm_ (a' := ?_) ?_ ?_
     rotate_left
     ·simp only [putAll, Act.put, List.setIfInBounds_toArray, List.set_cons_zero, List.set_cons_succ]
      rfl
     refine one_ (i := 9) (N := none) #[true, true, true, true, true, true, true, true, true, true] rfl rfl (one_of HT_.out (by kernel_rfl)) (by decide) (fun K hK => ?_)
     have hs58 : w57.cell? ⟨gb334, 0, none⟩ = some (.int .i64 0) := (blk_cell BK334.out 0).trans rfl
     have hfs58 := blk_frozen BK334.out 0
     have hns58_0 := NB327_334.out
     have hms58_0 := NB334_327.out
     have hs59 : w57.cell? ⟨gb334, 1, none⟩ = some (.int .i64 0) := (blk_cell BK334.out 1).trans rfl
     have hfs59 := blk_frozen BK334.out 1
     have hns59_0 := NB327_334.out
     have hms59_0 := NB334_327.out
     have hs60 : w57.cell? ⟨gb334, 2, none⟩ = some (.int .i64 0) := (blk_cell BK334.out 2).trans rfl
     have hfs60 := blk_frozen BK334.out 2
     have hns60_0 := NB327_334.out
     have hms60_0 := NB334_327.out
     have hs61 : w57.cell? ⟨gb334, 3, none⟩ = some (.int .i64 0) := (blk_cell BK334.out 3).trans rfl
     have hfs61 := blk_frozen BK334.out 3
     have hns61_0 := NB327_334.out
     have hms61_0 := NB334_327.out
     have hs62 : w57.cell? ⟨gb334, 4, none⟩ = some (.int .i64 0) := (blk_cell BK334.out 4).trans rfl
     have hfs62 := blk_frozen BK334.out 4
     have hns62_0 := NB327_334.out
     have hms62_0 := NB334_327.out
     have hs63 : w57.cell? ⟨gb334, 5, none⟩ = some (.string (⟨#[]⟩ : ByteArray)) := (blk_cell BK334.out 5).trans rfl
     have hfs63 := blk_frozen BK334.out 5
     have hns63_0 := NB327_334.out
     have hms63_0 := NB334_327.out
     have hs64 : w57.cell? ⟨gb334, 6, none⟩ = some (.slice none 0 0) := (blk_cell BK334.out 6).trans rfl
     have hfs64 := blk_frozen BK334.out 6
     have hns64_0 := NB327_334.out
     have hms64_0 := NB334_327.out
     refine skip_ (w1 := ?_) (by rfl) rfl ?_ ?_
     rotate_left
     ·go_simp
      rfl
     refine hK.out _ _ ⟨((cell_far (p := ⟨gb334, _, none⟩) NB327_334.out _).trans (((cell_far (p := ⟨gb334, _, none⟩) NB327_334.out _).trans (((cell_far (p := ⟨gb334, _, none⟩) NB327_334.out _).trans (((cell_far (p := ⟨gb334, _, none⟩) NB327_334.out _).trans (((cell_far (p := ⟨gb334, _, none⟩) NB327_334.out _).trans (((cell_far (p := ⟨gb334, _, none⟩) NB327_334.out _).trans (((cell_far (p := ⟨gb334, _, none⟩) NB327_334.out _).trans (hHeld.1)))))))))))))), ((cell_far (p := ⟨gb334, _, none⟩) NB327_334.out _).trans (((cell_far (p := ⟨gb334, _, none⟩) NB327_334.out _).trans (((cell_far (p := ⟨gb334, _, none⟩) NB327_334.out _).trans (((cell_far (p := ⟨gb334, _, none⟩) NB327_334.out _).trans (((cell_far (p := ⟨gb334, _, none⟩) NB327_334.out _).trans (((cell_far (p := ⟨gb334, _, none⟩) NB327_334.out _).trans (((cell_far (p := ⟨gb334, _, none⟩) NB327_334.out _).trans (hHeld.2.1)))))))))))))), ((cell_far (p := ⟨gb334, _, none⟩) (by first | exact Nat.ne_of_lt (Nat.lt_of_lt_of_le (by have := World.block_lt_of_cell? _ _ hw333_0; first | rwa [add_block] at this | exact this) GW334.out) | (rw [add_block]; exact Nat.ne_of_lt (Nat.lt_of_lt_of_le (by have := World.block_lt_of_cell? _ _ hw333_0; first | rwa [add_block] at this | exact this) GW334.out)) | (show (Addr.add _ _).block ≠ _; rw [add_block]; exact Nat.ne_of_lt (Nat.lt_of_lt_of_le (by have := World.block_lt_of_cell? _ _ hw333_0; first | rwa [add_block] at this | exact this) GW334.out)) | (dsimp only; exact Nat.ne_of_lt (Nat.lt_of_lt_of_le (by have := World.block_lt_of_cell? _ _ hw333_0; first | rwa [add_block] at this | exact this) GW334.out))) _).trans (((cell_far (p := ⟨gb334, _, none⟩) (by first | exact Nat.ne_of_lt (Nat.lt_of_lt_of_le (by have := World.block_lt_of_cell? _ _ hw333_0; first | rwa [add_block] at this | exact this) GW334.out) | (rw [add_block]; exact Nat.ne_of_lt (Nat.lt_of_lt_of_le (by have := World.block_lt_of_cell? _ _ hw333_0; first | rwa [add_block] at this | exact this) GW334.out)) | (show (Addr.add _ _).block ≠ _; rw [add_block]; exact Nat.ne_of_lt (Nat.lt_of_lt_of_le (by have := World.block_lt_of_cell? _ _ hw333_0; first | rwa [add_block] at this | exact this) GW334.out)) | (dsimp only; exact Nat.ne_of_lt (Nat.lt_of_lt_of_le (by have := World.block_lt_of_cell? _ _ hw333_0; first | rwa [add_block] at this | exact this) GW334.out))) _).trans (((cell_far (p := ⟨gb334, _, none⟩) (by first | exact Nat.ne_of_lt (Nat.lt_of_lt_of_le (by have := World.block_lt_of_cell? _ _ hw333_0; first | rwa [add_block] at this | exact this) GW334.out) | (rw [add_block]; exact Nat.ne_of_lt (Nat.lt_of_lt_of_le (by have := World.block_lt_of_cell? _ _ hw333_0; first | rwa [add_block] at this | exact this) GW334.out)) | (show (Addr.add _ _).block ≠ _; rw [add_block]; exact Nat.ne_of_lt (Nat.lt_of_lt_of_le (by have := World.block_lt_of_cell? _ _ hw333_0; first | rwa [add_block] at this | exact this) GW334.out)) | (dsimp only; exact Nat.ne_of_lt (Nat.lt_of_lt_of_le (by have := World.block_lt_of_cell? _ _ hw333_0; first | rwa [add_block] at this | exact this) GW334.out))) _).trans (((cell_far (p := ⟨gb334, _, none⟩) (by first | exact Nat.ne_of_lt (Nat.lt_of_lt_of_le (by have := World.block_lt_of_cell? _ _ hw333_0; first | rwa [add_block] at this | exact this) GW334.out) | (rw [add_block]; exact Nat.ne_of_lt (Nat.lt_of_lt_of_le (by have := World.block_lt_of_cell? _ _ hw333_0; first | rwa [add_block] at this | exact this) GW334.out)) | (show (Addr.add _ _).block ≠ _; rw [add_block]; exact Nat.ne_of_lt (Nat.lt_of_lt_of_le (by have := World.block_lt_of_cell? _ _ hw333_0; first | rwa [add_block] at this | exact this) GW334.out)) | (dsimp only; exact Nat.ne_of_lt (Nat.lt_of_lt_of_le (by have := World.block_lt_of_cell? _ _ hw333_0; first | rwa [add_block] at this | exact this) GW334.out))) _).trans (((cell_far (p := ⟨gb334, _, none⟩) (by first | exact Nat.ne_of_lt (Nat.lt_of_lt_of_le (by have := World.block_lt_of_cell? _ _ hw333_0; first | rwa [add_block] at this | exact this) GW334.out) | (rw [add_block]; exact Nat.ne_of_lt (Nat.lt_of_lt_of_le (by have := World.block_lt_of_cell? _ _ hw333_0; first | rwa [add_block] at this | exact this) GW334.out)) | (show (Addr.add _ _).block ≠ _; rw [add_block]; exact Nat.ne_of_lt (Nat.lt_of_lt_of_le (by have := World.block_lt_of_cell? _ _ hw333_0; first | rwa [add_block] at this | exact this) GW334.out)) | (dsimp only; exact Nat.ne_of_lt (Nat.lt_of_lt_of_le (by have := World.block_lt_of_cell? _ _ hw333_0; first | rwa [add_block] at this | exact this) GW334.out))) _).trans (((cell_far (p := ⟨gb334, _, none⟩) (by first | exact Nat.ne_of_lt (Nat.lt_of_lt_of_le (by have := World.block_lt_of_cell? _ _ hw333_0; first | rwa [add_block] at this | exact this) GW334.out) | (rw [add_block]; exact Nat.ne_of_lt (Nat.lt_of_lt_of_le (by have := World.block_lt_of_cell? _ _ hw333_0; first | rwa [add_block] at this | exact this) GW334.out)) | (show (Addr.add _ _).block ≠ _; rw [add_block]; exact Nat.ne_of_lt (Nat.lt_of_lt_of_le (by have := World.block_lt_of_cell? _ _ hw333_0; first | rwa [add_block] at this | exact this) GW334.out)) | (dsimp only; exact Nat.ne_of_lt (Nat.lt_of_lt_of_le (by have := World.block_lt_of_cell? _ _ hw333_0; first | rwa [add_block] at this | exact this) GW334.out))) _).trans (((cell_far (p := ⟨gb334, _, none⟩) (by first | exact Nat.ne_of_lt (Nat.lt_of_lt_of_le (by have := World.block_lt_of_cell? _ _ hw333_0; first | rwa [add_block] at this | exact this) GW334.out) | (rw [add_block]; exact Nat.ne_of_lt (Nat.lt_of_lt_of_le (by have := World.block_lt_of_cell? _ _ hw333_0; first | rwa [add_block] at this | exact this) GW334.out)) | (show (Addr.add _ _).block ≠ _; rw [add_block]; exact Nat.ne_of_lt (Nat.lt_of_lt_of_le (by have := World.block_lt_of_cell? _ _ hw333_0; first | rwa [add_block] at this | exact this) GW334.out)) | (dsimp only; exact Nat.ne_of_lt (Nat.lt_of_lt_of_le (by have := World.block_lt_of_cell? _ _ hw333_0; first | rwa [add_block] at this | exact this) GW334.out))) _).trans (hHeld.2.2.1)))))))))))))), ((cell_far (p := ⟨gb334, _, none⟩) (by first | exact Nat.ne_of_lt (Nat.lt_of_lt_of_le (by have := World.block_lt_of_cell? _ _ hw333_1; first | rwa [add_block] at this | exact this) GW334.out) | (rw [add_block]; exact Nat.ne_of_lt (Nat.lt_of_lt_of_le (by have := World.block_lt_of_cell? _ _ hw333_1; first | rwa [add_block] at this | exact this) GW334.out)) | (show (Addr.add _ _).block ≠ _; rw [add_block]; exact Nat.ne_of_lt (Nat.lt_of_lt_of_le (by have := World.block_lt_of_cell? _ _ hw333_1; first | rwa [add_block] at this | exact this) GW334.out)) | (dsimp only; exact Nat.ne_of_lt (Nat.lt_of_lt_of_le (by have := World.block_lt_of_cell? _ _ hw333_1; first | rwa [add_block] at this | exact this) GW334.out))) _).trans (((cell_far (p := ⟨gb334, _, none⟩) (by first | exact Nat.ne_of_lt (Nat.lt_of_lt_of_le (by have := World.block_lt_of_cell? _ _ hw333_1; first | rwa [add_block] at this | exact this) GW334.out) | (rw [add_block]; exact Nat.ne_of_lt (Nat.lt_of_lt_of_le (by have := World.block_lt_of_cell? _ _ hw333_1; first | rwa [add_block] at this | exact this) GW334.out)) | (show (Addr.add _ _).block ≠ _; rw [add_block]; exact Nat.ne_of_lt (Nat.lt_of_lt_of_le (by have := World.block_lt_of_cell? _ _ hw333_1; first | rwa [add_block] at this | exact this) GW334.out)) | (dsimp only; exact Nat.ne_of_lt (Nat.lt_of_lt_of_le (by have := World.block_lt_of_cell? _ _ hw333_1; first | rwa [add_block] at this | exact this) GW334.out))) _).trans (((cell_far (p := ⟨gb334, _, none⟩) (by first | exact Nat.ne_of_lt (Nat.lt_of_lt_of_le (by have := World.block_lt_of_cell? _ _ hw333_1; first | rwa [add_block] at this | exact this) GW334.out) | (rw [add_block]; exact Nat.ne_of_lt (Nat.lt_of_lt_of_le (by have := World.block_lt_of_cell? _ _ hw333_1; first | rwa [add_block] at this | exact this) GW334.out)) | (show (Addr.add _ _).block ≠ _; rw [add_block]; exact Nat.ne_of_lt (Nat.lt_of_lt_of_le (by have := World.block_lt_of_cell? _ _ hw333_1; first | rwa [add_block] at this | exact this) GW334.out)) | (dsimp only; exact Nat.ne_of_lt (Nat.lt_of_lt_of_le (by have := World.block_lt_of_cell? _ _ hw333_1; first | rwa [add_block] at this | exact this) GW334.out))) _).trans (((cell_far (p := ⟨gb334, _, none⟩) (by first | exact Nat.ne_of_lt (Nat.lt_of_lt_of_le (by have := World.block_lt_of_cell? _ _ hw333_1; first | rwa [add_block] at this | exact this) GW334.out) | (rw [add_block]; exact Nat.ne_of_lt (Nat.lt_of_lt_of_le (by have := World.block_lt_of_cell? _ _ hw333_1; first | rwa [add_block] at this | exact this) GW334.out)) | (show (Addr.add _ _).block ≠ _; rw [add_block]; exact Nat.ne_of_lt (Nat.lt_of_lt_of_le (by have := World.block_lt_of_cell? _ _ hw333_1; first | rwa [add_block] at this | exact this) GW334.out)) | (dsimp only; exact Nat.ne_of_lt (Nat.lt_of_lt_of_le (by have := World.block_lt_of_cell? _ _ hw333_1; first | rwa [add_block] at this | exact this) GW334.out))) _).trans (((cell_far (p := ⟨gb334, _, none⟩) (by first | exact Nat.ne_of_lt (Nat.lt_of_lt_of_le (by have := World.block_lt_of_cell? _ _ hw333_1; first | rwa [add_block] at this | exact this) GW334.out) | (rw [add_block]; exact Nat.ne_of_lt (Nat.lt_of_lt_of_le (by have := World.block_lt_of_cell? _ _ hw333_1; first | rwa [add_block] at this | exact this) GW334.out)) | (show (Addr.add _ _).block ≠ _; rw [add_block]; exact Nat.ne_of_lt (Nat.lt_of_lt_of_le (by have := World.block_lt_of_cell? _ _ hw333_1; first | rwa [add_block] at this | exact this) GW334.out)) | (dsimp only; exact Nat.ne_of_lt (Nat.lt_of_lt_of_le (by have := World.block_lt_of_cell? _ _ hw333_1; first | rwa [add_block] at this | exact this) GW334.out))) _).trans (((cell_far (p := ⟨gb334, _, none⟩) (by first | exact Nat.ne_of_lt (Nat.lt_of_lt_of_le (by have := World.block_lt_of_cell? _ _ hw333_1; first | rwa [add_block] at this | exact this) GW334.out) | (rw [add_block]; exact Nat.ne_of_lt (Nat.lt_of_lt_of_le (by have := World.block_lt_of_cell? _ _ hw333_1; first | rwa [add_block] at this | exact this) GW334.out)) | (show (Addr.add _ _).block ≠ _; rw [add_block]; exact Nat.ne_of_lt (Nat.lt_of_lt_of_le (by have := World.block_lt_of_cell? _ _ hw333_1; first | rwa [add_block] at this | exact this) GW334.out)) | (dsimp only; exact Nat.ne_of_lt (Nat.lt_of_lt_of_le (by have := World.block_lt_of_cell? _ _ hw333_1; first | rwa [add_block] at this | exact this) GW334.out))) _).trans (((cell_far (p := ⟨gb334, _, none⟩) (by first | exact Nat.ne_of_lt (Nat.lt_of_lt_of_le (by have := World.block_lt_of_cell? _ _ hw333_1; first | rwa [add_block] at this | exact this) GW334.out) | (rw [add_block]; exact Nat.ne_of_lt (Nat.lt_of_lt_of_le (by have := World.block_lt_of_cell? _ _ hw333_1; first | rwa [add_block] at this | exact this) GW334.out)) | (show (Addr.add _ _).block ≠ _; rw [add_block]; exact Nat.ne_of_lt (Nat.lt_of_lt_of_le (by have := World.block_lt_of_cell? _ _ hw333_1; first | rwa [add_block] at this | exact this) GW334.out)) | (dsimp only; exact Nat.ne_of_lt (Nat.lt_of_lt_of_le (by have := World.block_lt_of_cell? _ _ hw333_1; first | rwa [add_block] at this | exact this) GW334.out))) _).trans (hHeld.2.2.2.1)))))))))))))), ((cell_far (p := ⟨gb334, _, none⟩) (by first | exact Nat.ne_of_lt (Nat.lt_of_lt_of_le (by have := World.block_lt_of_cell? _ _ hw333_2; first | rwa [add_block] at this | exact this) GW334.out) | (rw [add_block]; exact Nat.ne_of_lt (Nat.lt_of_lt_of_le (by have := World.block_lt_of_cell? _ _ hw333_2; first | rwa [add_block] at this | exact this) GW334.out)) | (show (Addr.add _ _).block ≠ _; rw [add_block]; exact Nat.ne_of_lt (Nat.lt_of_lt_of_le (by have := World.block_lt_of_cell? _ _ hw333_2; first | rwa [add_block] at this | exact this) GW334.out)) | (dsimp only; exact Nat.ne_of_lt (Nat.lt_of_lt_of_le (by have := World.block_lt_of_cell? _ _ hw333_2; first | rwa [add_block] at this | exact this) GW334.out))) _).trans (((cell_far (p := ⟨gb334, _, none⟩) (by first | exact Nat.ne_of_lt (Nat.lt_of_lt_of_le (by have := World.block_lt_of_cell? _ _ hw333_2; first | rwa [add_block] at this | exact this) GW334.out) | (rw [add_block]; exact Nat.ne_of_lt (Nat.lt_of_lt_of_le (by have := World.block_lt_of_cell? _ _ hw333_2; first | rwa [add_block] at this | exact this) GW334.out)) | (show (Addr.add _ _).block ≠ _; rw [add_block]; exact Nat.ne_of_lt (Nat.lt_of_lt_of_le (by have := World.block_lt_of_cell? _ _ hw333_2; first | rwa [add_block] at this | exact this) GW334.out)) | (dsimp only; exact Nat.ne_of_lt (Nat.lt_of_lt_of_le (by have := World.block_lt_of_cell? _ _ hw333_2; first | rwa [add_block] at this | exact this) GW334.out))) _).trans (((cell_far (p := ⟨gb334, _, none⟩) (by first | exact Nat.ne_of_lt (Nat.lt_of_lt_of_le (by have := World.block_lt_of_cell? _ _ hw333_2; first | rwa [add_block] at this | exact this) GW334.out) | (rw [add_block]; exact Nat.ne_of_lt (Nat.lt_of_lt_of_le (by have := World.block_lt_of_cell? _ _ hw333_2; first | rwa [add_block] at this | exact this) GW334.out)) | (show (Addr.add _ _).block ≠ _; rw [add_block]; exact Nat.ne_of_lt (Nat.lt_of_lt_of_le (by have := World.block_lt_of_cell? _ _ hw333_2; first | rwa [add_block] at this | exact this) GW334.out)) | (dsimp only; exact Nat.ne_of_lt (Nat.lt_of_lt_of_le (by have := World.block_lt_of_cell? _ _ hw333_2; first | rwa [add_block] at this | exact this) GW334.out))) _).trans (((cell_far (p := ⟨gb334, _, none⟩) (by first | exact Nat.ne_of_lt (Nat.lt_of_lt_of_le (by have := World.block_lt_of_cell? _ _ hw333_2; first | rwa [add_block] at this | exact this) GW334.out) | (rw [add_block]; exact Nat.ne_of_lt (Nat.lt_of_lt_of_le (by have := World.block_lt_of_cell? _ _ hw333_2; first | rwa [add_block] at this | exact this) GW334.out)) | (show (Addr.add _ _).block ≠ _; rw [add_block]; exact Nat.ne_of_lt (Nat.lt_of_lt_of_le (by have := World.block_lt_of_cell? _ _ hw333_2; first | rwa [add_block] at this | exact this) GW334.out)) | (dsimp only; exact Nat.ne_of_lt (Nat.lt_of_lt_of_le (by have := World.block_lt_of_cell? _ _ hw333_2; first | rwa [add_block] at this | exact this) GW334.out))) _).trans (((cell_far (p := ⟨gb334, _, none⟩) (by first | exact Nat.ne_of_lt (Nat.lt_of_lt_of_le (by have := World.block_lt_of_cell? _ _ hw333_2; first | rwa [add_block] at this | exact this) GW334.out) | (rw [add_block]; exact Nat.ne_of_lt (Nat.lt_of_lt_of_le (by have := World.block_lt_of_cell? _ _ hw333_2; first | rwa [add_block] at this | exact this) GW334.out)) | (show (Addr.add _ _).block ≠ _; rw [add_block]; exact Nat.ne_of_lt (Nat.lt_of_lt_of_le (by have := World.block_lt_of_cell? _ _ hw333_2; first | rwa [add_block] at this | exact this) GW334.out)) | (dsimp only; exact Nat.ne_of_lt (Nat.lt_of_lt_of_le (by have := World.block_lt_of_cell? _ _ hw333_2; first | rwa [add_block] at this | exact this) GW334.out))) _).trans (((cell_far (p := ⟨gb334, _, none⟩) (by first | exact Nat.ne_of_lt (Nat.lt_of_lt_of_le (by have := World.block_lt_of_cell? _ _ hw333_2; first | rwa [add_block] at this | exact this) GW334.out) | (rw [add_block]; exact Nat.ne_of_lt (Nat.lt_of_lt_of_le (by have := World.block_lt_of_cell? _ _ hw333_2; first | rwa [add_block] at this | exact this) GW334.out)) | (show (Addr.add _ _).block ≠ _; rw [add_block]; exact Nat.ne_of_lt (Nat.lt_of_lt_of_le (by have := World.block_lt_of_cell? _ _ hw333_2; first | rwa [add_block] at this | exact this) GW334.out)) | (dsimp only; exact Nat.ne_of_lt (Nat.lt_of_lt_of_le (by have := World.block_lt_of_cell? _ _ hw333_2; first | rwa [add_block] at this | exact this) GW334.out))) _).trans (((cell_far (p := ⟨gb334, _, none⟩) (by first | exact Nat.ne_of_lt (Nat.lt_of_lt_of_le (by have := World.block_lt_of_cell? _ _ hw333_2; first | rwa [add_block] at this | exact this) GW334.out) | (rw [add_block]; exact Nat.ne_of_lt (Nat.lt_of_lt_of_le (by have := World.block_lt_of_cell? _ _ hw333_2; first | rwa [add_block] at this | exact this) GW334.out)) | (show (Addr.add _ _).block ≠ _; rw [add_block]; exact Nat.ne_of_lt (Nat.lt_of_lt_of_le (by have := World.block_lt_of_cell? _ _ hw333_2; first | rwa [add_block] at this | exact this) GW334.out)) | (dsimp only; exact Nat.ne_of_lt (Nat.lt_of_lt_of_le (by have := World.block_lt_of_cell? _ _ hw333_2; first | rwa [add_block] at this | exact this) GW334.out))) _).trans (hHeld.2.2.2.2.1)))))))))))))), ((cell_far (p := ⟨gb334, _, none⟩) (by first | exact Nat.ne_of_lt (Nat.lt_of_lt_of_le (by have := World.block_lt_of_cell? _ _ hw333_3; first | rwa [add_block] at this | exact this) GW334.out) | (rw [add_block]; exact Nat.ne_of_lt (Nat.lt_of_lt_of_le (by have := World.block_lt_of_cell? _ _ hw333_3; first | rwa [add_block] at this | exact this) GW334.out)) | (show (Addr.add _ _).block ≠ _; rw [add_block]; exact Nat.ne_of_lt (Nat.lt_of_lt_of_le (by have := World.block_lt_of_cell? _ _ hw333_3; first | rwa [add_block] at this | exact this) GW334.out)) | (dsimp only; exact Nat.ne_of_lt (Nat.lt_of_lt_of_le (by have := World.block_lt_of_cell? _ _ hw333_3; first | rwa [add_block] at this | exact this) GW334.out))) _).trans (((cell_far (p := ⟨gb334, _, none⟩) (by first | exact Nat.ne_of_lt (Nat.lt_of_lt_of_le (by have := World.block_lt_of_cell? _ _ hw333_3; first | rwa [add_block] at this | exact this) GW334.out) | (rw [add_block]; exact Nat.ne_of_lt (Nat.lt_of_lt_of_le (by have := World.block_lt_of_cell? _ _ hw333_3; first | rwa [add_block] at this | exact this) GW334.out)) | (show (Addr.add _ _).block ≠ _; rw [add_block]; exact Nat.ne_of_lt (Nat.lt_of_lt_of_le (by have := World.block_lt_of_cell? _ _ hw333_3; first | rwa [add_block] at this | exact this) GW334.out)) | (dsimp only; exact Nat.ne_of_lt (Nat.lt_of_lt_of_le (by have := World.block_lt_of_cell? _ _ hw333_3; first | rwa [add_block] at this | exact this) GW334.out))) _).trans (((cell_far (p := ⟨gb334, _, none⟩) (by first | exact Nat.ne_of_lt (Nat.lt_of_lt_of_le (by have := World.block_lt_of_cell? _ _ hw333_3; first | rwa [add_block] at this | exact this) GW334.out) | (rw [add_block]; exact Nat.ne_of_lt (Nat.lt_of_lt_of_le (by have := World.block_lt_of_cell? _ _ hw333_3; first | rwa [add_block] at this | exact this) GW334.out)) | (show (Addr.add _ _).block ≠ _; rw [add_block]; exact Nat.ne_of_lt (Nat.lt_of_lt_of_le (by have := World.block_lt_of_cell? _ _ hw333_3; first | rwa [add_block] at this | exact this) GW334.out)) | (dsimp only; exact Nat.ne_of_lt (Nat.lt_of_lt_of_le (by have := World.block_lt_of_cell? _ _ hw333_3; first | rwa [add_block] at this | exact this) GW334.out))) _).trans (((cell_far (p := ⟨gb334, _, none⟩) (by first | exact Nat.ne_of_lt (Nat.lt_of_lt_of_le (by have := World.block_lt_of_cell? _ _ hw333_3; first | rwa [add_block] at this | exact this) GW334.out) | (rw [add_block]; exact Nat.ne_of_lt (Nat.lt_of_lt_of_le (by have := World.block_lt_of_cell? _ _ hw333_3; first | rwa [add_block] at this | exact this) GW334.out)) | (show (Addr.add _ _).block ≠ _; rw [add_block]; exact Nat.ne_of_lt (Nat.lt_of_lt_of_le (by have := World.block_lt_of_cell? _ _ hw333_3; first | rwa [add_block] at this | exact this) GW334.out)) | (dsimp only; exact Nat.ne_of_lt (Nat.lt_of_lt_of_le (by have := World.block_lt_of_cell? _ _ hw333_3; first | rwa [add_block] at this | exact this) GW334.out))) _).trans (((cell_far (p := ⟨gb334, _, none⟩) (by first | exact Nat.ne_of_lt (Nat.lt_of_lt_of_le (by have := World.block_lt_of_cell? _ _ hw333_3; first | rwa [add_block] at this | exact this) GW334.out) | (rw [add_block]; exact Nat.ne_of_lt (Nat.lt_of_lt_of_le (by have := World.block_lt_of_cell? _ _ hw333_3; first | rwa [add_block] at this | exact this) GW334.out)) | (show (Addr.add _ _).block ≠ _; rw [add_block]; exact Nat.ne_of_lt (Nat.lt_of_lt_of_le (by have := World.block_lt_of_cell? _ _ hw333_3; first | rwa [add_block] at this | exact this) GW334.out)) | (dsimp only; exact Nat.ne_of_lt (Nat.lt_of_lt_of_le (by have := World.block_lt_of_cell? _ _ hw333_3; first | rwa [add_block] at this | exact this) GW334.out))) _).trans (((cell_far (p := ⟨gb334, _, none⟩) (by first | exact Nat.ne_of_lt (Nat.lt_of_lt_of_le (by have := World.block_lt_of_cell? _ _ hw333_3; first | rwa [add_block] at this | exact this) GW334.out) | (rw [add_block]; exact Nat.ne_of_lt (Nat.lt_of_lt_of_le (by have := World.block_lt_of_cell? _ _ hw333_3; first | rwa [add_block] at this | exact this) GW334.out)) | (show (Addr.add _ _).block ≠ _; rw [add_block]; exact Nat.ne_of_lt (Nat.lt_of_lt_of_le (by have := World.block_lt_of_cell? _ _ hw333_3; first | rwa [add_block] at this | exact this) GW334.out)) | (dsimp only; exact Nat.ne_of_lt (Nat.lt_of_lt_of_le (by have := World.block_lt_of_cell? _ _ hw333_3; first | rwa [add_block] at this | exact this) GW334.out))) _).trans (((cell_far (p := ⟨gb334, _, none⟩) (by first | exact Nat.ne_of_lt (Nat.lt_of_lt_of_le (by have := World.block_lt_of_cell? _ _ hw333_3; first | rwa [add_block] at this | exact this) GW334.out) | (rw [add_block]; exact Nat.ne_of_lt (Nat.lt_of_lt_of_le (by have := World.block_lt_of_cell? _ _ hw333_3; first | rwa [add_block] at this | exact this) GW334.out)) | (show (Addr.add _ _).block ≠ _; rw [add_block]; exact Nat.ne_of_lt (Nat.lt_of_lt_of_le (by have := World.block_lt_of_cell? _ _ hw333_3; first | rwa [add_block] at this | exact this) GW334.out)) | (dsimp only; exact Nat.ne_of_lt (Nat.lt_of_lt_of_le (by have := World.block_lt_of_cell? _ _ hw333_3; first | rwa [add_block] at this | exact this) GW334.out))) _).trans (hHeld.2.2.2.2.2.1)))))))))))))), ((cell_far (p := ⟨gb334, _, none⟩) (by first | exact Nat.ne_of_lt (Nat.lt_of_lt_of_le (by have := World.block_lt_of_cell? _ _ hw333_4; first | rwa [add_block] at this | exact this) GW334.out) | (rw [add_block]; exact Nat.ne_of_lt (Nat.lt_of_lt_of_le (by have := World.block_lt_of_cell? _ _ hw333_4; first | rwa [add_block] at this | exact this) GW334.out)) | (show (Addr.add _ _).block ≠ _; rw [add_block]; exact Nat.ne_of_lt (Nat.lt_of_lt_of_le (by have := World.block_lt_of_cell? _ _ hw333_4; first | rwa [add_block] at this | exact this) GW334.out)) | (dsimp only; exact Nat.ne_of_lt (Nat.lt_of_lt_of_le (by have := World.block_lt_of_cell? _ _ hw333_4; first | rwa [add_block] at this | exact this) GW334.out))) _).trans (((cell_far (p := ⟨gb334, _, none⟩) (by first | exact Nat.ne_of_lt (Nat.lt_of_lt_of_le (by have := World.block_lt_of_cell? _ _ hw333_4; first | rwa [add_block] at this | exact this) GW334.out) | (rw [add_block]; exact Nat.ne_of_lt (Nat.lt_of_lt_of_le (by have := World.block_lt_of_cell? _ _ hw333_4; first | rwa [add_block] at this | exact this) GW334.out)) | (show (Addr.add _ _).block ≠ _; rw [add_block]; exact Nat.ne_of_lt (Nat.lt_of_lt_of_le (by have := World.block_lt_of_cell? _ _ hw333_4; first | rwa [add_block] at this | exact this) GW334.out)) | (dsimp only; exact Nat.ne_of_lt (Nat.lt_of_lt_of_le (by have := World.block_lt_of_cell? _ _ hw333_4; first | rwa [add_block] at this | exact this) GW334.out))) _).trans (((cell_far (p := ⟨gb334, _, none⟩) (by first | exact Nat.ne_of_lt (Nat.lt_of_lt_of_le (by have := World.block_lt_of_cell? _ _ hw333_4; first | rwa [add_block] at this | exact this) GW334.out) | (rw [add_block]; exact Nat.ne_of_lt (Nat.lt_of_lt_of_le (by have := World.block_lt_of_cell? _ _ hw333_4; first | rwa [add_block] at this | exact this) GW334.out)) | (show (Addr.add _ _).block ≠ _; rw [add_block]; exact Nat.ne_of_lt (Nat.lt_of_lt_of_le (by have := World.block_lt_of_cell? _ _ hw333_4; first | rwa [add_block] at this | exact this) GW334.out)) | (dsimp only; exact Nat.ne_of_lt (Nat.lt_of_lt_of_le (by have := World.block_lt_of_cell? _ _ hw333_4; first | rwa [add_block] at this | exact this) GW334.out))) _).trans (((cell_far (p := ⟨gb334, _, none⟩) (by first | exact Nat.ne_of_lt (Nat.lt_of_lt_of_le (by have := World.block_lt_of_cell? _ _ hw333_4; first | rwa [add_block] at this | exact this) GW334.out) | (rw [add_block]; exact Nat.ne_of_lt (Nat.lt_of_lt_of_le (by have := World.block_lt_of_cell? _ _ hw333_4; first | rwa [add_block] at this | exact this) GW334.out)) | (show (Addr.add _ _).block ≠ _; rw [add_block]; exact Nat.ne_of_lt (Nat.lt_of_lt_of_le (by have := World.block_lt_of_cell? _ _ hw333_4; first | rwa [add_block] at this | exact this) GW334.out)) | (dsimp only; exact Nat.ne_of_lt (Nat.lt_of_lt_of_le (by have := World.block_lt_of_cell? _ _ hw333_4; first | rwa [add_block] at this | exact this) GW334.out))) _).trans (((cell_far (p := ⟨gb334, _, none⟩) (by first | exact Nat.ne_of_lt (Nat.lt_of_lt_of_le (by have := World.block_lt_of_cell? _ _ hw333_4; first | rwa [add_block] at this | exact this) GW334.out) | (rw [add_block]; exact Nat.ne_of_lt (Nat.lt_of_lt_of_le (by have := World.block_lt_of_cell? _ _ hw333_4; first | rwa [add_block] at this | exact this) GW334.out)) | (show (Addr.add _ _).block ≠ _; rw [add_block]; exact Nat.ne_of_lt (Nat.lt_of_lt_of_le (by have := World.block_lt_of_cell? _ _ hw333_4; first | rwa [add_block] at this | exact this) GW334.out)) | (dsimp only; exact Nat.ne_of_lt (Nat.lt_of_lt_of_le (by have := World.block_lt_of_cell? _ _ hw333_4; first | rwa [add_block] at this | exact this) GW334.out))) _).trans (((cell_far (p := ⟨gb334, _, none⟩) (by first | exact Nat.ne_of_lt (Nat.lt_of_lt_of_le (by have := World.block_lt_of_cell? _ _ hw333_4; first | rwa [add_block] at this | exact this) GW334.out) | (rw [add_block]; exact Nat.ne_of_lt (Nat.lt_of_lt_of_le (by have := World.block_lt_of_cell? _ _ hw333_4; first | rwa [add_block] at this | exact this) GW334.out)) | (show (Addr.add _ _).block ≠ _; rw [add_block]; exact Nat.ne_of_lt (Nat.lt_of_lt_of_le (by have := World.block_lt_of_cell? _ _ hw333_4; first | rwa [add_block] at this | exact this) GW334.out)) | (dsimp only; exact Nat.ne_of_lt (Nat.lt_of_lt_of_le (by have := World.block_lt_of_cell? _ _ hw333_4; first | rwa [add_block] at this | exact this) GW334.out))) _).trans (((cell_far (p := ⟨gb334, _, none⟩) (by first | exact Nat.ne_of_lt (Nat.lt_of_lt_of_le (by have := World.block_lt_of_cell? _ _ hw333_4; first | rwa [add_block] at this | exact this) GW334.out) | (rw [add_block]; exact Nat.ne_of_lt (Nat.lt_of_lt_of_le (by have := World.block_lt_of_cell? _ _ hw333_4; first | rwa [add_block] at this | exact this) GW334.out)) | (show (Addr.add _ _).block ≠ _; rw [add_block]; exact Nat.ne_of_lt (Nat.lt_of_lt_of_le (by have := World.block_lt_of_cell? _ _ hw333_4; first | rwa [add_block] at this | exact this) GW334.out)) | (dsimp only; exact Nat.ne_of_lt (Nat.lt_of_lt_of_le (by have := World.block_lt_of_cell? _ _ hw333_4; first | rwa [add_block] at this | exact this) GW334.out))) _).trans (hHeld.2.2.2.2.2.2.1)))))))))))))), ((cell_far (p := ⟨gb334, _, none⟩) (by first | exact Nat.ne_of_lt (Nat.lt_of_lt_of_le (by have := World.block_lt_of_cell? _ _ hw333_5; first | rwa [add_block] at this | exact this) GW334.out) | (rw [add_block]; exact Nat.ne_of_lt (Nat.lt_of_lt_of_le (by have := World.block_lt_of_cell? _ _ hw333_5; first | rwa [add_block] at this | exact this) GW334.out)) | (show (Addr.add _ _).block ≠ _; rw [add_block]; exact Nat.ne_of_lt (Nat.lt_of_lt_of_le (by have := World.block_lt_of_cell? _ _ hw333_5; first | rwa [add_block] at this | exact this) GW334.out)) | (dsimp only; exact Nat.ne_of_lt (Nat.lt_of_lt_of_le (by have := World.block_lt_of_cell? _ _ hw333_5; first | rwa [add_block] at this | exact this) GW334.out))) _).trans (((cell_far (p := ⟨gb334, _, none⟩) (by first | exact Nat.ne_of_lt (Nat.lt_of_lt_of_le (by have := World.block_lt_of_cell? _ _ hw333_5; first | rwa [add_block] at this | exact this) GW334.out) | (rw [add_block]; exact Nat.ne_of_lt (Nat.lt_of_lt_of_le (by have := World.block_lt_of_cell? _ _ hw333_5; first | rwa [add_block] at this | exact this) GW334.out)) | (show (Addr.add _ _).block ≠ _; rw [add_block]; exact Nat.ne_of_lt (Nat.lt_of_lt_of_le (by have := World.block_lt_of_cell? _ _ hw333_5; first | rwa [add_block] at this | exact this) GW334.out)) | (dsimp only; exact Nat.ne_of_lt (Nat.lt_of_lt_of_le (by have := World.block_lt_of_cell? _ _ hw333_5; first | rwa [add_block] at this | exact this) GW334.out))) _).trans (((cell_far (p := ⟨gb334, _, none⟩) (by first | exact Nat.ne_of_lt (Nat.lt_of_lt_of_le (by have := World.block_lt_of_cell? _ _ hw333_5; first | rwa [add_block] at this | exact this) GW334.out) | (rw [add_block]; exact Nat.ne_of_lt (Nat.lt_of_lt_of_le (by have := World.block_lt_of_cell? _ _ hw333_5; first | rwa [add_block] at this | exact this) GW334.out)) | (show (Addr.add _ _).block ≠ _; rw [add_block]; exact Nat.ne_of_lt (Nat.lt_of_lt_of_le (by have := World.block_lt_of_cell? _ _ hw333_5; first | rwa [add_block] at this | exact this) GW334.out)) | (dsimp only; exact Nat.ne_of_lt (Nat.lt_of_lt_of_le (by have := World.block_lt_of_cell? _ _ hw333_5; first | rwa [add_block] at this | exact this) GW334.out))) _).trans (((cell_far (p := ⟨gb334, _, none⟩) (by first | exact Nat.ne_of_lt (Nat.lt_of_lt_of_le (by have := World.block_lt_of_cell? _ _ hw333_5; first | rwa [add_block] at this | exact this) GW334.out) | (rw [add_block]; exact Nat.ne_of_lt (Nat.lt_of_lt_of_le (by have := World.block_lt_of_cell? _ _ hw333_5; first | rwa [add_block] at this | exact this) GW334.out)) | (show (Addr.add _ _).block ≠ _; rw [add_block]; exact Nat.ne_of_lt (Nat.lt_of_lt_of_le (by have := World.block_lt_of_cell? _ _ hw333_5; first | rwa [add_block] at this | exact this) GW334.out)) | (dsimp only; exact Nat.ne_of_lt (Nat.lt_of_lt_of_le (by have := World.block_lt_of_cell? _ _ hw333_5; first | rwa [add_block] at this | exact this) GW334.out))) _).trans (((cell_far (p := ⟨gb334, _, none⟩) (by first | exact Nat.ne_of_lt (Nat.lt_of_lt_of_le (by have := World.block_lt_of_cell? _ _ hw333_5; first | rwa [add_block] at this | exact this) GW334.out) | (rw [add_block]; exact Nat.ne_of_lt (Nat.lt_of_lt_of_le (by have := World.block_lt_of_cell? _ _ hw333_5; first | rwa [add_block] at this | exact this) GW334.out)) | (show (Addr.add _ _).block ≠ _; rw [add_block]; exact Nat.ne_of_lt (Nat.lt_of_lt_of_le (by have := World.block_lt_of_cell? _ _ hw333_5; first | rwa [add_block] at this | exact this) GW334.out)) | (dsimp only; exact Nat.ne_of_lt (Nat.lt_of_lt_of_le (by have := World.block_lt_of_cell? _ _ hw333_5; first | rwa [add_block] at this | exact this) GW334.out))) _).trans (((cell_far (p := ⟨gb334, _, none⟩) (by first | exact Nat.ne_of_lt (Nat.lt_of_lt_of_le (by have := World.block_lt_of_cell? _ _ hw333_5; first | rwa [add_block] at this | exact this) GW334.out) | (rw [add_block]; exact Nat.ne_of_lt (Nat.lt_of_lt_of_le (by have := World.block_lt_of_cell? _ _ hw333_5; first | rwa [add_block] at this | exact this) GW334.out)) | (show (Addr.add _ _).block ≠ _; rw [add_block]; exact Nat.ne_of_lt (Nat.lt_of_lt_of_le (by have := World.block_lt_of_cell? _ _ hw333_5; first | rwa [add_block] at this | exact this) GW334.out)) | (dsimp only; exact Nat.ne_of_lt (Nat.lt_of_lt_of_le (by have := World.block_lt_of_cell? _ _ hw333_5; first | rwa [add_block] at this | exact this) GW334.out))) _).trans (((cell_far (p := ⟨gb334, _, none⟩) (by first | exact Nat.ne_of_lt (Nat.lt_of_lt_of_le (by have := World.block_lt_of_cell? _ _ hw333_5; first | rwa [add_block] at this | exact this) GW334.out) | (rw [add_block]; exact Nat.ne_of_lt (Nat.lt_of_lt_of_le (by have := World.block_lt_of_cell? _ _ hw333_5; first | rwa [add_block] at this | exact this) GW334.out)) | (show (Addr.add _ _).block ≠ _; rw [add_block]; exact Nat.ne_of_lt (Nat.lt_of_lt_of_le (by have := World.block_lt_of_cell? _ _ hw333_5; first | rwa [add_block] at this | exact this) GW334.out)) | (dsimp only; exact Nat.ne_of_lt (Nat.lt_of_lt_of_le (by have := World.block_lt_of_cell? _ _ hw333_5; first | rwa [add_block] at this | exact this) GW334.out))) _).trans (hHeld.2.2.2.2.2.2.2.1)))))))))))))), ((cell_far (p := ⟨gb334, _, none⟩) (by first | exact Nat.ne_of_lt (Nat.lt_of_lt_of_le (by have := World.block_lt_of_cell? _ _ hw333_6; first | rwa [add_block] at this | exact this) GW334.out) | (rw [add_block]; exact Nat.ne_of_lt (Nat.lt_of_lt_of_le (by have := World.block_lt_of_cell? _ _ hw333_6; first | rwa [add_block] at this | exact this) GW334.out)) | (show (Addr.add _ _).block ≠ _; rw [add_block]; exact Nat.ne_of_lt (Nat.lt_of_lt_of_le (by have := World.block_lt_of_cell? _ _ hw333_6; first | rwa [add_block] at this | exact this) GW334.out)) | (dsimp only; exact Nat.ne_of_lt (Nat.lt_of_lt_of_le (by have := World.block_lt_of_cell? _ _ hw333_6; first | rwa [add_block] at this | exact this) GW334.out))) _).trans (((cell_far (p := ⟨gb334, _, none⟩) (by first | exact Nat.ne_of_lt (Nat.lt_of_lt_of_le (by have := World.block_lt_of_cell? _ _ hw333_6; first | rwa [add_block] at this | exact this) GW334.out) | (rw [add_block]; exact Nat.ne_of_lt (Nat.lt_of_lt_of_le (by have := World.block_lt_of_cell? _ _ hw333_6; first | rwa [add_block] at this | exact this) GW334.out)) | (show (Addr.add _ _).block ≠ _; rw [add_block]; exact Nat.ne_of_lt (Nat.lt_of_lt_of_le (by have := World.block_lt_of_cell? _ _ hw333_6; first | rwa [add_block] at this | exact this) GW334.out)) | (dsimp only; exact Nat.ne_of_lt (Nat.lt_of_lt_of_le (by have := World.block_lt_of_cell? _ _ hw333_6; first | rwa [add_block] at this | exact this) GW334.out))) _).trans (((cell_far (p := ⟨gb334, _, none⟩) (by first | exact Nat.ne_of_lt (Nat.lt_of_lt_of_le (by have := World.block_lt_of_cell? _ _ hw333_6; first | rwa [add_block] at this | exact this) GW334.out) | (rw [add_block]; exact Nat.ne_of_lt (Nat.lt_of_lt_of_le (by have := World.block_lt_of_cell? _ _ hw333_6; first | rwa [add_block] at this | exact this) GW334.out)) | (show (Addr.add _ _).block ≠ _; rw [add_block]; exact Nat.ne_of_lt (Nat.lt_of_lt_of_le (by have := World.block_lt_of_cell? _ _ hw333_6; first | rwa [add_block] at this | exact this) GW334.out)) | (dsimp only; exact Nat.ne_of_lt (Nat.lt_of_lt_of_le (by have := World.block_lt_of_cell? _ _ hw333_6; first | rwa [add_block] at this | exact this) GW334.out))) _).trans (((cell_far (p := ⟨gb334, _, none⟩) (by first | exact Nat.ne_of_lt (Nat.lt_of_lt_of_le (by have := World.block_lt_of_cell? _ _ hw333_6; first | rwa [add_block] at this | exact this) GW334.out) | (rw [add_block]; exact Nat.ne_of_lt (Nat.lt_of_lt_of_le (by have := World.block_lt_of_cell? _ _ hw333_6; first | rwa [add_block] at this | exact this) GW334.out)) | (show (Addr.add _ _).block ≠ _; rw [add_block]; exact Nat.ne_of_lt (Nat.lt_of_lt_of_le (by have := World.block_lt_of_cell? _ _ hw333_6; first | rwa [add_block] at this | exact this) GW334.out)) | (dsimp only; exact Nat.ne_of_lt (Nat.lt_of_lt_of_le (by have := World.block_lt_of_cell? _ _ hw333_6; first | rwa [add_block] at this | exact this) GW334.out))) _).trans (((cell_far (p := ⟨gb334, _, none⟩) (by first | exact Nat.ne_of_lt (Nat.lt_of_lt_of_le (by have := World.block_lt_of_cell? _ _ hw333_6; first | rwa [add_block] at this | exact this) GW334.out) | (rw [add_block]; exact Nat.ne_of_lt (Nat.lt_of_lt_of_le (by have := World.block_lt_of_cell? _ _ hw333_6; first | rwa [add_block] at this | exact this) GW334.out)) | (show (Addr.add _ _).block ≠ _; rw [add_block]; exact Nat.ne_of_lt (Nat.lt_of_lt_of_le (by have := World.block_lt_of_cell? _ _ hw333_6; first | rwa [add_block] at this | exact this) GW334.out)) | (dsimp only; exact Nat.ne_of_lt (Nat.lt_of_lt_of_le (by have := World.block_lt_of_cell? _ _ hw333_6; first | rwa [add_block] at this | exact this) GW334.out))) _).trans (((cell_far (p := ⟨gb334, _, none⟩) (by first | exact Nat.ne_of_lt (Nat.lt_of_lt_of_le (by have := World.block_lt_of_cell? _ _ hw333_6; first | rwa [add_block] at this | exact this) GW334.out) | (rw [add_block]; exact Nat.ne_of_lt (Nat.lt_of_lt_of_le (by have := World.block_lt_of_cell? _ _ hw333_6; first | rwa [add_block] at this | exact this) GW334.out)) | (show (Addr.add _ _).block ≠ _; rw [add_block]; exact Nat.ne_of_lt (Nat.lt_of_lt_of_le (by have := World.block_lt_of_cell? _ _ hw333_6; first | rwa [add_block] at this | exact this) GW334.out)) | (dsimp only; exact Nat.ne_of_lt (Nat.lt_of_lt_of_le (by have := World.block_lt_of_cell? _ _ hw333_6; first | rwa [add_block] at this | exact this) GW334.out))) _).trans (((cell_far (p := ⟨gb334, _, none⟩) (by first | exact Nat.ne_of_lt (Nat.lt_of_lt_of_le (by have := World.block_lt_of_cell? _ _ hw333_6; first | rwa [add_block] at this | exact this) GW334.out) | (rw [add_block]; exact Nat.ne_of_lt (Nat.lt_of_lt_of_le (by have := World.block_lt_of_cell? _ _ hw333_6; first | rwa [add_block] at this | exact this) GW334.out)) | (show (Addr.add _ _).block ≠ _; rw [add_block]; exact Nat.ne_of_lt (Nat.lt_of_lt_of_le (by have := World.block_lt_of_cell? _ _ hw333_6; first | rwa [add_block] at this | exact this) GW334.out)) | (dsimp only; exact Nat.ne_of_lt (Nat.lt_of_lt_of_le (by have := World.block_lt_of_cell? _ _ hw333_6; first | rwa [add_block] at this | exact this) GW334.out))) _).trans (hHeld.2.2.2.2.2.2.2.2))))))))))))))⟩ (fun hHeld => ?_)
     clear hK K
     refine dn ?_
     try go_wp2
     have n0_ : Aside0 (Kd.R Kd.string 9 (((((((w57.setCell ⟨gb334, 0, none⟩ (.int .i64 ((rd_T65 l0_0 t332).f0))).setCell ⟨gb334, 1, none⟩ (.int .i64 ((rd_T65 l0_0 t332).f1))).setCell ⟨gb334, 2, none⟩ (.int .i64 ((rd_T65 l0_0 t332).f2))).setCell ⟨gb334, 3, none⟩ (.int .i64 ((rd_T65 l0_0 t332).f3))).setCell ⟨gb334, 4, none⟩ (.int .i64 ((rd_T65 l0_0 t332).f4))).setCell ⟨gb334, 5, none⟩ (.string ((rd_T65 l0_0 t332).f5))).setCell ⟨gb334, 6, none⟩ (.slice A333_6 ((rd_T65 l0_0 t332).f6).length c333_6)) w.heap.size (fun _ => True) (.slice (some ad331) t328.length co7) t328) := ⟨rRf HO_11 BK334 (fun _ hk => trivial)⟩
     have n1_ : Aside0 ((((((((w57.setCell ⟨gb334, 0, none⟩ (.int .i64 ((rd_T65 l0_0 t332).f0))).setCell ⟨gb334, 1, none⟩ (.int .i64 ((rd_T65 l0_0 t332).f1))).setCell ⟨gb334, 2, none⟩ (.int .i64 ((rd_T65 l0_0 t332).f2))).setCell ⟨gb334, 3, none⟩ (.int .i64 ((rd_T65 l0_0 t332).f3))).setCell ⟨gb334, 4, none⟩ (.int .i64 ((rd_T65 l0_0 t332).f4))).setCell ⟨gb334, 5, none⟩ (.string ((rd_T65 l0_0 t332).f5))).setCell ⟨gb334, 6, none⟩ (.slice A333_6 ((rd_T65 l0_0 t332).f6).length c333_6)).heap[gb327]? = some (.cells #[.slice (some ad333) l0_0.length c0_0, .int .i64 a0_1] 30 (0, 0))) := ⟨sX BK327⟩
     have n2_ : Aside0 ((((((((w57.setCell ⟨gb334, 0, none⟩ (.int .i64 ((rd_T65 l0_0 t332).f0))).setCell ⟨gb334, 1, none⟩ (.int .i64 ((rd_T65 l0_0 t332).f1))).setCell ⟨gb334, 2, none⟩ (.int .i64 ((rd_T65 l0_0 t332).f2))).setCell ⟨gb334, 3, none⟩ (.int .i64 ((rd_T65 l0_0 t332).f3))).setCell ⟨gb334, 4, none⟩ (.int .i64 ((rd_T65 l0_0 t332).f4))).setCell ⟨gb334, 5, none⟩ (.string ((rd_T65 l0_0 t332).f5))).setCell ⟨gb334, 6, none⟩ (.slice A333_6 ((rd_T65 l0_0 t332).f6).length c333_6)).heap[gb334]? = some (.cells #[.int .i64 ((rd_T65 l0_0 t332).f0), .int .i64 ((rd_T65 l0_0 t332).f1), .int .i64 ((rd_T65 l0_0 t332).f2), .int .i64 ((rd_T65 l0_0 t332).f3), .int .i64 ((rd_T65 l0_0 t332).f4), .string ((rd_T65 l0_0 t332).f5), .slice A333_6 ((rd_T65 l0_0 t332).f6).length c333_6] 65 (0, 0))) := ⟨sX BK334⟩
     have n3_ : Aside0 (Below w.heap.size w (((((((w57.setCell ⟨gb334, 0, none⟩ (.int .i64 ((rd_T65 l0_0 t332).f0))).setCell ⟨gb334, 1, none⟩ (.int .i64 ((rd_T65 l0_0 t332).f1))).setCell ⟨gb334, 2, none⟩ (.int .i64 ((rd_T65 l0_0 t332).f2))).setCell ⟨gb334, 3, none⟩ (.int .i64 ((rd_T65 l0_0 t332).f3))).setCell ⟨gb334, 4, none⟩ (.int .i64 ((rd_T65 l0_0 t332).f4))).setCell ⟨gb334, 5, none⟩ (.string ((rd_T65 l0_0 t332).f5))).setCell ⟨gb334, 6, none⟩ (.slice A333_6 ((rd_T65 l0_0 t332).f6).length c333_6))) := ⟨sC⟩
     (try clear HO_11)
     (try clear BK327)
     (try clear BK334)
     (try clear HB)
     generalize (((((((w57.setCell ⟨gb334, 0, none⟩ (.int .i64 ((rd_T65 l0_0 t332).f0))).setCell ⟨gb334, 1, none⟩ (.int .i64 ((rd_T65 l0_0 t332).f1))).setCell ⟨gb334, 2, none⟩ (.int .i64 ((rd_T65 l0_0 t332).f2))).setCell ⟨gb334, 3, none⟩ (.int .i64 ((rd_T65 l0_0 t332).f3))).setCell ⟨gb334, 4, none⟩ (.int .i64 ((rd_T65 l0_0 t332).f4))).setCell ⟨gb334, 5, none⟩ (.string ((rd_T65 l0_0 t332).f5))).setCell ⟨gb334, 6, none⟩ (.slice A333_6 ((rd_T65 l0_0 t332).f6).length c333_6)) = w65 at n0_ n1_ n2_ n3_ ⊢
     have HO_11 := n0_
     have BK327 := n1_
     have BK334 := n2_
     have HB := n3_
     clear n0_ n1_ n2_ n3_
     have n0_ := Aside0.mk (Kd.R_drew HO_11.out)
     have n1_ := Aside0.mk (blk_drew BK327.out)
     have n2_ := Aside0.mk (blk_drew BK334.out)
     have n3_ := Aside0.mk (below_drew1 HB.out)
     clear HO_11
     clear BK327
     clear BK334
     clear HB
     have HO_11 := n0_
     have BK327 := n1_
     have BK334 := n2_
     have HB := n3_
     clear n0_ n1_ n2_ n3_
     refine st7 31 [] (cz0 BK334) (cz1 BK334) (cz2 BK334) (cz3 BK334) (cz4 BK334) (cz5 BK334) (cz6 BK334) (fun hHeld => ?_); refine with_tabW spec_l7Text.tab6 spec_l7Text.bits6 (fun HT_ HW_ => ?_)
     generalize w65.drew = w66 at HO_11 BK327 BK334 HB hHeld ⊢
     refine pu 0 25 ?_
     refine pu 1 26 ?_
     refine pu 3 28 ?_
     refine pu 7 32 ?_
     refine pu 12 37 ?_
     refine pu 17 42 ?_
     refine pu 22 47 ?_
     refine pu 27 52 ?_
     refine tk7 2 27 ?_
     refine tk7 4 29 ?_
     refine pu 5 30 ?_
     refine pu 6 31 ?_
     refine tk7 8 33 ?_
     refine tk7 13 38 ?_
     refine tk7 18 43 ?_
     refine tk7 23 48 ?_
     refine on 9 34 (fun K hK => ?_)
     refine gC Tryz.func57 #[.int .i64 ((rd_T65 l0_0 t332).f1)] ?_
     with_reducible refine (spec_l1Signs.calls k1 ((rd_T65 l0_0 t332).f1) t335 _ A17.out).mono ?_
     rintro e w' ⟨rfl, ⟨nd, rfl⟩⟩
     refine ⟨_, rfl, ?_⟩
     refine hK.out _ _ ⟨cz0 BK334, cz1 BK334, cz2 BK334, cz3 BK334, cz4 BK334, cz5 BK334, cz6 BK334⟩ (fun hHeld => ?_)
     clear hK K
     refine ndN 34 ?_
     refine pu 10 35 ?_
     refine pu 11 36 ?_
     refine on 14 39 (fun K hK => ?_)
     refine gC Tryz.func58 #[.int .i64 ((rd_T65 l0_0 t332).f2)] ?_
     with_reducible refine (spec_l1Num.calls k1 ((rd_T65 l0_0 t332).f2) t336 _ A20.out).mono ?_
     rintro e w67 ⟨rfl, hb⟩
     refine ⟨_, rfl, ?_⟩
     have n0_ := nR HO_11 hb
     have n1_ := nK BK327 hb
     have n2_ := nK BK334 hb
     have n3_ := nSC hb
     clear HO_11
     clear BK327
     clear BK334
     clear HB
     have HO_11 := n0_
     have BK327 := n1_
     have BK334 := n2_
     have HB := n3_
     clear n0_ n1_ n2_ n3_
     (try clear hb)
     (try clear hb2)
     (try clear hk)
     (try clear hi)
     refine hK.out _ _ ⟨cz0 BK334, cz1 BK334, cz2 BK334, cz3 BK334, cz4 BK334, cz5 BK334, cz6 BK334⟩ (fun hHeld => ?_)
     clear hK K
     refine ndN 39 ?_
     refine pu 15 40 ?_
     refine pu 16 41 ?_
     refine on 19 44 (fun K hK => ?_)
     refine gC Tryz.func58 #[.int .i64 ((rd_T65 l0_0 t332).f3)] ?_
     with_reducible refine (spec_l1Num.calls k1 ((rd_T65 l0_0 t332).f3) t337 _ A23.out).mono ?_
     rintro e w68 ⟨rfl, hb⟩
     refine ⟨_, rfl, ?_⟩
     have n0_ := nR HO_11 hb
     have n1_ := nK BK327 hb
     have n2_ := nK BK334 hb
     have n3_ := nSC hb
     clear HO_11
     clear BK327
     clear BK334
     clear HB
     have HO_11 := n0_
     have BK327 := n1_
     have BK334 := n2_
     have HB := n3_
     clear n0_ n1_ n2_ n3_
     (try clear hb)
     (try clear hb2)
     (try clear hk)
     (try clear hi)
     refine hK.out _ _ ⟨cz0 BK334, cz1 BK334, cz2 BK334, cz3 BK334, cz4 BK334, cz5 BK334, cz6 BK334⟩ (fun hHeld => ?_)
     clear hK K
     refine ndN 44 ?_
     refine pu 20 45 ?_
     refine pu 21 46 ?_
     refine on 24 49 (fun K hK => ?_)
     refine gC Tryz.func58 #[.int .i64 ((rd_T65 l0_0 t332).f4)] ?_
     with_reducible refine (spec_l1Num.calls k1 ((rd_T65 l0_0 t332).f4) t338 _ A26.out).mono ?_
     rintro e w69 ⟨rfl, hb⟩
     refine ⟨_, rfl, ?_⟩
     have n0_ := nR HO_11 hb
     have n1_ := nK BK327 hb
     have n2_ := nK BK334 hb
     have n3_ := nSC hb
     clear HO_11
     clear BK327
     clear BK334
     clear HB
     have HO_11 := n0_
     have BK327 := n1_
     have BK334 := n2_
     have HB := n3_
     clear n0_ n1_ n2_ n3_
     (try clear hb)
     (try clear hb2)
     (try clear hk)
     (try clear hi)
     refine hK.out _ _ ⟨cz0 BK334, cz1 BK334, cz2 BK334, cz3 BK334, cz4 BK334, cz5 BK334, cz6 BK334⟩ (fun hHeld => ?_)
     clear hK K
     refine ndN 49 ?_
     refine pu 25 50 ?_
     refine pu 26 51 ?_
     refine pu 28 53 ?_
     refine pu 29 54 ?_
     refine pu 30 5 ?_
     refine dn ?_
     have hnb70 := NB334_327.out
     have hnc70 := NB327_334.out
     have hcz71 := cb7 BK334
     try go_wp2
     go_roundg k1
     case measure => have := HK1.out; omega
     case rel => exact ⟨(((x5_1 ++ (((((((((xs_ ++ t335) ++ (⟨#[32]⟩ : ByteArray)) ++ t336) ++ (⟨#[32]⟩ : ByteArray)) ++ t337) ++ (⟨#[32]⟩ : ByteArray)) ++ t338) ++ (⟨#[32]⟩ : ByteArray)) ++ (rdOf ByteArray.empty t328 x13_1))) ++ ((⟨#[32]⟩ : ByteArray) ++ ((rd_T65 l0_0 t332).f5))) ++ (⟨#[10]⟩ : ByteArray)), (wrap64 (x13_1 + 1)), sR, sR, H', ⟨by have := HK1.out; omega⟩, ⟨rR HO_11⟩, ⟨sK BK327⟩, ⟨sC⟩⟩
   ·rw [if_neg c8] at H
    have c8b0 := decide_eq_false c8
    clear c8
    obtain rfl := Option.some.inj H
    go_wp2
    go_ret
    exact ⟨sE, sC⟩
end Go.Proofs.YtdjceippnokimaaGreatDoor.PTr
