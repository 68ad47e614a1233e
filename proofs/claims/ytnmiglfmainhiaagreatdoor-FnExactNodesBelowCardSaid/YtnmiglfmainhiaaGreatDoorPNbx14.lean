-- Written by a program of this session (wip/print2) out of the translation. Lean checks it.
import Derived.Test.YtnmiglfmainhiaaGreatDoorPNbx0
import Derived.Test.YtnmiglfmainhiaaGreatDoorPNbx10
import Derived.Test.YtnmiglfmainhiaaGreatDoorPNbx12
import Derived.Test.YtnmiglfmainhiaaGreatDoorPNbx13
namespace Go.Proofs.YtnmiglfmainhiaaGreatDoor.PNb
open Go.RowKit Go.Proofs.YtnmiglfmainhiaaGreatDoorW.PrintWords Go.Proofs.YtnmiglfmainhiaaGreatDoorW.PrintLast Go.Proofs.YtnmiglfmainhiaaGreatDoorW.PrintMore
attribute [local go_sem] max2_int min2_int max_two min_two max_three min_three max_four min_four   -- for this text's walks alone
set_option linter.unusedVariables false
set_option linter.unusedSimpArgs false
set_option maxHeartbeats 8000000
set_option maxRecDepth 100000

/-! ### impl_GoodFs: function 56 -/
mutual
def impl_GoodFs.j0 : Nat → Bool → List (S74) → Int → Option (Bool)
 | 0, _, _, _ => none
 | k + 1, x34, x346000, x346001 => if x34 = true then (some false) else (impl_GoodFs.l0 k x346000 (x346000.length : Int) 0 x346000 x346001)
def impl_GoodFs.l0 : Nat → List (S74) → Int → Int → List (S74) → Int → Option (Bool)
 | 0, _, _, _, _, _ => none
 | k + 1, x36, x37, x38, x346000, x346001 => if x38 < x37 then (if 0 ≤ x38 then (if x38 < (x36.length : Int) then ((impl_Fs_isNode.f k x346000 x346001 ((rd_T74 x36 x38).f0) ((rd_T74 x36 x38).f1) ((rd_T74 x36 x38).f2) ((rd_T74 x36 x38).f3) ((rd_T74 x36 x38).f4) ((rd_T74 x36 x38).f5) ((rd_T74 x36 x38).f6)).bind fun t351 => (if t351 = true then (impl_GoodFs.l0 k x36 x37 (wrap64 (x38 + 1)) x346000 x346001) else (some false))) else (none)) else (none)) else ((impl_Fs_bytesIn.f k x346000 x346001).bind fun t352 => (if t352 > x346001 then (some false) else ((impl_Fs_links.f k x346000 x346001).bind fun t353 => (impl_GoodFs.l1 k t353 x346000 (x346000.length : Int) 0 x346000 x346001))))
def impl_GoodFs.l1 : Nat → List Int → List (S74) → Int → Int → List (S74) → Int → Option (Bool)
 | 0, _, _, _, _, _, _ => none
 | k + 1, x5, x55, x56, x57, x346000, x346001 => if x57 < x56 then (if 0 ≤ x57 then (if x57 < (x55.length : Int) then (if x57 = 0 then (if ((rd_T74 x55 x57).f0) = 0 then (impl_GoodFs.l1 k x5 x55 x56 (wrap64 (x57 + 1)) x346000 x346001) else (if x57 < (x5.length : Int) then ((impl_within.f (rd x5 x57) (mn x57 1) 0).bind fun t359 => (if t359 = true then (impl_GoodFs.l1 k x5 x55 x56 (wrap64 (x57 + 1)) x346000 x346001) else (some false))) else (none))) else (if ((rd_T74 x55 x57).f0) = 2 then (if ((rd_T74 x55 x57).f0) = 0 then (impl_GoodFs.l1 k x5 x55 x56 (wrap64 (x57 + 1)) x346000 x346001) else (if x57 < (x5.length : Int) then ((impl_within.f (rd x5 x57) (mn x57 1) 1).bind fun t361 => (if t361 = true then (impl_GoodFs.l1 k x5 x55 x56 (wrap64 (x57 + 1)) x346000 x346001) else (some false))) else (none))) else (if ((rd_T74 x55 x57).f0) = 0 then (impl_GoodFs.l1 k x5 x55 x56 (wrap64 (x57 + 1)) x346000 x346001) else (if x57 < (x5.length : Int) then ((impl_within.f (rd x5 x57) (mn x57 1) 1152921504606846976).bind fun t363 => (if t363 = true then (impl_GoodFs.l1 k x5 x55 x56 (wrap64 (x57 + 1)) x346000 x346001) else (some false))) else (none))))) else (none)) else (none)) else (if 0 ≤ (x346000.length : Int) then (if ((x346000.length : Int) : Int).toNat ≤ 281474976710656 then (impl_GoodFs.l2 k (List.replicate ((x346000.length : Int) : Int).toNat false) (([0] : List Int)) 0 x346000 x346001) else (none)) else (none))
def impl_GoodFs.l2 : Nat → List Bool → List Int → Int → List (S74) → Int → Option (Bool)
 | 0, _, _, _, _, _ => none
 | k + 1, x9, x10, x11, x346000, x346001 => if x11 < (x10.length : Int) then (if 0 ≤ x11 then (if 0 ≤ (rd x10 x11) then (if (rd x10 x11) < (x9.length : Int) then (if (rd x10 x11) < (x346000.length : Int) then (impl_GoodFs.l3 k (x9.set ((rd x10 x11) : Int).toNat true) x10 x11 ((rd_T74 x346000 (rd x10 x11)).f6) (((rd_T74 x346000 (rd x10 x11)).f6).length : Int) 0 x346000 x346001) else (none)) else (none)) else (none)) else (none)) else (impl_GoodFs.l4 k x9 x346000 (x346000.length : Int) 0)
def impl_GoodFs.l3 : Nat → List Bool → List Int → Int → List (S105) → Int → Int → List (S74) → Int → Option (Bool)
 | 0, _, _, _, _, _, _, _, _ => none
 | k + 1, x9, x10, x11, x109, x110, x111, x346000, x346001 => if x111 < x110 then (if 0 ≤ x111 then (if x111 < (x109.length : Int) then (if 0 ≤ ((rd_T105 x109 x111).f1) then (if ((rd_T105 x109 x111).f1) < (x346000.length : Int) then (if ((rd_T74 x346000 ((rd_T105 x109 x111).f1)).f0) = 2 then (if ((rd_T105 x109 x111).f1) < (x9.length : Int) then (if (rdOf false x9 ((rd_T105 x109 x111).f1) = true) then (impl_GoodFs.l3 k x9 x10 x11 x109 x110 (wrap64 (x111 + 1)) x346000 x346001) else (if x10.length < 17592186044416 then (impl_GoodFs.l3 k x9 (x10 ++ [(rd_T105 x109 x111).f1]) x11 x109 x110 (wrap64 (x111 + 1)) x346000 x346001) else (none))) else (none)) else (impl_GoodFs.l3 k x9 x10 x11 x109 x110 (wrap64 (x111 + 1)) x346000 x346001)) else (none)) else (none)) else (none)) else (none)) else (impl_GoodFs.l2 k x9 x10 (wrap64 (x11 + 1)) x346000 x346001)
def impl_GoodFs.l4 : Nat → List Bool → List (S74) → Int → Int → Option (Bool)
 | 0, _, _, _, _ => none
 | k + 1, x9, x138, x139, x140 => if x140 < x139 then (if 0 ≤ x140 then (if x140 < (x138.length : Int) then (if ((rd_T74 x138 x140).f0) = 2 then (if x140 < (x9.length : Int) then (if rdOf false x9 x140 = true then (impl_GoodFs.l4 k x9 x138 x139 (wrap64 (x140 + 1))) else (some false)) else (none)) else (impl_GoodFs.l4 k x9 x138 x139 (wrap64 (x140 + 1)))) else (none)) else (none)) else (some true)
end
def impl_GoodFs.f (k : Nat) (l0_0 : List (S74)) (a0_1 : Int) : Option (Bool) := (impl_within.f (l0_0.length : Int) 1 40).bind fun t346 => (if t346 = true then ((impl_isRoom.f a0_1).bind fun t347 => (if t347 = true then (if 0 < (l0_0.length : Int) then (impl_GoodFs.j0 k (((rd_T74 l0_0 0).f0) != 2) l0_0 a0_1) else (none)) else (impl_GoodFs.j0 k true l0_0 a0_1))) else (impl_GoodFs.j0 k true l0_0 a0_1))
theorem impl_GoodFs.mono_l : ∀ k, (∀ y0 y1 y2, LeO (impl_GoodFs.j0 k y0 y1 y2) (impl_GoodFs.j0 (k + 1) y0 y1 y2)) ∧ (∀ y0 y1 y2 y3 y4, LeO (impl_GoodFs.l0 k y0 y1 y2 y3 y4) (impl_GoodFs.l0 (k + 1) y0 y1 y2 y3 y4)) ∧ (∀ y0 y1 y2 y3 y4 y5, LeO (impl_GoodFs.l1 k y0 y1 y2 y3 y4 y5) (impl_GoodFs.l1 (k + 1) y0 y1 y2 y3 y4 y5)) ∧ (∀ y0 y1 y2 y3 y4, LeO (impl_GoodFs.l2 k y0 y1 y2 y3 y4) (impl_GoodFs.l2 (k + 1) y0 y1 y2 y3 y4)) ∧ (∀ y0 y1 y2 y3 y4 y5 y6 y7, LeO (impl_GoodFs.l3 k y0 y1 y2 y3 y4 y5 y6 y7) (impl_GoodFs.l3 (k + 1) y0 y1 y2 y3 y4 y5 y6 y7)) ∧ (∀ y0 y1 y2 y3, LeO (impl_GoodFs.l4 k y0 y1 y2 y3) (impl_GoodFs.l4 (k + 1) y0 y1 y2 y3))
 | 0 => ⟨fun _ _ _ r h => by simp [impl_GoodFs.j0] at h, fun _ _ _ _ _ r h => by simp [impl_GoodFs.l0] at h, fun _ _ _ _ _ _ r h => by simp [impl_GoodFs.l1] at h, fun _ _ _ _ _ r h => by simp [impl_GoodFs.l2] at h, fun _ _ _ _ _ _ _ _ r h => by simp [impl_GoodFs.l3] at h, fun _ _ _ _ r h => by simp [impl_GoodFs.l4] at h⟩
 | k + 1 => by
  obtain ⟨ih0, ih1, ih2, ih3, ih4, ih5⟩ := impl_GoodFs.mono_l k
  refine ⟨?_, ?_, ?_, ?_, ?_, ?_⟩
  ·intro y0 y1 y2
   unfold impl_GoodFs.j0
   have m0 := @impl_Fs_bytesIn.mono
   have m1 := @impl_Fs_isNode.mono
   have m2 := @impl_Fs_links.mono
   exact mo
  ·intro y0 y1 y2 y3 y4
   unfold impl_GoodFs.l0
   have m0 := @impl_Fs_bytesIn.mono
   have m1 := @impl_Fs_isNode.mono
   have m2 := @impl_Fs_links.mono
   exact mo
  ·intro y0 y1 y2 y3 y4 y5
   unfold impl_GoodFs.l1
   have m0 := @impl_Fs_bytesIn.mono
   have m1 := @impl_Fs_isNode.mono
   have m2 := @impl_Fs_links.mono
   exact mo
  ·intro y0 y1 y2 y3 y4
   unfold impl_GoodFs.l2
   have m0 := @impl_Fs_bytesIn.mono
   have m1 := @impl_Fs_isNode.mono
   have m2 := @impl_Fs_links.mono
   exact mo
  ·intro y0 y1 y2 y3 y4 y5 y6 y7
   unfold impl_GoodFs.l3
   have m0 := @impl_Fs_bytesIn.mono
   have m1 := @impl_Fs_isNode.mono
   have m2 := @impl_Fs_links.mono
   exact mo
  ·intro y0 y1 y2 y3
   unfold impl_GoodFs.l4
   have m0 := @impl_Fs_bytesIn.mono
   have m1 := @impl_Fs_isNode.mono
   have m2 := @impl_Fs_links.mono
   exact mo
theorem impl_GoodFs.mono : ∀ a0 a1 k, LeO (impl_GoodFs.f k a0 a1) (impl_GoodFs.f (k + 1) a0 a1) := by
 intro a0 a1 k
 obtain ⟨ih0, ih1, ih2, ih3, ih4, ih5⟩ := impl_GoodFs.mono_l k
 unfold impl_GoodFs.f
 have m0 := @impl_Fs_bytesIn.mono
 have m1 := @impl_Fs_isNode.mono
 have m2 := @impl_Fs_links.mono
 exact mo
def impl_GoodFs.T29 : Bool × List (List Nat × List Nat) := (true, [([], []), ([0], [0]), ([], []), ([], []), ([2, 3], [2, 3]), ([4], [4]), ([1, 5], [1, 5]), ([6], [6]), ([7], [7]), ([8], [8]), ([], [])])
def impl_GoodFs.B29 : List Nat := [0, 1, 0, 0, 12, 28, 63, 127, 255, 511, 0]
theorem impl_GoodFs.tab29 : rtab .any (opsOf Tryz.f56 29) = impl_GoodFs.T29 := by kernel_rfl
theorem impl_GoodFs.bits29 : waitsOk impl_GoodFs.T29.2 impl_GoodFs.B29 = true := by kernel_rfl
theorem impl_GoodFs.calls (k : Nat) (A0_0 : Option Addr) (c0_0 : Nat) (l0_0 : List (S74)) (a0_1 : Int) (r : Bool) (w : World) (hr0_0 : Kd.C k74 w A0_0 l0_0.length l0_0) (hc0_0 : l0_0.length ≤ c0_0) (h : impl_GoodFs.f k l0_0 a0_1 = some r) :
  Calls Tryz.prog 56 #[.agg #[.slice A0_0 l0_0.length c0_0, .int .i64 a0_1]] w fun e w' => e = .returned (.bool r) ∧ Below w.heap.size w w' := by
 have hu31 := Tryz.underlying31
 have hu74 := Tryz.underlying74
 have hu105 := Tryz.underlying105
 have HR0_0 := Aside0.mk hr0_0
 have HC0_0 := Aside0.mk hc0_0
 clear hr0_0 hc0_0
 have HB := Aside0.mk (Below.refl w.heap.size w)
 have H : ((impl_within.f (l0_0.length : Int) 1 40).bind fun t346 => (if t346 = true then ((impl_isRoom.f a0_1).bind fun t347 => (if t347 = true then (if 0 < (l0_0.length : Int) then (impl_GoodFs.j0 k (((rd_T74 l0_0 0).f0) != 2) l0_0 a0_1) else (none)) else (impl_GoodFs.j0 k true l0_0 a0_1))) else (impl_GoodFs.j0 k true l0_0 a0_1))) = some r := h
 clear h
 have HC2 := Aside0.mk H
 clear H
 go_enter Tryz.func56, Tryz.ntmps56
 go_upto_region 1 with (first | ((with_reducible refine gd 1 rfl ?_); (first | refine bxE 1 #[.slice A0_0 l0_0.length c0_0, .int .i64 a0_1] 31 ?_ | refine bgE 1 #[.slice A0_0 l0_0.length c0_0, .int .i64 a0_1] 31 ?_); intro gb345 hg w3 hbox hb; have BK345 := Aside0.mk hbox; have GW345 := nGB hg; have GE345 := nGB hg; replace HB := nSB hb; clear hb hbox hg))
 (try simp only [Act.put, List.setIfInBounds_toArray, List.set_cons_zero, List.set_cons_succ])
 go_cut [34] (fun v34 wc => ∃ (kq : Nat) (x34_1 : Bool), v34 = .bool x34_1 ∧ Aside0 (impl_GoodFs.j0 kq x34_1 l0_0 a0_1 = some r) ∧ Aside0 (kq ≤ k) ∧ Aside0 (wc.heap[gb345]? = some (.cells #[(.slice A0_0 l0_0.length c0_0), .int .i64 a0_1] 31 (0, 0))) ∧ Aside0 (Below w.heap.size w wc))
 case first =>
  have H := HC2.out
  clear HC2
  obtain ⟨t346, A4, H⟩ := bS H
  try dsimp only at H
  by_cases c5 : t346 = true
  ·subst c5
   rw [if_pos rfl] at H
   obtain ⟨t347, A6, H⟩ := bS H
   try dsimp only at H
   by_cases c7 : t347 = true
   ·subst c7
    rw [if_pos rfl] at H
    obtain ⟨c8, H⟩ := iN H
    have c8b0 := decide_eq_true c8
    have c8b1 : decide (0 < l0_0.length) = true := decide_eq_true (by omega)
    clear c8
    (first | rw [c8b0] | (simp only [i64_w, i32_w]; rw [c8b0]) | skip)
    have H' := Aside0.mk H
    clear H
    have hcz9 := cb2 BK345
    go_wp2_with (first | ((with_reducible refine gt 97 rfl ?_); refine gL 97 19 Tryz.func97 #[.int .i64 (l0_0.length : Int), .int .i64 1, .int .i64 40] ?_; (with_reducible refine (impl_within.calls (l0_0.length : Int) 1 40 true _ A4.out).mono ?_); rintro e w' ⟨rfl, ⟨nd, rfl⟩⟩; refine ⟨_, rfl, ?_⟩) | (go_at_call 98; (with_reducible refine (impl_isRoom.calls a0_1 true _ A6.out).mono ?_); rintro e w' ⟨rfl, ⟨nd, rfl⟩⟩; have p348 : 0 ≤ (0 : Int) := (by omega); have q348 : 0 < (l0_0.length : Int) := sO; obtain ⟨ad348, A348_6, c348_6, e348, hx348_0, hx348_1, hx348_2, hx348_3, hx348_4, hx348_5, hx348_6, hl348_6, hi348_6⟩ := at_T74 HR0_0.out 0 p348 q348; cases e348; have qi348 : (0 < l0_0.length) = True := eq_true (by omega); (try rw [show ((0 : Int)).toNat = 0 from rfl] at hx348_0); (try rw [show 0 * 7 = 0 from rfl] at hx348_0); (try rw [Addr.add_zero'] at hx348_0); (try rw [show ((0 : Int)).toNat = 0 from rfl] at hx348_1); (try rw [show 0 * 7 = 0 from rfl] at hx348_1); (try rw [Addr.add_zero'] at hx348_1); (try rw [show ((0 : Int)).toNat = 0 from rfl] at hx348_2); (try rw [show 0 * 7 = 0 from rfl] at hx348_2); (try rw [Addr.add_zero'] at hx348_2); (try rw [show ((0 : Int)).toNat = 0 from rfl] at hx348_3); (try rw [show 0 * 7 = 0 from rfl] at hx348_3); (try rw [Addr.add_zero'] at hx348_3); (try rw [show ((0 : Int)).toNat = 0 from rfl] at hx348_4); (try rw [show 0 * 7 = 0 from rfl] at hx348_4); (try rw [Addr.add_zero'] at hx348_4); (try rw [show ((0 : Int)).toNat = 0 from rfl] at hx348_5); (try rw [show 0 * 7 = 0 from rfl] at hx348_5); (try rw [Addr.add_zero'] at hx348_5); (try rw [show ((0 : Int)).toNat = 0 from rfl] at hx348_6); (try rw [show 0 * 7 = 0 from rfl] at hx348_6); (try rw [Addr.add_zero'] at hx348_6); replace hx348_0 := hB HB hx348_0; replace hx348_1 := hB HB hx348_1; replace hx348_2 := hB HB hx348_2; replace hx348_3 := hB HB hx348_3; replace hx348_4 := hB HB hx348_4; replace hx348_5 := hB HB hx348_5; replace hx348_6 := hB HB hx348_6; have HR348_6 := Aside0.mk hi348_6; have HC348_6 := Aside0.mk hl348_6; clear hi348_6 hl348_6; replace p348 := eq_true p348; replace q348 := eq_true q348))
    go_meet
    case rel => exact ⟨_, ((((rd_T74 l0_0 0).f0) != 2)), sR, H', ⟨by first | omega | exact Nat.le_refl _⟩, ⟨sK BK345⟩, ⟨sC⟩⟩
   ·replace c7 := Bool.eq_false_iff.mpr c7
    subst c7
    rw [if_neg (show ¬ (false = true) by decide)] at H
    have H' := Aside0.mk H
    clear H
    have hcz10 := cb2 BK345
    go_wp2_with (first | ((with_reducible refine gt 97 rfl ?_); refine gL 97 19 Tryz.func97 #[.int .i64 (l0_0.length : Int), .int .i64 1, .int .i64 40] ?_; (with_reducible refine (impl_within.calls (l0_0.length : Int) 1 40 true _ A4.out).mono ?_); rintro e w' ⟨rfl, ⟨nd, rfl⟩⟩; refine ⟨_, rfl, ?_⟩) | (go_at_call 98; (with_reducible refine (impl_isRoom.calls a0_1 false _ A6.out).mono ?_); rintro e w' ⟨rfl, ⟨nd, rfl⟩⟩))
    go_meet
    case rel => exact ⟨_, (true), sR, H', ⟨by first | omega | exact Nat.le_refl _⟩, ⟨sK BK345⟩, ⟨sC⟩⟩
  ·replace c5 := Bool.eq_false_iff.mpr c5
   subst c5
   rw [if_neg (show ¬ (false = true) by decide)] at H
   have H' := Aside0.mk H
   clear H
   have hcz11 := cb2 BK345
   go_wp2_with (first | ((with_reducible refine gt 97 rfl ?_); refine gL 97 19 Tryz.func97 #[.int .i64 (l0_0.length : Int), .int .i64 1, .int .i64 40] ?_; (with_reducible refine (impl_within.calls (l0_0.length : Int) 1 40 false _ A4.out).mono ?_); rintro e w' ⟨rfl, ⟨nd, rfl⟩⟩; refine ⟨_, rfl, ?_⟩))
   go_meet
   case rel => exact ⟨_, (true), sR, H', ⟨by first | omega | exact Nat.le_refl _⟩, ⟨sK BK345⟩, ⟨sC⟩⟩
 case rest =>
  clear HC2
  try clear p2
  try clear c3
  try clear p3
  try clear q3
  try clear hx3
  try clear qi3
  try clear c5
  try clear c7
  try clear c8
  try clear c8b0
  try clear c8b1
  try clear c9
  try clear hcz10
  try clear hcz11
  try clear hcz9
  try clear hx348_0
  try clear hx348_1
  try clear hx348_2
  try clear hx348_3
  try clear hx348_4
  try clear hx348_5
  try clear hx348_6
  try clear p348
  try clear q348
  obtain ⟨kq, x34_1, rfl, HA, HJ1, BK345, HB⟩ := hcut
  cases kq with
  | zero => exact absurd HA.out (by simp [impl_GoodFs.j0])
  | succ kj1 =>
   have H := HA.out
   clear HA
   simp only [impl_GoodFs.j0] at H
   by_cases c12 : x34_1 = true
   ·subst c12
    rw [if_pos rfl] at H
    obtain rfl := Option.some.inj H
    go_wp2
    go_ret
    exact ⟨sE, sC⟩
   ·replace c12 := Bool.eq_false_iff.mpr c12
    subst c12
    rw [if_neg (show ¬ (false = true) by decide)] at H
    have H' := Aside0.mk H
    clear H
    have hcz13 := cb2 BK345
    go_wp2
    go_loopg [38] kj1 (fun kq v38 w' => ∃ (x38_2 : Int), v38 = .int .i64 x38_2 ∧ Aside0 (impl_GoodFs.l0 kq l0_0 (l0_0.length : Int) x38_2 l0_0 a0_1 = some r) ∧ Aside0 (kq ≤ kj1) ∧ Aside0 (w'.heap[gb345]? = some (.cells #[(.slice A0_0 l0_0.length c0_0), .int .i64 a0_1] 31 (0, 0))) ∧ Aside0 (Below w.heap.size w w'))
    case atStart => exact ⟨(0), sR, H', ⟨Nat.le_refl _⟩, ⟨sK BK345⟩, ⟨sC⟩⟩
    case round =>
     clear H'
     try clear c1
     try clear p2
     try clear c3
     try clear p3
     try clear q3
     try clear hx3
     try clear qi3
     try clear c5
     try clear c7
     try clear c8
     try clear c8b0
     try clear c8b1
     try clear c9
     try clear c12
     try clear hcz10
     try clear hcz11
     try clear hcz13
     try clear hcz9
     try clear hx348_0
     try clear hx348_1
     try clear hx348_2
     try clear hx348_3
     try clear hx348_4
     try clear hx348_5
     try clear hx348_6
     try clear p2
     try clear p3
     try clear p348
     try clear q3
     try clear q348
     obtain ⟨x38_2, rfl, HA, HK2, BK345, HB⟩ := hrel
     cases gk with
     | zero => exact absurd HA.out (by simp [impl_GoodFs.l0])
     | succ k2 =>
      have H := HA.out
      clear HA
      simp only [impl_GoodFs.l0] at H
      by_cases c14 : x38_2 < (l0_0.length : Int)
      ·rw [if_pos c14] at H
       have c14b0 := decide_eq_true c14
       clear c14
       obtain ⟨c15, H⟩ := iN H
       have c15b0 := decide_eq_true c15
       clear c15
       obtain ⟨c16, H⟩ := iN H
       have c16b0 := decide_eq_true c16
       clear c16
       obtain ⟨t351, A17, H⟩ := bS H
       try dsimp only at H
       by_cases c18 : t351 = true
       ·subst c18
        rw [if_pos rfl] at H
        have H' := Aside0.mk H
        clear H
        have p349 : 0 ≤ (x38_2 : Int) := sO
        have q349 : x38_2 < (l0_0.length : Int) := sO
        obtain ⟨ad349, A349_6, c349_6, e349, hx349_0, hx349_1, hx349_2, hx349_3, hx349_4, hx349_5, hx349_6, hl349_6, hi349_6⟩ := ab74 HR0_0.out HB x38_2 p349 q349
        cases e349
        have HR349_6 := Aside0.mk hi349_6
        have HC349_6 := Aside0.mk hl349_6
        clear hi349_6 hl349_6
        replace p349 := eq_true p349
        replace q349 := eq_true q349
        go_wp2_with (first | ((with_reducible refine gd 4 rfl ?_); (first | refine bxE 4 #[.int .i64 0, .int .i64 0, .int .i64 0, .int .i64 0, .int .i64 0, .string (⟨#[]⟩ : ByteArray), .slice none 0 0] 74 ?_ | refine bgE 4 #[.int .i64 0, .int .i64 0, .int .i64 0, .int .i64 0, .int .i64 0, .string (⟨#[]⟩ : ByteArray), .slice none 0 0] 74 ?_); intro gb350 hg w19 hbox hb; have BK350 := Aside0.mk hbox; have GW350 := nGC hg; have GE350 := nGC hg; replace HB := nSC hb; have NB345_350 := nL BK345 hg; have NB350_345 := nH BK345 hg; replace BK345 := nK BK345 hb; clear hb hbox hg; have hnb20 := NB350_345.out; have hnc20 := NB345_350.out; have hcz21 := cb7 BK350; have hcz22 := cb2 BK345) | ((with_reducible refine gt 99 rfl ?_); refine gL 99 44 Tryz.func99 #[.agg #[.slice (some ad349) l0_0.length c0_0, .int .i64 a0_1], .agg #[.int .i64 ((rd_T74 l0_0 x38_2).f0), .int .i64 ((rd_T74 l0_0 x38_2).f1), .int .i64 ((rd_T74 l0_0 x38_2).f2), .int .i64 ((rd_T74 l0_0 x38_2).f3), .int .i64 ((rd_T74 l0_0 x38_2).f4), .string ((rd_T74 l0_0 x38_2).f5), .slice A349_6 ((rd_T74 l0_0 x38_2).f6).length c349_6]] ?_; (with_reducible refine (impl_Fs_isNode.calls k2 _ _ l0_0 a0_1 ((rd_T74 l0_0 x38_2).f0) ((rd_T74 l0_0 x38_2).f1) ((rd_T74 l0_0 x38_2).f2) ((rd_T74 l0_0 x38_2).f3) ((rd_T74 l0_0 x38_2).f4) ((rd_T74 l0_0 x38_2).f5) _ _ ((rd_T74 l0_0 x38_2).f6) true _ ?side1 ?side2 ?side3 ?side4 A17.out).mono ?_); (case side1 => exact Kd.C_below HR0_0.out sC); (case side2 => exact HC0_0.out); (case side3 => exact Kd.C_below HR349_6.out sC); (case side4 => exact HC349_6.out); rintro e w23 ⟨rfl, hb⟩; refine ⟨_, rfl, ?_⟩; replace BK345 := nF BK345 hb; replace BK350 := nX #[.int .i64 ((rd_T74 l0_0 x38_2).f0), .int .i64 ((rd_T74 l0_0 x38_2).f1), .int .i64 ((rd_T74 l0_0 x38_2).f2), .int .i64 ((rd_T74 l0_0 x38_2).f3), .int .i64 ((rd_T74 l0_0 x38_2).f4), .string ((rd_T74 l0_0 x38_2).f5), .slice A349_6 ((rd_T74 l0_0 x38_2).f6).length c349_6] BK350 hb; replace HB := nSC hb; try clear hb))
        go_roundg k2
        case measure => have := HJ1.out; have := HK2.out; omega
        case rel => exact ⟨(wrap64 (x38_2 + 1)), sR, H', ⟨by have := HJ1.out; have := HK2.out; omega⟩, ⟨sK BK345⟩, ⟨sC⟩⟩
       ·replace c18 := Bool.eq_false_iff.mpr c18
        subst c18
        rw [if_neg (show ¬ (false = true) by decide)] at H
        obtain rfl := Option.some.inj H
        have p349 : 0 ≤ (x38_2 : Int) := sO
        have q349 : x38_2 < (l0_0.length : Int) := sO
        obtain ⟨ad349, A349_6, c349_6, e349, hx349_0, hx349_1, hx349_2, hx349_3, hx349_4, hx349_5, hx349_6, hl349_6, hi349_6⟩ := ab74 HR0_0.out HB x38_2 p349 q349
        cases e349
        have HR349_6 := Aside0.mk hi349_6
        have HC349_6 := Aside0.mk hl349_6
        clear hi349_6 hl349_6
        replace p349 := eq_true p349
        replace q349 := eq_true q349
        go_wp2_with (first | ((with_reducible refine gd 4 rfl ?_); (first | refine bxE 4 #[.int .i64 0, .int .i64 0, .int .i64 0, .int .i64 0, .int .i64 0, .string (⟨#[]⟩ : ByteArray), .slice none 0 0] 74 ?_ | refine bgE 4 #[.int .i64 0, .int .i64 0, .int .i64 0, .int .i64 0, .int .i64 0, .string (⟨#[]⟩ : ByteArray), .slice none 0 0] 74 ?_); intro gb350 hg w24 hbox hb; have BK350 := Aside0.mk hbox; have GW350 := nGC hg; have GE350 := nGC hg; replace HB := nSC hb; have NB345_350 := nL BK345 hg; have NB350_345 := nH BK345 hg; replace BK345 := nK BK345 hb; clear hb hbox hg; have hnb25 := NB350_345.out; have hnc25 := NB345_350.out; have hcz26 := cb7 BK350; have hcz27 := cb2 BK345) | ((with_reducible refine gt 99 rfl ?_); refine gL 99 44 Tryz.func99 #[.agg #[.slice (some ad349) l0_0.length c0_0, .int .i64 a0_1], .agg #[.int .i64 ((rd_T74 l0_0 x38_2).f0), .int .i64 ((rd_T74 l0_0 x38_2).f1), .int .i64 ((rd_T74 l0_0 x38_2).f2), .int .i64 ((rd_T74 l0_0 x38_2).f3), .int .i64 ((rd_T74 l0_0 x38_2).f4), .string ((rd_T74 l0_0 x38_2).f5), .slice A349_6 ((rd_T74 l0_0 x38_2).f6).length c349_6]] ?_; (with_reducible refine (impl_Fs_isNode.calls k2 _ _ l0_0 a0_1 ((rd_T74 l0_0 x38_2).f0) ((rd_T74 l0_0 x38_2).f1) ((rd_T74 l0_0 x38_2).f2) ((rd_T74 l0_0 x38_2).f3) ((rd_T74 l0_0 x38_2).f4) ((rd_T74 l0_0 x38_2).f5) _ _ ((rd_T74 l0_0 x38_2).f6) false _ ?side1 ?side2 ?side3 ?side4 A17.out).mono ?_); (case side1 => exact Kd.C_below HR0_0.out sC); (case side2 => exact HC0_0.out); (case side3 => exact Kd.C_below HR349_6.out sC); (case side4 => exact HC349_6.out); rintro e w28 ⟨rfl, hb⟩; refine ⟨_, rfl, ?_⟩; replace BK345 := nF BK345 hb; replace BK350 := nX #[.int .i64 ((rd_T74 l0_0 x38_2).f0), .int .i64 ((rd_T74 l0_0 x38_2).f1), .int .i64 ((rd_T74 l0_0 x38_2).f2), .int .i64 ((rd_T74 l0_0 x38_2).f3), .int .i64 ((rd_T74 l0_0 x38_2).f4), .string ((rd_T74 l0_0 x38_2).f5), .slice A349_6 ((rd_T74 l0_0 x38_2).f6).length c349_6] BK350 hb; replace HB := nSC hb; try clear hb))
        go_ret
        exact ⟨sE, sC⟩
      ·rw [if_neg c14] at H
       have c14b0 := decide_eq_false c14
       clear c14
       obtain ⟨t352, A29, H⟩ := bS H
       try dsimp only at H
       by_cases c30 : t352 > a0_1
       ·rw [if_pos c30] at H
        have c30b0 := decide_eq_true c30
        clear c30
        obtain rfl := Option.some.inj H
        try go_wp2
        have n0_ := Aside0.mk (blk_drew BK345.out)
        have n1_ := Aside0.mk (below_drew1 HB.out)
        clear BK345
        clear HB
        have BK345 := n0_
        have HB := n1_
        clear n0_ n1_
        refine st2 5 [] (cz0 BK345) (cz1 BK345) (fun hHeld => ?_)
        generalize wr.drew = w31 at BK345 HB hHeld ⊢
        refine pu 2 49 ?_
        refine tk2 0 47 ?_
        refine tk2 3 50 ?_
        refine on 1 48 (fun K hK => ?_)
        refine gC Tryz.func100 #[.agg #[.slice A0_0 l0_0.length c0_0, .int .i64 a0_1]] ?_
        with_reducible refine (impl_Fs_bytesIn.calls k2 _ _ l0_0 a0_1 t352 _ ?side1 ?side2 A29.out).mono ?_
        (case side1 => exact sD (Kd.C_below HR0_0.out HB.out))
        (case side2 => exact HC0_0.out)
        rintro e w32 ⟨rfl, hb⟩
        refine ⟨_, rfl, ?_⟩
        have n0_ := nK BK345 hb
        have n1_ := nSC hb
        clear BK345
        clear HB
        have BK345 := n0_
        have HB := n1_
        clear n0_ n1_
        (try clear hb)
        (try clear hb2)
        (try clear hk)
        (try clear hi)
        refine hK.out _ _ ⟨cz0 BK345, cz1 BK345⟩ (fun hHeld => ?_)
        clear hK K
        refine nm ?_
        refine pu 4 51 ?_
        refine dn ?_
        try go_wp2
        go_ret
        exact ⟨sE, sC⟩
       ·rw [if_neg c30] at H
        have c30b0 := decide_eq_false c30
        clear c30
        obtain ⟨t353, A33, H⟩ := bS H
        try dsimp only at H
        have H' := Aside0.mk H
        clear H
        try go_wp2
        have n0_ := Aside0.mk (blk_drew BK345.out)
        have n1_ := Aside0.mk (below_drew1 HB.out)
        clear BK345
        clear HB
        have BK345 := n0_
        have HB := n1_
        clear n0_ n1_
        refine st2 5 [] (cz0 BK345) (cz1 BK345) (fun hHeld => ?_)
        generalize wr.drew = w34 at BK345 HB hHeld ⊢
        refine pu 2 49 ?_
        refine tk2 0 47 ?_
        refine tk2 3 50 ?_
        refine on 1 48 (fun K hK => ?_)
        refine gC Tryz.func100 #[.agg #[.slice A0_0 l0_0.length c0_0, .int .i64 a0_1]] ?_
        with_reducible refine (impl_Fs_bytesIn.calls k2 _ _ l0_0 a0_1 t352 _ ?side1 ?side2 A29.out).mono ?_
        (case side1 => exact sD (Kd.C_below HR0_0.out HB.out))
        (case side2 => exact HC0_0.out)
        rintro e w35 ⟨rfl, hb⟩
        refine ⟨_, rfl, ?_⟩
        have n0_ := nK BK345 hb
        have n1_ := nSC hb
        clear BK345
        clear HB
        have BK345 := n0_
        have HB := n1_
        clear n0_ n1_
        (try clear hb)
        (try clear hb2)
        (try clear hk)
        (try clear hi)
        refine hK.out _ _ ⟨cz0 BK345, cz1 BK345⟩ (fun hHeld => ?_)
        clear hK K
        refine nm ?_
        refine pu 4 51 ?_
        refine dn ?_
        have hcz36 := cb2 BK345
        try go_wp2_with (first | ((with_reducible refine gt 101 rfl ?_); refine gL 101 53 Tryz.func101 #[.agg #[.slice A0_0 l0_0.length c0_0, .int .i64 a0_1]] ?_; (with_reducible refine (impl_Fs_links.calls k2 _ _ l0_0 a0_1 t353 _ ?side1 ?side2 A33.out).mono ?_); (case side1 => exact sD (Kd.C_below HR0_0.out HB.out)); (case side2 => exact HC0_0.out); rintro e w37 ⟨v354, rfl, ho0, hb⟩; refine ⟨_, rfl, ?_⟩; have HO355 := Aside0.mk (Kd.R_lower ho0 (below_size sC)); replace BK345 := nK BK345 hb; replace HB := nSC hb; try clear hb; (try clear ho0); have hcz38 := cb2 BK345))
        go_loopg [57] k2 (fun kq v57 w' => ∃ (x57_3 : Int), v57 = .int .i64 x57_3 ∧ Aside0 (impl_GoodFs.l1 kq t353 l0_0 (l0_0.length : Int) x57_3 l0_0 a0_1 = some r) ∧ Aside0 (kq ≤ k2) ∧ Aside0 (Kd.R (Kd.int .i64) 3 w' w.heap.size (fun _ => True) v354 t353) ∧ Aside0 (w'.heap[gb345]? = some (.cells #[(.slice A0_0 l0_0.length c0_0), .int .i64 a0_1] 31 (0, 0))) ∧ Aside0 (Below w.heap.size w w'))
        case atStart => exact ⟨(0), sR, H', ⟨Nat.le_refl _⟩, ⟨rR HO355⟩, ⟨sK BK345⟩, ⟨sC⟩⟩
        case round =>
         clear H'
         try clear c1
         try clear c2
         try clear p2
         try clear c3
         try clear p3
         try clear q3
         try clear hx3
         try clear qi3
         try clear c5
         try clear p6
         try clear c7
         try clear c8
         try clear c8b0
         try clear c8b1
         try clear c9
         try clear c10
         try clear c12
         try clear c14
         try clear c14b0
         try clear c15
         try clear c15b0
         try clear c16
         try clear c16b0
         try clear c18
         try clear c20
         try clear c25
         try clear c30
         try clear c30b0
         try clear c34
         try clear p34
         try clear q34
         try clear hx34
         try clear qi34
         try clear hcz10
         try clear hcz11
         try clear hcz13
         try clear hcz21
         try clear hcz22
         try clear hcz26
         try clear hcz27
         try clear hcz36
         try clear hcz38
         try clear hcz9
         try clear hx348_0
         try clear hx348_1
         try clear hx348_2
         try clear hx348_3
         try clear hx348_4
         try clear hx348_5
         try clear hx348_6
         try clear hx349_0
         try clear hx349_1
         try clear hx349_2
         try clear hx349_3
         try clear hx349_4
         try clear hx349_5
         try clear hx349_6
         try clear p2
         try clear p3
         try clear p348
         try clear p349
         try clear q3
         try clear q348
         try clear q349
         obtain ⟨x57_3, rfl, HA, HK3, HO_5, BK345, HB⟩ := hrel
         cases gk with
         | zero => exact absurd HA.out (by simp [impl_GoodFs.l1])
         | succ k3 =>
          have H := HA.out
          clear HA
          simp only [impl_GoodFs.l1] at H
          by_cases c39 : x57_3 < (l0_0.length : Int)
          ·rw [if_pos c39] at H
           have c39b0 := decide_eq_true c39
           clear c39
           obtain ⟨c40, H⟩ := iN H
           have c40b0 := decide_eq_true c40
           clear c40
           obtain ⟨c41, H⟩ := iN H
           have c41b0 := decide_eq_true c41
           clear c41
           by_cases c42 : x57_3 = 0
           ·rw [if_pos c42] at H
            have c42b0 := beq_iff_eq.mpr c42
            have c42b1 := bne_eq_false_iff_eq.mpr c42
            clear c42
            by_cases c43 : ((rd_T74 l0_0 x57_3).f0) = 0
            ·rw [if_pos c43] at H
             have c43b0 := beq_iff_eq.mpr c43
             have c43b1 := bne_eq_false_iff_eq.mpr c43
             clear c43
             have H' := Aside0.mk H
             clear H
             have p356 : 0 ≤ (x57_3 : Int) := sO
             have q356 : x57_3 < (l0_0.length : Int) := sO
             obtain ⟨ad356, A356_6, c356_6, e356, hx356_0, hx356_1, hx356_2, hx356_3, hx356_4, hx356_5, hx356_6, hl356_6, hi356_6⟩ := ab74 HR0_0.out HB x57_3 p356 q356
             cases e356
             have HR356_6 := Aside0.mk hi356_6
             have HC356_6 := Aside0.mk hl356_6
             clear hi356_6 hl356_6
             replace p356 := eq_true p356
             replace q356 := eq_true q356
             go_wp2_with (first | ((with_reducible refine gd 7 rfl ?_); (first | refine bxE 7 #[.int .i64 0, .int .i64 0, .int .i64 0, .int .i64 0, .int .i64 0, .string (⟨#[]⟩ : ByteArray), .slice none 0 0] 74 ?_ | refine bgE 7 #[.int .i64 0, .int .i64 0, .int .i64 0, .int .i64 0, .int .i64 0, .string (⟨#[]⟩ : ByteArray), .slice none 0 0] 74 ?_); intro gb357 hg w44 hbox hb; replace HO_5 := nR HO_5 hb; have BK357 := Aside0.mk hbox; have GW357 := nGC hg; have GE357 := nGC hg; replace HB := nSC hb; have NB345_357 := nL BK345 hg; have NB357_345 := nH BK345 hg; replace BK345 := nK BK345 hb; clear hb hbox hg; have hnb45 := NB357_345.out; have hnc45 := NB345_357.out; have hcz46 := cb7 BK357))
             go_roundg k3
             case measure => have := HJ1.out; have := HK2.out; have := HK3.out; omega
             case rel => exact ⟨(wrap64 (x57_3 + 1)), sR, H', ⟨by have := HJ1.out; have := HK2.out; have := HK3.out; omega⟩, ⟨rRf HO_5 BK357 (fun _ hk => trivial)⟩, ⟨sX BK345⟩, ⟨sC⟩⟩
            ·rw [if_neg c43] at H
             have c43b0 := beq_eq_false_iff_ne.mpr c43
             have c43b1 := bne_iff_ne.mpr c43
             obtain ⟨c47, H⟩ := iN H
             have c47b0 := decide_eq_true c47
             clear c47
             obtain ⟨ji48, hji48⟩ : ∃ j_ : Int, (mn x57_3 1) = j_ := ⟨_, rfl⟩
             replace H : ((impl_within.f (rd t353 x57_3) (ji48) 0).bind fun t359 => (if t359 = true then (impl_GoodFs.l1 k3 t353 l0_0 (l0_0.length : Int) (wrap64 (x57_3 + 1)) l0_0 a0_1) else (some false))) = some r := by first | (rw [hji48] at H; exact H) | (simp only [hji48] at H ⊢; exact H)
             have hji48_ : (if 1 < x57_3 then 1 else x57_3) = ji48 := hji48
             obtain ⟨t359, A49, H⟩ := bS H
             try dsimp only at H
             by_cases c50 : t359 = true
             ·subst c50
              rw [if_pos rfl] at H
              have H' := Aside0.mk H
              clear H
              have p356 : 0 ≤ (x57_3 : Int) := sO
              have q356 : x57_3 < (l0_0.length : Int) := sO
              obtain ⟨ad356, A356_6, c356_6, e356, hx356_0, hx356_1, hx356_2, hx356_3, hx356_4, hx356_5, hx356_6, hl356_6, hi356_6⟩ := ab74 HR0_0.out HB x57_3 p356 q356
              cases e356
              have HR356_6 := Aside0.mk hi356_6
              have HC356_6 := Aside0.mk hl356_6
              clear hi356_6 hl356_6
              replace p356 := eq_true p356
              replace q356 := eq_true q356
              go_wp2_with (first | ((with_reducible refine gd 7 rfl ?_); (first | refine bxE 7 #[.int .i64 0, .int .i64 0, .int .i64 0, .int .i64 0, .int .i64 0, .string (⟨#[]⟩ : ByteArray), .slice none 0 0] 74 ?_ | refine bgE 7 #[.int .i64 0, .int .i64 0, .int .i64 0, .int .i64 0, .int .i64 0, .string (⟨#[]⟩ : ByteArray), .slice none 0 0] 74 ?_); intro gb357 hg w51 hbox hb; replace HO_5 := nR HO_5 hb; have BK357 := Aside0.mk hbox; have GW357 := nGC hg; have GE357 := nGC hg; replace HB := nSC hb; have NB345_357 := nL BK345 hg; have NB357_345 := nH BK345 hg; replace BK345 := nK BK345 hb; clear hb hbox hg; have hnb52 := NB357_345.out; have hnc52 := NB345_357.out; have hcz53 := cb7 BK357; obtain ⟨Ao54, co54, eo54⟩ := Kd.R_slice HO_5.out; subst eo54; have p358 : 0 ≤ (x57_3 : Int) := sO; have q358 : x57_3 < (t353.length : Int) := sO; obtain ⟨ad358, e358, hx358_0⟩ := Kd.at_int (Kd.R_reads' HO_5.out).2.2 x57_3 p358 q358; cases e358; have hn358_0 : ad358.block ≠ gb357 := Kd.own_blk (Kd.R_ne HO_5.out BK357.out (by decide)); have hn358_1 : ad358.block ≠ gb357 := Kd.own_blk (Kd.R_ne HO_5.out BK357.out (by decide)); have hn358_2 : ad358.block ≠ gb357 := Kd.own_blk (Kd.R_ne HO_5.out BK357.out (by decide)); have hn358_3 : ad358.block ≠ gb357 := Kd.own_blk (Kd.R_ne HO_5.out BK357.out (by decide)); have hn358_4 : ad358.block ≠ gb357 := Kd.own_blk (Kd.R_ne HO_5.out BK357.out (by decide)); have hn358_5 : ad358.block ≠ gb357 := Kd.own_blk (Kd.R_ne HO_5.out BK357.out (by decide)); have hn358_6 : ad358.block ≠ gb357 := Kd.own_blk (Kd.R_ne HO_5.out BK357.out (by decide)); replace hx358_0 := (cell_far (p := ⟨gb357, 0, none⟩) (by first | (rw [add_block]; exact hn358_0) | (show (Addr.add _ _).block ≠ _; rw [add_block]; exact hn358_0) | exact hn358_0) (.int .i64 ((rd_T74 l0_0 x57_3).f0))).trans hx358_0; replace hx358_0 := (cell_far (p := ⟨gb357, 1, none⟩) (by first | (rw [add_block]; exact hn358_1) | (show (Addr.add _ _).block ≠ _; rw [add_block]; exact hn358_1) | exact hn358_1) (.int .i64 ((rd_T74 l0_0 x57_3).f1))).trans hx358_0; replace hx358_0 := (cell_far (p := ⟨gb357, 2, none⟩) (by first | (rw [add_block]; exact hn358_2) | (show (Addr.add _ _).block ≠ _; rw [add_block]; exact hn358_2) | exact hn358_2) (.int .i64 ((rd_T74 l0_0 x57_3).f2))).trans hx358_0; replace hx358_0 := (cell_far (p := ⟨gb357, 3, none⟩) (by first | (rw [add_block]; exact hn358_3) | (show (Addr.add _ _).block ≠ _; rw [add_block]; exact hn358_3) | exact hn358_3) (.int .i64 ((rd_T74 l0_0 x57_3).f3))).trans hx358_0; replace hx358_0 := (cell_far (p := ⟨gb357, 4, none⟩) (by first | (rw [add_block]; exact hn358_4) | (show (Addr.add _ _).block ≠ _; rw [add_block]; exact hn358_4) | exact hn358_4) (.int .i64 ((rd_T74 l0_0 x57_3).f4))).trans hx358_0; replace hx358_0 := (cell_far (p := ⟨gb357, 5, none⟩) (by first | (rw [add_block]; exact hn358_5) | (show (Addr.add _ _).block ≠ _; rw [add_block]; exact hn358_5) | exact hn358_5) (.string ((rd_T74 l0_0 x57_3).f5))).trans hx358_0; replace hx358_0 := (cell_far (p := ⟨gb357, 6, none⟩) (by first | (rw [add_block]; exact hn358_6) | (show (Addr.add _ _).block ≠ _; rw [add_block]; exact hn358_6) | exact hn358_6) (.slice A356_6 ((rd_T74 l0_0 x57_3).f6).length c356_6)).trans hx358_0; clear hn358_0; clear hn358_1; clear hn358_2; clear hn358_3; clear hn358_4; clear hn358_5; clear hn358_6; replace p358 := eq_true p358; replace q358 := eq_true q358) | (go_at_call 97; (with_reducible refine (impl_within.calls (rd t353 x57_3) ji48 0 true _ A49.out).mono ?_); rintro e w' ⟨rfl, ⟨nd, rfl⟩⟩))
              go_roundg k3
              case measure => have := HJ1.out; have := HK2.out; have := HK3.out; omega
              case rel => exact ⟨(wrap64 (x57_3 + 1)), sR, (by first | exact H' | (simp only [hji48]; exact H') | (simp only [hji48]; exact H')), ⟨by have := HJ1.out; have := HK2.out; have := HK3.out; omega⟩, ⟨rRf HO_5 BK357 (fun _ hk => trivial)⟩, ⟨sX BK345⟩, ⟨sC⟩⟩
             ·replace c50 := Bool.eq_false_iff.mpr c50
              subst c50
              rw [if_neg (show ¬ (false = true) by decide)] at H
              obtain rfl := Option.some.inj H
              have p356 : 0 ≤ (x57_3 : Int) := sO
              have q356 : x57_3 < (l0_0.length : Int) := sO
              obtain ⟨ad356, A356_6, c356_6, e356, hx356_0, hx356_1, hx356_2, hx356_3, hx356_4, hx356_5, hx356_6, hl356_6, hi356_6⟩ := ab74 HR0_0.out HB x57_3 p356 q356
              cases e356
              have HR356_6 := Aside0.mk hi356_6
              have HC356_6 := Aside0.mk hl356_6
              clear hi356_6 hl356_6
              replace p356 := eq_true p356
              replace q356 := eq_true q356
              go_wp2_with (first | ((with_reducible refine gd 7 rfl ?_); (first | refine bxE 7 #[.int .i64 0, .int .i64 0, .int .i64 0, .int .i64 0, .int .i64 0, .string (⟨#[]⟩ : ByteArray), .slice none 0 0] 74 ?_ | refine bgE 7 #[.int .i64 0, .int .i64 0, .int .i64 0, .int .i64 0, .int .i64 0, .string (⟨#[]⟩ : ByteArray), .slice none 0 0] 74 ?_); intro gb357 hg w55 hbox hb; replace HO_5 := nR HO_5 hb; have BK357 := Aside0.mk hbox; have GW357 := nGC hg; have GE357 := nGC hg; replace HB := nSC hb; have NB345_357 := nL BK345 hg; have NB357_345 := nH BK345 hg; replace BK345 := nK BK345 hb; clear hb hbox hg; have hnb56 := NB357_345.out; have hnc56 := NB345_357.out; have hcz57 := cb7 BK357; obtain ⟨Ao58, co58, eo58⟩ := Kd.R_slice HO_5.out; subst eo58; have p358 : 0 ≤ (x57_3 : Int) := sO; have q358 : x57_3 < (t353.length : Int) := sO; obtain ⟨ad358, e358, hx358_0⟩ := Kd.at_int (Kd.R_reads' HO_5.out).2.2 x57_3 p358 q358; cases e358; have hn358_0 : ad358.block ≠ gb357 := Kd.own_blk (Kd.R_ne HO_5.out BK357.out (by decide)); have hn358_1 : ad358.block ≠ gb357 := Kd.own_blk (Kd.R_ne HO_5.out BK357.out (by decide)); have hn358_2 : ad358.block ≠ gb357 := Kd.own_blk (Kd.R_ne HO_5.out BK357.out (by decide)); have hn358_3 : ad358.block ≠ gb357 := Kd.own_blk (Kd.R_ne HO_5.out BK357.out (by decide)); have hn358_4 : ad358.block ≠ gb357 := Kd.own_blk (Kd.R_ne HO_5.out BK357.out (by decide)); have hn358_5 : ad358.block ≠ gb357 := Kd.own_blk (Kd.R_ne HO_5.out BK357.out (by decide)); have hn358_6 : ad358.block ≠ gb357 := Kd.own_blk (Kd.R_ne HO_5.out BK357.out (by decide)); replace hx358_0 := (cell_far (p := ⟨gb357, 0, none⟩) (by first | (rw [add_block]; exact hn358_0) | (show (Addr.add _ _).block ≠ _; rw [add_block]; exact hn358_0) | exact hn358_0) (.int .i64 ((rd_T74 l0_0 x57_3).f0))).trans hx358_0; replace hx358_0 := (cell_far (p := ⟨gb357, 1, none⟩) (by first | (rw [add_block]; exact hn358_1) | (show (Addr.add _ _).block ≠ _; rw [add_block]; exact hn358_1) | exact hn358_1) (.int .i64 ((rd_T74 l0_0 x57_3).f1))).trans hx358_0; replace hx358_0 := (cell_far (p := ⟨gb357, 2, none⟩) (by first | (rw [add_block]; exact hn358_2) | (show (Addr.add _ _).block ≠ _; rw [add_block]; exact hn358_2) | exact hn358_2) (.int .i64 ((rd_T74 l0_0 x57_3).f2))).trans hx358_0; replace hx358_0 := (cell_far (p := ⟨gb357, 3, none⟩) (by first | (rw [add_block]; exact hn358_3) | (show (Addr.add _ _).block ≠ _; rw [add_block]; exact hn358_3) | exact hn358_3) (.int .i64 ((rd_T74 l0_0 x57_3).f3))).trans hx358_0; replace hx358_0 := (cell_far (p := ⟨gb357, 4, none⟩) (by first | (rw [add_block]; exact hn358_4) | (show (Addr.add _ _).block ≠ _; rw [add_block]; exact hn358_4) | exact hn358_4) (.int .i64 ((rd_T74 l0_0 x57_3).f4))).trans hx358_0; replace hx358_0 := (cell_far (p := ⟨gb357, 5, none⟩) (by first | (rw [add_block]; exact hn358_5) | (show (Addr.add _ _).block ≠ _; rw [add_block]; exact hn358_5) | exact hn358_5) (.string ((rd_T74 l0_0 x57_3).f5))).trans hx358_0; replace hx358_0 := (cell_far (p := ⟨gb357, 6, none⟩) (by first | (rw [add_block]; exact hn358_6) | (show (Addr.add _ _).block ≠ _; rw [add_block]; exact hn358_6) | exact hn358_6) (.slice A356_6 ((rd_T74 l0_0 x57_3).f6).length c356_6)).trans hx358_0; clear hn358_0; clear hn358_1; clear hn358_2; clear hn358_3; clear hn358_4; clear hn358_5; clear hn358_6; replace p358 := eq_true p358; replace q358 := eq_true q358) | (go_at_call 97; (with_reducible refine (impl_within.calls (rd t353 x57_3) ji48 0 false _ A49.out).mono ?_); rintro e w' ⟨rfl, ⟨nd, rfl⟩⟩))
              go_ret
              exact ⟨by first | rfl | (simp [errW_none, errW_some] <;> rfl) | (simp [errW_none, errW_some]; exact isEmpty_ne _) | (simp only [← hji48]; first | rfl | (simp [errW_none, errW_some] <;> rfl)) | (simp [*, errW_none, errW_some] <;> rfl), sC⟩
           ·rw [if_neg c42] at H
            have c42b0 := beq_eq_false_iff_ne.mpr c42
            have c42b1 := bne_iff_ne.mpr c42
            by_cases c59 : ((rd_T74 l0_0 x57_3).f0) = 2
            ·rw [if_pos c59] at H
             have c59b0 := beq_iff_eq.mpr c59
             have c59b1 := bne_eq_false_iff_eq.mpr c59
             clear c59
             by_cases c60 : ((rd_T74 l0_0 x57_3).f0) = 0
             ·rw [if_pos c60] at H
              have c60b0 := beq_iff_eq.mpr c60
              have c60b1 := bne_eq_false_iff_eq.mpr c60
              clear c60
              have H' := Aside0.mk H
              clear H
              have p356 : 0 ≤ (x57_3 : Int) := sO
              have q356 : x57_3 < (l0_0.length : Int) := sO
              obtain ⟨ad356, A356_6, c356_6, e356, hx356_0, hx356_1, hx356_2, hx356_3, hx356_4, hx356_5, hx356_6, hl356_6, hi356_6⟩ := ab74 HR0_0.out HB x57_3 p356 q356
              cases e356
              have HR356_6 := Aside0.mk hi356_6
              have HC356_6 := Aside0.mk hl356_6
              clear hi356_6 hl356_6
              replace p356 := eq_true p356
              replace q356 := eq_true q356
              go_wp2_with (first | ((with_reducible refine gd 7 rfl ?_); (first | refine bxE 7 #[.int .i64 0, .int .i64 0, .int .i64 0, .int .i64 0, .int .i64 0, .string (⟨#[]⟩ : ByteArray), .slice none 0 0] 74 ?_ | refine bgE 7 #[.int .i64 0, .int .i64 0, .int .i64 0, .int .i64 0, .int .i64 0, .string (⟨#[]⟩ : ByteArray), .slice none 0 0] 74 ?_); intro gb357 hg w61 hbox hb; replace HO_5 := nR HO_5 hb; have BK357 := Aside0.mk hbox; have GW357 := nGC hg; have GE357 := nGC hg; replace HB := nSC hb; have NB345_357 := nL BK345 hg; have NB357_345 := nH BK345 hg; replace BK345 := nK BK345 hb; clear hb hbox hg; have hnb62 := NB357_345.out; have hnc62 := NB345_357.out; have hcz63 := cb7 BK357))
              go_roundg k3
              case measure => have := HJ1.out; have := HK2.out; have := HK3.out; omega
              case rel => exact ⟨(wrap64 (x57_3 + 1)), sR, H', ⟨by have := HJ1.out; have := HK2.out; have := HK3.out; omega⟩, ⟨rRf HO_5 BK357 (fun _ hk => trivial)⟩, ⟨sX BK345⟩, ⟨sC⟩⟩
             ·rw [if_neg c60] at H
              have c60b0 := beq_eq_false_iff_ne.mpr c60
              have c60b1 := bne_iff_ne.mpr c60
              obtain ⟨c64, H⟩ := iN H
              have c64b0 := decide_eq_true c64
              clear c64
              obtain ⟨ji65, hji65⟩ : ∃ j_ : Int, (mn x57_3 1) = j_ := ⟨_, rfl⟩
              replace H : ((impl_within.f (rd t353 x57_3) (ji65) 1).bind fun t361 => (if t361 = true then (impl_GoodFs.l1 k3 t353 l0_0 (l0_0.length : Int) (wrap64 (x57_3 + 1)) l0_0 a0_1) else (some false))) = some r := by first | (rw [hji65] at H; exact H) | (simp only [hji65] at H ⊢; exact H)
              have hji65_ : (if 1 < x57_3 then 1 else x57_3) = ji65 := hji65
              obtain ⟨t361, A66, H⟩ := bS H
              try dsimp only at H
              by_cases c67 : t361 = true
              ·subst c67
               rw [if_pos rfl] at H
               have H' := Aside0.mk H
               clear H
               have p356 : 0 ≤ (x57_3 : Int) := sO
               have q356 : x57_3 < (l0_0.length : Int) := sO
               obtain ⟨ad356, A356_6, c356_6, e356, hx356_0, hx356_1, hx356_2, hx356_3, hx356_4, hx356_5, hx356_6, hl356_6, hi356_6⟩ := ab74 HR0_0.out HB x57_3 p356 q356
               cases e356
               have HR356_6 := Aside0.mk hi356_6
               have HC356_6 := Aside0.mk hl356_6
               clear hi356_6 hl356_6
               replace p356 := eq_true p356
               replace q356 := eq_true q356
               go_wp2_with (first | ((with_reducible refine gd 7 rfl ?_); (first | refine bxE 7 #[.int .i64 0, .int .i64 0, .int .i64 0, .int .i64 0, .int .i64 0, .string (⟨#[]⟩ : ByteArray), .slice none 0 0] 74 ?_ | refine bgE 7 #[.int .i64 0, .int .i64 0, .int .i64 0, .int .i64 0, .int .i64 0, .string (⟨#[]⟩ : ByteArray), .slice none 0 0] 74 ?_); intro gb357 hg w68 hbox hb; replace HO_5 := nR HO_5 hb; have BK357 := Aside0.mk hbox; have GW357 := nGC hg; have GE357 := nGC hg; replace HB := nSC hb; have NB345_357 := nL BK345 hg; have NB357_345 := nH BK345 hg; replace BK345 := nK BK345 hb; clear hb hbox hg; have hnb69 := NB357_345.out; have hnc69 := NB345_357.out; have hcz70 := cb7 BK357; obtain ⟨Ao71, co71, eo71⟩ := Kd.R_slice HO_5.out; subst eo71; have p360 : 0 ≤ (x57_3 : Int) := sO; have q360 : x57_3 < (t353.length : Int) := sO; obtain ⟨ad360, e360, hx360_0⟩ := Kd.at_int (Kd.R_reads' HO_5.out).2.2 x57_3 p360 q360; cases e360; have hn360_0 : ad360.block ≠ gb357 := Kd.own_blk (Kd.R_ne HO_5.out BK357.out (by decide)); have hn360_1 : ad360.block ≠ gb357 := Kd.own_blk (Kd.R_ne HO_5.out BK357.out (by decide)); have hn360_2 : ad360.block ≠ gb357 := Kd.own_blk (Kd.R_ne HO_5.out BK357.out (by decide)); have hn360_3 : ad360.block ≠ gb357 := Kd.own_blk (Kd.R_ne HO_5.out BK357.out (by decide)); have hn360_4 : ad360.block ≠ gb357 := Kd.own_blk (Kd.R_ne HO_5.out BK357.out (by decide)); have hn360_5 : ad360.block ≠ gb357 := Kd.own_blk (Kd.R_ne HO_5.out BK357.out (by decide)); have hn360_6 : ad360.block ≠ gb357 := Kd.own_blk (Kd.R_ne HO_5.out BK357.out (by decide)); replace hx360_0 := (cell_far (p := ⟨gb357, 0, none⟩) (by first | (rw [add_block]; exact hn360_0) | (show (Addr.add _ _).block ≠ _; rw [add_block]; exact hn360_0) | exact hn360_0) (.int .i64 ((rd_T74 l0_0 x57_3).f0))).trans hx360_0; replace hx360_0 := (cell_far (p := ⟨gb357, 1, none⟩) (by first | (rw [add_block]; exact hn360_1) | (show (Addr.add _ _).block ≠ _; rw [add_block]; exact hn360_1) | exact hn360_1) (.int .i64 ((rd_T74 l0_0 x57_3).f1))).trans hx360_0; replace hx360_0 := (cell_far (p := ⟨gb357, 2, none⟩) (by first | (rw [add_block]; exact hn360_2) | (show (Addr.add _ _).block ≠ _; rw [add_block]; exact hn360_2) | exact hn360_2) (.int .i64 ((rd_T74 l0_0 x57_3).f2))).trans hx360_0; replace hx360_0 := (cell_far (p := ⟨gb357, 3, none⟩) (by first | (rw [add_block]; exact hn360_3) | (show (Addr.add _ _).block ≠ _; rw [add_block]; exact hn360_3) | exact hn360_3) (.int .i64 ((rd_T74 l0_0 x57_3).f3))).trans hx360_0; replace hx360_0 := (cell_far (p := ⟨gb357, 4, none⟩) (by first | (rw [add_block]; exact hn360_4) | (show (Addr.add _ _).block ≠ _; rw [add_block]; exact hn360_4) | exact hn360_4) (.int .i64 ((rd_T74 l0_0 x57_3).f4))).trans hx360_0; replace hx360_0 := (cell_far (p := ⟨gb357, 5, none⟩) (by first | (rw [add_block]; exact hn360_5) | (show (Addr.add _ _).block ≠ _; rw [add_block]; exact hn360_5) | exact hn360_5) (.string ((rd_T74 l0_0 x57_3).f5))).trans hx360_0; replace hx360_0 := (cell_far (p := ⟨gb357, 6, none⟩) (by first | (rw [add_block]; exact hn360_6) | (show (Addr.add _ _).block ≠ _; rw [add_block]; exact hn360_6) | exact hn360_6) (.slice A356_6 ((rd_T74 l0_0 x57_3).f6).length c356_6)).trans hx360_0; clear hn360_0; clear hn360_1; clear hn360_2; clear hn360_3; clear hn360_4; clear hn360_5; clear hn360_6; replace p360 := eq_true p360; replace q360 := eq_true q360) | (go_at_call 97; (with_reducible refine (impl_within.calls (rd t353 x57_3) ji65 1 true _ A66.out).mono ?_); rintro e w' ⟨rfl, ⟨nd, rfl⟩⟩))
               go_roundg k3
               case measure => have := HJ1.out; have := HK2.out; have := HK3.out; omega
               case rel => exact ⟨(wrap64 (x57_3 + 1)), sR, (by first | exact H' | (simp only [hji65]; exact H') | (simp only [hji65]; exact H')), ⟨by have := HJ1.out; have := HK2.out; have := HK3.out; omega⟩, ⟨rRf HO_5 BK357 (fun _ hk => trivial)⟩, ⟨sX BK345⟩, ⟨sC⟩⟩
              ·replace c67 := Bool.eq_false_iff.mpr c67
               subst c67
               rw [if_neg (show ¬ (false = true) by decide)] at H
               obtain rfl := Option.some.inj H
               have p356 : 0 ≤ (x57_3 : Int) := sO
               have q356 : x57_3 < (l0_0.length : Int) := sO
               obtain ⟨ad356, A356_6, c356_6, e356, hx356_0, hx356_1, hx356_2, hx356_3, hx356_4, hx356_5, hx356_6, hl356_6, hi356_6⟩ := ab74 HR0_0.out HB x57_3 p356 q356
               cases e356
               have HR356_6 := Aside0.mk hi356_6
               have HC356_6 := Aside0.mk hl356_6
               clear hi356_6 hl356_6
               replace p356 := eq_true p356
               replace q356 := eq_true q356
               go_wp2_with (first | ((with_reducible refine gd 7 rfl ?_); (first | refine bxE 7 #[.int .i64 0, .int .i64 0, .int .i64 0, .int .i64 0, .int .i64 0, .string (⟨#[]⟩ : ByteArray), .slice none 0 0] 74 ?_ | refine bgE 7 #[.int .i64 0, .int .i64 0, .int .i64 0, .int .i64 0, .int .i64 0, .string (⟨#[]⟩ : ByteArray), .slice none 0 0] 74 ?_); intro gb357 hg w72 hbox hb; replace HO_5 := nR HO_5 hb; have BK357 := Aside0.mk hbox; have GW357 := nGC hg; have GE357 := nGC hg; replace HB := nSC hb; have NB345_357 := nL BK345 hg; have NB357_345 := nH BK345 hg; replace BK345 := nK BK345 hb; clear hb hbox hg; have hnb73 := NB357_345.out; have hnc73 := NB345_357.out; have hcz74 := cb7 BK357; obtain ⟨Ao75, co75, eo75⟩ := Kd.R_slice HO_5.out; subst eo75; have p360 : 0 ≤ (x57_3 : Int) := sO; have q360 : x57_3 < (t353.length : Int) := sO; obtain ⟨ad360, e360, hx360_0⟩ := Kd.at_int (Kd.R_reads' HO_5.out).2.2 x57_3 p360 q360; cases e360; have hn360_0 : ad360.block ≠ gb357 := Kd.own_blk (Kd.R_ne HO_5.out BK357.out (by decide)); have hn360_1 : ad360.block ≠ gb357 := Kd.own_blk (Kd.R_ne HO_5.out BK357.out (by decide)); have hn360_2 : ad360.block ≠ gb357 := Kd.own_blk (Kd.R_ne HO_5.out BK357.out (by decide)); have hn360_3 : ad360.block ≠ gb357 := Kd.own_blk (Kd.R_ne HO_5.out BK357.out (by decide)); have hn360_4 : ad360.block ≠ gb357 := Kd.own_blk (Kd.R_ne HO_5.out BK357.out (by decide)); have hn360_5 : ad360.block ≠ gb357 := Kd.own_blk (Kd.R_ne HO_5.out BK357.out (by decide)); have hn360_6 : ad360.block ≠ gb357 := Kd.own_blk (Kd.R_ne HO_5.out BK357.out (by decide)); replace hx360_0 := (cell_far (p := ⟨gb357, 0, none⟩) (by first | (rw [add_block]; exact hn360_0) | (show (Addr.add _ _).block ≠ _; rw [add_block]; exact hn360_0) | exact hn360_0) (.int .i64 ((rd_T74 l0_0 x57_3).f0))).trans hx360_0; replace hx360_0 := (cell_far (p := ⟨gb357, 1, none⟩) (by first | (rw [add_block]; exact hn360_1) | (show (Addr.add _ _).block ≠ _; rw [add_block]; exact hn360_1) | exact hn360_1) (.int .i64 ((rd_T74 l0_0 x57_3).f1))).trans hx360_0; replace hx360_0 := (cell_far (p := ⟨gb357, 2, none⟩) (by first | (rw [add_block]; exact hn360_2) | (show (Addr.add _ _).block ≠ _; rw [add_block]; exact hn360_2) | exact hn360_2) (.int .i64 ((rd_T74 l0_0 x57_3).f2))).trans hx360_0; replace hx360_0 := (cell_far (p := ⟨gb357, 3, none⟩) (by first | (rw [add_block]; exact hn360_3) | (show (Addr.add _ _).block ≠ _; rw [add_block]; exact hn360_3) | exact hn360_3) (.int .i64 ((rd_T74 l0_0 x57_3).f3))).trans hx360_0; replace hx360_0 := (cell_far (p := ⟨gb357, 4, none⟩) (by first | (rw [add_block]; exact hn360_4) | (show (Addr.add _ _).block ≠ _; rw [add_block]; exact hn360_4) | exact hn360_4) (.int .i64 ((rd_T74 l0_0 x57_3).f4))).trans hx360_0; replace hx360_0 := (cell_far (p := ⟨gb357, 5, none⟩) (by first | (rw [add_block]; exact hn360_5) | (show (Addr.add _ _).block ≠ _; rw [add_block]; exact hn360_5) | exact hn360_5) (.string ((rd_T74 l0_0 x57_3).f5))).trans hx360_0; replace hx360_0 := (cell_far (p := ⟨gb357, 6, none⟩) (by first | (rw [add_block]; exact hn360_6) | (show (Addr.add _ _).block ≠ _; rw [add_block]; exact hn360_6) | exact hn360_6) (.slice A356_6 ((rd_T74 l0_0 x57_3).f6).length c356_6)).trans hx360_0; clear hn360_0; clear hn360_1; clear hn360_2; clear hn360_3; clear hn360_4; clear hn360_5; clear hn360_6; replace p360 := eq_true p360; replace q360 := eq_true q360) | (go_at_call 97; (with_reducible refine (impl_within.calls (rd t353 x57_3) ji65 1 false _ A66.out).mono ?_); rintro e w' ⟨rfl, ⟨nd, rfl⟩⟩))
               go_ret
               exact ⟨by first | rfl | (simp [errW_none, errW_some] <;> rfl) | (simp [errW_none, errW_some]; exact isEmpty_ne _) | (simp only [← hji65]; first | rfl | (simp [errW_none, errW_some] <;> rfl)) | (simp [*, errW_none, errW_some] <;> rfl), sC⟩
            ·rw [if_neg c59] at H
             have c59b0 := beq_eq_false_iff_ne.mpr c59
             have c59b1 := bne_iff_ne.mpr c59
             by_cases c76 : ((rd_T74 l0_0 x57_3).f0) = 0
             ·rw [if_pos c76] at H
              have c76b0 := beq_iff_eq.mpr c76
              have c76b1 := bne_eq_false_iff_eq.mpr c76
              clear c76
              have H' := Aside0.mk H
              clear H
              have p356 : 0 ≤ (x57_3 : Int) := sO
              have q356 : x57_3 < (l0_0.length : Int) := sO
              obtain ⟨ad356, A356_6, c356_6, e356, hx356_0, hx356_1, hx356_2, hx356_3, hx356_4, hx356_5, hx356_6, hl356_6, hi356_6⟩ := ab74 HR0_0.out HB x57_3 p356 q356
              cases e356
              have HR356_6 := Aside0.mk hi356_6
              have HC356_6 := Aside0.mk hl356_6
              clear hi356_6 hl356_6
              replace p356 := eq_true p356
              replace q356 := eq_true q356
              go_wp2_with (first | ((with_reducible refine gd 7 rfl ?_); (first | refine bxE 7 #[.int .i64 0, .int .i64 0, .int .i64 0, .int .i64 0, .int .i64 0, .string (⟨#[]⟩ : ByteArray), .slice none 0 0] 74 ?_ | refine bgE 7 #[.int .i64 0, .int .i64 0, .int .i64 0, .int .i64 0, .int .i64 0, .string (⟨#[]⟩ : ByteArray), .slice none 0 0] 74 ?_); intro gb357 hg w77 hbox hb; replace HO_5 := nR HO_5 hb; have BK357 := Aside0.mk hbox; have GW357 := nGC hg; have GE357 := nGC hg; replace HB := nSC hb; have NB345_357 := nL BK345 hg; have NB357_345 := nH BK345 hg; replace BK345 := nK BK345 hb; clear hb hbox hg; have hnb78 := NB357_345.out; have hnc78 := NB345_357.out; have hcz79 := cb7 BK357))
              go_roundg k3
              case measure => have := HJ1.out; have := HK2.out; have := HK3.out; omega
              case rel => exact ⟨(wrap64 (x57_3 + 1)), sR, H', ⟨by have := HJ1.out; have := HK2.out; have := HK3.out; omega⟩, ⟨rRf HO_5 BK357 (fun _ hk => trivial)⟩, ⟨sX BK345⟩, ⟨sC⟩⟩
             ·rw [if_neg c76] at H
              have c76b0 := beq_eq_false_iff_ne.mpr c76
              have c76b1 := bne_iff_ne.mpr c76
              obtain ⟨c80, H⟩ := iN H
              have c80b0 := decide_eq_true c80
              clear c80
              obtain ⟨ji81, hji81⟩ : ∃ j_ : Int, (mn x57_3 1) = j_ := ⟨_, rfl⟩
              replace H : ((impl_within.f (rd t353 x57_3) (ji81) 1152921504606846976).bind fun t363 => (if t363 = true then (impl_GoodFs.l1 k3 t353 l0_0 (l0_0.length : Int) (wrap64 (x57_3 + 1)) l0_0 a0_1) else (some false))) = some r := by first | (rw [hji81] at H; exact H) | (simp only [hji81] at H ⊢; exact H)
              have hji81_ : (if 1 < x57_3 then 1 else x57_3) = ji81 := hji81
              obtain ⟨t363, A82, H⟩ := bS H
              try dsimp only at H
              by_cases c83 : t363 = true
              ·subst c83
               rw [if_pos rfl] at H
               have H' := Aside0.mk H
               clear H
               have p356 : 0 ≤ (x57_3 : Int) := sO
               have q356 : x57_3 < (l0_0.length : Int) := sO
               obtain ⟨ad356, A356_6, c356_6, e356, hx356_0, hx356_1, hx356_2, hx356_3, hx356_4, hx356_5, hx356_6, hl356_6, hi356_6⟩ := ab74 HR0_0.out HB x57_3 p356 q356
               cases e356
               have HR356_6 := Aside0.mk hi356_6
               have HC356_6 := Aside0.mk hl356_6
               clear hi356_6 hl356_6
               replace p356 := eq_true p356
               replace q356 := eq_true q356
               go_wp2_with (first | ((with_reducible refine gd 7 rfl ?_); (first | refine bxE 7 #[.int .i64 0, .int .i64 0, .int .i64 0, .int .i64 0, .int .i64 0, .string (⟨#[]⟩ : ByteArray), .slice none 0 0] 74 ?_ | refine bgE 7 #[.int .i64 0, .int .i64 0, .int .i64 0, .int .i64 0, .int .i64 0, .string (⟨#[]⟩ : ByteArray), .slice none 0 0] 74 ?_); intro gb357 hg w84 hbox hb; replace HO_5 := nR HO_5 hb; have BK357 := Aside0.mk hbox; have GW357 := nGC hg; have GE357 := nGC hg; replace HB := nSC hb; have NB345_357 := nL BK345 hg; have NB357_345 := nH BK345 hg; replace BK345 := nK BK345 hb; clear hb hbox hg; have hnb85 := NB357_345.out; have hnc85 := NB345_357.out; have hcz86 := cb7 BK357; obtain ⟨Ao87, co87, eo87⟩ := Kd.R_slice HO_5.out; subst eo87; have p362 : 0 ≤ (x57_3 : Int) := sO; have q362 : x57_3 < (t353.length : Int) := sO; obtain ⟨ad362, e362, hx362_0⟩ := Kd.at_int (Kd.R_reads' HO_5.out).2.2 x57_3 p362 q362; cases e362; have hn362_0 : ad362.block ≠ gb357 := Kd.own_blk (Kd.R_ne HO_5.out BK357.out (by decide)); have hn362_1 : ad362.block ≠ gb357 := Kd.own_blk (Kd.R_ne HO_5.out BK357.out (by decide)); have hn362_2 : ad362.block ≠ gb357 := Kd.own_blk (Kd.R_ne HO_5.out BK357.out (by decide)); have hn362_3 : ad362.block ≠ gb357 := Kd.own_blk (Kd.R_ne HO_5.out BK357.out (by decide)); have hn362_4 : ad362.block ≠ gb357 := Kd.own_blk (Kd.R_ne HO_5.out BK357.out (by decide)); have hn362_5 : ad362.block ≠ gb357 := Kd.own_blk (Kd.R_ne HO_5.out BK357.out (by decide)); have hn362_6 : ad362.block ≠ gb357 := Kd.own_blk (Kd.R_ne HO_5.out BK357.out (by decide)); replace hx362_0 := (cell_far (p := ⟨gb357, 0, none⟩) (by first | (rw [add_block]; exact hn362_0) | (show (Addr.add _ _).block ≠ _; rw [add_block]; exact hn362_0) | exact hn362_0) (.int .i64 ((rd_T74 l0_0 x57_3).f0))).trans hx362_0; replace hx362_0 := (cell_far (p := ⟨gb357, 1, none⟩) (by first | (rw [add_block]; exact hn362_1) | (show (Addr.add _ _).block ≠ _; rw [add_block]; exact hn362_1) | exact hn362_1) (.int .i64 ((rd_T74 l0_0 x57_3).f1))).trans hx362_0; replace hx362_0 := (cell_far (p := ⟨gb357, 2, none⟩) (by first | (rw [add_block]; exact hn362_2) | (show (Addr.add _ _).block ≠ _; rw [add_block]; exact hn362_2) | exact hn362_2) (.int .i64 ((rd_T74 l0_0 x57_3).f2))).trans hx362_0; replace hx362_0 := (cell_far (p := ⟨gb357, 3, none⟩) (by first | (rw [add_block]; exact hn362_3) | (show (Addr.add _ _).block ≠ _; rw [add_block]; exact hn362_3) | exact hn362_3) (.int .i64 ((rd_T74 l0_0 x57_3).f3))).trans hx362_0; replace hx362_0 := (cell_far (p := ⟨gb357, 4, none⟩) (by first | (rw [add_block]; exact hn362_4) | (show (Addr.add _ _).block ≠ _; rw [add_block]; exact hn362_4) | exact hn362_4) (.int .i64 ((rd_T74 l0_0 x57_3).f4))).trans hx362_0; replace hx362_0 := (cell_far (p := ⟨gb357, 5, none⟩) (by first | (rw [add_block]; exact hn362_5) | (show (Addr.add _ _).block ≠ _; rw [add_block]; exact hn362_5) | exact hn362_5) (.string ((rd_T74 l0_0 x57_3).f5))).trans hx362_0; replace hx362_0 := (cell_far (p := ⟨gb357, 6, none⟩) (by first | (rw [add_block]; exact hn362_6) | (show (Addr.add _ _).block ≠ _; rw [add_block]; exact hn362_6) | exact hn362_6) (.slice A356_6 ((rd_T74 l0_0 x57_3).f6).length c356_6)).trans hx362_0; clear hn362_0; clear hn362_1; clear hn362_2; clear hn362_3; clear hn362_4; clear hn362_5; clear hn362_6; replace p362 := eq_true p362; replace q362 := eq_true q362) | (go_at_call 97; (with_reducible refine (impl_within.calls (rd t353 x57_3) ji81 1152921504606846976 true _ A82.out).mono ?_); rintro e w' ⟨rfl, ⟨nd, rfl⟩⟩))
               go_roundg k3
               case measure => have := HJ1.out; have := HK2.out; have := HK3.out; omega
               case rel => exact ⟨(wrap64 (x57_3 + 1)), sR, (by first | exact H' | (simp only [hji81]; exact H') | (simp only [hji81]; exact H')), ⟨by have := HJ1.out; have := HK2.out; have := HK3.out; omega⟩, ⟨rRf HO_5 BK357 (fun _ hk => trivial)⟩, ⟨sX BK345⟩, ⟨sC⟩⟩
              ·replace c83 := Bool.eq_false_iff.mpr c83
               subst c83
               rw [if_neg (show ¬ (false = true) by decide)] at H
               obtain rfl := Option.some.inj H
               have p356 : 0 ≤ (x57_3 : Int) := sO
               have q356 : x57_3 < (l0_0.length : Int) := sO
               obtain ⟨ad356, A356_6, c356_6, e356, hx356_0, hx356_1, hx356_2, hx356_3, hx356_4, hx356_5, hx356_6, hl356_6, hi356_6⟩ := ab74 HR0_0.out HB x57_3 p356 q356
               cases e356
               have HR356_6 := Aside0.mk hi356_6
               have HC356_6 := Aside0.mk hl356_6
               clear hi356_6 hl356_6
               replace p356 := eq_true p356
               replace q356 := eq_true q356
               go_wp2_with (first | ((with_reducible refine gd 7 rfl ?_); (first | refine bxE 7 #[.int .i64 0, .int .i64 0, .int .i64 0, .int .i64 0, .int .i64 0, .string (⟨#[]⟩ : ByteArray), .slice none 0 0] 74 ?_ | refine bgE 7 #[.int .i64 0, .int .i64 0, .int .i64 0, .int .i64 0, .int .i64 0, .string (⟨#[]⟩ : ByteArray), .slice none 0 0] 74 ?_); intro gb357 hg w88 hbox hb; replace HO_5 := nR HO_5 hb; have BK357 := Aside0.mk hbox; have GW357 := nGC hg; have GE357 := nGC hg; replace HB := nSC hb; have NB345_357 := nL BK345 hg; have NB357_345 := nH BK345 hg; replace BK345 := nK BK345 hb; clear hb hbox hg; have hnb89 := NB357_345.out; have hnc89 := NB345_357.out; have hcz90 := cb7 BK357; obtain ⟨Ao91, co91, eo91⟩ := Kd.R_slice HO_5.out; subst eo91; have p362 : 0 ≤ (x57_3 : Int) := sO; have q362 : x57_3 < (t353.length : Int) := sO; obtain ⟨ad362, e362, hx362_0⟩ := Kd.at_int (Kd.R_reads' HO_5.out).2.2 x57_3 p362 q362; cases e362; have hn362_0 : ad362.block ≠ gb357 := Kd.own_blk (Kd.R_ne HO_5.out BK357.out (by decide)); have hn362_1 : ad362.block ≠ gb357 := Kd.own_blk (Kd.R_ne HO_5.out BK357.out (by decide)); have hn362_2 : ad362.block ≠ gb357 := Kd.own_blk (Kd.R_ne HO_5.out BK357.out (by decide)); have hn362_3 : ad362.block ≠ gb357 := Kd.own_blk (Kd.R_ne HO_5.out BK357.out (by decide)); have hn362_4 : ad362.block ≠ gb357 := Kd.own_blk (Kd.R_ne HO_5.out BK357.out (by decide)); have hn362_5 : ad362.block ≠ gb357 := Kd.own_blk (Kd.R_ne HO_5.out BK357.out (by decide)); have hn362_6 : ad362.block ≠ gb357 := Kd.own_blk (Kd.R_ne HO_5.out BK357.out (by decide)); replace hx362_0 := (cell_far (p := ⟨gb357, 0, none⟩) (by first | (rw [add_block]; exact hn362_0) | (show (Addr.add _ _).block ≠ _; rw [add_block]; exact hn362_0) | exact hn362_0) (.int .i64 ((rd_T74 l0_0 x57_3).f0))).trans hx362_0; replace hx362_0 := (cell_far (p := ⟨gb357, 1, none⟩) (by first | (rw [add_block]; exact hn362_1) | (show (Addr.add _ _).block ≠ _; rw [add_block]; exact hn362_1) | exact hn362_1) (.int .i64 ((rd_T74 l0_0 x57_3).f1))).trans hx362_0; replace hx362_0 := (cell_far (p := ⟨gb357, 2, none⟩) (by first | (rw [add_block]; exact hn362_2) | (show (Addr.add _ _).block ≠ _; rw [add_block]; exact hn362_2) | exact hn362_2) (.int .i64 ((rd_T74 l0_0 x57_3).f2))).trans hx362_0; replace hx362_0 := (cell_far (p := ⟨gb357, 3, none⟩) (by first | (rw [add_block]; exact hn362_3) | (show (Addr.add _ _).block ≠ _; rw [add_block]; exact hn362_3) | exact hn362_3) (.int .i64 ((rd_T74 l0_0 x57_3).f3))).trans hx362_0; replace hx362_0 := (cell_far (p := ⟨gb357, 4, none⟩) (by first | (rw [add_block]; exact hn362_4) | (show (Addr.add _ _).block ≠ _; rw [add_block]; exact hn362_4) | exact hn362_4) (.int .i64 ((rd_T74 l0_0 x57_3).f4))).trans hx362_0; replace hx362_0 := (cell_far (p := ⟨gb357, 5, none⟩) (by first | (rw [add_block]; exact hn362_5) | (show (Addr.add _ _).block ≠ _; rw [add_block]; exact hn362_5) | exact hn362_5) (.string ((rd_T74 l0_0 x57_3).f5))).trans hx362_0; replace hx362_0 := (cell_far (p := ⟨gb357, 6, none⟩) (by first | (rw [add_block]; exact hn362_6) | (show (Addr.add _ _).block ≠ _; rw [add_block]; exact hn362_6) | exact hn362_6) (.slice A356_6 ((rd_T74 l0_0 x57_3).f6).length c356_6)).trans hx362_0; clear hn362_0; clear hn362_1; clear hn362_2; clear hn362_3; clear hn362_4; clear hn362_5; clear hn362_6; replace p362 := eq_true p362; replace q362 := eq_true q362) | (go_at_call 97; (with_reducible refine (impl_within.calls (rd t353 x57_3) ji81 1152921504606846976 false _ A82.out).mono ?_); rintro e w' ⟨rfl, ⟨nd, rfl⟩⟩))
               go_ret
               exact ⟨by first | rfl | (simp [errW_none, errW_some] <;> rfl) | (simp [errW_none, errW_some]; exact isEmpty_ne _) | (simp only [← hji81]; first | rfl | (simp [errW_none, errW_some] <;> rfl)) | (simp [*, errW_none, errW_some] <;> rfl), sC⟩
          ·rw [if_neg c39] at H
           have c39b0 := decide_eq_false c39
           clear c39
           by_cases c92 : 0 ≤ (l0_0.length : Int)
           ·rw [if_pos c92] at H
            have c92b0 := eq_true c92
            have c92b1 := decide_eq_true c92
            clear c92
            obtain ⟨c93, H⟩ := iN H
            have c93b0 := eq_true c93
            have c93b1 := decide_eq_true c93
            clear c93
            obtain ⟨y364, hy364⟩ : ∃ y_ : List Bool, y_ = (List.replicate ((l0_0.length : Int) : Int).toNat false) := ⟨_, rfl⟩
            replace H : (impl_GoodFs.l2 k3 y364 (([0] : List Int)) 0 l0_0 a0_1) = some r := by first | (rw [hy364]; with_reducible exact H) | (have H2_ := (Option.bind_some _ _).symm.trans H; rw [hy364]; with_reducible exact H2_) | (have H2_ := (Option.bind_some _ _).symm.trans H; with_reducible exact H2_) | with_reducible exact H | (rw [hy364]; exact H) | exact H
            have Ny364 := Aside0.mk hy364
            clear hy364
            obtain ⟨y367, hy367⟩ : ∃ y_ : List Int, y_ = (([0] : List Int)) := ⟨_, rfl⟩
            replace H : (impl_GoodFs.l2 k3 y364 y367 0 l0_0 a0_1) = some r := by first | (rw [hy367]; with_reducible exact H) | (have H2_ := (Option.bind_some _ _).symm.trans H; rw [hy367]; with_reducible exact H2_) | (have H2_ := (Option.bind_some _ _).symm.trans H; with_reducible exact H2_) | with_reducible exact H | (rw [hy367]; exact H) | exact H
            have Ny367 := Aside0.mk hy367
            clear hy367
            have H' := Aside0.mk H
            clear H
            have hcz94 := cb2 BK345
            go_wp2_with (first | ((with_reducible refine gate_dst (N := 87) rfl ?_); (try (refine gate_guard (by rfl) ?_; dsimp only)); refine Kd.R_make Kd.bool _ 4 rfl (N := 87) rfl 137 _ _ rfl (l0_0.length : Int) rfl rfl Tryz.underlying137 (.bool false) 1 info4 rfl (by decide) (by omega) false (ok := fun _ => True) (okp := fun _ => True) rfl (fun _ hk => hk) trivial (sO) (Nat.le_trans (Nat.mul_le_mul_right _ (sO : (l0_0.length : Int).toNat ≤ 281474976710656)) (by omega)) (Below.refl _ _) (Nat.le_refl _) ?_; intro v365 w95 ho96 hb hg_ hnew_; clear hg_ hnew_; (first | rw [← Ny364.out] at ho96 | (simp only [Int.reduceToNat] at ho96; rw [← Ny364.out] at ho96)); replace HO_5 := nR HO_5 hb; have HO366 := Aside0.mk (Kd.R_lower ho96 (below_size sC)); replace BK345 := nK BK345 hb; replace HB := nSC hb; clear hb ho96) | ((with_reducible refine gate_dst (N := 88) rfl ?_); (try (refine gate_guard (by rfl) ?_; dsimp only)); refine Kd.R_lit (Kd.int .i64) _ 3 ?hg (N := 88) ?hd (xs := ([0] : List Int)) (inner := [.int .i64 0]) (ok := fun _ => True) (okp := fun _ => True) ?hr ?hp (fun _ hk => hk) trivial (Below.refl _ _) (Nat.le_refl _) (by simp) ?_; (case hd => rfl); (case hg => rfl); (case hr => first | (go_simp; done) | (go_simp; rfl)); (case hp => exact (Reps.one (show Kd.M (Kd.int .i64) _ _ _ 0 [.int .i64 0] from rfl) (Reps.none _ _))); intro v368 w97 ho98 hb hg_ hnew_; clear hg_ hnew_; (first | rw [← Ny367.out] at ho98 | (simp only [Int.reduceToNat] at ho98; rw [← Ny367.out] at ho98)); replace HO366 := nR HO366 hb; have HO369 := Aside0.mk (Kd.R_lower (Kd.R_new' ho98 (Kd.R_lt (by (with_reducible repeat (first | apply Kd.R_alloc | apply Kd.R_drewN | apply Kd.R_drew)); exact HO_5.out))) (below_size sC)); replace HO_5 := Aside0.mk (Kd.R_elder' (by (with_reducible repeat (first | apply Kd.R_alloc | apply Kd.R_drewN | apply Kd.R_drew)); exact HO_5.out) (Kd.R_base ho98) hb); replace BK345 := nK BK345 hb; replace HB := nSC hb; clear hb ho98))
            go_loopg [10, 11] k3 (fun kq v10 v11 w' => ∃ (x9_4 : List Bool) (x10_4 : List Int) (x11_4 : Int), v11 = .int .i64 x11_4 ∧ Aside0 (impl_GoodFs.l2 kq x9_4 x10_4 x11_4 l0_0 a0_1 = some r) ∧ Aside0 (kq ≤ k3) ∧ Aside0 (Kd.R Kd.bool 4 w' w.heap.size (fun _ => True) v365 x9_4) ∧ Aside0 (Kd.R (Kd.int .i64) 3 w' w.heap.size (fun _ => True) v10 x10_4) ∧ Aside0 (w'.heap[gb345]? = some (.cells #[(.slice A0_0 l0_0.length c0_0), .int .i64 a0_1] 31 (0, 0))) ∧ Aside0 (Below w.heap.size w w'))
            case atStart => exact ⟨(y364), (y367), (0), sR, H', ⟨Nat.le_refl _⟩, ⟨rR HO366⟩, ⟨by (with_reducible repeat (first | apply Kd.R_alloc | apply Kd.R_drewN | apply Kd.R_drew)); exact Kd.R_mono HO369.out (fun _ hk => trivial)⟩, ⟨sK BK345⟩, ⟨sC⟩⟩
            case round =>
             clear H'
             try clear c1
             try clear c2
             try clear p2
             try clear c3
             try clear p3
             try clear q3
             try clear hx3
             try clear qi3
             try clear c4
             try clear c5
             try clear c6
             try clear p6
             try clear c7
             try clear c8
             try clear c8b0
             try clear c8b1
             try clear c9
             try clear c10
             try clear c12
             try clear c14
             try clear c14b0
             try clear c15
             try clear c15b0
             try clear c16
             try clear c16b0
             try clear c18
             try clear c20
             try clear c25
             try clear c30
             try clear c30b0
             try clear c34
             try clear p34
             try clear q34
             try clear hx34
             try clear qi34
             try clear c35
             try clear p35
             try clear q35
             try clear hx35
             try clear p36
             try clear q36
             try clear hx36
             try clear c39
             try clear c39b0
             try clear c40
             try clear c40b0
             try clear c41
             try clear c41b0
             try clear c42
             try clear c42b0
             try clear c42b1
             try clear c43
             try clear c43b0
             try clear c43b1
             try clear c45
             try clear c47
             try clear c47b0
             try clear c50
             try clear c52
             try clear c56
             try clear c59
             try clear c59b0
             try clear c59b1
             try clear c60
             try clear c60b0
             try clear c60b1
             try clear c62
             try clear c64
             try clear c64b0
             try clear p64
             try clear c67
             try clear c69
             try clear c73
             try clear c76
             try clear c76b0
             try clear c76b1
             try clear c78
             try clear c80
             try clear c80b0
             try clear c83
             try clear c85
             try clear c89
             try clear c92
             try clear c92b0
             try clear c92b1
             try clear c93
             try clear c93b0
             try clear c93b1
             try clear hcz10
             try clear hcz11
             try clear hcz13
             try clear hcz21
             try clear hcz22
             try clear hcz26
             try clear hcz27
             try clear hcz36
             try clear hcz38
             try clear hcz46
             try clear hcz53
             try clear hcz57
             try clear hcz63
             try clear hcz70
             try clear hcz74
             try clear hcz79
             try clear hcz86
             try clear hcz90
             try clear hcz94
             try clear hcz9
             try clear hx348_0
             try clear hx348_1
             try clear hx348_2
             try clear hx348_3
             try clear hx348_4
             try clear hx348_5
             try clear hx348_6
             try clear hx349_0
             try clear hx349_1
             try clear hx349_2
             try clear hx349_3
             try clear hx349_4
             try clear hx349_5
             try clear hx349_6
             try clear hx356_0
             try clear hx356_1
             try clear hx356_2
             try clear hx356_3
             try clear hx356_4
             try clear hx356_5
             try clear hx356_6
             try clear hx358_0
             try clear hx360_0
             try clear hx362_0
             try clear p2
             try clear p3
             try clear p34
             try clear p348
             try clear p349
             try clear p356
             try clear p358
             try clear p360
             try clear p362
             try clear p6
             try clear q3
             try clear q34
             try clear q348
             try clear q349
             try clear q356
             try clear q358
             try clear q360
             try clear q362
             obtain ⟨x9_4, x10_4, x11_4, rfl, HA, HK4, HO_9, HO_10, BK345, HB⟩ := hrel
             cases gk with
             | zero => exact absurd HA.out (by simp [impl_GoodFs.l2])
             | succ k4 =>
              have H := HA.out
              clear HA
              simp only [impl_GoodFs.l2] at H
              by_cases c99 : x11_4 < (x10_4.length : Int)
              ·rw [if_pos c99] at H
               have c99b0 := decide_eq_true c99
               clear c99
               obtain ⟨c100, H⟩ := iN H
               have c100b0 := decide_eq_true c100
               clear c100
               obtain ⟨c101, H⟩ := iN H
               have c101b0 := decide_eq_true c101
               clear c101
               obtain ⟨c102, H⟩ := iN H
               have c102b0 := decide_eq_true c102
               clear c102
               obtain ⟨y371, hy371⟩ : ∃ y_ : List Bool, y_ = (x9_4.set ((rd x10_4 x11_4) : Int).toNat true) := ⟨_, rfl⟩
               replace H : (if (rd x10_4 x11_4) < (l0_0.length : Int) then (impl_GoodFs.l3 k4 y371 x10_4 x11_4 ((rd_T74 l0_0 (rd x10_4 x11_4)).f6) (((rd_T74 l0_0 (rd x10_4 x11_4)).f6).length : Int) 0 l0_0 a0_1) else (none)) = some r := by first | (rw [hy371]; with_reducible exact H) | (have H2_ := (Option.bind_some _ _).symm.trans H; rw [hy371]; with_reducible exact H2_) | (have H2_ := (Option.bind_some _ _).symm.trans H; with_reducible exact H2_) | with_reducible exact H | (rw [hy371]; exact H) | exact H
               have Ny371 := Aside0.mk hy371
               clear hy371
               obtain ⟨c104, H⟩ := iN H
               have c104b0 := decide_eq_true c104
               clear c104
               have H' := Aside0.mk H
               clear H
               obtain ⟨Ao105, co105, eo105⟩ := Kd.R_slice HO_10.out
               subst eo105
               have p370 : 0 ≤ (x11_4 : Int) := sO
               have q370 : x11_4 < (x10_4.length : Int) := sO
               obtain ⟨ad370, e370, hx370_0⟩ := Kd.at_int (Kd.R_reads' HO_10.out).2.2 x11_4 p370 q370
               cases e370
               replace p370 := eq_true p370
               replace q370 := eq_true q370
               have p103 : 0 ≤ ((rd x10_4 x11_4) : Int) := sO
               have q103 : ((rd x10_4 x11_4) : Int) < ((x9_4.length : Int) : Int) := sO
               obtain ⟨go103, co103, eo103, gb103, gl103, cl103, HG103⟩ := Kd.R_form HO_9.out (by omega)
               (first | cases eo103 | (injection eo103 with ea_ en_ ec_; (first | subst ea_ | (injection ea_ with ea_; subst ea_)); subst ec_; clear en_))
               have GB103 := Aside0.mk gb103
               have GG103 := Aside0.mk HG103
               clear gb103 gl103 HG103
               obtain ⟨hx103_0, hf103_0⟩ := Kd.R_celln false HO_9.out ((rd x10_4 x11_4) : Int) p103 q103
               replace p103 := eq_true p103
               replace q103 := eq_true q103
               have HP106 := Kd.R_putg HO_9.out ((rd x10_4 x11_4) : Int) true
               try go_wp2_with (first | ((with_reducible refine gate_store (t := 4) (p := 100) rfl ?_); refine store_event (t := 4) (p := 100) (v := ?vo_w107) (w1 := (wr.setCell ⟨go103, ((rd x10_4 x11_4) : Int).toNat, none⟩ (.bool true))) ?hg ?ho ?hn ?hr ?_; (case ho => rfl); (case hg => rfl); (case hn => rfl); (case hr => first | (go_simp; done) | (go_simp; rfl)); intro w107 hw; have hg : wr.grownBy w107 (some go103) := (by rw [hw]; exact HP106.2); have hp_ : Kd.R Kd.bool 4 w107 w.heap.size (fun _ => True) (.slice (some ⟨go103, 0, none⟩) x9_4.length co103) y371 := (by rw [hw, Ny371.out]; exact HP106.1); clear HP106; replace HO_10 := Aside0.mk (Kd.R_over' (v := (.slice (some ⟨go103, 0, none⟩) x9_4.length co103)) (by (with_reducible repeat (first | apply Kd.R_alloc | apply Kd.R_drewN | apply Kd.R_drew)); exact HO_10.out) (Kd.R_typed HO_9.out) (by decide) hg); replace BK345 := Aside0.mk (blk_grown (g := gb345) (o := .cells #[.slice A0_0 l0_0.length c0_0, .int .i64 a0_1] 31 (0, 0)) (sK BK345) hg (Kd.R_ne HO_9.out BK345.out (by decide))); replace HO_9 := Aside0.mk (hp_); replace HB := Aside0.mk ((by rw [hw]; exact below_set (HB.out) GB103.out : Below w.heap.size w w107)); clear hg hw hp_))
               have n0_ := Aside0.mk (Kd.R_drew HO_9.out)
               have n1_ := Aside0.mk (Kd.R_drew HO_10.out)
               have n2_ := Aside0.mk (blk_drew BK345.out)
               have n3_ := Aside0.mk (below_drew1 HB.out)
               clear HO_9
               clear HO_10
               clear BK345
               clear HB
               have HO_9 := n0_
               have HO_10 := n1_
               have BK345 := n2_
               have HB := n3_
               clear n0_ n1_ n2_ n3_
               have p372 : 0 ≤ (x11_4 : Int) := sO
               have q372 : x11_4 < (x10_4.length : Int) := sO
               obtain ⟨ad372, e372, hx372_0⟩ := Kd.at_int (Kd.R_reads' HO_10.out).2.2 x11_4 p372 q372
               obtain rfl : ad370 = ad372 := (by injection e372)
               replace p372 := eq_true p372
               replace q372 := eq_true q372
               have p373 : 0 ≤ ((rd x10_4 x11_4) : Int) := sO
               have q373 : (rd x10_4 x11_4) < (l0_0.length : Int) := sO
               obtain ⟨ad373, A373_6, c373_6, e373, hx373_0, hx373_1, hx373_2, hx373_3, hx373_4, hx373_5, hx373_6, hl373_6, hi373_6⟩ := at_T74 HR0_0.out (rd x10_4 x11_4) p373 q373
               have hw373_6 := hx373_6
               have hw373_5 := hx373_5
               have hw373_4 := hx373_4
               have hw373_3 := hx373_3
               have hw373_2 := hx373_2
               have hw373_1 := hx373_1
               have hw373_0 := hx373_0
               cases e373
               replace hx373_0 := hB HB hx373_0
               replace hx373_1 := hB HB hx373_1
               replace hx373_2 := hB HB hx373_2
               replace hx373_3 := hB HB hx373_3
               replace hx373_4 := hB HB hx373_4
               replace hx373_5 := hB HB hx373_5
               replace hx373_6 := hB HB hx373_6
               have HR373_6 := Aside0.mk hi373_6
               have HC373_6 := Aside0.mk hl373_6
               clear hi373_6 hl373_6
               replace p373 := eq_true p373
               replace q373 := eq_true q373
               refine st10 11 [] (cz0 BK345) (cz1 BK345) hx372_0 (hB HB hw373_0 :) (hB HB hw373_1 :) (hB HB hw373_2 :) (hB HB hw373_3 :) (hB HB hw373_4 :) (hB HB hw373_5 :) (hB HB hw373_6 :) (fun hHeld => ?_); refine with_tabW impl_GoodFs.tab29 impl_GoodFs.bits29 (fun HT_ HW_ => ?_)
               generalize w107.drew = w108 at HO_9 HO_10 BK345 HB HR373_6 hx372_0 hx373_0 hx373_1 hx373_2 hx373_3 hx373_4 hx373_5 hx373_6 hHeld ⊢
               refine pu 0 101 ?_
               refine pu 2 103 ?_
               refine pu 3 104 ?_
               refine pu 4 105 ?_
               refine pu 10 111 ?_
               refine tk10 1 102 ?_
               refine tk10 5 106 ?_
               refine pu 6 107 ?_
               refine pu 7 108 ?_
               refine tk10 8 109 ?_
               refine pu 9 110 ?_
               refine dn ?_
               try go_wp2
               go_loopg [10, 111] k4 (fun kq v10 v111 w' => ∃ (x10_5 : List Int) (x111_5 : Int), v111 = .int .i64 x111_5 ∧ Aside0 (impl_GoodFs.l3 kq y371 x10_5 x11_4 ((rd_T74 l0_0 (rd x10_4 x11_4)).f6) (((rd_T74 l0_0 (rd x10_4 x11_4)).f6).length : Int) x111_5 l0_0 a0_1 = some r) ∧ Aside0 (kq ≤ k4) ∧ Aside0 (Kd.R Kd.bool 4 w' w.heap.size (fun _ => True) (.slice (some ⟨go103, 0, none⟩) x9_4.length co103) y371) ∧ Aside0 (Kd.R (Kd.int .i64) 3 w' w.heap.size (fun _ => True) v10 x10_5) ∧ Aside0 (w'.heap[gb345]? = some (.cells #[(.slice (some ad373) l0_0.length c0_0), .int .i64 a0_1] 31 (0, 0))) ∧ Aside0 (Below w.heap.size w w'))
               case atStart => exact ⟨(x10_4), (0), sR, H', ⟨Nat.le_refl _⟩, ⟨rR HO_9⟩, ⟨rR HO_10⟩, ⟨sK BK345⟩, ⟨sC⟩⟩
               case round =>
                clear H'
                try clear c1
                try clear p1
                try clear q1
                try clear hx1
                try clear hf1
                try clear c2
                try clear p2
                try clear c3
                try clear p3
                try clear q3
                try clear hx3
                try clear qi3
                try clear c4
                try clear c5
                try clear c6
                try clear p6
                try clear c7
                try clear c8
                try clear c8b0
                try clear c8b1
                try clear c9
                try clear c10
                try clear p10
                try clear q10
                try clear hx10
                try clear hf10
                try clear c12
                try clear c14
                try clear c14b0
                try clear c15
                try clear c15b0
                try clear c16
                try clear c16b0
                try clear c18
                try clear c20
                try clear c25
                try clear c30
                try clear c30b0
                try clear c34
                try clear p34
                try clear q34
                try clear hx34
                try clear qi34
                try clear c35
                try clear p35
                try clear q35
                try clear hx35
                try clear p36
                try clear q36
                try clear hx36
                try clear c37
                try clear p37
                try clear q37
                try clear hx37
                try clear c39
                try clear c39b0
                try clear c40
                try clear c40b0
                try clear c41
                try clear c41b0
                try clear c42
                try clear c42b0
                try clear c42b1
                try clear c43
                try clear c43b0
                try clear c43b1
                try clear c45
                try clear c47
                try clear c47b0
                try clear c50
                try clear c52
                try clear c56
                try clear c59
                try clear c59b0
                try clear c59b1
                try clear c60
                try clear c60b0
                try clear c60b1
                try clear c62
                try clear c64
                try clear c64b0
                try clear p64
                try clear c67
                try clear c69
                try clear c73
                try clear c76
                try clear c76b0
                try clear c76b1
                try clear c78
                try clear c80
                try clear c80b0
                try clear c83
                try clear c85
                try clear c89
                try clear c92
                try clear c92b0
                try clear c92b1
                try clear c93
                try clear c93b0
                try clear c93b1
                try clear c99
                try clear c99b0
                try clear c100
                try clear c100b0
                try clear c101
                try clear c101b0
                try clear c102
                try clear c102b0
                try clear p103
                try clear q103
                try clear hx103
                try clear hf103
                try clear c104
                try clear c104b0
                try clear hcz10
                try clear hcz11
                try clear hcz13
                try clear hcz21
                try clear hcz22
                try clear hcz26
                try clear hcz27
                try clear hcz36
                try clear hcz38
                try clear hcz46
                try clear hcz53
                try clear hcz57
                try clear hcz63
                try clear hcz70
                try clear hcz74
                try clear hcz79
                try clear hcz86
                try clear hcz90
                try clear hcz94
                try clear hcz9
                try clear hx103_0
                try clear hx348_0
                try clear hx348_1
                try clear hx348_2
                try clear hx348_3
                try clear hx348_4
                try clear hx348_5
                try clear hx348_6
                try clear hx349_0
                try clear hx349_1
                try clear hx349_2
                try clear hx349_3
                try clear hx349_4
                try clear hx349_5
                try clear hx349_6
                try clear hx356_0
                try clear hx356_1
                try clear hx356_2
                try clear hx356_3
                try clear hx356_4
                try clear hx356_5
                try clear hx356_6
                try clear hx358_0
                try clear hx360_0
                try clear hx362_0
                try clear hx370_0
                try clear hx372_0
                try clear hx373_0
                try clear hx373_1
                try clear hx373_2
                try clear hx373_3
                try clear hx373_4
                try clear hx373_5
                try clear hx373_6
                try clear p103
                try clear p2
                try clear p3
                try clear p34
                try clear p348
                try clear p349
                try clear p35
                try clear p356
                try clear p358
                try clear p36
                try clear p360
                try clear p362
                try clear p370
                try clear p372
                try clear p373
                try clear p6
                try clear p64
                try clear q103
                try clear q3
                try clear q34
                try clear q348
                try clear q349
                try clear q35
                try clear q356
                try clear q358
                try clear q36
                try clear q360
                try clear q362
                try clear q370
                try clear q372
                try clear q373
                obtain ⟨x10_5, x111_5, rfl, HA, HK5, HO_9, HO_10, BK345, HB⟩ := hrel
                have hl9_5 := (Kd.R_reads' HO_9.out).1
                rw [hl9_5] at HO_9
                (try simp only [hl9_5])
                (try simp only [hl9_5] at BK345)
                (try simp only [hl9_5] at HO_10)
                cases gk with
                | zero => exact absurd HA.out (by simp [impl_GoodFs.l3])
                | succ k5 =>
                 have H := HA.out
                 clear HA
                 simp only [impl_GoodFs.l3] at H
                 by_cases c109 : x111_5 < (((rd_T74 l0_0 (rd x10_4 x11_4)).f6).length : Int)
                 ·rw [if_pos c109] at H
                  have c109b0 := decide_eq_true c109
                  clear c109
                  obtain ⟨c110, H⟩ := iN H
                  have c110b0 := decide_eq_true c110
                  clear c110
                  obtain ⟨c111, H⟩ := iN H
                  have c111b0 := decide_eq_true c111
                  clear c111
                  obtain ⟨c112, H⟩ := iN H
                  have c112b0 := decide_eq_true c112
                  clear c112
                  obtain ⟨c113, H⟩ := iN H
                  have c113b0 := decide_eq_true c113
                  clear c113
                  by_cases c114 : ((rd_T74 l0_0 ((rd_T105 ((rd_T74 l0_0 (rd x10_4 x11_4)).f6) x111_5).f1)).f0) = 2
                  ·rw [if_pos c114] at H
                   have c114b0 := beq_iff_eq.mpr c114
                   have c114b1 := bne_eq_false_iff_eq.mpr c114
                   clear c114
                   obtain ⟨c115, H⟩ := iN H
                   have c115b0 := decide_eq_true c115
                   clear c115
                   obtain ⟨bq116, hbq116⟩ : ∃ b_ : Bool, b_ = (rdOf false y371 ((rd_T105 ((rd_T74 l0_0 (rd x10_4 x11_4)).f6) x111_5).f1)) := ⟨_, rfl⟩
                   replace H : (if (bq116 = true) then (impl_GoodFs.l3 k5 y371 x10_5 x11_4 ((rd_T74 l0_0 (rd x10_4 x11_4)).f6) (((rd_T74 l0_0 (rd x10_4 x11_4)).f6).length : Int) (wrap64 (x111_5 + 1)) l0_0 a0_1) else (if x10_5.length < 17592186044416 then (impl_GoodFs.l3 k5 y371 (x10_5 ++ [(rd_T105 ((rd_T74 l0_0 (rd x10_4 x11_4)).f6) x111_5).f1]) x11_4 ((rd_T74 l0_0 (rd x10_4 x11_4)).f6) (((rd_T74 l0_0 (rd x10_4 x11_4)).f6).length : Int) (wrap64 (x111_5 + 1)) l0_0 a0_1) else (none))) = some r := by rw [← hbq116] at H; exact H
                   have Nbq116 := Aside0.mk hbq116
                   clear hbq116
                   by_cases c117 : (bq116 = true)
                   ·subst c117
                    rw [if_pos rfl] at H
                    have H' := Aside0.mk H
                    clear H
                    have p374 : 0 ≤ (x111_5 : Int) := sO
                    have q374 : x111_5 < (((rd_T74 l0_0 (rd x10_4 x11_4)).f6).length : Int) := sO
                    obtain ⟨ad374, e374, hx374_0, hx374_1⟩ := ab105 HR373_6.out HB x111_5 p374 q374
                    cases e374
                    replace p374 := eq_true p374
                    replace q374 := eq_true q374
                    go_wp2_with (first | ((with_reducible refine gd 13 rfl ?_); (first | refine bxE 13 #[.string (⟨#[]⟩ : ByteArray), .int .i64 0] 105 ?_ | refine bgE 13 #[.string (⟨#[]⟩ : ByteArray), .int .i64 0] 105 ?_); intro gb375 hg w118 hbox hb; replace HO_9 := nR HO_9 hb; replace HO_10 := nR HO_10 hb; have BK375 := Aside0.mk hbox; have GW375 := nGC hg; have GE375 := nGC hg; replace HB := nSC hb; have NB345_375 := nL BK345 hg; have NB375_345 := nH BK345 hg; replace BK345 := nK BK345 hb; clear hb hbox hg; have hnb119 := NB375_345.out; have hnc119 := NB345_375.out; have hcz120 := cb2 BK375; have hcz121 := cb2 BK345; have p376 : 0 ≤ (((rd_T105 ((rd_T74 l0_0 (rd x10_4 x11_4)).f6) x111_5).f1) : Int) := sO; have q376 : ((rd_T105 ((rd_T74 l0_0 (rd x10_4 x11_4)).f6) x111_5).f1) < (l0_0.length : Int) := sO; obtain ⟨ad376, A376_6, c376_6, e376, hx376_0, hx376_1, hx376_2, hx376_3, hx376_4, hx376_5, hx376_6, hl376_6, hi376_6⟩ := at_T74 HR0_0.out ((rd_T105 ((rd_T74 l0_0 (rd x10_4 x11_4)).f6) x111_5).f1) p376 q376; obtain rfl : ad373 = ad376 := (by injection e376); have hn376_0 : ad373.block ≠ gb375 := Nat.ne_of_lt (Nat.lt_of_lt_of_le (by have := World.block_lt_of_cell? _ _ hx376_0; first | rwa [add_block] at this | exact this) GW375.out); have hn376_1 : ad373.block ≠ gb375 := Nat.ne_of_lt (Nat.lt_of_lt_of_le (by have := World.block_lt_of_cell? _ _ hx376_0; first | rwa [add_block] at this | exact this) GW375.out); replace hx376_0 := hB HB hx376_0; replace hx376_1 := hB HB hx376_1; replace hx376_2 := hB HB hx376_2; replace hx376_3 := hB HB hx376_3; replace hx376_4 := hB HB hx376_4; replace hx376_5 := hB HB hx376_5; replace hx376_6 := hB HB hx376_6; have HR376_6 := Aside0.mk hi376_6; have HC376_6 := Aside0.mk hl376_6; clear hi376_6 hl376_6; replace hx376_0 := (cell_far (p := ⟨gb375, 0, none⟩) (by first | (rw [add_block]; exact hn376_0) | (show (Addr.add _ _).block ≠ _; rw [add_block]; exact hn376_0) | exact hn376_0) (.string ((rd_T105 ((rd_T74 l0_0 (rd x10_4 x11_4)).f6) x111_5).f0))).trans hx376_0; replace hx376_1 := (cell_far (p := ⟨gb375, 0, none⟩) (by first | (rw [add_block]; exact hn376_0) | (show (Addr.add _ _).block ≠ _; rw [add_block]; exact hn376_0) | exact hn376_0) (.string ((rd_T105 ((rd_T74 l0_0 (rd x10_4 x11_4)).f6) x111_5).f0))).trans hx376_1; replace hx376_2 := (cell_far (p := ⟨gb375, 0, none⟩) (by first | (rw [add_block]; exact hn376_0) | (show (Addr.add _ _).block ≠ _; rw [add_block]; exact hn376_0) | exact hn376_0) (.string ((rd_T105 ((rd_T74 l0_0 (rd x10_4 x11_4)).f6) x111_5).f0))).trans hx376_2; replace hx376_3 := (cell_far (p := ⟨gb375, 0, none⟩) (by first | (rw [add_block]; exact hn376_0) | (show (Addr.add _ _).block ≠ _; rw [add_block]; exact hn376_0) | exact hn376_0) (.string ((rd_T105 ((rd_T74 l0_0 (rd x10_4 x11_4)).f6) x111_5).f0))).trans hx376_3; replace hx376_4 := (cell_far (p := ⟨gb375, 0, none⟩) (by first | (rw [add_block]; exact hn376_0) | (show (Addr.add _ _).block ≠ _; rw [add_block]; exact hn376_0) | exact hn376_0) (.string ((rd_T105 ((rd_T74 l0_0 (rd x10_4 x11_4)).f6) x111_5).f0))).trans hx376_4; replace hx376_5 := (cell_far (p := ⟨gb375, 0, none⟩) (by first | (rw [add_block]; exact hn376_0) | (show (Addr.add _ _).block ≠ _; rw [add_block]; exact hn376_0) | exact hn376_0) (.string ((rd_T105 ((rd_T74 l0_0 (rd x10_4 x11_4)).f6) x111_5).f0))).trans hx376_5; replace hx376_6 := (cell_far (p := ⟨gb375, 0, none⟩) (by first | (rw [add_block]; exact hn376_0) | (show (Addr.add _ _).block ≠ _; rw [add_block]; exact hn376_0) | exact hn376_0) (.string ((rd_T105 ((rd_T74 l0_0 (rd x10_4 x11_4)).f6) x111_5).f0))).trans hx376_6; replace hx376_0 := (cell_far (p := ⟨gb375, 1, none⟩) (by first | (rw [add_block]; exact hn376_1) | (show (Addr.add _ _).block ≠ _; rw [add_block]; exact hn376_1) | exact hn376_1) (.int .i64 ((rd_T105 ((rd_T74 l0_0 (rd x10_4 x11_4)).f6) x111_5).f1))).trans hx376_0; replace hx376_1 := (cell_far (p := ⟨gb375, 1, none⟩) (by first | (rw [add_block]; exact hn376_1) | (show (Addr.add _ _).block ≠ _; rw [add_block]; exact hn376_1) | exact hn376_1) (.int .i64 ((rd_T105 ((rd_T74 l0_0 (rd x10_4 x11_4)).f6) x111_5).f1))).trans hx376_1; replace hx376_2 := (cell_far (p := ⟨gb375, 1, none⟩) (by first | (rw [add_block]; exact hn376_1) | (show (Addr.add _ _).block ≠ _; rw [add_block]; exact hn376_1) | exact hn376_1) (.int .i64 ((rd_T105 ((rd_T74 l0_0 (rd x10_4 x11_4)).f6) x111_5).f1))).trans hx376_2; replace hx376_3 := (cell_far (p := ⟨gb375, 1, none⟩) (by first | (rw [add_block]; exact hn376_1) | (show (Addr.add _ _).block ≠ _; rw [add_block]; exact hn376_1) | exact hn376_1) (.int .i64 ((rd_T105 ((rd_T74 l0_0 (rd x10_4 x11_4)).f6) x111_5).f1))).trans hx376_3; replace hx376_4 := (cell_far (p := ⟨gb375, 1, none⟩) (by first | (rw [add_block]; exact hn376_1) | (show (Addr.add _ _).block ≠ _; rw [add_block]; exact hn376_1) | exact hn376_1) (.int .i64 ((rd_T105 ((rd_T74 l0_0 (rd x10_4 x11_4)).f6) x111_5).f1))).trans hx376_4; replace hx376_5 := (cell_far (p := ⟨gb375, 1, none⟩) (by first | (rw [add_block]; exact hn376_1) | (show (Addr.add _ _).block ≠ _; rw [add_block]; exact hn376_1) | exact hn376_1) (.int .i64 ((rd_T105 ((rd_T74 l0_0 (rd x10_4 x11_4)).f6) x111_5).f1))).trans hx376_5; replace hx376_6 := (cell_far (p := ⟨gb375, 1, none⟩) (by first | (rw [add_block]; exact hn376_1) | (show (Addr.add _ _).block ≠ _; rw [add_block]; exact hn376_1) | exact hn376_1) (.int .i64 ((rd_T105 ((rd_T74 l0_0 (rd x10_4 x11_4)).f6) x111_5).f1))).trans hx376_6; clear hn376_0; clear hn376_1; replace p376 := eq_true p376; replace q376 := eq_true q376; have p377 : 0 ≤ (((rd_T105 ((rd_T74 l0_0 (rd x10_4 x11_4)).f6) x111_5).f1) : Int) := sO; have q377 : ((rd_T105 ((rd_T74 l0_0 (rd x10_4 x11_4)).f6) x111_5).f1) < (y371.length : Int) := sO; obtain ⟨ad377, e377, hx377_0⟩ := Kd.at_bool (Kd.R_reads' HO_9.out).2.2 ((rd_T105 ((rd_T74 l0_0 (rd x10_4 x11_4)).f6) x111_5).f1) p377 q377; (try rw [← Nbq116.out] at hx377_0); obtain rfl : (⟨go103, 0, none⟩ : Addr) = ad377 := (by injection e377); (first | simp only [add_plain] at hx377_0 | simp only [add_at] at hx377_0 | simp only [Addr.add, Nat.zero_add] at hx377_0 | skip); have hn377_0 : (⟨go103, 0, none⟩ : Addr).block ≠ gb375 := Kd.own_blk (Kd.R_ne HO_9.out BK375.out (by decide)); have hn377_1 : (⟨go103, 0, none⟩ : Addr).block ≠ gb375 := Kd.own_blk (Kd.R_ne HO_9.out BK375.out (by decide)); replace hx377_0 := (cell_far (p := ⟨gb375, 0, none⟩) (by first | (rw [add_block]; exact hn377_0) | (show (Addr.add _ _).block ≠ _; rw [add_block]; exact hn377_0) | exact hn377_0) (.string ((rd_T105 ((rd_T74 l0_0 (rd x10_4 x11_4)).f6) x111_5).f0))).trans hx377_0; replace hx377_0 := (cell_far (p := ⟨gb375, 1, none⟩) (by first | (rw [add_block]; exact hn377_1) | (show (Addr.add _ _).block ≠ _; rw [add_block]; exact hn377_1) | exact hn377_1) (.int .i64 ((rd_T105 ((rd_T74 l0_0 (rd x10_4 x11_4)).f6) x111_5).f1))).trans hx377_0; clear hn377_0; clear hn377_1; replace p377 := eq_true p377; replace q377 := eq_true q377))
                    (try simp only [← hl9_5])
                    go_roundg k5
                    case measure => have := HJ1.out; have := HK2.out; have := HK3.out; have := HK4.out; have := HK5.out; omega
                    case rel => exact ⟨(x10_5), (wrap64 (x111_5 + 1)), sR, H', ⟨by have := HJ1.out; have := HK2.out; have := HK3.out; have := HK4.out; have := HK5.out; omega⟩, ⟨by (try simp only [hl9_5]); (with_reducible repeat (first | apply Kd.R_alloc | apply Kd.R_drewN | apply Kd.R_drew)); exact Kd.R_mono (Kd.R_far (p := ⟨gb375, 1, none⟩) (Kd.R_far (p := ⟨gb375, 0, none⟩) (Kd.R_types HO_9.out BK375.out (by decide)) (fun _ hk => hk.2) (.string ((rd_T105 ((rd_T74 l0_0 (rd x10_4 x11_4)).f6) x111_5).f0))) (fun _ hk => hk.2) (.int .i64 ((rd_T105 ((rd_T74 l0_0 (rd x10_4 x11_4)).f6) x111_5).f1))) (fun _ hk => trivial)⟩, ⟨by (try simp only [hl9_5]); (with_reducible repeat (first | apply Kd.R_alloc | apply Kd.R_drewN | apply Kd.R_drew)); exact Kd.R_mono (Kd.R_far (p := ⟨gb375, 1, none⟩) (Kd.R_far (p := ⟨gb375, 0, none⟩) (Kd.R_types HO_10.out BK375.out (by decide)) (fun _ hk => hk.2) (.string ((rd_T105 ((rd_T74 l0_0 (rd x10_4 x11_4)).f6) x111_5).f0))) (fun _ hk => hk.2) (.int .i64 ((rd_T105 ((rd_T74 l0_0 (rd x10_4 x11_4)).f6) x111_5).f1))) (fun _ hk => trivial)⟩, ⟨by (try simp only [hl9_5]); (with_reducible repeat (first | refine blk_drewN ?_ _ | refine blk_drew ?_ | refine blk_alloc ?_ _)); refine blk_far ?_ NB345_375.out _; (with_reducible repeat (first | refine blk_drewN ?_ _ | refine blk_drew ?_ | refine blk_alloc ?_ _)); refine blk_far ?_ NB345_375.out _; (with_reducible repeat (first | refine blk_drewN ?_ _ | refine blk_drew ?_ | refine blk_alloc ?_ _)); exact BK345.out⟩, ⟨sC⟩⟩
                   ·replace c117 := Bool.eq_false_iff.mpr c117
                    subst c117
                    rw [if_neg (show ¬ (false = true) by decide)] at H
                    obtain ⟨c122, H⟩ := iN H
                    have LMc122 := Aside0.mk c122
                    clear c122
                    obtain ⟨y378, hy378⟩ : ∃ y_ : List Int, y_ = (x10_5 ++ [(rd_T105 ((rd_T74 l0_0 (rd x10_4 x11_4)).f6) x111_5).f1]) := ⟨_, rfl⟩
                    replace H : (impl_GoodFs.l3 k5 y371 y378 x11_4 ((rd_T74 l0_0 (rd x10_4 x11_4)).f6) (((rd_T74 l0_0 (rd x10_4 x11_4)).f6).length : Int) (wrap64 (x111_5 + 1)) l0_0 a0_1) = some r := by first | (rw [hy378]; with_reducible exact H) | (have H2_ := (Option.bind_some _ _).symm.trans H; rw [hy378]; with_reducible exact H2_) | (have H2_ := (Option.bind_some _ _).symm.trans H; with_reducible exact H2_) | with_reducible exact H | (rw [hy378]; exact H) | exact H
                    have Ny378 := Aside0.mk hy378
                    clear hy378
                    have H' := Aside0.mk H
                    clear H
                    have p374 : 0 ≤ (x111_5 : Int) := sO
                    have q374 : x111_5 < (((rd_T74 l0_0 (rd x10_4 x11_4)).f6).length : Int) := sO
                    obtain ⟨ad374, e374, hx374_0, hx374_1⟩ := ab105 HR373_6.out HB x111_5 p374 q374
                    cases e374
                    replace p374 := eq_true p374
                    replace q374 := eq_true q374
                    go_wp2_with (first | ((with_reducible refine gd 13 rfl ?_); (first | refine bxE 13 #[.string (⟨#[]⟩ : ByteArray), .int .i64 0] 105 ?_ | refine bgE 13 #[.string (⟨#[]⟩ : ByteArray), .int .i64 0] 105 ?_); intro gb375 hg w123 hbox hb; replace HO_9 := nR HO_9 hb; replace HO_10 := nR HO_10 hb; have BK375 := Aside0.mk hbox; have GW375 := nGC hg; have GE375 := nGC hg; replace HB := nSC hb; have NB345_375 := nL BK345 hg; have NB375_345 := nH BK345 hg; replace BK345 := nK BK345 hb; clear hb hbox hg; have hnb124 := NB375_345.out; have hnc124 := NB345_375.out; have hcz125 := cb2 BK375; have hcz126 := cb2 BK345; have p376 : 0 ≤ (((rd_T105 ((rd_T74 l0_0 (rd x10_4 x11_4)).f6) x111_5).f1) : Int) := sO; have q376 : ((rd_T105 ((rd_T74 l0_0 (rd x10_4 x11_4)).f6) x111_5).f1) < (l0_0.length : Int) := sO; obtain ⟨ad376, A376_6, c376_6, e376, hx376_0, hx376_1, hx376_2, hx376_3, hx376_4, hx376_5, hx376_6, hl376_6, hi376_6⟩ := at_T74 HR0_0.out ((rd_T105 ((rd_T74 l0_0 (rd x10_4 x11_4)).f6) x111_5).f1) p376 q376; obtain rfl : ad373 = ad376 := (by injection e376); have hn376_0 : ad373.block ≠ gb375 := Nat.ne_of_lt (Nat.lt_of_lt_of_le (by have := World.block_lt_of_cell? _ _ hx376_0; first | rwa [add_block] at this | exact this) GW375.out); have hn376_1 : ad373.block ≠ gb375 := Nat.ne_of_lt (Nat.lt_of_lt_of_le (by have := World.block_lt_of_cell? _ _ hx376_0; first | rwa [add_block] at this | exact this) GW375.out); replace hx376_0 := hB HB hx376_0; replace hx376_1 := hB HB hx376_1; replace hx376_2 := hB HB hx376_2; replace hx376_3 := hB HB hx376_3; replace hx376_4 := hB HB hx376_4; replace hx376_5 := hB HB hx376_5; replace hx376_6 := hB HB hx376_6; have HR376_6 := Aside0.mk hi376_6; have HC376_6 := Aside0.mk hl376_6; clear hi376_6 hl376_6; replace hx376_0 := (cell_far (p := ⟨gb375, 0, none⟩) (by first | (rw [add_block]; exact hn376_0) | (show (Addr.add _ _).block ≠ _; rw [add_block]; exact hn376_0) | exact hn376_0) (.string ((rd_T105 ((rd_T74 l0_0 (rd x10_4 x11_4)).f6) x111_5).f0))).trans hx376_0; replace hx376_1 := (cell_far (p := ⟨gb375, 0, none⟩) (by first | (rw [add_block]; exact hn376_0) | (show (Addr.add _ _).block ≠ _; rw [add_block]; exact hn376_0) | exact hn376_0) (.string ((rd_T105 ((rd_T74 l0_0 (rd x10_4 x11_4)).f6) x111_5).f0))).trans hx376_1; replace hx376_2 := (cell_far (p := ⟨gb375, 0, none⟩) (by first | (rw [add_block]; exact hn376_0) | (show (Addr.add _ _).block ≠ _; rw [add_block]; exact hn376_0) | exact hn376_0) (.string ((rd_T105 ((rd_T74 l0_0 (rd x10_4 x11_4)).f6) x111_5).f0))).trans hx376_2; replace hx376_3 := (cell_far (p := ⟨gb375, 0, none⟩) (by first | (rw [add_block]; exact hn376_0) | (show (Addr.add _ _).block ≠ _; rw [add_block]; exact hn376_0) | exact hn376_0) (.string ((rd_T105 ((rd_T74 l0_0 (rd x10_4 x11_4)).f6) x111_5).f0))).trans hx376_3; replace hx376_4 := (cell_far (p := ⟨gb375, 0, none⟩) (by first | (rw [add_block]; exact hn376_0) | (show (Addr.add _ _).block ≠ _; rw [add_block]; exact hn376_0) | exact hn376_0) (.string ((rd_T105 ((rd_T74 l0_0 (rd x10_4 x11_4)).f6) x111_5).f0))).trans hx376_4; replace hx376_5 := (cell_far (p := ⟨gb375, 0, none⟩) (by first | (rw [add_block]; exact hn376_0) | (show (Addr.add _ _).block ≠ _; rw [add_block]; exact hn376_0) | exact hn376_0) (.string ((rd_T105 ((rd_T74 l0_0 (rd x10_4 x11_4)).f6) x111_5).f0))).trans hx376_5; replace hx376_6 := (cell_far (p := ⟨gb375, 0, none⟩) (by first | (rw [add_block]; exact hn376_0) | (show (Addr.add _ _).block ≠ _; rw [add_block]; exact hn376_0) | exact hn376_0) (.string ((rd_T105 ((rd_T74 l0_0 (rd x10_4 x11_4)).f6) x111_5).f0))).trans hx376_6; replace hx376_0 := (cell_far (p := ⟨gb375, 1, none⟩) (by first | (rw [add_block]; exact hn376_1) | (show (Addr.add _ _).block ≠ _; rw [add_block]; exact hn376_1) | exact hn376_1) (.int .i64 ((rd_T105 ((rd_T74 l0_0 (rd x10_4 x11_4)).f6) x111_5).f1))).trans hx376_0; replace hx376_1 := (cell_far (p := ⟨gb375, 1, none⟩) (by first | (rw [add_block]; exact hn376_1) | (show (Addr.add _ _).block ≠ _; rw [add_block]; exact hn376_1) | exact hn376_1) (.int .i64 ((rd_T105 ((rd_T74 l0_0 (rd x10_4 x11_4)).f6) x111_5).f1))).trans hx376_1; replace hx376_2 := (cell_far (p := ⟨gb375, 1, none⟩) (by first | (rw [add_block]; exact hn376_1) | (show (Addr.add _ _).block ≠ _; rw [add_block]; exact hn376_1) | exact hn376_1) (.int .i64 ((rd_T105 ((rd_T74 l0_0 (rd x10_4 x11_4)).f6) x111_5).f1))).trans hx376_2; replace hx376_3 := (cell_far (p := ⟨gb375, 1, none⟩) (by first | (rw [add_block]; exact hn376_1) | (show (Addr.add _ _).block ≠ _; rw [add_block]; exact hn376_1) | exact hn376_1) (.int .i64 ((rd_T105 ((rd_T74 l0_0 (rd x10_4 x11_4)).f6) x111_5).f1))).trans hx376_3; replace hx376_4 := (cell_far (p := ⟨gb375, 1, none⟩) (by first | (rw [add_block]; exact hn376_1) | (show (Addr.add _ _).block ≠ _; rw [add_block]; exact hn376_1) | exact hn376_1) (.int .i64 ((rd_T105 ((rd_T74 l0_0 (rd x10_4 x11_4)).f6) x111_5).f1))).trans hx376_4; replace hx376_5 := (cell_far (p := ⟨gb375, 1, none⟩) (by first | (rw [add_block]; exact hn376_1) | (show (Addr.add _ _).block ≠ _; rw [add_block]; exact hn376_1) | exact hn376_1) (.int .i64 ((rd_T105 ((rd_T74 l0_0 (rd x10_4 x11_4)).f6) x111_5).f1))).trans hx376_5; replace hx376_6 := (cell_far (p := ⟨gb375, 1, none⟩) (by first | (rw [add_block]; exact hn376_1) | (show (Addr.add _ _).block ≠ _; rw [add_block]; exact hn376_1) | exact hn376_1) (.int .i64 ((rd_T105 ((rd_T74 l0_0 (rd x10_4 x11_4)).f6) x111_5).f1))).trans hx376_6; clear hn376_0; clear hn376_1; replace p376 := eq_true p376; replace q376 := eq_true q376; have p377 : 0 ≤ (((rd_T105 ((rd_T74 l0_0 (rd x10_4 x11_4)).f6) x111_5).f1) : Int) := sO; have q377 : ((rd_T105 ((rd_T74 l0_0 (rd x10_4 x11_4)).f6) x111_5).f1) < (y371.length : Int) := sO; obtain ⟨ad377, e377, hx377_0⟩ := Kd.at_bool (Kd.R_reads' HO_9.out).2.2 ((rd_T105 ((rd_T74 l0_0 (rd x10_4 x11_4)).f6) x111_5).f1) p377 q377; (try rw [← Nbq116.out] at hx377_0); obtain rfl : (⟨go103, 0, none⟩ : Addr) = ad377 := (by injection e377); (first | simp only [add_plain] at hx377_0 | simp only [add_at] at hx377_0 | simp only [Addr.add, Nat.zero_add] at hx377_0 | skip); have hn377_0 : (⟨go103, 0, none⟩ : Addr).block ≠ gb375 := Kd.own_blk (Kd.R_ne HO_9.out BK375.out (by decide)); have hn377_1 : (⟨go103, 0, none⟩ : Addr).block ≠ gb375 := Kd.own_blk (Kd.R_ne HO_9.out BK375.out (by decide)); replace hx377_0 := (cell_far (p := ⟨gb375, 0, none⟩) (by first | (rw [add_block]; exact hn377_0) | (show (Addr.add _ _).block ≠ _; rw [add_block]; exact hn377_0) | exact hn377_0) (.string ((rd_T105 ((rd_T74 l0_0 (rd x10_4 x11_4)).f6) x111_5).f0))).trans hx377_0; replace hx377_0 := (cell_far (p := ⟨gb375, 1, none⟩) (by first | (rw [add_block]; exact hn377_1) | (show (Addr.add _ _).block ≠ _; rw [add_block]; exact hn377_1) | exact hn377_1) (.int .i64 ((rd_T105 ((rd_T74 l0_0 (rd x10_4 x11_4)).f6) x111_5).f1))).trans hx377_0; clear hn377_0; clear hn377_1; replace p377 := eq_true p377; replace q377 := eq_true q377) | ((with_reducible refine gate_builtin (b := .append) (xs := #[.tmp 131, .tmp 134]) rfl ?_); (try (refine gate_guard (by rfl) ?_; dsimp only)); at_builtin; refine Kd.R_append (Kd.int .i64) (w0 := w) w.heap.size rfl (.tmp 131) (.tmp 134) 26 3 (.int .i64 0) 8 rfl Tryz.underlying26 info3 rfl (by decide) (by omega) u10 x10_5 ((rd_T105 ((rd_T74 l0_0 (rd x10_4 x11_4)).f6) x111_5).f1) [.int .i64 ((rd_T105 ((rd_T74 l0_0 (rd x10_4 x11_4)).f6) x111_5).f1)] (fun _ => True) (fun _ => False) rfl (by first | (go_simp; done) | (go_simp; rfl)) ?aP (fun _ hk => hk.elim) ?aF ?aO ?aB ?aS ?aL ?_; (case aP => exact rfl); (case aB => exact sC); (case aF => exact (fun _ _ => trivial)); (case aO => exact (by (with_reducible repeat (first | apply Kd.R_alloc | apply Kd.R_drewN | apply Kd.R_drew)); exact Kd.R_mono (Kd.R_far (p := ⟨gb375, 1, none⟩) (Kd.R_far (p := ⟨gb375, 0, none⟩) (Kd.R_types HO_10.out BK375.out (by decide)) (fun _ hk => hk.2) (.string ((rd_T105 ((rd_T74 l0_0 (rd x10_4 x11_4)).f6) x111_5).f0))) (fun _ hk => hk.2) (.int .i64 ((rd_T105 ((rd_T74 l0_0 (rd x10_4 x11_4)).f6) x111_5).f1))) (fun _ hk => trivial))); (case aS => exact (below_size sC)); (case aL => have := LMc122.out; omega); intro v379 w127 ho hb hg hat; rw [← Ny378.out] at ho; replace HO_9 := Aside0.mk (Kd.R_over' (by (with_reducible repeat (first | apply Kd.R_alloc | apply Kd.R_drewN | apply Kd.R_drew)); exact (Kd.R_mono (Kd.R_far (p := ⟨gb375, 1, none⟩) (Kd.R_far (p := ⟨gb375, 0, none⟩) (Kd.R_types HO_9.out BK375.out (by decide)) (fun _ hk => hk.2) (.string ((rd_T105 ((rd_T74 l0_0 (rd x10_4 x11_4)).f6) x111_5).f0))) (fun _ hk => hk.2) (.int .i64 ((rd_T105 ((rd_T74 l0_0 (rd x10_4 x11_4)).f6) x111_5).f1))) (fun _ h_ => h_.1))) (Kd.R_typed (by (with_reducible repeat (first | apply Kd.R_alloc | apply Kd.R_drewN | apply Kd.R_drew)); exact (Kd.R_mono (Kd.R_far (p := ⟨gb375, 1, none⟩) (Kd.R_far (p := ⟨gb375, 0, none⟩) (Kd.R_types HO_10.out BK375.out (by decide)) (fun _ hk => hk.2) (.string ((rd_T105 ((rd_T74 l0_0 (rd x10_4 x11_4)).f6) x111_5).f0))) (fun _ hk => hk.2) (.int .i64 ((rd_T105 ((rd_T74 l0_0 (rd x10_4 x11_4)).f6) x111_5).f1))) (fun _ h_ => h_.1)))) (by decide) hg); replace BK345 := Aside0.mk (blk_grown (g := gb345) (o := .cells #[.slice (some ad373) l0_0.length c0_0, .int .i64 a0_1] 31 (0, 0)) (sX BK345) hg (Kd.R_ne HO_10.out BK345.out (by decide))); replace BK375 := Aside0.mk (blk_grown (g := gb375) (o := .cells #[.string ((rd_T105 ((rd_T74 l0_0 (rd x10_4 x11_4)).f6) x111_5).f0), .int .i64 ((rd_T105 ((rd_T74 l0_0 (rd x10_4 x11_4)).f6) x111_5).f1)] 105 (0, 0)) (sX BK375) hg (Kd.R_ne HO_10.out BK375.out (by decide))); replace HB := Aside0.mk (hb); have HO380 := Aside0.mk (ho); clear HO_10; clear ho hb hg hat))
                    (try simp only [← hl9_5])
                    go_roundg k5
                    case measure => have := HJ1.out; have := HK2.out; have := HK3.out; have := HK4.out; have := HK5.out; omega
                    case rel => exact ⟨(y378), (wrap64 (x111_5 + 1)), sR, H', ⟨by have := HJ1.out; have := HK2.out; have := HK3.out; have := HK4.out; have := HK5.out; omega⟩, ⟨by (try simp only [hl9_5]); (with_reducible repeat (first | apply Kd.R_alloc | apply Kd.R_drewN | apply Kd.R_drew)); first | exact HO_9.out | exact Kd.R_mono HO_9.out (fun k_ hk => by simpa only [own_map] using hk) | exact Kd.S_mono HO_9.out (fun k_ hk => by simpa only [own_map] using hk)⟩, ⟨by (try simp only [hl9_5]); (with_reducible repeat (first | apply Kd.R_alloc | apply Kd.R_drewN | apply Kd.R_drew)); first | exact HO380.out | exact Kd.R_mono HO380.out (fun k_ hk => by simpa only [own_map] using hk) | exact Kd.S_mono HO380.out (fun k_ hk => by simpa only [own_map] using hk)⟩, ⟨by (try simp only [hl9_5]); (with_reducible repeat (first | refine blk_drewN ?_ _ | refine blk_drew ?_ | refine blk_alloc ?_ _)); exact BK345.out⟩, ⟨sC⟩⟩
                  ·rw [if_neg c114] at H
                   have c114b0 := beq_eq_false_iff_ne.mpr c114
                   have c114b1 := bne_iff_ne.mpr c114
                   have H' := Aside0.mk H
                   clear H
                   have p374 : 0 ≤ (x111_5 : Int) := sO
                   have q374 : x111_5 < (((rd_T74 l0_0 (rd x10_4 x11_4)).f6).length : Int) := sO
                   obtain ⟨ad374, e374, hx374_0, hx374_1⟩ := ab105 HR373_6.out HB x111_5 p374 q374
                   cases e374
                   replace p374 := eq_true p374
                   replace q374 := eq_true q374
                   go_wp2_with (first | ((with_reducible refine gd 13 rfl ?_); (first | refine bxE 13 #[.string (⟨#[]⟩ : ByteArray), .int .i64 0] 105 ?_ | refine bgE 13 #[.string (⟨#[]⟩ : ByteArray), .int .i64 0] 105 ?_); intro gb375 hg w128 hbox hb; replace HO_9 := nR HO_9 hb; replace HO_10 := nR HO_10 hb; have BK375 := Aside0.mk hbox; have GW375 := nGC hg; have GE375 := nGC hg; replace HB := nSC hb; have NB345_375 := nL BK345 hg; have NB375_345 := nH BK345 hg; replace BK345 := nK BK345 hb; clear hb hbox hg; have hnb129 := NB375_345.out; have hnc129 := NB345_375.out; have hcz130 := cb2 BK375; have hcz131 := cb2 BK345; have p376 : 0 ≤ (((rd_T105 ((rd_T74 l0_0 (rd x10_4 x11_4)).f6) x111_5).f1) : Int) := sO; have q376 : ((rd_T105 ((rd_T74 l0_0 (rd x10_4 x11_4)).f6) x111_5).f1) < (l0_0.length : Int) := sO; obtain ⟨ad376, A376_6, c376_6, e376, hx376_0, hx376_1, hx376_2, hx376_3, hx376_4, hx376_5, hx376_6, hl376_6, hi376_6⟩ := at_T74 HR0_0.out ((rd_T105 ((rd_T74 l0_0 (rd x10_4 x11_4)).f6) x111_5).f1) p376 q376; obtain rfl : ad373 = ad376 := (by injection e376); have hn376_0 : ad373.block ≠ gb375 := Nat.ne_of_lt (Nat.lt_of_lt_of_le (by have := World.block_lt_of_cell? _ _ hx376_0; first | rwa [add_block] at this | exact this) GW375.out); have hn376_1 : ad373.block ≠ gb375 := Nat.ne_of_lt (Nat.lt_of_lt_of_le (by have := World.block_lt_of_cell? _ _ hx376_0; first | rwa [add_block] at this | exact this) GW375.out); replace hx376_0 := hB HB hx376_0; replace hx376_1 := hB HB hx376_1; replace hx376_2 := hB HB hx376_2; replace hx376_3 := hB HB hx376_3; replace hx376_4 := hB HB hx376_4; replace hx376_5 := hB HB hx376_5; replace hx376_6 := hB HB hx376_6; have HR376_6 := Aside0.mk hi376_6; have HC376_6 := Aside0.mk hl376_6; clear hi376_6 hl376_6; replace hx376_0 := (cell_far (p := ⟨gb375, 0, none⟩) (by first | (rw [add_block]; exact hn376_0) | (show (Addr.add _ _).block ≠ _; rw [add_block]; exact hn376_0) | exact hn376_0) (.string ((rd_T105 ((rd_T74 l0_0 (rd x10_4 x11_4)).f6) x111_5).f0))).trans hx376_0; replace hx376_1 := (cell_far (p := ⟨gb375, 0, none⟩) (by first | (rw [add_block]; exact hn376_0) | (show (Addr.add _ _).block ≠ _; rw [add_block]; exact hn376_0) | exact hn376_0) (.string ((rd_T105 ((rd_T74 l0_0 (rd x10_4 x11_4)).f6) x111_5).f0))).trans hx376_1; replace hx376_2 := (cell_far (p := ⟨gb375, 0, none⟩) (by first | (rw [add_block]; exact hn376_0) | (show (Addr.add _ _).block ≠ _; rw [add_block]; exact hn376_0) | exact hn376_0) (.string ((rd_T105 ((rd_T74 l0_0 (rd x10_4 x11_4)).f6) x111_5).f0))).trans hx376_2; replace hx376_3 := (cell_far (p := ⟨gb375, 0, none⟩) (by first | (rw [add_block]; exact hn376_0) | (show (Addr.add _ _).block ≠ _; rw [add_block]; exact hn376_0) | exact hn376_0) (.string ((rd_T105 ((rd_T74 l0_0 (rd x10_4 x11_4)).f6) x111_5).f0))).trans hx376_3; replace hx376_4 := (cell_far (p := ⟨gb375, 0, none⟩) (by first | (rw [add_block]; exact hn376_0) | (show (Addr.add _ _).block ≠ _; rw [add_block]; exact hn376_0) | exact hn376_0) (.string ((rd_T105 ((rd_T74 l0_0 (rd x10_4 x11_4)).f6) x111_5).f0))).trans hx376_4; replace hx376_5 := (cell_far (p := ⟨gb375, 0, none⟩) (by first | (rw [add_block]; exact hn376_0) | (show (Addr.add _ _).block ≠ _; rw [add_block]; exact hn376_0) | exact hn376_0) (.string ((rd_T105 ((rd_T74 l0_0 (rd x10_4 x11_4)).f6) x111_5).f0))).trans hx376_5; replace hx376_6 := (cell_far (p := ⟨gb375, 0, none⟩) (by first | (rw [add_block]; exact hn376_0) | (show (Addr.add _ _).block ≠ _; rw [add_block]; exact hn376_0) | exact hn376_0) (.string ((rd_T105 ((rd_T74 l0_0 (rd x10_4 x11_4)).f6) x111_5).f0))).trans hx376_6; replace hx376_0 := (cell_far (p := ⟨gb375, 1, none⟩) (by first | (rw [add_block]; exact hn376_1) | (show (Addr.add _ _).block ≠ _; rw [add_block]; exact hn376_1) | exact hn376_1) (.int .i64 ((rd_T105 ((rd_T74 l0_0 (rd x10_4 x11_4)).f6) x111_5).f1))).trans hx376_0; replace hx376_1 := (cell_far (p := ⟨gb375, 1, none⟩) (by first | (rw [add_block]; exact hn376_1) | (show (Addr.add _ _).block ≠ _; rw [add_block]; exact hn376_1) | exact hn376_1) (.int .i64 ((rd_T105 ((rd_T74 l0_0 (rd x10_4 x11_4)).f6) x111_5).f1))).trans hx376_1; replace hx376_2 := (cell_far (p := ⟨gb375, 1, none⟩) (by first | (rw [add_block]; exact hn376_1) | (show (Addr.add _ _).block ≠ _; rw [add_block]; exact hn376_1) | exact hn376_1) (.int .i64 ((rd_T105 ((rd_T74 l0_0 (rd x10_4 x11_4)).f6) x111_5).f1))).trans hx376_2; replace hx376_3 := (cell_far (p := ⟨gb375, 1, none⟩) (by first | (rw [add_block]; exact hn376_1) | (show (Addr.add _ _).block ≠ _; rw [add_block]; exact hn376_1) | exact hn376_1) (.int .i64 ((rd_T105 ((rd_T74 l0_0 (rd x10_4 x11_4)).f6) x111_5).f1))).trans hx376_3; replace hx376_4 := (cell_far (p := ⟨gb375, 1, none⟩) (by first | (rw [add_block]; exact hn376_1) | (show (Addr.add _ _).block ≠ _; rw [add_block]; exact hn376_1) | exact hn376_1) (.int .i64 ((rd_T105 ((rd_T74 l0_0 (rd x10_4 x11_4)).f6) x111_5).f1))).trans hx376_4; replace hx376_5 := (cell_far (p := ⟨gb375, 1, none⟩) (by first | (rw [add_block]; exact hn376_1) | (show (Addr.add _ _).block ≠ _; rw [add_block]; exact hn376_1) | exact hn376_1) (.int .i64 ((rd_T105 ((rd_T74 l0_0 (rd x10_4 x11_4)).f6) x111_5).f1))).trans hx376_5; replace hx376_6 := (cell_far (p := ⟨gb375, 1, none⟩) (by first | (rw [add_block]; exact hn376_1) | (show (Addr.add _ _).block ≠ _; rw [add_block]; exact hn376_1) | exact hn376_1) (.int .i64 ((rd_T105 ((rd_T74 l0_0 (rd x10_4 x11_4)).f6) x111_5).f1))).trans hx376_6; clear hn376_0; clear hn376_1; replace p376 := eq_true p376; replace q376 := eq_true q376))
                   (try simp only [← hl9_5])
                   go_roundg k5
                   case measure => have := HJ1.out; have := HK2.out; have := HK3.out; have := HK4.out; have := HK5.out; omega
                   case rel => exact ⟨(x10_5), (wrap64 (x111_5 + 1)), sR, H', ⟨by have := HJ1.out; have := HK2.out; have := HK3.out; have := HK4.out; have := HK5.out; omega⟩, ⟨by (try simp only [hl9_5]); (with_reducible repeat (first | apply Kd.R_alloc | apply Kd.R_drewN | apply Kd.R_drew)); exact Kd.R_mono (Kd.R_far (p := ⟨gb375, 1, none⟩) (Kd.R_far (p := ⟨gb375, 0, none⟩) (Kd.R_types HO_9.out BK375.out (by decide)) (fun _ hk => hk.2) (.string ((rd_T105 ((rd_T74 l0_0 (rd x10_4 x11_4)).f6) x111_5).f0))) (fun _ hk => hk.2) (.int .i64 ((rd_T105 ((rd_T74 l0_0 (rd x10_4 x11_4)).f6) x111_5).f1))) (fun _ hk => trivial)⟩, ⟨by (try simp only [hl9_5]); (with_reducible repeat (first | apply Kd.R_alloc | apply Kd.R_drewN | apply Kd.R_drew)); exact Kd.R_mono (Kd.R_far (p := ⟨gb375, 1, none⟩) (Kd.R_far (p := ⟨gb375, 0, none⟩) (Kd.R_types HO_10.out BK375.out (by decide)) (fun _ hk => hk.2) (.string ((rd_T105 ((rd_T74 l0_0 (rd x10_4 x11_4)).f6) x111_5).f0))) (fun _ hk => hk.2) (.int .i64 ((rd_T105 ((rd_T74 l0_0 (rd x10_4 x11_4)).f6) x111_5).f1))) (fun _ hk => trivial)⟩, ⟨by (try simp only [hl9_5]); (with_reducible repeat (first | refine blk_drewN ?_ _ | refine blk_drew ?_ | refine blk_alloc ?_ _)); refine blk_far ?_ NB345_375.out _; (with_reducible repeat (first | refine blk_drewN ?_ _ | refine blk_drew ?_ | refine blk_alloc ?_ _)); refine blk_far ?_ NB345_375.out _; (with_reducible repeat (first | refine blk_drewN ?_ _ | refine blk_drew ?_ | refine blk_alloc ?_ _)); exact BK345.out⟩, ⟨sC⟩⟩
                 ·rw [if_neg c109] at H
                  have c109b0 := decide_eq_false c109
                  clear c109
                  have H' := Aside0.mk H
                  clear H
                  go_wp2
                  (try simp only [← hl9_5])
                  go_roundg k5
                  case measure => have := HJ1.out; have := HK2.out; have := HK3.out; have := HK4.out; have := HK5.out; omega
                  case rel => exact ⟨(y371), (x10_5), (wrap64 (x11_4 + 1)), sR, H', ⟨by have := HJ1.out; have := HK2.out; have := HK3.out; have := HK4.out; have := HK5.out; omega⟩, ⟨by (try simp only [hl9_5]); (with_reducible repeat (first | apply Kd.R_alloc | apply Kd.R_drewN | apply Kd.R_drew)); first | exact HO_9.out | exact Kd.R_mono HO_9.out (fun k_ hk => by simpa only [own_map] using hk) | exact Kd.S_mono HO_9.out (fun k_ hk => by simpa only [own_map] using hk)⟩, ⟨by (try simp only [hl9_5]); (with_reducible repeat (first | apply Kd.R_alloc | apply Kd.R_drewN | apply Kd.R_drew)); first | exact HO_10.out | exact Kd.R_mono HO_10.out (fun k_ hk => by simpa only [own_map] using hk) | exact Kd.S_mono HO_10.out (fun k_ hk => by simpa only [own_map] using hk)⟩, ⟨by (try simp only [hl9_5]); (with_reducible repeat (first | refine blk_drewN ?_ _ | refine blk_drew ?_ | refine blk_alloc ?_ _)); exact BK345.out⟩, ⟨sC⟩⟩
              ·rw [if_neg c99] at H
               have c99b0 := decide_eq_false c99
               clear c99
               have H' := Aside0.mk H
               clear H
               obtain ⟨Ao132, co132, eo132⟩ := Kd.R_slice HO_10.out
               subst eo132
               have hcz133 := cb2 BK345
               go_wp2
               go_loopg [140] k4 (fun kq v140 w' => ∃ (x140_5 : Int), v140 = .int .i64 x140_5 ∧ Aside0 (impl_GoodFs.l4 kq x9_4 l0_0 (l0_0.length : Int) x140_5 = some r) ∧ Aside0 (kq ≤ k4) ∧ Aside0 (Kd.R Kd.bool 4 w' w.heap.size (fun _ => True) v365 x9_4) ∧ Aside0 (w'.heap[gb345]? = some (.cells #[(.slice A0_0 l0_0.length c0_0), .int .i64 a0_1] 31 (0, 0))) ∧ Aside0 (Below w.heap.size w w'))
               case atStart => exact ⟨(0), sR, H', ⟨Nat.le_refl _⟩, ⟨rR HO_9⟩, ⟨sK BK345⟩, ⟨sC⟩⟩
               case round =>
                clear H'
                try clear c1
                try clear p1
                try clear q1
                try clear hx1
                try clear hf1
                try clear c2
                try clear p2
                try clear c3
                try clear p3
                try clear q3
                try clear hx3
                try clear qi3
                try clear c4
                try clear c5
                try clear c6
                try clear p6
                try clear c7
                try clear c8
                try clear c8b0
                try clear c8b1
                try clear c9
                try clear c10
                try clear p10
                try clear q10
                try clear hx10
                try clear hf10
                try clear c11
                try clear q11
                try clear c12
                try clear c14
                try clear c14b0
                try clear c15
                try clear c15b0
                try clear c16
                try clear c16b0
                try clear c18
                try clear c20
                try clear c25
                try clear c30
                try clear c30b0
                try clear c34
                try clear p34
                try clear q34
                try clear hx34
                try clear qi34
                try clear c35
                try clear p35
                try clear q35
                try clear hx35
                try clear p36
                try clear q36
                try clear hx36
                try clear c37
                try clear p37
                try clear q37
                try clear hx37
                try clear c39
                try clear c39b0
                try clear c40
                try clear c40b0
                try clear c41
                try clear c41b0
                try clear c42
                try clear c42b0
                try clear c42b1
                try clear c43
                try clear c43b0
                try clear c43b1
                try clear c45
                try clear c47
                try clear c47b0
                try clear c50
                try clear c52
                try clear c56
                try clear c59
                try clear c59b0
                try clear c59b1
                try clear c60
                try clear c60b0
                try clear c60b1
                try clear c62
                try clear c64
                try clear c64b0
                try clear p64
                try clear c67
                try clear c69
                try clear c73
                try clear c76
                try clear c76b0
                try clear c76b1
                try clear c78
                try clear c80
                try clear c80b0
                try clear c83
                try clear c85
                try clear c89
                try clear c92
                try clear c92b0
                try clear c92b1
                try clear c93
                try clear c93b0
                try clear c93b1
                try clear c99
                try clear c99b0
                try clear c100
                try clear c100b0
                try clear c101
                try clear c101b0
                try clear c102
                try clear c102b0
                try clear p103
                try clear q103
                try clear hx103
                try clear hf103
                try clear c104
                try clear c104b0
                try clear c109
                try clear c109b0
                try clear c110
                try clear c110b0
                try clear c111
                try clear c111b0
                try clear c112
                try clear c112b0
                try clear c113
                try clear c113b0
                try clear c114
                try clear c114b0
                try clear c114b1
                try clear c115
                try clear c115b0
                try clear q116
                try clear c117
                try clear c119
                try clear c122
                try clear c124
                try clear c129
                try clear hcz10
                try clear hcz11
                try clear hcz120
                try clear hcz121
                try clear hcz125
                try clear hcz126
                try clear hcz130
                try clear hcz131
                try clear hcz133
                try clear hcz13
                try clear hcz21
                try clear hcz22
                try clear hcz26
                try clear hcz27
                try clear hcz36
                try clear hcz38
                try clear hcz46
                try clear hcz53
                try clear hcz57
                try clear hcz63
                try clear hcz70
                try clear hcz74
                try clear hcz79
                try clear hcz86
                try clear hcz90
                try clear hcz94
                try clear hcz9
                try clear hx103_0
                try clear hx348_0
                try clear hx348_1
                try clear hx348_2
                try clear hx348_3
                try clear hx348_4
                try clear hx348_5
                try clear hx348_6
                try clear hx349_0
                try clear hx349_1
                try clear hx349_2
                try clear hx349_3
                try clear hx349_4
                try clear hx349_5
                try clear hx349_6
                try clear hx356_0
                try clear hx356_1
                try clear hx356_2
                try clear hx356_3
                try clear hx356_4
                try clear hx356_5
                try clear hx356_6
                try clear hx358_0
                try clear hx360_0
                try clear hx362_0
                try clear hx370_0
                try clear hx372_0
                try clear hx373_0
                try clear hx373_1
                try clear hx373_2
                try clear hx373_3
                try clear hx373_4
                try clear hx373_5
                try clear hx373_6
                try clear hx374_0
                try clear hx374_1
                try clear hx376_0
                try clear hx376_1
                try clear hx376_2
                try clear hx376_3
                try clear hx376_4
                try clear hx376_5
                try clear hx376_6
                try clear hx377_0
                try clear p1
                try clear p10
                try clear p103
                try clear p2
                try clear p3
                try clear p34
                try clear p348
                try clear p349
                try clear p35
                try clear p356
                try clear p358
                try clear p36
                try clear p360
                try clear p362
                try clear p37
                try clear p370
                try clear p372
                try clear p373
                try clear p374
                try clear p376
                try clear p377
                try clear p6
                try clear p64
                try clear q1
                try clear q10
                try clear q103
                try clear q3
                try clear q34
                try clear q348
                try clear q349
                try clear q35
                try clear q356
                try clear q358
                try clear q36
                try clear q360
                try clear q362
                try clear q37
                try clear q370
                try clear q372
                try clear q373
                try clear q374
                try clear q376
                try clear q377
                obtain ⟨x140_5, rfl, HA, HK5, HO_9, BK345, HB⟩ := hrel
                cases gk with
                | zero => exact absurd HA.out (by simp [impl_GoodFs.l4])
                | succ k5 =>
                 have H := HA.out
                 clear HA
                 simp only [impl_GoodFs.l4] at H
                 by_cases c134 : x140_5 < (l0_0.length : Int)
                 ·rw [if_pos c134] at H
                  have c134b0 := decide_eq_true c134
                  clear c134
                  obtain ⟨c135, H⟩ := iN H
                  have c135b0 := decide_eq_true c135
                  clear c135
                  obtain ⟨c136, H⟩ := iN H
                  have c136b0 := decide_eq_true c136
                  clear c136
                  by_cases c137 : ((rd_T74 l0_0 x140_5).f0) = 2
                  ·rw [if_pos c137] at H
                   have c137b0 := beq_iff_eq.mpr c137
                   have c137b1 := bne_eq_false_iff_eq.mpr c137
                   clear c137
                   obtain ⟨c138, H⟩ := iN H
                   have c138b0 := decide_eq_true c138
                   clear c138
                   obtain ⟨bq139, hbq139⟩ : ∃ b_ : Bool, b_ = (rdOf false x9_4 x140_5) := ⟨_, rfl⟩
                   replace H : (if bq139 = true then (impl_GoodFs.l4 k5 x9_4 l0_0 (l0_0.length : Int) (wrap64 (x140_5 + 1))) else (some false)) = some r := by rw [← hbq139] at H; exact H
                   have Nbq139 := Aside0.mk hbq139
                   clear hbq139
                   by_cases c140 : bq139 = true
                   ·subst c140
                    rw [if_pos rfl] at H
                    have H' := Aside0.mk H
                    clear H
                    have p381 : 0 ≤ (x140_5 : Int) := sO
                    have q381 : x140_5 < (l0_0.length : Int) := sO
                    obtain ⟨ad381, A381_6, c381_6, e381, hx381_0, hx381_1, hx381_2, hx381_3, hx381_4, hx381_5, hx381_6, hl381_6, hi381_6⟩ := ab74 HR0_0.out HB x140_5 p381 q381
                    cases e381
                    have HR381_6 := Aside0.mk hi381_6
                    have HC381_6 := Aside0.mk hl381_6
                    clear hi381_6 hl381_6
                    replace p381 := eq_true p381
                    replace q381 := eq_true q381
                    go_wp2_with (first | ((with_reducible refine gd 15 rfl ?_); (first | refine bxE 15 #[.int .i64 0, .int .i64 0, .int .i64 0, .int .i64 0, .int .i64 0, .string (⟨#[]⟩ : ByteArray), .slice none 0 0] 74 ?_ | refine bgE 15 #[.int .i64 0, .int .i64 0, .int .i64 0, .int .i64 0, .int .i64 0, .string (⟨#[]⟩ : ByteArray), .slice none 0 0] 74 ?_); intro gb382 hg w141 hbox hb; replace HO_9 := nR HO_9 hb; have BK382 := Aside0.mk hbox; have GW382 := nGC hg; have GE382 := nGC hg; replace HB := nSC hb; have NB345_382 := nL BK345 hg; have NB382_345 := nH BK345 hg; replace BK345 := nK BK345 hb; clear hb hbox hg; have hnb142 := NB382_345.out; have hnc142 := NB345_382.out; have hcz143 := cb7 BK382; obtain ⟨Ao144, co144, eo144⟩ := Kd.R_slice HO_9.out; subst eo144; have p383 : 0 ≤ (x140_5 : Int) := sO; have q383 : x140_5 < (x9_4.length : Int) := sO; obtain ⟨ad383, e383, hx383_0⟩ := Kd.at_bool (Kd.R_reads' HO_9.out).2.2 x140_5 p383 q383; (try rw [← Nbq139.out] at hx383_0); cases e383; have hn383_0 : ad383.block ≠ gb382 := Kd.own_blk (Kd.R_ne HO_9.out BK382.out (by decide)); have hn383_1 : ad383.block ≠ gb382 := Kd.own_blk (Kd.R_ne HO_9.out BK382.out (by decide)); have hn383_2 : ad383.block ≠ gb382 := Kd.own_blk (Kd.R_ne HO_9.out BK382.out (by decide)); have hn383_3 : ad383.block ≠ gb382 := Kd.own_blk (Kd.R_ne HO_9.out BK382.out (by decide)); have hn383_4 : ad383.block ≠ gb382 := Kd.own_blk (Kd.R_ne HO_9.out BK382.out (by decide)); have hn383_5 : ad383.block ≠ gb382 := Kd.own_blk (Kd.R_ne HO_9.out BK382.out (by decide)); have hn383_6 : ad383.block ≠ gb382 := Kd.own_blk (Kd.R_ne HO_9.out BK382.out (by decide)); replace hx383_0 := (cell_far (p := ⟨gb382, 0, none⟩) (by first | (rw [add_block]; exact hn383_0) | (show (Addr.add _ _).block ≠ _; rw [add_block]; exact hn383_0) | exact hn383_0) (.int .i64 ((rd_T74 l0_0 x140_5).f0))).trans hx383_0; replace hx383_0 := (cell_far (p := ⟨gb382, 1, none⟩) (by first | (rw [add_block]; exact hn383_1) | (show (Addr.add _ _).block ≠ _; rw [add_block]; exact hn383_1) | exact hn383_1) (.int .i64 ((rd_T74 l0_0 x140_5).f1))).trans hx383_0; replace hx383_0 := (cell_far (p := ⟨gb382, 2, none⟩) (by first | (rw [add_block]; exact hn383_2) | (show (Addr.add _ _).block ≠ _; rw [add_block]; exact hn383_2) | exact hn383_2) (.int .i64 ((rd_T74 l0_0 x140_5).f2))).trans hx383_0; replace hx383_0 := (cell_far (p := ⟨gb382, 3, none⟩) (by first | (rw [add_block]; exact hn383_3) | (show (Addr.add _ _).block ≠ _; rw [add_block]; exact hn383_3) | exact hn383_3) (.int .i64 ((rd_T74 l0_0 x140_5).f3))).trans hx383_0; replace hx383_0 := (cell_far (p := ⟨gb382, 4, none⟩) (by first | (rw [add_block]; exact hn383_4) | (show (Addr.add _ _).block ≠ _; rw [add_block]; exact hn383_4) | exact hn383_4) (.int .i64 ((rd_T74 l0_0 x140_5).f4))).trans hx383_0; replace hx383_0 := (cell_far (p := ⟨gb382, 5, none⟩) (by first | (rw [add_block]; exact hn383_5) | (show (Addr.add _ _).block ≠ _; rw [add_block]; exact hn383_5) | exact hn383_5) (.string ((rd_T74 l0_0 x140_5).f5))).trans hx383_0; replace hx383_0 := (cell_far (p := ⟨gb382, 6, none⟩) (by first | (rw [add_block]; exact hn383_6) | (show (Addr.add _ _).block ≠ _; rw [add_block]; exact hn383_6) | exact hn383_6) (.slice A381_6 ((rd_T74 l0_0 x140_5).f6).length c381_6)).trans hx383_0; clear hn383_0; clear hn383_1; clear hn383_2; clear hn383_3; clear hn383_4; clear hn383_5; clear hn383_6; replace p383 := eq_true p383; replace q383 := eq_true q383))
                    go_roundg k5
                    case measure => have := HJ1.out; have := HK2.out; have := HK3.out; have := HK4.out; have := HK5.out; omega
                    case rel => exact ⟨(wrap64 (x140_5 + 1)), sR, H', ⟨by have := HJ1.out; have := HK2.out; have := HK3.out; have := HK4.out; have := HK5.out; omega⟩, ⟨rRf HO_9 BK382 (fun _ hk => trivial)⟩, ⟨sX BK345⟩, ⟨sC⟩⟩
                   ·replace c140 := Bool.eq_false_iff.mpr c140
                    subst c140
                    rw [if_neg (show ¬ (false = true) by decide)] at H
                    obtain rfl := Option.some.inj H
                    have p381 : 0 ≤ (x140_5 : Int) := sO
                    have q381 : x140_5 < (l0_0.length : Int) := sO
                    obtain ⟨ad381, A381_6, c381_6, e381, hx381_0, hx381_1, hx381_2, hx381_3, hx381_4, hx381_5, hx381_6, hl381_6, hi381_6⟩ := ab74 HR0_0.out HB x140_5 p381 q381
                    cases e381
                    have HR381_6 := Aside0.mk hi381_6
                    have HC381_6 := Aside0.mk hl381_6
                    clear hi381_6 hl381_6
                    replace p381 := eq_true p381
                    replace q381 := eq_true q381
                    go_wp2_with (first | ((with_reducible refine gd 15 rfl ?_); (first | refine bxE 15 #[.int .i64 0, .int .i64 0, .int .i64 0, .int .i64 0, .int .i64 0, .string (⟨#[]⟩ : ByteArray), .slice none 0 0] 74 ?_ | refine bgE 15 #[.int .i64 0, .int .i64 0, .int .i64 0, .int .i64 0, .int .i64 0, .string (⟨#[]⟩ : ByteArray), .slice none 0 0] 74 ?_); intro gb382 hg w145 hbox hb; replace HO_9 := nR HO_9 hb; have BK382 := Aside0.mk hbox; have GW382 := nGC hg; have GE382 := nGC hg; replace HB := nSC hb; have NB345_382 := nL BK345 hg; have NB382_345 := nH BK345 hg; replace BK345 := nK BK345 hb; clear hb hbox hg; have hnb146 := NB382_345.out; have hnc146 := NB345_382.out; have hcz147 := cb7 BK382; obtain ⟨Ao148, co148, eo148⟩ := Kd.R_slice HO_9.out; subst eo148; have p383 : 0 ≤ (x140_5 : Int) := sO; have q383 : x140_5 < (x9_4.length : Int) := sO; obtain ⟨ad383, e383, hx383_0⟩ := Kd.at_bool (Kd.R_reads' HO_9.out).2.2 x140_5 p383 q383; (try rw [← Nbq139.out] at hx383_0); cases e383; have hn383_0 : ad383.block ≠ gb382 := Kd.own_blk (Kd.R_ne HO_9.out BK382.out (by decide)); have hn383_1 : ad383.block ≠ gb382 := Kd.own_blk (Kd.R_ne HO_9.out BK382.out (by decide)); have hn383_2 : ad383.block ≠ gb382 := Kd.own_blk (Kd.R_ne HO_9.out BK382.out (by decide)); have hn383_3 : ad383.block ≠ gb382 := Kd.own_blk (Kd.R_ne HO_9.out BK382.out (by decide)); have hn383_4 : ad383.block ≠ gb382 := Kd.own_blk (Kd.R_ne HO_9.out BK382.out (by decide)); have hn383_5 : ad383.block ≠ gb382 := Kd.own_blk (Kd.R_ne HO_9.out BK382.out (by decide)); have hn383_6 : ad383.block ≠ gb382 := Kd.own_blk (Kd.R_ne HO_9.out BK382.out (by decide)); replace hx383_0 := (cell_far (p := ⟨gb382, 0, none⟩) (by first | (rw [add_block]; exact hn383_0) | (show (Addr.add _ _).block ≠ _; rw [add_block]; exact hn383_0) | exact hn383_0) (.int .i64 ((rd_T74 l0_0 x140_5).f0))).trans hx383_0; replace hx383_0 := (cell_far (p := ⟨gb382, 1, none⟩) (by first | (rw [add_block]; exact hn383_1) | (show (Addr.add _ _).block ≠ _; rw [add_block]; exact hn383_1) | exact hn383_1) (.int .i64 ((rd_T74 l0_0 x140_5).f1))).trans hx383_0; replace hx383_0 := (cell_far (p := ⟨gb382, 2, none⟩) (by first | (rw [add_block]; exact hn383_2) | (show (Addr.add _ _).block ≠ _; rw [add_block]; exact hn383_2) | exact hn383_2) (.int .i64 ((rd_T74 l0_0 x140_5).f2))).trans hx383_0; replace hx383_0 := (cell_far (p := ⟨gb382, 3, none⟩) (by first | (rw [add_block]; exact hn383_3) | (show (Addr.add _ _).block ≠ _; rw [add_block]; exact hn383_3) | exact hn383_3) (.int .i64 ((rd_T74 l0_0 x140_5).f3))).trans hx383_0; replace hx383_0 := (cell_far (p := ⟨gb382, 4, none⟩) (by first | (rw [add_block]; exact hn383_4) | (show (Addr.add _ _).block ≠ _; rw [add_block]; exact hn383_4) | exact hn383_4) (.int .i64 ((rd_T74 l0_0 x140_5).f4))).trans hx383_0; replace hx383_0 := (cell_far (p := ⟨gb382, 5, none⟩) (by first | (rw [add_block]; exact hn383_5) | (show (Addr.add _ _).block ≠ _; rw [add_block]; exact hn383_5) | exact hn383_5) (.string ((rd_T74 l0_0 x140_5).f5))).trans hx383_0; replace hx383_0 := (cell_far (p := ⟨gb382, 6, none⟩) (by first | (rw [add_block]; exact hn383_6) | (show (Addr.add _ _).block ≠ _; rw [add_block]; exact hn383_6) | exact hn383_6) (.slice A381_6 ((rd_T74 l0_0 x140_5).f6).length c381_6)).trans hx383_0; clear hn383_0; clear hn383_1; clear hn383_2; clear hn383_3; clear hn383_4; clear hn383_5; clear hn383_6; replace p383 := eq_true p383; replace q383 := eq_true q383))
                    go_ret
                    exact ⟨sE, sC⟩
                  ·rw [if_neg c137] at H
                   have c137b0 := beq_eq_false_iff_ne.mpr c137
                   have c137b1 := bne_iff_ne.mpr c137
                   have H' := Aside0.mk H
                   clear H
                   have p381 : 0 ≤ (x140_5 : Int) := sO
                   have q381 : x140_5 < (l0_0.length : Int) := sO
                   obtain ⟨ad381, A381_6, c381_6, e381, hx381_0, hx381_1, hx381_2, hx381_3, hx381_4, hx381_5, hx381_6, hl381_6, hi381_6⟩ := ab74 HR0_0.out HB x140_5 p381 q381
                   cases e381
                   have HR381_6 := Aside0.mk hi381_6
                   have HC381_6 := Aside0.mk hl381_6
                   clear hi381_6 hl381_6
                   replace p381 := eq_true p381
                   replace q381 := eq_true q381
                   go_wp2_with (first | ((with_reducible refine gd 15 rfl ?_); (first | refine bxE 15 #[.int .i64 0, .int .i64 0, .int .i64 0, .int .i64 0, .int .i64 0, .string (⟨#[]⟩ : ByteArray), .slice none 0 0] 74 ?_ | refine bgE 15 #[.int .i64 0, .int .i64 0, .int .i64 0, .int .i64 0, .int .i64 0, .string (⟨#[]⟩ : ByteArray), .slice none 0 0] 74 ?_); intro gb382 hg w149 hbox hb; replace HO_9 := nR HO_9 hb; have BK382 := Aside0.mk hbox; have GW382 := nGC hg; have GE382 := nGC hg; replace HB := nSC hb; have NB345_382 := nL BK345 hg; have NB382_345 := nH BK345 hg; replace BK345 := nK BK345 hb; clear hb hbox hg; have hnb150 := NB382_345.out; have hnc150 := NB345_382.out; have hcz151 := cb7 BK382))
                   go_roundg k5
                   case measure => have := HJ1.out; have := HK2.out; have := HK3.out; have := HK4.out; have := HK5.out; omega
                   case rel => exact ⟨(wrap64 (x140_5 + 1)), sR, H', ⟨by have := HJ1.out; have := HK2.out; have := HK3.out; have := HK4.out; have := HK5.out; omega⟩, ⟨rRf HO_9 BK382 (fun _ hk => trivial)⟩, ⟨sX BK345⟩, ⟨sC⟩⟩
                 ·rw [if_neg c134] at H
                  have c134b0 := decide_eq_false c134
                  clear c134
                  obtain rfl := Option.some.inj H
                  go_wp2
                  go_ret
                  exact ⟨sE, sC⟩
           ·rw [if_neg c92] at H
            exact absurd H (by simp)

end Go.Proofs.YtnmiglfmainhiaaGreatDoor.PNb
