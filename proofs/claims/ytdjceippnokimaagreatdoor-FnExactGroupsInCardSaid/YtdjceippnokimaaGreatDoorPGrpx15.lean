import Derived.Test.YtdjceippnokimaaGreatDoorPGrpx0
import Derived.Test.YtdjceippnokimaaGreatDoorPGrpx11
import Derived.Test.YtdjceippnokimaaGreatDoorPGrpx13
import Derived.Test.YtdjceippnokimaaGreatDoorPGrpx14
namespace Go.Proofs.YtdjceippnokimaaGreatDoor.PGrp
open Go.RowKit Go.Proofs.YtdjceippnokimaaGreatDoorW.PrintWords Go.Proofs.YtdjceippnokimaaGreatDoorW.PrintLast Go.Proofs.YtdjceippnokimaaGreatDoorW.PrintMore
attribute [local go_sem] max2_int min2_int max_two min_two max_three min_three max_four min_four   -- for this text's walks alone
set_option linter.unusedVariables false
set_option linter.unusedSimpArgs false
set_option maxHeartbeats 8000000
set_option maxRecDepth 100000
/-! ### impl_GoodFs: function 41 -/
mutual
def impl_GoodFs.j0 : Nat → Bool → List (S65) → Int → Option (Bool)
 | 0, _, _, _ => none
 | k + 1, x34, x395000, x395001 => if x34 = true then (some false) else (impl_GoodFs.l0 k x395000 (x395000.length : Int) 0 x395000 x395001)
def impl_GoodFs.l0 : Nat → List (S65) → Int → Int → List (S65) → Int → Option (Bool)
 | 0, _, _, _, _, _ => none
 | k + 1, x36, x37, x38, x395000, x395001 => if x38 < x37 then (if 0 ≤ x38 then (if x38 < (x36.length : Int) then ((impl_Fs_isNode.f k x395000 x395001 ((rd_T65 x36 x38).f0) ((rd_T65 x36 x38).f1) ((rd_T65 x36 x38).f2) ((rd_T65 x36 x38).f3) ((rd_T65 x36 x38).f4) ((rd_T65 x36 x38).f5) ((rd_T65 x36 x38).f6)).bind fun t400 => (if t400 = true then (impl_GoodFs.l0 k x36 x37 (wrap64 (x38 + 1)) x395000 x395001) else (some false))) else (none)) else (none)) else ((impl_Fs_bytesIn.f k x395000 x395001).bind fun t401 => (if t401 > x395001 then (some false) else ((impl_Fs_links.f k x395000 x395001).bind fun t402 => (impl_GoodFs.l1 k t402 x395000 (x395000.length : Int) 0 x395000 x395001))))
def impl_GoodFs.l1 : Nat → List Int → List (S65) → Int → Int → List (S65) → Int → Option (Bool)
 | 0, _, _, _, _, _, _ => none
 | k + 1, x5, x55, x56, x57, x395000, x395001 => if x57 < x56 then (if 0 ≤ x57 then (if x57 < (x55.length : Int) then (if x57 = 0 then (if ((rd_T65 x55 x57).f0) = 0 then (impl_GoodFs.l1 k x5 x55 x56 (wrap64 (x57 + 1)) x395000 x395001) else (if x57 < (x5.length : Int) then ((impl_within.f (rd x5 x57) (mn x57 1) 0).bind fun t408 => (if t408 = true then (impl_GoodFs.l1 k x5 x55 x56 (wrap64 (x57 + 1)) x395000 x395001) else (some false))) else (none))) else (if ((rd_T65 x55 x57).f0) = 2 then (if ((rd_T65 x55 x57).f0) = 0 then (impl_GoodFs.l1 k x5 x55 x56 (wrap64 (x57 + 1)) x395000 x395001) else (if x57 < (x5.length : Int) then ((impl_within.f (rd x5 x57) (mn x57 1) 1).bind fun t410 => (if t410 = true then (impl_GoodFs.l1 k x5 x55 x56 (wrap64 (x57 + 1)) x395000 x395001) else (some false))) else (none))) else (if ((rd_T65 x55 x57).f0) = 0 then (impl_GoodFs.l1 k x5 x55 x56 (wrap64 (x57 + 1)) x395000 x395001) else (if x57 < (x5.length : Int) then ((impl_within.f (rd x5 x57) (mn x57 1) 1152921504606846976).bind fun t412 => (if t412 = true then (impl_GoodFs.l1 k x5 x55 x56 (wrap64 (x57 + 1)) x395000 x395001) else (some false))) else (none))))) else (none)) else (none)) else (if 0 ≤ (x395000.length : Int) then (if ((x395000.length : Int) : Int).toNat ≤ 281474976710656 then (impl_GoodFs.l2 k (List.replicate ((x395000.length : Int) : Int).toNat false) (([0] : List Int)) 0 x395000 x395001) else (none)) else (none))
def impl_GoodFs.l2 : Nat → List Bool → List Int → Int → List (S65) → Int → Option (Bool)
 | 0, _, _, _, _, _ => none
 | k + 1, x9, x10, x11, x395000, x395001 => if x11 < (x10.length : Int) then (if 0 ≤ x11 then (if 0 ≤ (rd x10 x11) then (if (rd x10 x11) < (x9.length : Int) then (if (rd x10 x11) < (x395000.length : Int) then (impl_GoodFs.l3 k (x9.set ((rd x10 x11) : Int).toNat true) x10 x11 ((rd_T65 x395000 (rd x10 x11)).f6) (((rd_T65 x395000 (rd x10 x11)).f6).length : Int) 0 x395000 x395001) else (none)) else (none)) else (none)) else (none)) else (impl_GoodFs.l4 k x9 x395000 (x395000.length : Int) 0)
def impl_GoodFs.l3 : Nat → List Bool → List Int → Int → List (S104) → Int → Int → List (S65) → Int → Option (Bool)
 | 0, _, _, _, _, _, _, _, _ => none
 | k + 1, x9, x10, x11, x109, x110, x111, x395000, x395001 => if x111 < x110 then (if 0 ≤ x111 then (if x111 < (x109.length : Int) then (if 0 ≤ ((rd_T104 x109 x111).f1) then (if ((rd_T104 x109 x111).f1) < (x395000.length : Int) then (if ((rd_T65 x395000 ((rd_T104 x109 x111).f1)).f0) = 2 then (if ((rd_T104 x109 x111).f1) < (x9.length : Int) then (if (rdOf false x9 ((rd_T104 x109 x111).f1) = true) then (impl_GoodFs.l3 k x9 x10 x11 x109 x110 (wrap64 (x111 + 1)) x395000 x395001) else (if x10.length < 17592186044416 then (impl_GoodFs.l3 k x9 (x10 ++ [(rd_T104 x109 x111).f1]) x11 x109 x110 (wrap64 (x111 + 1)) x395000 x395001) else (none))) else (none)) else (impl_GoodFs.l3 k x9 x10 x11 x109 x110 (wrap64 (x111 + 1)) x395000 x395001)) else (none)) else (none)) else (none)) else (none)) else (impl_GoodFs.l2 k x9 x10 (wrap64 (x11 + 1)) x395000 x395001)
def impl_GoodFs.l4 : Nat → List Bool → List (S65) → Int → Int → Option (Bool)
 | 0, _, _, _, _ => none
 | k + 1, x9, x138, x139, x140 => if x140 < x139 then (if 0 ≤ x140 then (if x140 < (x138.length : Int) then (if ((rd_T65 x138 x140).f0) = 2 then (if x140 < (x9.length : Int) then (if rdOf false x9 x140 = true then (impl_GoodFs.l4 k x9 x138 x139 (wrap64 (x140 + 1))) else (some false)) else (none)) else (impl_GoodFs.l4 k x9 x138 x139 (wrap64 (x140 + 1)))) else (none)) else (none)) else (some true)
end
def impl_GoodFs.f (k : Nat) (l0_0 : List (S65)) (a0_1 : Int) : Option (Bool) := (impl_within.f (l0_0.length : Int) 1 40).bind fun t395 => (if t395 = true then ((impl_isRoom.f a0_1).bind fun t396 => (if t396 = true then (if 0 < (l0_0.length : Int) then (impl_GoodFs.j0 k (((rd_T65 l0_0 0).f0) != 2) l0_0 a0_1) else (none)) else (impl_GoodFs.j0 k true l0_0 a0_1))) else (impl_GoodFs.j0 k true l0_0 a0_1))
def impl_GoodFs.T29 : Bool × List (List Nat × List Nat) := (true, [([], []), ([0], [0]), ([], []), ([], []), ([2, 3], [2, 3]), ([4], [4]), ([1, 5], [1, 5]), ([6], [6]), ([7], [7]), ([8], [8]), ([], [])])
def impl_GoodFs.B29 : List Nat := [0, 1, 0, 0, 12, 28, 63, 127, 255, 511, 0]
theorem impl_GoodFs.tab29 : rtab .any (opsOf Tryz.f41 29) = impl_GoodFs.T29 := by kernel_rfl
theorem impl_GoodFs.bits29 : waitsOk impl_GoodFs.T29.2 impl_GoodFs.B29 = true := by kernel_rfl
theorem impl_GoodFs.calls (k : Nat) (A0_0 : Option Addr) (c0_0 : Nat) (l0_0 : List (S65)) (a0_1 : Int) (r : Bool) (w : World) (hr0_0 : Kd.C k65 w A0_0 l0_0.length l0_0) (hc0_0 : l0_0.length ≤ c0_0) (h : impl_GoodFs.f k l0_0 a0_1 = some r) :
  Calls Tryz.prog 41 #[.agg #[.slice A0_0 l0_0.length c0_0, .int .i64 a0_1]] w fun e w' => e = .returned (.bool r) ∧ Below w.heap.size w w' := by
 have hu30 := Tryz.underlying30
 have hu65 := Tryz.underlying65
 have hu104 := Tryz.underlying104
 have HR0_0 := Aside0.mk hr0_0
 have HC0_0 := Aside0.mk hc0_0
 clear hr0_0 hc0_0
 have HB := Aside0.mk (Below.refl w.heap.size w)
 have H : ((impl_within.f (l0_0.length : Int) 1 40).bind fun t395 => (if t395 = true then ((impl_isRoom.f a0_1).bind fun t396 => (if t396 = true then (if 0 < (l0_0.length : Int) then (impl_GoodFs.j0 k (((rd_T65 l0_0 0).f0) != 2) l0_0 a0_1) else (none)) else (impl_GoodFs.j0 k true l0_0 a0_1))) else (impl_GoodFs.j0 k true l0_0 a0_1))) = some r := h
 clear h
 have HC2 := Aside0.mk H
 clear H
 go_enter Tryz.func41, Tryz.ntmps41
 go_upto_region 1 with (first | ((with_reducible refine gd 1 rfl ?_); (first | refine bxE 1 #[.slice A0_0 l0_0.length c0_0, .int .i64 a0_1] 30 ?_ | refine bgE 1 #[.slice A0_0 l0_0.length c0_0, .int .i64 a0_1] 30 ?_); intro gb394 hg w3 hbox hb; have BK394 := Aside0.mk hbox; have GW394 := nGB hg; have GE394 := nGB hg; replace HB := nSB hb; clear hb hbox hg))
 (try simp only [Act.put, List.setIfInBounds_toArray, List.set_cons_zero, List.set_cons_succ])
 go_cut [34] (fun v34 wc => ∃ (kq : Nat) (x34_1 : Bool), v34 = .bool x34_1 ∧ Aside0 (impl_GoodFs.j0 kq x34_1 l0_0 a0_1 = some r) ∧ Aside0 (kq ≤ k) ∧ Aside0 (wc.heap[gb394]? = some (.cells #[(.slice A0_0 l0_0.length c0_0), .int .i64 a0_1] 30 (0, 0))) ∧ Aside0 (Below w.heap.size w wc))
 case first =>
  have H := HC2.out
  clear HC2
  obtain ⟨t395, A4, H⟩ := bS H
  try dsimp only at H
  by_cases c5 : t395 = true
  ·subst c5
   rw [if_pos rfl] at H
   obtain ⟨t396, A6, H⟩ := bS H
   try dsimp only at H
   by_cases c7 : t396 = true
   ·subst c7
    rw [if_pos rfl] at H
    obtain ⟨c8, H⟩ := iN H
    have c8b0 := decide_eq_true c8
    have c8b1 : decide (0 < l0_0.length) = true := decide_eq_true (by omega)
    clear c8
    (first | rw [c8b0] | (simp only [i64_w, i32_w]; rw [c8b0]) | skip)
    have H' := Aside0.mk H
    clear H
    have hcz9 := cb2 BK394
    go_wp2_with (first | ((with_reducible refine gt 66 rfl ?_); refine gL 66 19 Tryz.func66 #[.int .i64 (l0_0.length : Int), .int .i64 1, .int .i64 40] ?_; (with_reducible refine (impl_within.calls (l0_0.length : Int) 1 40 true _ A4.out).mono ?_); rintro e w' ⟨rfl, ⟨nd, rfl⟩⟩; refine ⟨_, rfl, ?_⟩) | (go_at_call 67; (with_reducible refine (impl_isRoom.calls a0_1 true _ A6.out).mono ?_); rintro e w' ⟨rfl, ⟨nd, rfl⟩⟩; have p397 : 0 ≤ (0 : Int) := (by omega); have q397 : 0 < (l0_0.length : Int) := sO; obtain ⟨ad397, A397_6, c397_6, e397, hx397_0, hx397_1, hx397_2, hx397_3, hx397_4, hx397_5, hx397_6, hl397_6, hi397_6⟩ := at_T65 HR0_0.out 0 p397 q397; cases e397; have qi397 : (0 < l0_0.length) = True := eq_true (by omega); (try rw [show ((0 : Int)).toNat = 0 from rfl] at hx397_0); (try rw [show 0 * 7 = 0 from rfl] at hx397_0); (try rw [Addr.add_zero'] at hx397_0); (try rw [show ((0 : Int)).toNat = 0 from rfl] at hx397_1); (try rw [show 0 * 7 = 0 from rfl] at hx397_1); (try rw [Addr.add_zero'] at hx397_1); (try rw [show ((0 : Int)).toNat = 0 from rfl] at hx397_2); (try rw [show 0 * 7 = 0 from rfl] at hx397_2); (try rw [Addr.add_zero'] at hx397_2); (try rw [show ((0 : Int)).toNat = 0 from rfl] at hx397_3); (try rw [show 0 * 7 = 0 from rfl] at hx397_3); (try rw [Addr.add_zero'] at hx397_3); (try rw [show ((0 : Int)).toNat = 0 from rfl] at hx397_4); (try rw [show 0 * 7 = 0 from rfl] at hx397_4); (try rw [Addr.add_zero'] at hx397_4); (try rw [show ((0 : Int)).toNat = 0 from rfl] at hx397_5); (try rw [show 0 * 7 = 0 from rfl] at hx397_5); (try rw [Addr.add_zero'] at hx397_5); (try rw [show ((0 : Int)).toNat = 0 from rfl] at hx397_6); (try rw [show 0 * 7 = 0 from rfl] at hx397_6); (try rw [Addr.add_zero'] at hx397_6); replace hx397_0 := hB HB hx397_0; replace hx397_1 := hB HB hx397_1; replace hx397_2 := hB HB hx397_2; replace hx397_3 := hB HB hx397_3; replace hx397_4 := hB HB hx397_4; replace hx397_5 := hB HB hx397_5; replace hx397_6 := hB HB hx397_6; have HR397_6 := Aside0.mk hi397_6; have HC397_6 := Aside0.mk hl397_6; clear hi397_6 hl397_6; replace p397 := eq_true p397; replace q397 := eq_true q397))
    go_meet
    case rel => exact ⟨_, ((((rd_T65 l0_0 0).f0) != 2)), sR, H', ⟨by first | omega | exact Nat.le_refl _⟩, ⟨sK BK394⟩, ⟨sC⟩⟩
   ·replace c7 := Bool.eq_false_iff.mpr c7
    subst c7
    rw [if_neg (show ¬ (false = true) by decide)] at H
    have H' := Aside0.mk H
    clear H
    have hcz10 := cb2 BK394
    go_wp2_with (first | ((with_reducible refine gt 66 rfl ?_); refine gL 66 19 Tryz.func66 #[.int .i64 (l0_0.length : Int), .int .i64 1, .int .i64 40] ?_; (with_reducible refine (impl_within.calls (l0_0.length : Int) 1 40 true _ A4.out).mono ?_); rintro e w' ⟨rfl, ⟨nd, rfl⟩⟩; refine ⟨_, rfl, ?_⟩) | (go_at_call 67; (with_reducible refine (impl_isRoom.calls a0_1 false _ A6.out).mono ?_); rintro e w' ⟨rfl, ⟨nd, rfl⟩⟩))
    go_meet
    case rel => exact ⟨_, (true), sR, H', ⟨by first | omega | exact Nat.le_refl _⟩, ⟨sK BK394⟩, ⟨sC⟩⟩
  ·replace c5 := Bool.eq_false_iff.mpr c5
   subst c5
   rw [if_neg (show ¬ (false = true) by decide)] at H
   have H' := Aside0.mk H
   clear H
   have hcz11 := cb2 BK394
   go_wp2_with (first | ((with_reducible refine gt 66 rfl ?_); refine gL 66 19 Tryz.func66 #[.int .i64 (l0_0.length : Int), .int .i64 1, .int .i64 40] ?_; (with_reducible refine (impl_within.calls (l0_0.length : Int) 1 40 false _ A4.out).mono ?_); rintro e w' ⟨rfl, ⟨nd, rfl⟩⟩; refine ⟨_, rfl, ?_⟩))
   go_meet
   case rel => exact ⟨_, (true), sR, H', ⟨by first | omega | exact Nat.le_refl _⟩, ⟨sK BK394⟩, ⟨sC⟩⟩
 case rest =>
  clear HC2
  try clear p2
  try clear c3
  try clear p3
  try clear q3
  try clear hx3
  try clear qi3
  try clear c4
  try clear c5
  try clear c6
  try clear c7
  try clear c8
  try clear c8b0
  try clear c8b1
  try clear hcz10
  try clear hcz11
  try clear hcz9
  try clear hx397_0
  try clear hx397_1
  try clear hx397_2
  try clear hx397_3
  try clear hx397_4
  try clear hx397_5
  try clear hx397_6
  try clear p397
  try clear q397
  obtain ⟨kq, x34_1, rfl, HA, HJ1, BK394, HB⟩ := hcut
  cases kq with
  | zero => exact absurd HA.out (by simp [impl_GoodFs.j0])
  | succ kj1 =>
   have H := HA.out
   clear HA
   simp only [impl_GoodFs.j0] at H
   by_cases c12 : x34_1 = true
   ·subst c12
    rw [if_pos rfl] at H
    obtain rfl := Option.some.inj H
    go_wp2
    go_ret
    exact ⟨sE, sC⟩
   ·replace c12 := Bool.eq_false_iff.mpr c12
    subst c12
    rw [if_neg (show ¬ (false = true) by decide)] at H
    have H' := Aside0.mk H
    clear H
    have hcz13 := cb2 BK394
    go_wp2
    go_loopg [38] kj1 (fun kq v38 w' => ∃ (x38_2 : Int), v38 = .int .i64 x38_2 ∧ Aside0 (impl_GoodFs.l0 kq l0_0 (l0_0.length : Int) x38_2 l0_0 a0_1 = some r) ∧ Aside0 (kq ≤ kj1) ∧ Aside0 (w'.heap[gb394]? = some (.cells #[(.slice A0_0 l0_0.length c0_0), .int .i64 a0_1] 30 (0, 0))) ∧ Aside0 (Below w.heap.size w w'))
    case atStart => exact ⟨(0), sR, H', ⟨Nat.le_refl _⟩, ⟨sK BK394⟩, ⟨sC⟩⟩
    case round =>
     clear H'
     try clear c1
     try clear p2
     try clear c3
     try clear p3
     try clear q3
     try clear hx3
     try clear qi3
     try clear c4
     try clear c5
     try clear c6
     try clear c7
     try clear c8
     try clear c8b0
     try clear c8b1
     try clear c12
     try clear hcz10
     try clear hcz11
     try clear hcz13
     try clear hcz9
     try clear hx397_0
     try clear hx397_1
     try clear hx397_2
     try clear hx397_3
     try clear hx397_4
     try clear hx397_5
     try clear hx397_6
     try clear p2
     try clear p3
     try clear p397
     try clear q3
     try clear q397
     obtain ⟨x38_2, rfl, HA, HK2, BK394, HB⟩ := hrel
     cases gk with
     | zero => exact absurd HA.out (by simp [impl_GoodFs.l0])
     | succ k2 =>
      have H := HA.out
      clear HA
      simp only [impl_GoodFs.l0] at H
      by_cases c14 : x38_2 < (l0_0.length : Int)
      ·rw [if_pos c14] at H
       have c14b0 := decide_eq_true c14
       clear c14
       obtain ⟨c15, H⟩ := iN H
       have c15b0 := decide_eq_true c15
       clear c15
       obtain ⟨c16, H⟩ := iN H
       have c16b0 := decide_eq_true c16
       clear c16
       obtain ⟨t400, A17, H⟩ := bS H
       try dsimp only at H
       by_cases c18 : t400 = true
       ·subst c18
        rw [if_pos rfl] at H
        have H' := Aside0.mk H
        clear H
        have p398 : 0 ≤ (x38_2 : Int) := sO
        have q398 : x38_2 < (l0_0.length : Int) := sO
        obtain ⟨ad398, A398_6, c398_6, e398, hx398_0, hx398_1, hx398_2, hx398_3, hx398_4, hx398_5, hx398_6, hl398_6, hi398_6⟩ := ab65 HR0_0.out HB x38_2 p398 q398
        cases e398
        have HR398_6 := Aside0.mk hi398_6
        have HC398_6 := Aside0.mk hl398_6
        clear hi398_6 hl398_6
        replace p398 := eq_true p398
        replace q398 := eq_true q398
        go_wp2_with (first | ((with_reducible refine gd 4 rfl ?_); (first | refine bxE 4 #[.int .i64 0, .int .i64 0, .int .i64 0, .int .i64 0, .int .i64 0, .string (⟨#[]⟩ : ByteArray), .slice none 0 0] 65 ?_ | refine bgE 4 #[.int .i64 0, .int .i64 0, .int .i64 0, .int .i64 0, .int .i64 0, .string (⟨#[]⟩ : ByteArray), .slice none 0 0] 65 ?_); intro gb399 hg w19 hbox hb; have BK399 := Aside0.mk hbox; have GW399 := nGC hg; have GE399 := nGC hg; replace HB := nSC hb; have NB394_399 := nL BK394 hg; have NB399_394 := nH BK394 hg; replace BK394 := nK BK394 hb; clear hb hbox hg; have hnb20 := NB399_394.out; have hnc20 := NB394_399.out; have hcz21 := cb7 BK399; have hcz22 := cb2 BK394) | ((with_reducible refine gt 68 rfl ?_); refine gL 68 44 Tryz.func68 #[.agg #[.slice (some ad398) l0_0.length c0_0, .int .i64 a0_1], .agg #[.int .i64 ((rd_T65 l0_0 x38_2).f0), .int .i64 ((rd_T65 l0_0 x38_2).f1), .int .i64 ((rd_T65 l0_0 x38_2).f2), .int .i64 ((rd_T65 l0_0 x38_2).f3), .int .i64 ((rd_T65 l0_0 x38_2).f4), .string ((rd_T65 l0_0 x38_2).f5), .slice A398_6 ((rd_T65 l0_0 x38_2).f6).length c398_6]] ?_; (with_reducible refine (impl_Fs_isNode.calls k2 _ _ l0_0 a0_1 ((rd_T65 l0_0 x38_2).f0) ((rd_T65 l0_0 x38_2).f1) ((rd_T65 l0_0 x38_2).f2) ((rd_T65 l0_0 x38_2).f3) ((rd_T65 l0_0 x38_2).f4) ((rd_T65 l0_0 x38_2).f5) _ _ ((rd_T65 l0_0 x38_2).f6) true _ ?side1 ?side2 ?side3 ?side4 A17.out).mono ?_); (case side1 => exact Kd.C_below HR0_0.out sC); (case side2 => exact HC0_0.out); (case side3 => exact Kd.C_below HR398_6.out sC); (case side4 => exact HC398_6.out); rintro e w23 ⟨rfl, hb⟩; refine ⟨_, rfl, ?_⟩; replace BK394 := nF BK394 hb; replace BK399 := nX #[.int .i64 ((rd_T65 l0_0 x38_2).f0), .int .i64 ((rd_T65 l0_0 x38_2).f1), .int .i64 ((rd_T65 l0_0 x38_2).f2), .int .i64 ((rd_T65 l0_0 x38_2).f3), .int .i64 ((rd_T65 l0_0 x38_2).f4), .string ((rd_T65 l0_0 x38_2).f5), .slice A398_6 ((rd_T65 l0_0 x38_2).f6).length c398_6] BK399 hb; replace HB := nSC hb; try clear hb))
        go_roundg k2
        case measure => have := HJ1.out; have := HK2.out; omega
        case rel => exact ⟨(wrap64 (x38_2 + 1)), sR, H', ⟨by have := HJ1.out; have := HK2.out; omega⟩, ⟨sK BK394⟩, ⟨sC⟩⟩
       ·replace c18 := Bool.eq_false_iff.mpr c18
        subst c18
        rw [if_neg (show ¬ (false = true) by decide)] at H
        obtain rfl := Option.some.inj H
        have p398 : 0 ≤ (x38_2 : Int) := sO
        have q398 : x38_2 < (l0_0.length : Int) := sO
        obtain ⟨ad398, A398_6, c398_6, e398, hx398_0, hx398_1, hx398_2, hx398_3, hx398_4, hx398_5, hx398_6, hl398_6, hi398_6⟩ := ab65 HR0_0.out HB x38_2 p398 q398
        cases e398
        have HR398_6 := Aside0.mk hi398_6
        have HC398_6 := Aside0.mk hl398_6
        clear hi398_6 hl398_6
        replace p398 := eq_true p398
        replace q398 := eq_true q398
        go_wp2_with (first | ((with_reducible refine gd 4 rfl ?_); (first | refine bxE 4 #[.int .i64 0, .int .i64 0, .int .i64 0, .int .i64 0, .int .i64 0, .string (⟨#[]⟩ : ByteArray), .slice none 0 0] 65 ?_ | refine bgE 4 #[.int .i64 0, .int .i64 0, .int .i64 0, .int .i64 0, .int .i64 0, .string (⟨#[]⟩ : ByteArray), .slice none 0 0] 65 ?_); intro gb399 hg w24 hbox hb; have BK399 := Aside0.mk hbox; have GW399 := nGC hg; have GE399 := nGC hg; replace HB := nSC hb; have NB394_399 := nL BK394 hg; have NB399_394 := nH BK394 hg; replace BK394 := nK BK394 hb; clear hb hbox hg; have hnb25 := NB399_394.out; have hnc25 := NB394_399.out; have hcz26 := cb7 BK399; have hcz27 := cb2 BK394) | ((with_reducible refine gt 68 rfl ?_); refine gL 68 44 Tryz.func68 #[.agg #[.slice (some ad398) l0_0.length c0_0, .int .i64 a0_1], .agg #[.int .i64 ((rd_T65 l0_0 x38_2).f0), .int .i64 ((rd_T65 l0_0 x38_2).f1), .int .i64 ((rd_T65 l0_0 x38_2).f2), .int .i64 ((rd_T65 l0_0 x38_2).f3), .int .i64 ((rd_T65 l0_0 x38_2).f4), .string ((rd_T65 l0_0 x38_2).f5), .slice A398_6 ((rd_T65 l0_0 x38_2).f6).length c398_6]] ?_; (with_reducible refine (impl_Fs_isNode.calls k2 _ _ l0_0 a0_1 ((rd_T65 l0_0 x38_2).f0) ((rd_T65 l0_0 x38_2).f1) ((rd_T65 l0_0 x38_2).f2) ((rd_T65 l0_0 x38_2).f3) ((rd_T65 l0_0 x38_2).f4) ((rd_T65 l0_0 x38_2).f5) _ _ ((rd_T65 l0_0 x38_2).f6) false _ ?side1 ?side2 ?side3 ?side4 A17.out).mono ?_); (case side1 => exact Kd.C_below HR0_0.out sC); (case side2 => exact HC0_0.out); (case side3 => exact Kd.C_below HR398_6.out sC); (case side4 => exact HC398_6.out); rintro e w28 ⟨rfl, hb⟩; refine ⟨_, rfl, ?_⟩; replace BK394 := nF BK394 hb; replace BK399 := nX #[.int .i64 ((rd_T65 l0_0 x38_2).f0), .int .i64 ((rd_T65 l0_0 x38_2).f1), .int .i64 ((rd_T65 l0_0 x38_2).f2), .int .i64 ((rd_T65 l0_0 x38_2).f3), .int .i64 ((rd_T65 l0_0 x38_2).f4), .string ((rd_T65 l0_0 x38_2).f5), .slice A398_6 ((rd_T65 l0_0 x38_2).f6).length c398_6] BK399 hb; replace HB := nSC hb; try clear hb))
        go_ret
        exact ⟨sE, sC⟩
      ·rw [if_neg c14] at H
       have c14b0 := decide_eq_false c14
       clear c14
       obtain ⟨t401, A29, H⟩ := bS H
       try dsimp only at H
       by_cases c30 : t401 > a0_1
       ·rw [if_pos c30] at H
        have c30b0 := decide_eq_true c30
        clear c30
        obtain rfl := Option.some.inj H
        try go_wp2
        have n0_ := Aside0.mk (blk_drew BK394.out)
        have n1_ := Aside0.mk (below_drew1 HB.out)
        clear BK394
        clear HB
        have BK394 := n0_
        have HB := n1_
        clear n0_ n1_
        refine st2 5 [] (cz0 BK394) (cz1 BK394) (fun hHeld => ?_)
        generalize wr.drew = w31 at BK394 HB hHeld ⊢
        refine pu 2 49 ?_
        refine tk2 0 47 ?_
        refine tk2 3 50 ?_
        refine on 1 48 (fun K hK => ?_)
        refine gC Tryz.func69 #[.agg #[.slice A0_0 l0_0.length c0_0, .int .i64 a0_1]] ?_
        with_reducible refine (impl_Fs_bytesIn.calls k2 _ _ l0_0 a0_1 t401 _ ?side1 ?side2 A29.out).mono ?_
        (case side1 => exact sD (Kd.C_below HR0_0.out HB.out))
        (case side2 => exact HC0_0.out)
        rintro e w32 ⟨rfl, hb⟩
        refine ⟨_, rfl, ?_⟩
        have n0_ := nK BK394 hb
        have n1_ := nSC hb
        clear BK394
        clear HB
        have BK394 := n0_
        have HB := n1_
        clear n0_ n1_
        (try clear hb)
        (try clear hb2)
        (try clear hk)
        (try clear hi)
        refine hK.out _ _ ⟨cz0 BK394, cz1 BK394⟩ (fun hHeld => ?_)
        clear hK K
        refine nm ?_
        refine pu 4 51 ?_
        refine dn ?_
        try go_wp2
        go_ret
        exact ⟨sE, sC⟩
       ·rw [if_neg c30] at H
        have c30b0 := decide_eq_false c30
        clear c30
        obtain ⟨t402, A33, H⟩ := bS H
        try dsimp only at H
        have H' := Aside0.mk H
        clear H
        try go_wp2
        have n0_ := Aside0.mk (blk_drew BK394.out)
        have n1_ := Aside0.mk (below_drew1 HB.out)
        clear BK394
        clear HB
        have BK394 := n0_
        have HB := n1_
        clear n0_ n1_
        refine st2 5 [] (cz0 BK394) (cz1 BK394) (fun hHeld => ?_)
        generalize wr.drew = w34 at BK394 HB hHeld ⊢
        refine pu 2 49 ?_
        refine tk2 0 47 ?_
        refine tk2 3 50 ?_
        refine on 1 48 (fun K hK => ?_)
        refine gC Tryz.func69 #[.agg #[.slice A0_0 l0_0.length c0_0, .int .i64 a0_1]] ?_
        with_reducible refine (impl_Fs_bytesIn.calls k2 _ _ l0_0 a0_1 t401 _ ?side1 ?side2 A29.out).mono ?_
        (case side1 => exact sD (Kd.C_below HR0_0.out HB.out))
        (case side2 => exact HC0_0.out)
        rintro e w35 ⟨rfl, hb⟩
        refine ⟨_, rfl, ?_⟩
        have n0_ := nK BK394 hb
        have n1_ := nSC hb
        clear BK394
        clear HB
        have BK394 := n0_
        have HB := n1_
        clear n0_ n1_
        (try clear hb)
        (try clear hb2)
        (try clear hk)
        (try clear hi)
        refine hK.out _ _ ⟨cz0 BK394, cz1 BK394⟩ (fun hHeld => ?_)
        clear hK K
        refine nm ?_
        refine pu 4 51 ?_
        refine dn ?_
        have hcz36 := cb2 BK394
        try go_wp2_with (first | ((with_reducible refine gt 70 rfl ?_); refine gL 70 53 Tryz.func70 #[.agg #[.slice A0_0 l0_0.length c0_0, .int .i64 a0_1]] ?_; (with_reducible refine (impl_Fs_links.calls k2 _ _ l0_0 a0_1 t402 _ ?side1 ?side2 A33.out).mono ?_); (case side1 => exact sD (Kd.C_below HR0_0.out HB.out)); (case side2 => exact HC0_0.out); rintro e w37 ⟨v403, rfl, ho0, hb⟩; refine ⟨_, rfl, ?_⟩; have HO404 := Aside0.mk (Kd.R_lower ho0 (below_size sC)); replace BK394 := nK BK394 hb; replace HB := nSC hb; try clear hb; (try clear ho0); have hcz38 := cb2 BK394))
        go_loopg [57] k2 (fun kq v57 w' => ∃ (x57_3 : Int), v57 = .int .i64 x57_3 ∧ Aside0 (impl_GoodFs.l1 kq t402 l0_0 (l0_0.length : Int) x57_3 l0_0 a0_1 = some r) ∧ Aside0 (kq ≤ k2) ∧ Aside0 (Kd.R (Kd.int .i64) 3 w' w.heap.size (fun _ => True) v403 t402) ∧ Aside0 (w'.heap[gb394]? = some (.cells #[(.slice A0_0 l0_0.length c0_0), .int .i64 a0_1] 30 (0, 0))) ∧ Aside0 (Below w.heap.size w w'))
        case atStart => exact ⟨(0), sR, H', ⟨Nat.le_refl _⟩, ⟨rR HO404⟩, ⟨sK BK394⟩, ⟨sC⟩⟩
        case round =>
         clear H'
         try clear c1
         try clear c2
         try clear p2
         try clear c3
         try clear p3
         try clear q3
         try clear hx3
         try clear qi3
         try clear c4
         try clear c5
         try clear c6
         try clear p6
         try clear c7
         try clear c8
         try clear c8b0
         try clear c8b1
         try clear c12
         try clear c14
         try clear c14b0
         try clear c15
         try clear c15b0
         try clear c16
         try clear c16b0
         try clear c18
         try clear c20
         try clear c25
         try clear c30
         try clear c30b0
         try clear hcz10
         try clear hcz11
         try clear hcz13
         try clear hcz21
         try clear hcz22
         try clear hcz26
         try clear hcz27
         try clear hcz36
         try clear hcz38
         try clear hcz9
         try clear hx397_0
         try clear hx397_1
         try clear hx397_2
         try clear hx397_3
         try clear hx397_4
         try clear hx397_5
         try clear hx397_6
         try clear hx398_0
         try clear hx398_1
         try clear hx398_2
         try clear hx398_3
         try clear hx398_4
         try clear hx398_5
         try clear hx398_6
         try clear p2
         try clear p3
         try clear p397
         try clear p398
         try clear q3
         try clear q397
         try clear q398
         obtain ⟨x57_3, rfl, HA, HK3, HO_5, BK394, HB⟩ := hrel
         cases gk with
         | zero => exact absurd HA.out (by simp [impl_GoodFs.l1])
         | succ k3 =>
          have H := HA.out
          clear HA
          simp only [impl_GoodFs.l1] at H
          by_cases c39 : x57_3 < (l0_0.length : Int)
          ·rw [if_pos c39] at H
           have c39b0 := decide_eq_true c39
           clear c39
           obtain ⟨c40, H⟩ := iN H
           have c40b0 := decide_eq_true c40
           clear c40
           obtain ⟨c41, H⟩ := iN H
           have c41b0 := decide_eq_true c41
           clear c41
           by_cases c42 : x57_3 = 0
           ·rw [if_pos c42] at H
            have c42b0 := beq_iff_eq.mpr c42
            have c42b1 := bne_eq_false_iff_eq.mpr c42
            clear c42
            by_cases c43 : ((rd_T65 l0_0 x57_3).f0) = 0
            ·rw [if_pos c43] at H
             have c43b0 := beq_iff_eq.mpr c43
             have c43b1 := bne_eq_false_iff_eq.mpr c43
             clear c43
             have H' := Aside0.mk H
             clear H
             have p405 : 0 ≤ (x57_3 : Int) := sO
             have q405 : x57_3 < (l0_0.length : Int) := sO
             obtain ⟨ad405, A405_6, c405_6, e405, hx405_0, hx405_1, hx405_2, hx405_3, hx405_4, hx405_5, hx405_6, hl405_6, hi405_6⟩ := ab65 HR0_0.out HB x57_3 p405 q405
             cases e405
             have HR405_6 := Aside0.mk hi405_6
             have HC405_6 := Aside0.mk hl405_6
             clear hi405_6 hl405_6
             replace p405 := eq_true p405
             replace q405 := eq_true q405
             go_wp2_with (first | ((with_reducible refine gd 7 rfl ?_); (first | refine bxE 7 #[.int .i64 0, .int .i64 0, .int .i64 0, .int .i64 0, .int .i64 0, .string (⟨#[]⟩ : ByteArray), .slice none 0 0] 65 ?_ | refine bgE 7 #[.int .i64 0, .int .i64 0, .int .i64 0, .int .i64 0, .int .i64 0, .string (⟨#[]⟩ : ByteArray), .slice none 0 0] 65 ?_); intro gb406 hg w44 hbox hb; replace HO_5 := nR HO_5 hb; have BK406 := Aside0.mk hbox; have GW406 := nGC hg; have GE406 := nGC hg; replace HB := nSC hb; have NB394_406 := nL BK394 hg; have NB406_394 := nH BK394 hg; replace BK394 := nK BK394 hb; clear hb hbox hg; have hnb45 := NB406_394.out; have hnc45 := NB394_406.out; have hcz46 := cb7 BK406))
             go_roundg k3
             case measure => have := HJ1.out; have := HK2.out; have := HK3.out; omega
             case rel => exact ⟨(wrap64 (x57_3 + 1)), sR, H', ⟨by have := HJ1.out; have := HK2.out; have := HK3.out; omega⟩, ⟨rRf HO_5 BK406 (fun _ hk => trivial)⟩, ⟨sX BK394⟩, ⟨sC⟩⟩
            ·rw [if_neg c43] at H
             have c43b0 := beq_eq_false_iff_ne.mpr c43
             have c43b1 := bne_iff_ne.mpr c43
             obtain ⟨c47, H⟩ := iN H
             have c47b0 := decide_eq_true c47
             clear c47
             obtain ⟨ji48, hji48⟩ : ∃ j_ : Int, (mn x57_3 1) = j_ := ⟨_, rfl⟩
             replace H : ((impl_within.f (rd t402 x57_3) (ji48) 0).bind fun t408 => (if t408 = true then (impl_GoodFs.l1 k3 t402 l0_0 (l0_0.length : Int) (wrap64 (x57_3 + 1)) l0_0 a0_1) else (some false))) = some r := by first | (rw [hji48] at H; exact H) | (simp only [hji48] at H ⊢; exact H)
             have hji48_ : (if 1 < x57_3 then 1 else x57_3) = ji48 := hji48
             obtain ⟨t408, A49, H⟩ := bS H
             try dsimp only at H
             by_cases c50 : t408 = true
             ·subst c50
              rw [if_pos rfl] at H
              have H' := Aside0.mk H
              clear H
              have p405 : 0 ≤ (x57_3 : Int) := sO
              have q405 : x57_3 < (l0_0.length : Int) := sO
              obtain ⟨ad405, A405_6, c405_6, e405, hx405_0, hx405_1, hx405_2, hx405_3, hx405_4, hx405_5, hx405_6, hl405_6, hi405_6⟩ := ab65 HR0_0.out HB x57_3 p405 q405
              cases e405
              have HR405_6 := Aside0.mk hi405_6
              have HC405_6 := Aside0.mk hl405_6
              clear hi405_6 hl405_6
              replace p405 := eq_true p405
              replace q405 := eq_true q405
              go_wp2_with (first | ((with_reducible refine gd 7 rfl ?_); (first | refine bxE 7 #[.int .i64 0, .int .i64 0, .int .i64 0, .int .i64 0, .int .i64 0, .string (⟨#[]⟩ : ByteArray), .slice none 0 0] 65 ?_ | refine bgE 7 #[.int .i64 0, .int .i64 0, .int .i64 0, .int .i64 0, .int .i64 0, .string (⟨#[]⟩ : ByteArray), .slice none 0 0] 65 ?_); intro gb406 hg w51 hbox hb; replace HO_5 := nR HO_5 hb; have BK406 := Aside0.mk hbox; have GW406 := nGC hg; have GE406 := nGC hg; replace HB := nSC hb; have NB394_406 := nL BK394 hg; have NB406_394 := nH BK394 hg; replace BK394 := nK BK394 hb; clear hb hbox hg; have hnb52 := NB406_394.out; have hnc52 := NB394_406.out; have hcz53 := cb7 BK406; obtain ⟨Ao54, co54, eo54⟩ := Kd.R_slice HO_5.out; subst eo54; have p407 : 0 ≤ (x57_3 : Int) := sO; have q407 : x57_3 < (t402.length : Int) := sO; obtain ⟨ad407, e407, hx407_0⟩ := Kd.at_int (Kd.R_reads' HO_5.out).2.2 x57_3 p407 q407; cases e407; have hn407_0 : ad407.block ≠ gb406 := Kd.own_blk (Kd.R_ne HO_5.out BK406.out (by decide)); have hn407_1 : ad407.block ≠ gb406 := Kd.own_blk (Kd.R_ne HO_5.out BK406.out (by decide)); have hn407_2 : ad407.block ≠ gb406 := Kd.own_blk (Kd.R_ne HO_5.out BK406.out (by decide)); have hn407_3 : ad407.block ≠ gb406 := Kd.own_blk (Kd.R_ne HO_5.out BK406.out (by decide)); have hn407_4 : ad407.block ≠ gb406 := Kd.own_blk (Kd.R_ne HO_5.out BK406.out (by decide)); have hn407_5 : ad407.block ≠ gb406 := Kd.own_blk (Kd.R_ne HO_5.out BK406.out (by decide)); have hn407_6 : ad407.block ≠ gb406 := Kd.own_blk (Kd.R_ne HO_5.out BK406.out (by decide)); replace hx407_0 := (cell_far (p := ⟨gb406, 0, none⟩) (by first | (rw [add_block]; exact hn407_0) | (show (Addr.add _ _).block ≠ _; rw [add_block]; exact hn407_0) | exact hn407_0) (.int .i64 ((rd_T65 l0_0 x57_3).f0))).trans hx407_0; replace hx407_0 := (cell_far (p := ⟨gb406, 1, none⟩) (by first | (rw [add_block]; exact hn407_1) | (show (Addr.add _ _).block ≠ _; rw [add_block]; exact hn407_1) | exact hn407_1) (.int .i64 ((rd_T65 l0_0 x57_3).f1))).trans hx407_0; replace hx407_0 := (cell_far (p := ⟨gb406, 2, none⟩) (by first | (rw [add_block]; exact hn407_2) | (show (Addr.add _ _).block ≠ _; rw [add_block]; exact hn407_2) | exact hn407_2) (.int .i64 ((rd_T65 l0_0 x57_3).f2))).trans hx407_0; replace hx407_0 := (cell_far (p := ⟨gb406, 3, none⟩) (by first | (rw [add_block]; exact hn407_3) | (show (Addr.add _ _).block ≠ _; rw [add_block]; exact hn407_3) | exact hn407_3) (.int .i64 ((rd_T65 l0_0 x57_3).f3))).trans hx407_0; replace hx407_0 := (cell_far (p := ⟨gb406, 4, none⟩) (by first | (rw [add_block]; exact hn407_4) | (show (Addr.add _ _).block ≠ _; rw [add_block]; exact hn407_4) | exact hn407_4) (.int .i64 ((rd_T65 l0_0 x57_3).f4))).trans hx407_0; replace hx407_0 := (cell_far (p := ⟨gb406, 5, none⟩) (by first | (rw [add_block]; exact hn407_5) | (show (Addr.add _ _).block ≠ _; rw [add_block]; exact hn407_5) | exact hn407_5) (.string ((rd_T65 l0_0 x57_3).f5))).trans hx407_0; replace hx407_0 := (cell_far (p := ⟨gb406, 6, none⟩) (by first | (rw [add_block]; exact hn407_6) | (show (Addr.add _ _).block ≠ _; rw [add_block]; exact hn407_6) | exact hn407_6) (.slice A405_6 ((rd_T65 l0_0 x57_3).f6).length c405_6)).trans hx407_0; clear hn407_0; clear hn407_1; clear hn407_2; clear hn407_3; clear hn407_4; clear hn407_5; clear hn407_6; replace p407 := eq_true p407; replace q407 := eq_true q407) | (go_at_call 66; (with_reducible refine (impl_within.calls (rd t402 x57_3) ji48 0 true _ A49.out).mono ?_); rintro e w' ⟨rfl, ⟨nd, rfl⟩⟩))
              go_roundg k3
              case measure => have := HJ1.out; have := HK2.out; have := HK3.out; omega
              case rel => exact ⟨(wrap64 (x57_3 + 1)), sR, (by first | exact H' | (simp only [hji48]; exact H') | (simp only [hji48]; exact H')), ⟨by have := HJ1.out; have := HK2.out; have := HK3.out; omega⟩, ⟨rRf HO_5 BK406 (fun _ hk => trivial)⟩, ⟨sX BK394⟩, ⟨sC⟩⟩
             ·replace c50 := Bool.eq_false_iff.mpr c50
              subst c50
              rw [if_neg (show ¬ (false = true) by decide)] at H
              obtain rfl := Option.some.inj H
              have p405 : 0 ≤ (x57_3 : Int) := sO
              have q405 : x57_3 < (l0_0.length : Int) := sO
              obtain ⟨ad405, A405_6, c405_6, e405, hx405_0, hx405_1, hx405_2, hx405_3, hx405_4, hx405_5, hx405_6, hl405_6, hi405_6⟩ := ab65 HR0_0.out HB x57_3 p405 q405
              cases e405
              have HR405_6 := Aside0.mk hi405_6
              have HC405_6 := Aside0.mk hl405_6
              clear hi405_6 hl405_6
              replace p405 := eq_true p405
              replace q405 := eq_true q405
              go_wp2_with (first | ((with_reducible refine gd 7 rfl ?_); (first | refine bxE 7 #[.int .i64 0, .int .i64 0, .int .i64 0, .int .i64 0, .int .i64 0, .string (⟨#[]⟩ : ByteArray), .slice none 0 0] 65 ?_ | refine bgE 7 #[.int .i64 0, .int .i64 0, .int .i64 0, .int .i64 0, .int .i64 0, .string (⟨#[]⟩ : ByteArray), .slice none 0 0] 65 ?_); intro gb406 hg w55 hbox hb; replace HO_5 := nR HO_5 hb; have BK406 := Aside0.mk hbox; have GW406 := nGC hg; have GE406 := nGC hg; replace HB := nSC hb; have NB394_406 := nL BK394 hg; have NB406_394 := nH BK394 hg; replace BK394 := nK BK394 hb; clear hb hbox hg; have hnb56 := NB406_394.out; have hnc56 := NB394_406.out; have hcz57 := cb7 BK406; obtain ⟨Ao58, co58, eo58⟩ := Kd.R_slice HO_5.out; subst eo58; have p407 : 0 ≤ (x57_3 : Int) := sO; have q407 : x57_3 < (t402.length : Int) := sO; obtain ⟨ad407, e407, hx407_0⟩ := Kd.at_int (Kd.R_reads' HO_5.out).2.2 x57_3 p407 q407; cases e407; have hn407_0 : ad407.block ≠ gb406 := Kd.own_blk (Kd.R_ne HO_5.out BK406.out (by decide)); have hn407_1 : ad407.block ≠ gb406 := Kd.own_blk (Kd.R_ne HO_5.out BK406.out (by decide)); have hn407_2 : ad407.block ≠ gb406 := Kd.own_blk (Kd.R_ne HO_5.out BK406.out (by decide)); have hn407_3 : ad407.block ≠ gb406 := Kd.own_blk (Kd.R_ne HO_5.out BK406.out (by decide)); have hn407_4 : ad407.block ≠ gb406 := Kd.own_blk (Kd.R_ne HO_5.out BK406.out (by decide)); have hn407_5 : ad407.block ≠ gb406 := Kd.own_blk (Kd.R_ne HO_5.out BK406.out (by decide)); have hn407_6 : ad407.block ≠ gb406 := Kd.own_blk (Kd.R_ne HO_5.out BK406.out (by decide)); replace hx407_0 := (cell_far (p := ⟨gb406, 0, none⟩) (by first | (rw [add_block]; exact hn407_0) | (show (Addr.add _ _).block ≠ _; rw [add_block]; exact hn407_0) | exact hn407_0) (.int .i64 ((rd_T65 l0_0 x57_3).f0))).trans hx407_0; replace hx407_0 := (cell_far (p := ⟨gb406, 1, none⟩) (by first | (rw [add_block]; exact hn407_1) | (show (Addr.add _ _).block ≠ _; rw [add_block]; exact hn407_1) | exact hn407_1) (.int .i64 ((rd_T65 l0_0 x57_3).f1))).trans hx407_0; replace hx407_0 := (cell_far (p := ⟨gb406, 2, none⟩) (by first | (rw [add_block]; exact hn407_2) | (show (Addr.add _ _).block ≠ _; rw [add_block]; exact hn407_2) | exact hn407_2) (.int .i64 ((rd_T65 l0_0 x57_3).f2))).trans hx407_0; replace hx407_0 := (cell_far (p := ⟨gb406, 3, none⟩) (by first | (rw [add_block]; exact hn407_3) | (show (Addr.add _ _).block ≠ _; rw [add_block]; exact hn407_3) | exact hn407_3) (.int .i64 ((rd_T65 l0_0 x57_3).f3))).trans hx407_0; replace hx407_0 := (cell_far (p := ⟨gb406, 4, none⟩) (by first | (rw [add_block]; exact hn407_4) | (show (Addr.add _ _).block ≠ _; rw [add_block]; exact hn407_4) | exact hn407_4) (.int .i64 ((rd_T65 l0_0 x57_3).f4))).trans hx407_0; replace hx407_0 := (cell_far (p := ⟨gb406, 5, none⟩) (by first | (rw [add_block]; exact hn407_5) | (show (Addr.add _ _).block ≠ _; rw [add_block]; exact hn407_5) | exact hn407_5) (.string ((rd_T65 l0_0 x57_3).f5))).trans hx407_0; replace hx407_0 := (cell_far (p := ⟨gb406, 6, none⟩) (by first | (rw [add_block]; exact hn407_6) | (show (Addr.add _ _).block ≠ _; rw [add_block]; exact hn407_6) | exact hn407_6) (.slice A405_6 ((rd_T65 l0_0 x57_3).f6).length c405_6)).trans hx407_0; clear hn407_0; clear hn407_1; clear hn407_2; clear hn407_3; clear hn407_4; clear hn407_5; clear hn407_6; replace p407 := eq_true p407; replace q407 := eq_true q407) | (go_at_call 66; (with_reducible refine (impl_within.calls (rd t402 x57_3) ji48 0 false _ A49.out).mono ?_); rintro e w' ⟨rfl, ⟨nd, rfl⟩⟩))
              go_ret
              exact ⟨by first | rfl | (simp [errW_none, errW_some] <;> rfl) | (simp [errW_none, errW_some]; exact isEmpty_ne _) | (simp only [← hji48]; first | rfl | (simp [errW_none, errW_some] <;> rfl)) | (simp [*, errW_none, errW_some] <;> rfl), sC⟩
           ·rw [if_neg c42] at H
            have c42b0 := beq_eq_false_iff_ne.mpr c42
            have c42b1 := bne_iff_ne.mpr c42
            by_cases c59 : ((rd_T65 l0_0 x57_3).f0) = 2
            ·rw [if_pos c59] at H
             have c59b0 := beq_iff_eq.mpr c59
             have c59b1 := bne_eq_false_iff_eq.mpr c59
             clear c59
             by_cases c60 : ((rd_T65 l0_0 x57_3).f0) = 0
             ·rw [if_pos c60] at H
              have c60b0 := beq_iff_eq.mpr c60
              have c60b1 := bne_eq_false_iff_eq.mpr c60
              clear c60
              have H' := Aside0.mk H
              clear H
              have p405 : 0 ≤ (x57_3 : Int) := sO
              have q405 : x57_3 < (l0_0.length : Int) := sO
              obtain ⟨ad405, A405_6, c405_6, e405, hx405_0, hx405_1, hx405_2, hx405_3, hx405_4, hx405_5, hx405_6, hl405_6, hi405_6⟩ := ab65 HR0_0.out HB x57_3 p405 q405
              cases e405
              have HR405_6 := Aside0.mk hi405_6
              have HC405_6 := Aside0.mk hl405_6
              clear hi405_6 hl405_6
              replace p405 := eq_true p405
              replace q405 := eq_true q405
              go_wp2_with (first | ((with_reducible refine gd 7 rfl ?_); (first | refine bxE 7 #[.int .i64 0, .int .i64 0, .int .i64 0, .int .i64 0, .int .i64 0, .string (⟨#[]⟩ : ByteArray), .slice none 0 0] 65 ?_ | refine bgE 7 #[.int .i64 0, .int .i64 0, .int .i64 0, .int .i64 0, .int .i64 0, .string (⟨#[]⟩ : ByteArray), .slice none 0 0] 65 ?_); intro gb406 hg w61 hbox hb; replace HO_5 := nR HO_5 hb; have BK406 := Aside0.mk hbox; have GW406 := nGC hg; have GE406 := nGC hg; replace HB := nSC hb; have NB394_406 := nL BK394 hg; have NB406_394 := nH BK394 hg; replace BK394 := nK BK394 hb; clear hb hbox hg; have hnb62 := NB406_394.out; have hnc62 := NB394_406.out; have hcz63 := cb7 BK406))
              go_roundg k3
              case measure => have := HJ1.out; have := HK2.out; have := HK3.out; omega
              case rel => exact ⟨(wrap64 (x57_3 + 1)), sR, H', ⟨by have := HJ1.out; have := HK2.out; have := HK3.out; omega⟩, ⟨rRf HO_5 BK406 (fun _ hk => trivial)⟩, ⟨sX BK394⟩, ⟨sC⟩⟩
             ·rw [if_neg c60] at H
              have c60b0 := beq_eq_false_iff_ne.mpr c60
              have c60b1 := bne_iff_ne.mpr c60
              obtain ⟨c64, H⟩ := iN H
              have c64b0 := decide_eq_true c64
              clear c64
              obtain ⟨ji65, hji65⟩ : ∃ j_ : Int, (mn x57_3 1) = j_ := ⟨_, rfl⟩
              replace H : ((impl_within.f (rd t402 x57_3) (ji65) 1).bind fun t410 => (if t410 = true then (impl_GoodFs.l1 k3 t402 l0_0 (l0_0.length : Int) (wrap64 (x57_3 + 1)) l0_0 a0_1) else (some false))) = some r := by first | (rw [hji65] at H; exact H) | (simp only [hji65] at H ⊢; exact H)
              have hji65_ : (if 1 < x57_3 then 1 else x57_3) = ji65 := hji65
              obtain ⟨t410, A66, H⟩ := bS H
              try dsimp only at H
              by_cases c67 : t410 = true
              ·subst c67
               rw [if_pos rfl] at H
               have H' := Aside0.mk H
               clear H
               have p405 : 0 ≤ (x57_3 : Int) := sO
               have q405 : x57_3 < (l0_0.length : Int) := sO
               obtain ⟨ad405, A405_6, c405_6, e405, hx405_0, hx405_1, hx405_2, hx405_3, hx405_4, hx405_5, hx405_6, hl405_6, hi405_6⟩ := ab65 HR0_0.out HB x57_3 p405 q405
               cases e405
               have HR405_6 := Aside0.mk hi405_6
               have HC405_6 := Aside0.mk hl405_6
               clear hi405_6 hl405_6
               replace p405 := eq_true p405
               replace q405 := eq_true q405
               go_wp2_with (first | ((with_reducible refine gd 7 rfl ?_); (first | refine bxE 7 #[.int .i64 0, .int .i64 0, .int .i64 0, .int .i64 0, .int .i64 0, .string (⟨#[]⟩ : ByteArray), .slice none 0 0] 65 ?_ | refine bgE 7 #[.int .i64 0, .int .i64 0, .int .i64 0, .int .i64 0, .int .i64 0, .string (⟨#[]⟩ : ByteArray), .slice none 0 0] 65 ?_); intro gb406 hg w68 hbox hb; replace HO_5 := nR HO_5 hb; have BK406 := Aside0.mk hbox; have GW406 := nGC hg; have GE406 := nGC hg; replace HB := nSC hb; have NB394_406 := nL BK394 hg; have NB406_394 := nH BK394 hg; replace BK394 := nK BK394 hb; clear hb hbox hg; have hnb69 := NB406_394.out; have hnc69 := NB394_406.out; have hcz70 := cb7 BK406; obtain ⟨Ao71, co71, eo71⟩ := Kd.R_slice HO_5.out; subst eo71; have p409 : 0 ≤ (x57_3 : Int) := sO; have q409 : x57_3 < (t402.length : Int) := sO; obtain ⟨ad409, e409, hx409_0⟩ := Kd.at_int (Kd.R_reads' HO_5.out).2.2 x57_3 p409 q409; cases e409; have hn409_0 : ad409.block ≠ gb406 := Kd.own_blk (Kd.R_ne HO_5.out BK406.out (by decide)); have hn409_1 : ad409.block ≠ gb406 := Kd.own_blk (Kd.R_ne HO_5.out BK406.out (by decide)); have hn409_2 : ad409.block ≠ gb406 := Kd.own_blk (Kd.R_ne HO_5.out BK406.out (by decide)); have hn409_3 : ad409.block ≠ gb406 := Kd.own_blk (Kd.R_ne HO_5.out BK406.out (by decide)); have hn409_4 : ad409.block ≠ gb406 := Kd.own_blk (Kd.R_ne HO_5.out BK406.out (by decide)); have hn409_5 : ad409.block ≠ gb406 := Kd.own_blk (Kd.R_ne HO_5.out BK406.out (by decide)); have hn409_6 : ad409.block ≠ gb406 := Kd.own_blk (Kd.R_ne HO_5.out BK406.out (by decide)); replace hx409_0 := (cell_far (p := ⟨gb406, 0, none⟩) (by first | (rw [add_block]; exact hn409_0) | (show (Addr.add _ _).block ≠ _; rw [add_block]; exact hn409_0) | exact hn409_0) (.int .i64 ((rd_T65 l0_0 x57_3).f0))).trans hx409_0; replace hx409_0 := (cell_far (p := ⟨gb406, 1, none⟩) (by first | (rw [add_block]; exact hn409_1) | (show (Addr.add _ _).block ≠ _; rw [add_block]; exact hn409_1) | exact hn409_1) (.int .i64 ((rd_T65 l0_0 x57_3).f1))).trans hx409_0; replace hx409_0 := (cell_far (p := ⟨gb406, 2, none⟩) (by first | (rw [add_block]; exact hn409_2) | (show (Addr.add _ _).block ≠ _; rw [add_block]; exact hn409_2) | exact hn409_2) (.int .i64 ((rd_T65 l0_0 x57_3).f2))).trans hx409_0; replace hx409_0 := (cell_far (p := ⟨gb406, 3, none⟩) (by first | (rw [add_block]; exact hn409_3) | (show (Addr.add _ _).block ≠ _; rw [add_block]; exact hn409_3) | exact hn409_3) (.int .i64 ((rd_T65 l0_0 x57_3).f3))).trans hx409_0; replace hx409_0 := (cell_far (p := ⟨gb406, 4, none⟩) (by first | (rw [add_block]; exact hn409_4) | (show (Addr.add _ _).block ≠ _; rw [add_block]; exact hn409_4) | exact hn409_4) (.int .i64 ((rd_T65 l0_0 x57_3).f4))).trans hx409_0; replace hx409_0 := (cell_far (p := ⟨gb406, 5, none⟩) (by first | (rw [add_block]; exact hn409_5) | (show (Addr.add _ _).block ≠ _; rw [add_block]; exact hn409_5) | exact hn409_5) (.string ((rd_T65 l0_0 x57_3).f5))).trans hx409_0; replace hx409_0 := (cell_far (p := ⟨gb406, 6, none⟩) (by first | (rw [add_block]; exact hn409_6) | (show (Addr.add _ _).block ≠ _; rw [add_block]; exact hn409_6) | exact hn409_6) (.slice A405_6 ((rd_T65 l0_0 x57_3).f6).length c405_6)).trans hx409_0; clear hn409_0; clear hn409_1; clear hn409_2; clear hn409_3; clear hn409_4; clear hn409_5; clear hn409_6; replace p409 := eq_true p409; replace q409 := eq_true q409) | (go_at_call 66; (with_reducible refine (impl_within.calls (rd t402 x57_3) ji65 1 true _ A66.out).mono ?_); rintro e w' ⟨rfl, ⟨nd, rfl⟩⟩))
               go_roundg k3
               case measure => have := HJ1.out; have := HK2.out; have := HK3.out; omega
               case rel => exact ⟨(wrap64 (x57_3 + 1)), sR, (by first | exact H' | (simp only [hji65]; exact H') | (simp only [hji65]; exact H')), ⟨by have := HJ1.out; have := HK2.out; have := HK3.out; omega⟩, ⟨rRf HO_5 BK406 (fun _ hk => trivial)⟩, ⟨sX BK394⟩, ⟨sC⟩⟩
              ·replace c67 := Bool.eq_false_iff.mpr c67
               subst c67
               rw [if_neg (show ¬ (false = true) by decide)] at H
               obtain rfl := Option.some.inj H
               have p405 : 0 ≤ (x57_3 : Int) := sO
               have q405 : x57_3 < (l0_0.length : Int) := sO
               obtain ⟨ad405, A405_6, c405_6, e405, hx405_0, hx405_1, hx405_2, hx405_3, hx405_4, hx405_5, hx405_6, hl405_6, hi405_6⟩ := ab65 HR0_0.out HB x57_3 p405 q405
               cases e405
               have HR405_6 := Aside0.mk hi405_6
               have HC405_6 := Aside0.mk hl405_6
               clear hi405_6 hl405_6
               replace p405 := eq_true p405
               replace q405 := eq_true q405
               go_wp2_with (first | ((with_reducible refine gd 7 rfl ?_); (first | refine bxE 7 #[.int .i64 0, .int .i64 0, .int .i64 0, .int .i64 0, .int .i64 0, .string (⟨#[]⟩ : ByteArray), .slice none 0 0] 65 ?_ | refine bgE 7 #[.int .i64 0, .int .i64 0, .int .i64 0, .int .i64 0, .int .i64 0, .string (⟨#[]⟩ : ByteArray), .slice none 0 0] 65 ?_); intro gb406 hg w72 hbox hb; replace HO_5 := nR HO_5 hb; have BK406 := Aside0.mk hbox; have GW406 := nGC hg; have GE406 := nGC hg; replace HB := nSC hb; have NB394_406 := nL BK394 hg; have NB406_394 := nH BK394 hg; replace BK394 := nK BK394 hb; clear hb hbox hg; have hnb73 := NB406_394.out; have hnc73 := NB394_406.out; have hcz74 := cb7 BK406; obtain ⟨Ao75, co75, eo75⟩ := Kd.R_slice HO_5.out; subst eo75; have p409 : 0 ≤ (x57_3 : Int) := sO; have q409 : x57_3 < (t402.length : Int) := sO; obtain ⟨ad409, e409, hx409_0⟩ := Kd.at_int (Kd.R_reads' HO_5.out).2.2 x57_3 p409 q409; cases e409; have hn409_0 : ad409.block ≠ gb406 := Kd.own_blk (Kd.R_ne HO_5.out BK406.out (by decide)); have hn409_1 : ad409.block ≠ gb406 := Kd.own_blk (Kd.R_ne HO_5.out BK406.out (by decide)); have hn409_2 : ad409.block ≠ gb406 := Kd.own_blk (Kd.R_ne HO_5.out BK406.out (by decide)); have hn409_3 : ad409.block ≠ gb406 := Kd.own_blk (Kd.R_ne HO_5.out BK406.out (by decide)); have hn409_4 : ad409.block ≠ gb406 := Kd.own_blk (Kd.R_ne HO_5.out BK406.out (by decide)); have hn409_5 : ad409.block ≠ gb406 := Kd.own_blk (Kd.R_ne HO_5.out BK406.out (by decide)); have hn409_6 : ad409.block ≠ gb406 := Kd.own_blk (Kd.R_ne HO_5.out BK406.out (by decide)); replace hx409_0 := (cell_far (p := ⟨gb406, 0, none⟩) (by first | (rw [add_block]; exact hn409_0) | (show (Addr.add _ _).block ≠ _; rw [add_block]; exact hn409_0) | exact hn409_0) (.int .i64 ((rd_T65 l0_0 x57_3).f0))).trans hx409_0; replace hx409_0 := (cell_far (p := ⟨gb406, 1, none⟩) (by first | (rw [add_block]; exact hn409_1) | (show (Addr.add _ _).block ≠ _; rw [add_block]; exact hn409_1) | exact hn409_1) (.int .i64 ((rd_T65 l0_0 x57_3).f1))).trans hx409_0; replace hx409_0 := (cell_far (p := ⟨gb406, 2, none⟩) (by first | (rw [add_block]; exact hn409_2) | (show (Addr.add _ _).block ≠ _; rw [add_block]; exact hn409_2) | exact hn409_2) (.int .i64 ((rd_T65 l0_0 x57_3).f2))).trans hx409_0; replace hx409_0 := (cell_far (p := ⟨gb406, 3, none⟩) (by first | (rw [add_block]; exact hn409_3) | (show (Addr.add _ _).block ≠ _; rw [add_block]; exact hn409_3) | exact hn409_3) (.int .i64 ((rd_T65 l0_0 x57_3).f3))).trans hx409_0; replace hx409_0 := (cell_far (p := ⟨gb406, 4, none⟩) (by first | (rw [add_block]; exact hn409_4) | (show (Addr.add _ _).block ≠ _; rw [add_block]; exact hn409_4) | exact hn409_4) (.int .i64 ((rd_T65 l0_0 x57_3).f4))).trans hx409_0; replace hx409_0 := (cell_far (p := ⟨gb406, 5, none⟩) (by first | (rw [add_block]; exact hn409_5) | (show (Addr.add _ _).block ≠ _; rw [add_block]; exact hn409_5) | exact hn409_5) (.string ((rd_T65 l0_0 x57_3).f5))).trans hx409_0; replace hx409_0 := (cell_far (p := ⟨gb406, 6, none⟩) (by first | (rw [add_block]; exact hn409_6) | (show (Addr.add _ _).block ≠ _; rw [add_block]; exact hn409_6) | exact hn409_6) (.slice A405_6 ((rd_T65 l0_0 x57_3).f6).length c405_6)).trans hx409_0; clear hn409_0; clear hn409_1; clear hn409_2; clear hn409_3; clear hn409_4; clear hn409_5; clear hn409_6; replace p409 := eq_true p409; replace q409 := eq_true q409) | (go_at_call 66; (with_reducible refine (impl_within.calls (rd t402 x57_3) ji65 1 false _ A66.out).mono ?_); rintro e w' ⟨rfl, ⟨nd, rfl⟩⟩))
               go_ret
               exact ⟨by first | rfl | (simp [errW_none, errW_some] <;> rfl) | (simp [errW_none, errW_some]; exact isEmpty_ne _) | (simp only [← hji65]; first | rfl | (simp [errW_none, errW_some] <;> rfl)) | (simp [*, errW_none, errW_some] <;> rfl), sC⟩
            ·rw [if_neg c59] at H
             have c59b0 := beq_eq_false_iff_ne.mpr c59
             have c59b1 := bne_iff_ne.mpr c59
             by_cases c76 : ((rd_T65 l0_0 x57_3).f0) = 0
             ·rw [if_pos c76] at H
              have c76b0 := beq_iff_eq.mpr c76
              have c76b1 := bne_eq_false_iff_eq.mpr c76
              clear c76
              have H' := Aside0.mk H
              clear H
              have p405 : 0 ≤ (x57_3 : Int) := sO
              have q405 : x57_3 < (l0_0.length : Int) := sO
              obtain ⟨ad405, A405_6, c405_6, e405, hx405_0, hx405_1, hx405_2, hx405_3, hx405_4, hx405_5, hx405_6, hl405_6, hi405_6⟩ := ab65 HR0_0.out HB x57_3 p405 q405
              cases e405
              have HR405_6 := Aside0.mk hi405_6
              have HC405_6 := Aside0.mk hl405_6
              clear hi405_6 hl405_6
              replace p405 := eq_true p405
              replace q405 := eq_true q405
              go_wp2_with (first | ((with_reducible refine gd 7 rfl ?_); (first | refine bxE 7 #[.int .i64 0, .int .i64 0, .int .i64 0, .int .i64 0, .int .i64 0, .string (⟨#[]⟩ : ByteArray), .slice none 0 0] 65 ?_ | refine bgE 7 #[.int .i64 0, .int .i64 0, .int .i64 0, .int .i64 0, .int .i64 0, .string (⟨#[]⟩ : ByteArray), .slice none 0 0] 65 ?_); intro gb406 hg w77 hbox hb; replace HO_5 := nR HO_5 hb; have BK406 := Aside0.mk hbox; have GW406 := nGC hg; have GE406 := nGC hg; replace HB := nSC hb; have NB394_406 := nL BK394 hg; have NB406_394 := nH BK394 hg; replace BK394 := nK BK394 hb; clear hb hbox hg; have hnb78 := NB406_394.out; have hnc78 := NB394_406.out; have hcz79 := cb7 BK406))
              go_roundg k3
              case measure => have := HJ1.out; have := HK2.out; have := HK3.out; omega
              case rel => exact ⟨(wrap64 (x57_3 + 1)), sR, H', ⟨by have := HJ1.out; have := HK2.out; have := HK3.out; omega⟩, ⟨rRf HO_5 BK406 (fun _ hk => trivial)⟩, ⟨sX BK394⟩, ⟨sC⟩⟩
             ·rw [if_neg c76] at H
              have c76b0 := beq_eq_false_iff_ne.mpr c76
              have c76b1 := bne_iff_ne.mpr c76
              obtain ⟨c80, H⟩ := iN H
              have c80b0 := decide_eq_true c80
              clear c80
              obtain ⟨ji81, hji81⟩ : ∃ j_ : Int, (mn x57_3 1) = j_ := ⟨_, rfl⟩
              replace H : ((impl_within.f (rd t402 x57_3) (ji81) 1152921504606846976).bind fun t412 => (if t412 = true then (impl_GoodFs.l1 k3 t402 l0_0 (l0_0.length : Int) (wrap64 (x57_3 + 1)) l0_0 a0_1) else (some false))) = some r := by first | (rw [hji81] at H; exact H) | (simp only [hji81] at H ⊢; exact H)
              have hji81_ : (if 1 < x57_3 then 1 else x57_3) = ji81 := hji81
              obtain ⟨t412, A82, H⟩ := bS H
              try dsimp only at H
              by_cases c83 : t412 = true
              ·subst c83
               rw [if_pos rfl] at H
               have H' := Aside0.mk H
               clear H
               have p405 : 0 ≤ (x57_3 : Int) := sO
               have q405 : x57_3 < (l0_0.length : Int) := sO
               obtain ⟨ad405, A405_6, c405_6, e405, hx405_0, hx405_1, hx405_2, hx405_3, hx405_4, hx405_5, hx405_6, hl405_6, hi405_6⟩ := ab65 HR0_0.out HB x57_3 p405 q405
               cases e405
               have HR405_6 := Aside0.mk hi405_6
               have HC405_6 := Aside0.mk hl405_6
               clear hi405_6 hl405_6
               replace p405 := eq_true p405
               replace q405 := eq_true q405
               go_wp2_with (first | ((with_reducible refine gd 7 rfl ?_); (first | refine bxE 7 #[.int .i64 0, .int .i64 0, .int .i64 0, .int .i64 0, .int .i64 0, .string (⟨#[]⟩ : ByteArray), .slice none 0 0] 65 ?_ | refine bgE 7 #[.int .i64 0, .int .i64 0, .int .i64 0, .int .i64 0, .int .i64 0, .string (⟨#[]⟩ : ByteArray), .slice none 0 0] 65 ?_); intro gb406 hg w84 hbox hb; replace HO_5 := nR HO_5 hb; have BK406 := Aside0.mk hbox; have GW406 := nGC hg; have GE406 := nGC hg; replace HB := nSC hb; have NB394_406 := nL BK394 hg; have NB406_394 := nH BK394 hg; replace BK394 := nK BK394 hb; clear hb hbox hg; have hnb85 := NB406_394.out; have hnc85 := NB394_406.out; have hcz86 := cb7 BK406; obtain ⟨Ao87, co87, eo87⟩ := Kd.R_slice HO_5.out; subst eo87; have p411 : 0 ≤ (x57_3 : Int) := sO; have q411 : x57_3 < (t402.length : Int) := sO; obtain ⟨ad411, e411, hx411_0⟩ := Kd.at_int (Kd.R_reads' HO_5.out).2.2 x57_3 p411 q411; cases e411; have hn411_0 : ad411.block ≠ gb406 := Kd.own_blk (Kd.R_ne HO_5.out BK406.out (by decide)); have hn411_1 : ad411.block ≠ gb406 := Kd.own_blk (Kd.R_ne HO_5.out BK406.out (by decide)); have hn411_2 : ad411.block ≠ gb406 := Kd.own_blk (Kd.R_ne HO_5.out BK406.out (by decide)); have hn411_3 : ad411.block ≠ gb406 := Kd.own_blk (Kd.R_ne HO_5.out BK406.out (by decide)); have hn411_4 : ad411.block ≠ gb406 := Kd.own_blk (Kd.R_ne HO_5.out BK406.out (by decide)); have hn411_5 : ad411.block ≠ gb406 := Kd.own_blk (Kd.R_ne HO_5.out BK406.out (by decide)); have hn411_6 : ad411.block ≠ gb406 := Kd.own_blk (Kd.R_ne HO_5.out BK406.out (by decide)); replace hx411_0 := (cell_far (p := ⟨gb406, 0, none⟩) (by first | (rw [add_block]; exact hn411_0) | (show (Addr.add _ _).block ≠ _; rw [add_block]; exact hn411_0) | exact hn411_0) (.int .i64 ((rd_T65 l0_0 x57_3).f0))).trans hx411_0; replace hx411_0 := (cell_far (p := ⟨gb406, 1, none⟩) (by first | (rw [add_block]; exact hn411_1) | (show (Addr.add _ _).block ≠ _; rw [add_block]; exact hn411_1) | exact hn411_1) (.int .i64 ((rd_T65 l0_0 x57_3).f1))).trans hx411_0; replace hx411_0 := (cell_far (p := ⟨gb406, 2, none⟩) (by first | (rw [add_block]; exact hn411_2) | (show (Addr.add _ _).block ≠ _; rw [add_block]; exact hn411_2) | exact hn411_2) (.int .i64 ((rd_T65 l0_0 x57_3).f2))).trans hx411_0; replace hx411_0 := (cell_far (p := ⟨gb406, 3, none⟩) (by first | (rw [add_block]; exact hn411_3) | (show (Addr.add _ _).block ≠ _; rw [add_block]; exact hn411_3) | exact hn411_3) (.int .i64 ((rd_T65 l0_0 x57_3).f3))).trans hx411_0; replace hx411_0 := (cell_far (p := ⟨gb406, 4, none⟩) (by first | (rw [add_block]; exact hn411_4) | (show (Addr.add _ _).block ≠ _; rw [add_block]; exact hn411_4) | exact hn411_4) (.int .i64 ((rd_T65 l0_0 x57_3).f4))).trans hx411_0; replace hx411_0 := (cell_far (p := ⟨gb406, 5, none⟩) (by first | (rw [add_block]; exact hn411_5) | (show (Addr.add _ _).block ≠ _; rw [add_block]; exact hn411_5) | exact hn411_5) (.string ((rd_T65 l0_0 x57_3).f5))).trans hx411_0; replace hx411_0 := (cell_far (p := ⟨gb406, 6, none⟩) (by first | (rw [add_block]; exact hn411_6) | (show (Addr.add _ _).block ≠ _; rw [add_block]; exact hn411_6) | exact hn411_6) (.slice A405_6 ((rd_T65 l0_0 x57_3).f6).length c405_6)).trans hx411_0; clear hn411_0; clear hn411_1; clear hn411_2; clear hn411_3; clear hn411_4; clear hn411_5; clear hn411_6; replace p411 := eq_true p411; replace q411 := eq_true q411) | (go_at_call 66; (with_reducible refine (impl_within.calls (rd t402 x57_3) ji81 1152921504606846976 true _ A82.out).mono ?_); rintro e w' ⟨rfl, ⟨nd, rfl⟩⟩))
               go_roundg k3
               case measure => have := HJ1.out; have := HK2.out; have := HK3.out; omega
               case rel => exact ⟨(wrap64 (x57_3 + 1)), sR, (by first | exact H' | (simp only [hji81]; exact H') | (simp only [hji81]; exact H')), ⟨by have := HJ1.out; have := HK2.out; have := HK3.out; omega⟩, ⟨rRf HO_5 BK406 (fun _ hk => trivial)⟩, ⟨sX BK394⟩, ⟨sC⟩⟩
              ·replace c83 := Bool.eq_false_iff.mpr c83
               subst c83
               rw [if_neg (show ¬ (false = true) by decide)] at H
               obtain rfl := Option.some.inj H
               have p405 : 0 ≤ (x57_3 : Int) := sO
               have q405 : x57_3 < (l0_0.length : Int) := sO
               obtain ⟨ad405, A405_6, c405_6, e405, hx405_0, hx405_1, hx405_2, hx405_3, hx405_4, hx405_5, hx405_6, hl405_6, hi405_6⟩ := ab65 HR0_0.out HB x57_3 p405 q405
               cases e405
               have HR405_6 := Aside0.mk hi405_6
               have HC405_6 := Aside0.mk hl405_6
               clear hi405_6 hl405_6
               replace p405 := eq_true p405
               replace q405 := eq_true q405
               go_wp2_with (first | ((with_reducible refine gd 7 rfl ?_); (first | refine bxE 7 #[.int .i64 0, .int .i64 0, .int .i64 0, .int .i64 0, .int .i64 0, .string (⟨#[]⟩ : ByteArray), .slice none 0 0] 65 ?_ | refine bgE 7 #[.int .i64 0, .int .i64 0, .int .i64 0, .int .i64 0, .int .i64 0, .string (⟨#[]⟩ : ByteArray), .slice none 0 0] 65 ?_); intro gb406 hg w88 hbox hb; replace HO_5 := nR HO_5 hb; have BK406 := Aside0.mk hbox; have GW406 := nGC hg; have GE406 := nGC hg; replace HB := nSC hb; have NB394_406 := nL BK394 hg; have NB406_394 := nH BK394 hg; replace BK394 := nK BK394 hb; clear hb hbox hg; have hnb89 := NB406_394.out; have hnc89 := NB394_406.out; have hcz90 := cb7 BK406; obtain ⟨Ao91, co91, eo91⟩ := Kd.R_slice HO_5.out; subst eo91; have p411 : 0 ≤ (x57_3 : Int) := sO; have q411 : x57_3 < (t402.length : Int) := sO; obtain ⟨ad411, e411, hx411_0⟩ := Kd.at_int (Kd.R_reads' HO_5.out).2.2 x57_3 p411 q411; cases e411; have hn411_0 : ad411.block ≠ gb406 := Kd.own_blk (Kd.R_ne HO_5.out BK406.out (by decide)); have hn411_1 : ad411.block ≠ gb406 := Kd.own_blk (Kd.R_ne HO_5.out BK406.out (by decide)); have hn411_2 : ad411.block ≠ gb406 := Kd.own_blk (Kd.R_ne HO_5.out BK406.out (by decide)); have hn411_3 : ad411.block ≠ gb406 := Kd.own_blk (Kd.R_ne HO_5.out BK406.out (by decide)); have hn411_4 : ad411.block ≠ gb406 := Kd.own_blk (Kd.R_ne HO_5.out BK406.out (by decide)); have hn411_5 : ad411.block ≠ gb406 := Kd.own_blk (Kd.R_ne HO_5.out BK406.out (by decide)); have hn411_6 : ad411.block ≠ gb406 := Kd.own_blk (Kd.R_ne HO_5.out BK406.out (by decide)); replace hx411_0 := (cell_far (p := ⟨gb406, 0, none⟩) (by first | (rw [add_block]; exact hn411_0) | (show (Addr.add _ _).block ≠ _; rw [add_block]; exact hn411_0) | exact hn411_0) (.int .i64 ((rd_T65 l0_0 x57_3).f0))).trans hx411_0; replace hx411_0 := (cell_far (p := ⟨gb406, 1, none⟩) (by first | (rw [add_block]; exact hn411_1) | (show (Addr.add _ _).block ≠ _; rw [add_block]; exact hn411_1) | exact hn411_1) (.int .i64 ((rd_T65 l0_0 x57_3).f1))).trans hx411_0; replace hx411_0 := (cell_far (p := ⟨gb406, 2, none⟩) (by first | (rw [add_block]; exact hn411_2) | (show (Addr.add _ _).block ≠ _; rw [add_block]; exact hn411_2) | exact hn411_2) (.int .i64 ((rd_T65 l0_0 x57_3).f2))).trans hx411_0; replace hx411_0 := (cell_far (p := ⟨gb406, 3, none⟩) (by first | (rw [add_block]; exact hn411_3) | (show (Addr.add _ _).block ≠ _; rw [add_block]; exact hn411_3) | exact hn411_3) (.int .i64 ((rd_T65 l0_0 x57_3).f3))).trans hx411_0; replace hx411_0 := (cell_far (p := ⟨gb406, 4, none⟩) (by first | (rw [add_block]; exact hn411_4) | (show (Addr.add _ _).block ≠ _; rw [add_block]; exact hn411_4) | exact hn411_4) (.int .i64 ((rd_T65 l0_0 x57_3).f4))).trans hx411_0; replace hx411_0 := (cell_far (p := ⟨gb406, 5, none⟩) (by first | (rw [add_block]; exact hn411_5) | (show (Addr.add _ _).block ≠ _; rw [add_block]; exact hn411_5) | exact hn411_5) (.string ((rd_T65 l0_0 x57_3).f5))).trans hx411_0; replace hx411_0 := (cell_far (p := ⟨gb406, 6, none⟩) (by first | (rw [add_block]; exact hn411_6) | (show (Addr.add _ _).block ≠ _; rw [add_block]; exact hn411_6) | exact hn411_6) (.slice A405_6 ((rd_T65 l0_0 x57_3).f6).length c405_6)).trans hx411_0; clear hn411_0; clear hn411_1; clear hn411_2; clear hn411_3; clear hn411_4; clear hn411_5; clear hn411_6; replace p411 := eq_true p411; replace q411 := eq_true q411) | (go_at_call 66; (with_reducible refine (impl_within.calls (rd t402 x57_3) ji81 1152921504606846976 false _ A82.out).mono ?_); rintro e w' ⟨rfl, ⟨nd, rfl⟩⟩))
               go_ret
               exact ⟨by first | rfl | (simp [errW_none, errW_some] <;> rfl) | (simp [errW_none, errW_some]; exact isEmpty_ne _) | (simp only [← hji81]; first | rfl | (simp [errW_none, errW_some] <;> rfl)) | (simp [*, errW_none, errW_some] <;> rfl), sC⟩
          ·rw [if_neg c39] at H
           have c39b0 := decide_eq_false c39
           clear c39
           by_cases c92 : 0 ≤ (l0_0.length : Int)
           ·rw [if_pos c92] at H
            have c92b0 := eq_true c92
            have c92b1 := decide_eq_true c92
            clear c92
            obtain ⟨c93, H⟩ := iN H
            have c93b0 := eq_true c93
            have c93b1 := decide_eq_true c93
            clear c93
            obtain ⟨y413, hy413⟩ : ∃ y_ : List Bool, y_ = (List.replicate ((l0_0.length : Int) : Int).toNat false) := ⟨_, rfl⟩
            replace H : (impl_GoodFs.l2 k3 y413 (([0] : List Int)) 0 l0_0 a0_1) = some r := by first | (rw [hy413]; with_reducible exact H) | (have H2_ := (Option.bind_some _ _).symm.trans H; rw [hy413]; with_reducible exact H2_) | (have H2_ := (Option.bind_some _ _).symm.trans H; with_reducible exact H2_) | with_reducible exact H | (rw [hy413]; exact H) | exact H
            have Ny413 := Aside0.mk hy413
            clear hy413
            obtain ⟨y416, hy416⟩ : ∃ y_ : List Int, y_ = (([0] : List Int)) := ⟨_, rfl⟩
            replace H : (impl_GoodFs.l2 k3 y413 y416 0 l0_0 a0_1) = some r := by first | (rw [hy416]; with_reducible exact H) | (have H2_ := (Option.bind_some _ _).symm.trans H; rw [hy416]; with_reducible exact H2_) | (have H2_ := (Option.bind_some _ _).symm.trans H; with_reducible exact H2_) | with_reducible exact H | (rw [hy416]; exact H) | exact H
            have Ny416 := Aside0.mk hy416
            clear hy416
            have H' := Aside0.mk H
            clear H
            have hcz94 := cb2 BK394
            go_wp2_with (first | ((with_reducible refine gate_dst (N := 87) rfl ?_); (try (refine gate_guard (by rfl) ?_; dsimp only)); refine Kd.R_make Kd.bool _ 4 rfl (N := 87) rfl 102 _ _ rfl (l0_0.length : Int) rfl rfl Tryz.underlying102 (.bool false) 1 info4 rfl (by decide) (by omega) false (ok := fun _ => True) (okp := fun _ => True) rfl (fun _ hk => hk) trivial (sO) (Nat.le_trans (Nat.mul_le_mul_right _ (sO : (l0_0.length : Int).toNat ≤ 281474976710656)) (by omega)) (Below.refl _ _) (Nat.le_refl _) ?_; intro v414 w95 ho96 hb hg_ hnew_; clear hg_ hnew_; (first | rw [← Ny413.out] at ho96 | (simp only [Int.reduceToNat] at ho96; rw [← Ny413.out] at ho96)); replace HO_5 := nR HO_5 hb; have HO415 := Aside0.mk (Kd.R_lower ho96 (below_size sC)); replace BK394 := nK BK394 hb; replace HB := nSC hb; clear hb ho96) | ((with_reducible refine gate_dst (N := 88) rfl ?_); (try (refine gate_guard (by rfl) ?_; dsimp only)); refine Kd.R_lit (Kd.int .i64) _ 3 ?hg (N := 88) ?hd (xs := ([0] : List Int)) (inner := [.int .i64 0]) (ok := fun _ => True) (okp := fun _ => True) ?hr ?hp (fun _ hk => hk) trivial (Below.refl _ _) (Nat.le_refl _) (by simp) ?_; (case hd => rfl); (case hg => rfl); (case hr => first | (go_simp; done) | (go_simp; rfl)); (case hp => exact (Reps.one (show Kd.M (Kd.int .i64) _ _ _ 0 [.int .i64 0] from rfl) (Reps.none _ _))); intro v417 w97 ho98 hb hg_ hnew_; clear hg_ hnew_; (first | rw [← Ny416.out] at ho98 | (simp only [Int.reduceToNat] at ho98; rw [← Ny416.out] at ho98)); replace HO415 := nR HO415 hb; have HO418 := Aside0.mk (Kd.R_lower (Kd.R_new' ho98 (Kd.R_lt (by (with_reducible repeat (first | apply Kd.R_alloc | apply Kd.R_drewN | apply Kd.R_drew)); exact HO_5.out))) (below_size sC)); replace HO_5 := Aside0.mk (Kd.R_elder' (by (with_reducible repeat (first | apply Kd.R_alloc | apply Kd.R_drewN | apply Kd.R_drew)); exact HO_5.out) (Kd.R_base ho98) hb); replace BK394 := nK BK394 hb; replace HB := nSC hb; clear hb ho98))
            go_loopg [10, 11] k3 (fun kq v10 v11 w' => ∃ (x9_4 : List Bool) (x10_4 : List Int) (x11_4 : Int), v11 = .int .i64 x11_4 ∧ Aside0 (impl_GoodFs.l2 kq x9_4 x10_4 x11_4 l0_0 a0_1 = some r) ∧ Aside0 (kq ≤ k3) ∧ Aside0 (Kd.R Kd.bool 4 w' w.heap.size (fun _ => True) v414 x9_4) ∧ Aside0 (Kd.R (Kd.int .i64) 3 w' w.heap.size (fun _ => True) v10 x10_4) ∧ Aside0 (w'.heap[gb394]? = some (.cells #[(.slice A0_0 l0_0.length c0_0), .int .i64 a0_1] 30 (0, 0))) ∧ Aside0 (Below w.heap.size w w'))
            case atStart => exact ⟨(y413), (y416), (0), sR, H', ⟨Nat.le_refl _⟩, ⟨rR HO415⟩, ⟨by (with_reducible repeat (first | apply Kd.R_alloc | apply Kd.R_drewN | apply Kd.R_drew)); exact Kd.R_mono HO418.out (fun _ hk => trivial)⟩, ⟨sK BK394⟩, ⟨sC⟩⟩
            case round =>
             clear H'
             try clear c1
             try clear c2
             try clear p2
             try clear c3
             try clear p3
             try clear q3
             try clear hx3
             try clear qi3
             try clear c4
             try clear p4
             try clear q4
             try clear hx4
             try clear c5
             try clear c6
             try clear p6
             try clear c7
             try clear c8
             try clear c8b0
             try clear c8b1
             try clear c9
             try clear c12
             try clear c14
             try clear c14b0
             try clear c15
             try clear c15b0
             try clear c16
             try clear c16b0
             try clear c18
             try clear c20
             try clear c25
             try clear c30
             try clear c30b0
             try clear c39
             try clear c39b0
             try clear p39
             try clear q39
             try clear hx39
             try clear c40
             try clear c40b0
             try clear p40
             try clear q40
             try clear hx40
             try clear c41
             try clear c41b0
             try clear p41
             try clear q41
             try clear hx41
             try clear c42
             try clear c42b0
             try clear c42b1
             try clear c43
             try clear c43b0
             try clear c43b1
             try clear c45
             try clear c47
             try clear c47b0
             try clear c50
             try clear c52
             try clear c56
             try clear c59
             try clear c59b0
             try clear c59b1
             try clear c60
             try clear c60b0
             try clear c60b1
             try clear c62
             try clear c64
             try clear c64b0
             try clear p64
             try clear c67
             try clear c69
             try clear c70
             try clear c73
             try clear c76
             try clear c76b0
             try clear c76b1
             try clear c78
             try clear c80
             try clear c80b0
             try clear c83
             try clear c85
             try clear c89
             try clear c92
             try clear c92b0
             try clear c92b1
             try clear c93
             try clear c93b0
             try clear c93b1
             try clear hcz10
             try clear hcz11
             try clear hcz13
             try clear hcz21
             try clear hcz22
             try clear hcz26
             try clear hcz27
             try clear hcz36
             try clear hcz38
             try clear hcz46
             try clear hcz53
             try clear hcz57
             try clear hcz63
             try clear hcz70
             try clear hcz74
             try clear hcz79
             try clear hcz86
             try clear hcz90
             try clear hcz94
             try clear hcz9
             try clear hx397_0
             try clear hx397_1
             try clear hx397_2
             try clear hx397_3
             try clear hx397_4
             try clear hx397_5
             try clear hx397_6
             try clear hx398_0
             try clear hx398_1
             try clear hx398_2
             try clear hx398_3
             try clear hx398_4
             try clear hx398_5
             try clear hx398_6
             try clear hx405_0
             try clear hx405_1
             try clear hx405_2
             try clear hx405_3
             try clear hx405_4
             try clear hx405_5
             try clear hx405_6
             try clear hx407_0
             try clear hx409_0
             try clear hx411_0
             try clear p2
             try clear p3
             try clear p397
             try clear p398
             try clear p405
             try clear p407
             try clear p409
             try clear p411
             try clear p6
             try clear q3
             try clear q397
             try clear q398
             try clear q405
             try clear q407
             try clear q409
             try clear q411
             obtain ⟨x9_4, x10_4, x11_4, rfl, HA, HK4, HO_9, HO_10, BK394, HB⟩ := hrel
             cases gk with
             | zero => exact absurd HA.out (by simp [impl_GoodFs.l2])
             | succ k4 =>
              have H := HA.out
              clear HA
              simp only [impl_GoodFs.l2] at H
              by_cases c99 : x11_4 < (x10_4.length : Int)
              ·rw [if_pos c99] at H
               have c99b0 := decide_eq_true c99
               clear c99
               obtain ⟨c100, H⟩ := iN H
               have c100b0 := decide_eq_true c100
               clear c100
               obtain ⟨c101, H⟩ := iN H
               have c101b0 := decide_eq_true c101
               clear c101
               obtain ⟨c102, H⟩ := iN H
               have c102b0 := decide_eq_true c102
               clear c102
               obtain ⟨y420, hy420⟩ : ∃ y_ : List Bool, y_ = (x9_4.set ((rd x10_4 x11_4) : Int).toNat true) := ⟨_, rfl⟩
               replace H : (if (rd x10_4 x11_4) < (l0_0.length : Int) then (impl_GoodFs.l3 k4 y420 x10_4 x11_4 ((rd_T65 l0_0 (rd x10_4 x11_4)).f6) (((rd_T65 l0_0 (rd x10_4 x11_4)).f6).length : Int) 0 l0_0 a0_1) else (none)) = some r := by first | (rw [hy420]; with_reducible exact H) | (have H2_ := (Option.bind_some _ _).symm.trans H; rw [hy420]; with_reducible exact H2_) | (have H2_ := (Option.bind_some _ _).symm.trans H; with_reducible exact H2_) | with_reducible exact H | (rw [hy420]; exact H) | exact H
               have Ny420 := Aside0.mk hy420
               clear hy420
               obtain ⟨c104, H⟩ := iN H
               have c104b0 := decide_eq_true c104
               clear c104
               have H' := Aside0.mk H
               clear H
               obtain ⟨Ao105, co105, eo105⟩ := Kd.R_slice HO_10.out
               subst eo105
               have p419 : 0 ≤ (x11_4 : Int) := sO
               have q419 : x11_4 < (x10_4.length : Int) := sO
               obtain ⟨ad419, e419, hx419_0⟩ := Kd.at_int (Kd.R_reads' HO_10.out).2.2 x11_4 p419 q419
               cases e419
               replace p419 := eq_true p419
               replace q419 := eq_true q419
               have p103 : 0 ≤ ((rd x10_4 x11_4) : Int) := sO
               have q103 : ((rd x10_4 x11_4) : Int) < ((x9_4.length : Int) : Int) := sO
               obtain ⟨go103, co103, eo103, gb103, gl103, cl103, HG103⟩ := Kd.R_form HO_9.out (by omega)
               (first | cases eo103 | (injection eo103 with ea_ en_ ec_; (first | subst ea_ | (injection ea_ with ea_; subst ea_)); subst ec_; clear en_))
               have GB103 := Aside0.mk gb103
               have GG103 := Aside0.mk HG103
               clear gb103 gl103 HG103
               obtain ⟨hx103_0, hf103_0⟩ := Kd.R_celln false HO_9.out ((rd x10_4 x11_4) : Int) p103 q103
               replace p103 := eq_true p103
               replace q103 := eq_true q103
               have HP106 := Kd.R_putg HO_9.out ((rd x10_4 x11_4) : Int) true
               try go_wp2_with (first | ((with_reducible refine gate_store (t := 4) (p := 100) rfl ?_); refine store_event (t := 4) (p := 100) (v := ?vo_w107) (w1 := (wr.setCell ⟨go103, ((rd x10_4 x11_4) : Int).toNat, none⟩ (.bool true))) ?hg ?ho ?hn ?hr ?_; (case ho => rfl); (case hg => rfl); (case hn => rfl); (case hr => first | (go_simp; done) | (go_simp; rfl)); intro w107 hw; have hg : wr.grownBy w107 (some go103) := (by rw [hw]; exact HP106.2); have hp_ : Kd.R Kd.bool 4 w107 w.heap.size (fun _ => True) (.slice (some ⟨go103, 0, none⟩) x9_4.length co103) y420 := (by rw [hw, Ny420.out]; exact HP106.1); clear HP106; replace HO_10 := Aside0.mk (Kd.R_over' (v := (.slice (some ⟨go103, 0, none⟩) x9_4.length co103)) (by (with_reducible repeat (first | apply Kd.R_alloc | apply Kd.R_drewN | apply Kd.R_drew)); exact HO_10.out) (Kd.R_typed HO_9.out) (by decide) hg); replace BK394 := Aside0.mk (blk_grown (g := gb394) (o := .cells #[.slice A0_0 l0_0.length c0_0, .int .i64 a0_1] 30 (0, 0)) (sK BK394) hg (Kd.R_ne HO_9.out BK394.out (by decide))); replace HO_9 := Aside0.mk (hp_); replace HB := Aside0.mk ((by rw [hw]; exact below_set (HB.out) GB103.out : Below w.heap.size w w107)); clear hg hw hp_))
               have n0_ := Aside0.mk (Kd.R_drew HO_9.out)
               have n1_ := Aside0.mk (Kd.R_drew HO_10.out)
               have n2_ := Aside0.mk (blk_drew BK394.out)
               have n3_ := Aside0.mk (below_drew1 HB.out)
               clear HO_9
               clear HO_10
               clear BK394
               clear HB
               have HO_9 := n0_
               have HO_10 := n1_
               have BK394 := n2_
               have HB := n3_
               clear n0_ n1_ n2_ n3_
               have p421 : 0 ≤ (x11_4 : Int) := sO
               have q421 : x11_4 < (x10_4.length : Int) := sO
               obtain ⟨ad421, e421, hx421_0⟩ := Kd.at_int (Kd.R_reads' HO_10.out).2.2 x11_4 p421 q421
               obtain rfl : ad419 = ad421 := (by injection e421)
               replace p421 := eq_true p421
               replace q421 := eq_true q421
               have p422 : 0 ≤ ((rd x10_4 x11_4) : Int) := sO
               have q422 : (rd x10_4 x11_4) < (l0_0.length : Int) := sO
               obtain ⟨ad422, A422_6, c422_6, e422, hx422_0, hx422_1, hx422_2, hx422_3, hx422_4, hx422_5, hx422_6, hl422_6, hi422_6⟩ := at_T65 HR0_0.out (rd x10_4 x11_4) p422 q422
               have hw422_6 := hx422_6
               have hw422_5 := hx422_5
               have hw422_4 := hx422_4
               have hw422_3 := hx422_3
               have hw422_2 := hx422_2
               have hw422_1 := hx422_1
               have hw422_0 := hx422_0
               cases e422
               replace hx422_0 := hB HB hx422_0
               replace hx422_1 := hB HB hx422_1
               replace hx422_2 := hB HB hx422_2
               replace hx422_3 := hB HB hx422_3
               replace hx422_4 := hB HB hx422_4
               replace hx422_5 := hB HB hx422_5
               replace hx422_6 := hB HB hx422_6
               have HR422_6 := Aside0.mk hi422_6
               have HC422_6 := Aside0.mk hl422_6
               clear hi422_6 hl422_6
               replace p422 := eq_true p422
               replace q422 := eq_true q422
               refine st10 11 [] (cz0 BK394) (cz1 BK394) hx421_0 (hB HB hw422_0 :) (hB HB hw422_1 :) (hB HB hw422_2 :) (hB HB hw422_3 :) (hB HB hw422_4 :) (hB HB hw422_5 :) (hB HB hw422_6 :) (fun hHeld => ?_); refine with_tabW impl_GoodFs.tab29 impl_GoodFs.bits29 (fun HT_ HW_ => ?_)
               generalize w107.drew = w108 at HO_9 HO_10 BK394 HB HR422_6 hx421_0 hx422_0 hx422_1 hx422_2 hx422_3 hx422_4 hx422_5 hx422_6 hHeld ⊢
               refine pu 0 101 ?_
               refine pu 2 103 ?_
               refine pu 3 104 ?_
               refine pu 4 105 ?_
               refine pu 10 111 ?_
               refine tk10 1 102 ?_
               refine tk10 5 106 ?_
               refine pu 6 107 ?_
               refine pu 7 108 ?_
               refine tk10 8 109 ?_
               refine pu 9 110 ?_
               refine dn ?_
               try go_wp2
               go_loopg [10, 111] k4 (fun kq v10 v111 w' => ∃ (x10_5 : List Int) (x111_5 : Int), v111 = .int .i64 x111_5 ∧ Aside0 (impl_GoodFs.l3 kq y420 x10_5 x11_4 ((rd_T65 l0_0 (rd x10_4 x11_4)).f6) (((rd_T65 l0_0 (rd x10_4 x11_4)).f6).length : Int) x111_5 l0_0 a0_1 = some r) ∧ Aside0 (kq ≤ k4) ∧ Aside0 (Kd.R Kd.bool 4 w' w.heap.size (fun _ => True) (.slice (some ⟨go103, 0, none⟩) x9_4.length co103) y420) ∧ Aside0 (Kd.R (Kd.int .i64) 3 w' w.heap.size (fun _ => True) v10 x10_5) ∧ Aside0 (w'.heap[gb394]? = some (.cells #[(.slice (some ad422) l0_0.length c0_0), .int .i64 a0_1] 30 (0, 0))) ∧ Aside0 (Below w.heap.size w w'))
               case atStart => exact ⟨(x10_4), (0), sR, H', ⟨Nat.le_refl _⟩, ⟨rR HO_9⟩, ⟨rR HO_10⟩, ⟨sK BK394⟩, ⟨sC⟩⟩
               case round =>
                clear H'
                try clear c1
                try clear p1
                try clear q1
                try clear hx1
                try clear hf1
                try clear c2
                try clear p2
                try clear c3
                try clear p3
                try clear q3
                try clear hx3
                try clear qi3
                try clear c4
                try clear p4
                try clear q4
                try clear hx4
                try clear c5
                try clear c6
                try clear p6
                try clear c7
                try clear c8
                try clear c8b0
                try clear c8b1
                try clear c9
                try clear c10
                try clear p10
                try clear q10
                try clear hx10
                try clear hf10
                try clear c12
                try clear c14
                try clear c14b0
                try clear c15
                try clear c15b0
                try clear c16
                try clear c16b0
                try clear c18
                try clear c20
                try clear c25
                try clear c30
                try clear c30b0
                try clear c39
                try clear c39b0
                try clear p39
                try clear q39
                try clear hx39
                try clear c40
                try clear c40b0
                try clear p40
                try clear q40
                try clear hx40
                try clear c41
                try clear c41b0
                try clear p41
                try clear q41
                try clear hx41
                try clear c42
                try clear c42b0
                try clear c42b1
                try clear p42
                try clear q42
                try clear hx42
                try clear c43
                try clear c43b0
                try clear c43b1
                try clear c45
                try clear c47
                try clear c47b0
                try clear c50
                try clear c52
                try clear c56
                try clear c59
                try clear c59b0
                try clear c59b1
                try clear c60
                try clear c60b0
                try clear c60b1
                try clear c62
                try clear c64
                try clear c64b0
                try clear p64
                try clear c67
                try clear c69
                try clear c70
                try clear c73
                try clear c76
                try clear c76b0
                try clear c76b1
                try clear c78
                try clear c80
                try clear c80b0
                try clear c83
                try clear c85
                try clear c89
                try clear c92
                try clear c92b0
                try clear c92b1
                try clear c93
                try clear c93b0
                try clear c93b1
                try clear c99
                try clear c99b0
                try clear c100
                try clear c100b0
                try clear c101
                try clear c101b0
                try clear c102
                try clear c102b0
                try clear p103
                try clear q103
                try clear hx103
                try clear hf103
                try clear c104
                try clear c104b0
                try clear hcz10
                try clear hcz11
                try clear hcz13
                try clear hcz21
                try clear hcz22
                try clear hcz26
                try clear hcz27
                try clear hcz36
                try clear hcz38
                try clear hcz46
                try clear hcz53
                try clear hcz57
                try clear hcz63
                try clear hcz70
                try clear hcz74
                try clear hcz79
                try clear hcz86
                try clear hcz90
                try clear hcz94
                try clear hcz9
                try clear hx103_0
                try clear hx397_0
                try clear hx397_1
                try clear hx397_2
                try clear hx397_3
                try clear hx397_4
                try clear hx397_5
                try clear hx397_6
                try clear hx398_0
                try clear hx398_1
                try clear hx398_2
                try clear hx398_3
                try clear hx398_4
                try clear hx398_5
                try clear hx398_6
                try clear hx405_0
                try clear hx405_1
                try clear hx405_2
                try clear hx405_3
                try clear hx405_4
                try clear hx405_5
                try clear hx405_6
                try clear hx407_0
                try clear hx409_0
                try clear hx411_0
                try clear hx419_0
                try clear hx421_0
                try clear hx422_0
                try clear hx422_1
                try clear hx422_2
                try clear hx422_3
                try clear hx422_4
                try clear hx422_5
                try clear hx422_6
                try clear p103
                try clear p2
                try clear p3
                try clear p39
                try clear p397
                try clear p398
                try clear p4
                try clear p40
                try clear p405
                try clear p407
                try clear p409
                try clear p41
                try clear p411
                try clear p419
                try clear p421
                try clear p422
                try clear p6
                try clear p64
                try clear q103
                try clear q3
                try clear q39
                try clear q397
                try clear q398
                try clear q4
                try clear q40
                try clear q405
                try clear q407
                try clear q409
                try clear q41
                try clear q411
                try clear q419
                try clear q421
                try clear q422
                obtain ⟨x10_5, x111_5, rfl, HA, HK5, HO_9, HO_10, BK394, HB⟩ := hrel
                have hl9_5 := (Kd.R_reads' HO_9.out).1
                rw [hl9_5] at HO_9
                (try simp only [hl9_5])
                (try simp only [hl9_5] at BK394)
                (try simp only [hl9_5] at HO_10)
                cases gk with
                | zero => exact absurd HA.out (by simp [impl_GoodFs.l3])
                | succ k5 =>
                 have H := HA.out
                 clear HA
                 simp only [impl_GoodFs.l3] at H
                 by_cases c109 : x111_5 < (((rd_T65 l0_0 (rd x10_4 x11_4)).f6).length : Int)
                 ·rw [if_pos c109] at H
                  have c109b0 := decide_eq_true c109
                  clear c109
                  obtain ⟨c110, H⟩ := iN H
                  have c110b0 := decide_eq_true c110
                  clear c110
                  obtain ⟨c111, H⟩ := iN H
                  have c111b0 := decide_eq_true c111
                  clear c111
                  obtain ⟨c112, H⟩ := iN H
                  have c112b0 := decide_eq_true c112
                  clear c112
                  obtain ⟨c113, H⟩ := iN H
                  have c113b0 := decide_eq_true c113
                  clear c113
                  by_cases c114 : ((rd_T65 l0_0 ((rd_T104 ((rd_T65 l0_0 (rd x10_4 x11_4)).f6) x111_5).f1)).f0) = 2
                  ·rw [if_pos c114] at H
                   have c114b0 := beq_iff_eq.mpr c114
                   have c114b1 := bne_eq_false_iff_eq.mpr c114
                   clear c114
                   obtain ⟨c115, H⟩ := iN H
                   have c115b0 := decide_eq_true c115
                   clear c115
                   obtain ⟨bq116, hbq116⟩ : ∃ b_ : Bool, b_ = (rdOf false y420 ((rd_T104 ((rd_T65 l0_0 (rd x10_4 x11_4)).f6) x111_5).f1)) := ⟨_, rfl⟩
                   replace H : (if (bq116 = true) then (impl_GoodFs.l3 k5 y420 x10_5 x11_4 ((rd_T65 l0_0 (rd x10_4 x11_4)).f6) (((rd_T65 l0_0 (rd x10_4 x11_4)).f6).length : Int) (wrap64 (x111_5 + 1)) l0_0 a0_1) else (if x10_5.length < 17592186044416 then (impl_GoodFs.l3 k5 y420 (x10_5 ++ [(rd_T104 ((rd_T65 l0_0 (rd x10_4 x11_4)).f6) x111_5).f1]) x11_4 ((rd_T65 l0_0 (rd x10_4 x11_4)).f6) (((rd_T65 l0_0 (rd x10_4 x11_4)).f6).length : Int) (wrap64 (x111_5 + 1)) l0_0 a0_1) else (none))) = some r := by rw [← hbq116] at H; exact H
                   have Nbq116 := Aside0.mk hbq116
                   clear hbq116
                   by_cases c117 : (bq116 = true)
                   ·subst c117
                    rw [if_pos rfl] at H
                    have H' := Aside0.mk H
                    clear H
                    have p423 : 0 ≤ (x111_5 : Int) := sO
                    have q423 : x111_5 < (((rd_T65 l0_0 (rd x10_4 x11_4)).f6).length : Int) := sO
                    obtain ⟨ad423, e423, hx423_0, hx423_1⟩ := ab104 HR422_6.out HB x111_5 p423 q423
                    cases e423
                    replace p423 := eq_true p423
                    replace q423 := eq_true q423
                    go_wp2_with (first | ((with_reducible refine gd 13 rfl ?_); (first | refine bxE 13 #[.string (⟨#[]⟩ : ByteArray), .int .i64 0] 104 ?_ | refine bgE 13 #[.string (⟨#[]⟩ : ByteArray), .int .i64 0] 104 ?_); intro gb424 hg w118 hbox hb; replace HO_9 := nR HO_9 hb; replace HO_10 := nR HO_10 hb; have BK424 := Aside0.mk hbox; have GW424 := nGC hg; have GE424 := nGC hg; replace HB := nSC hb; have NB394_424 := nL BK394 hg; have NB424_394 := nH BK394 hg; replace BK394 := nK BK394 hb; clear hb hbox hg; have hnb119 := NB424_394.out; have hnc119 := NB394_424.out; have hcz120 := cb2 BK424; have hcz121 := cb2 BK394; have p425 : 0 ≤ (((rd_T104 ((rd_T65 l0_0 (rd x10_4 x11_4)).f6) x111_5).f1) : Int) := sO; have q425 : ((rd_T104 ((rd_T65 l0_0 (rd x10_4 x11_4)).f6) x111_5).f1) < (l0_0.length : Int) := sO; obtain ⟨ad425, A425_6, c425_6, e425, hx425_0, hx425_1, hx425_2, hx425_3, hx425_4, hx425_5, hx425_6, hl425_6, hi425_6⟩ := at_T65 HR0_0.out ((rd_T104 ((rd_T65 l0_0 (rd x10_4 x11_4)).f6) x111_5).f1) p425 q425; obtain rfl : ad422 = ad425 := (by injection e425); have hn425_0 : ad422.block ≠ gb424 := Nat.ne_of_lt (Nat.lt_of_lt_of_le (by have := World.block_lt_of_cell? _ _ hx425_0; first | rwa [add_block] at this | exact this) GW424.out); have hn425_1 : ad422.block ≠ gb424 := Nat.ne_of_lt (Nat.lt_of_lt_of_le (by have := World.block_lt_of_cell? _ _ hx425_0; first | rwa [add_block] at this | exact this) GW424.out); replace hx425_0 := hB HB hx425_0; replace hx425_1 := hB HB hx425_1; replace hx425_2 := hB HB hx425_2; replace hx425_3 := hB HB hx425_3; replace hx425_4 := hB HB hx425_4; replace hx425_5 := hB HB hx425_5; replace hx425_6 := hB HB hx425_6; have HR425_6 := Aside0.mk hi425_6; have HC425_6 := Aside0.mk hl425_6; clear hi425_6 hl425_6; replace hx425_0 := (cell_far (p := ⟨gb424, 0, none⟩) (by first | (rw [add_block]; exact hn425_0) | (show (Addr.add _ _).block ≠ _; rw [add_block]; exact hn425_0) | exact hn425_0) (.string ((rd_T104 ((rd_T65 l0_0 (rd x10_4 x11_4)).f6) x111_5).f0))).trans hx425_0; replace hx425_1 := (cell_far (p := ⟨gb424, 0, none⟩) (by first | (rw [add_block]; exact hn425_0) | (show (Addr.add _ _).block ≠ _; rw [add_block]; exact hn425_0) | exact hn425_0) (.string ((rd_T104 ((rd_T65 l0_0 (rd x10_4 x11_4)).f6) x111_5).f0))).trans hx425_1; replace hx425_2 := (cell_far (p := ⟨gb424, 0, none⟩) (by first | (rw [add_block]; exact hn425_0) | (show (Addr.add _ _).block ≠ _; rw [add_block]; exact hn425_0) | exact hn425_0) (.string ((rd_T104 ((rd_T65 l0_0 (rd x10_4 x11_4)).f6) x111_5).f0))).trans hx425_2; replace hx425_3 := (cell_far (p := ⟨gb424, 0, none⟩) (by first | (rw [add_block]; exact hn425_0) | (show (Addr.add _ _).block ≠ _; rw [add_block]; exact hn425_0) | exact hn425_0) (.string ((rd_T104 ((rd_T65 l0_0 (rd x10_4 x11_4)).f6) x111_5).f0))).trans hx425_3; replace hx425_4 := (cell_far (p := ⟨gb424, 0, none⟩) (by first | (rw [add_block]; exact hn425_0) | (show (Addr.add _ _).block ≠ _; rw [add_block]; exact hn425_0) | exact hn425_0) (.string ((rd_T104 ((rd_T65 l0_0 (rd x10_4 x11_4)).f6) x111_5).f0))).trans hx425_4; replace hx425_5 := (cell_far (p := ⟨gb424, 0, none⟩) (by first | (rw [add_block]; exact hn425_0) | (show (Addr.add _ _).block ≠ _; rw [add_block]; exact hn425_0) | exact hn425_0) (.string ((rd_T104 ((rd_T65 l0_0 (rd x10_4 x11_4)).f6) x111_5).f0))).trans hx425_5; replace hx425_6 := (cell_far (p := ⟨gb424, 0, none⟩) (by first | (rw [add_block]; exact hn425_0) | (show (Addr.add _ _).block ≠ _; rw [add_block]; exact hn425_0) | exact hn425_0) (.string ((rd_T104 ((rd_T65 l0_0 (rd x10_4 x11_4)).f6) x111_5).f0))).trans hx425_6; replace hx425_0 := (cell_far (p := ⟨gb424, 1, none⟩) (by first | (rw [add_block]; exact hn425_1) | (show (Addr.add _ _).block ≠ _; rw [add_block]; exact hn425_1) | exact hn425_1) (.int .i64 ((rd_T104 ((rd_T65 l0_0 (rd x10_4 x11_4)).f6) x111_5).f1))).trans hx425_0; replace hx425_1 := (cell_far (p := ⟨gb424, 1, none⟩) (by first | (rw [add_block]; exact hn425_1) | (show (Addr.add _ _).block ≠ _; rw [add_block]; exact hn425_1) | exact hn425_1) (.int .i64 ((rd_T104 ((rd_T65 l0_0 (rd x10_4 x11_4)).f6) x111_5).f1))).trans hx425_1; replace hx425_2 := (cell_far (p := ⟨gb424, 1, none⟩) (by first | (rw [add_block]; exact hn425_1) | (show (Addr.add _ _).block ≠ _; rw [add_block]; exact hn425_1) | exact hn425_1) (.int .i64 ((rd_T104 ((rd_T65 l0_0 (rd x10_4 x11_4)).f6) x111_5).f1))).trans hx425_2; replace hx425_3 := (cell_far (p := ⟨gb424, 1, none⟩) (by first | (rw [add_block]; exact hn425_1) | (show (Addr.add _ _).block ≠ _; rw [add_block]; exact hn425_1) | exact hn425_1) (.int .i64 ((rd_T104 ((rd_T65 l0_0 (rd x10_4 x11_4)).f6) x111_5).f1))).trans hx425_3; replace hx425_4 := (cell_far (p := ⟨gb424, 1, none⟩) (by first | (rw [add_block]; exact hn425_1) | (show (Addr.add _ _).block ≠ _; rw [add_block]; exact hn425_1) | exact hn425_1) (.int .i64 ((rd_T104 ((rd_T65 l0_0 (rd x10_4 x11_4)).f6) x111_5).f1))).trans hx425_4; replace hx425_5 := (cell_far (p := ⟨gb424, 1, none⟩) (by first | (rw [add_block]; exact hn425_1) | (show (Addr.add _ _).block ≠ _; rw [add_block]; exact hn425_1) | exact hn425_1) (.int .i64 ((rd_T104 ((rd_T65 l0_0 (rd x10_4 x11_4)).f6) x111_5).f1))).trans hx425_5; replace hx425_6 := (cell_far (p := ⟨gb424, 1, none⟩) (by first | (rw [add_block]; exact hn425_1) | (show (Addr.add _ _).block ≠ _; rw [add_block]; exact hn425_1) | exact hn425_1) (.int .i64 ((rd_T104 ((rd_T65 l0_0 (rd x10_4 x11_4)).f6) x111_5).f1))).trans hx425_6; clear hn425_0; clear hn425_1; replace p425 := eq_true p425; replace q425 := eq_true q425; have p426 : 0 ≤ (((rd_T104 ((rd_T65 l0_0 (rd x10_4 x11_4)).f6) x111_5).f1) : Int) := sO; have q426 : ((rd_T104 ((rd_T65 l0_0 (rd x10_4 x11_4)).f6) x111_5).f1) < (y420.length : Int) := sO; obtain ⟨ad426, e426, hx426_0⟩ := Kd.at_bool (Kd.R_reads' HO_9.out).2.2 ((rd_T104 ((rd_T65 l0_0 (rd x10_4 x11_4)).f6) x111_5).f1) p426 q426; (try rw [← Nbq116.out] at hx426_0); obtain rfl : (⟨go103, 0, none⟩ : Addr) = ad426 := (by injection e426); (first | simp only [add_plain] at hx426_0 | simp only [add_at] at hx426_0 | simp only [Addr.add, Nat.zero_add] at hx426_0 | skip); have hn426_0 : (⟨go103, 0, none⟩ : Addr).block ≠ gb424 := Kd.own_blk (Kd.R_ne HO_9.out BK424.out (by decide)); have hn426_1 : (⟨go103, 0, none⟩ : Addr).block ≠ gb424 := Kd.own_blk (Kd.R_ne HO_9.out BK424.out (by decide)); replace hx426_0 := (cell_far (p := ⟨gb424, 0, none⟩) (by first | (rw [add_block]; exact hn426_0) | (show (Addr.add _ _).block ≠ _; rw [add_block]; exact hn426_0) | exact hn426_0) (.string ((rd_T104 ((rd_T65 l0_0 (rd x10_4 x11_4)).f6) x111_5).f0))).trans hx426_0; replace hx426_0 := (cell_far (p := ⟨gb424, 1, none⟩) (by first | (rw [add_block]; exact hn426_1) | (show (Addr.add _ _).block ≠ _; rw [add_block]; exact hn426_1) | exact hn426_1) (.int .i64 ((rd_T104 ((rd_T65 l0_0 (rd x10_4 x11_4)).f6) x111_5).f1))).trans hx426_0; clear hn426_0; clear hn426_1; replace p426 := eq_true p426; replace q426 := eq_true q426))
                    (try simp only [← hl9_5])
                    go_roundg k5
                    case measure => have := HJ1.out; have := HK2.out; have := HK3.out; have := HK4.out; have := HK5.out; omega
                    case rel => exact ⟨(x10_5), (wrap64 (x111_5 + 1)), sR, H', ⟨by have := HJ1.out; have := HK2.out; have := HK3.out; have := HK4.out; have := HK5.out; omega⟩, ⟨by (try simp only [hl9_5]); (with_reducible repeat (first | apply Kd.R_alloc | apply Kd.R_drewN | apply Kd.R_drew)); exact Kd.R_mono (Kd.R_far (p := ⟨gb424, 1, none⟩) (Kd.R_far (p := ⟨gb424, 0, none⟩) (Kd.R_types HO_9.out BK424.out (by decide)) (fun _ hk => hk.2) (.string ((rd_T104 ((rd_T65 l0_0 (rd x10_4 x11_4)).f6) x111_5).f0))) (fun _ hk => hk.2) (.int .i64 ((rd_T104 ((rd_T65 l0_0 (rd x10_4 x11_4)).f6) x111_5).f1))) (fun _ hk => trivial)⟩, ⟨by (try simp only [hl9_5]); (with_reducible repeat (first | apply Kd.R_alloc | apply Kd.R_drewN | apply Kd.R_drew)); exact Kd.R_mono (Kd.R_far (p := ⟨gb424, 1, none⟩) (Kd.R_far (p := ⟨gb424, 0, none⟩) (Kd.R_types HO_10.out BK424.out (by decide)) (fun _ hk => hk.2) (.string ((rd_T104 ((rd_T65 l0_0 (rd x10_4 x11_4)).f6) x111_5).f0))) (fun _ hk => hk.2) (.int .i64 ((rd_T104 ((rd_T65 l0_0 (rd x10_4 x11_4)).f6) x111_5).f1))) (fun _ hk => trivial)⟩, ⟨by (try simp only [hl9_5]); (with_reducible repeat (first | refine blk_drewN ?_ _ | refine blk_drew ?_ | refine blk_alloc ?_ _)); refine blk_far ?_ NB394_424.out _; (with_reducible repeat (first | refine blk_drewN ?_ _ | refine blk_drew ?_ | refine blk_alloc ?_ _)); refine blk_far ?_ NB394_424.out _; (with_reducible repeat (first | refine blk_drewN ?_ _ | refine blk_drew ?_ | refine blk_alloc ?_ _)); exact BK394.out⟩, ⟨sC⟩⟩
                   ·replace c117 := Bool.eq_false_iff.mpr c117
                    subst c117
                    rw [if_neg (show ¬ (false = true) by decide)] at H
                    obtain ⟨c122, H⟩ := iN H
                    have LMc122 := Aside0.mk c122
                    clear c122
                    obtain ⟨y427, hy427⟩ : ∃ y_ : List Int, y_ = (x10_5 ++ [(rd_T104 ((rd_T65 l0_0 (rd x10_4 x11_4)).f6) x111_5).f1]) := ⟨_, rfl⟩
                    replace H : (impl_GoodFs.l3 k5 y420 y427 x11_4 ((rd_T65 l0_0 (rd x10_4 x11_4)).f6) (((rd_T65 l0_0 (rd x10_4 x11_4)).f6).length : Int) (wrap64 (x111_5 + 1)) l0_0 a0_1) = some r := by first | (rw [hy427]; with_reducible exact H) | (have H2_ := (Option.bind_some _ _).symm.trans H; rw [hy427]; with_reducible exact H2_) | (have H2_ := (Option.bind_some _ _).symm.trans H; with_reducible exact H2_) | with_reducible exact H | (rw [hy427]; exact H) | exact H
                    have Ny427 := Aside0.mk hy427
                    clear hy427
                    have H' := Aside0.mk H
                    clear H
                    have p423 : 0 ≤ (x111_5 : Int) := sO
                    have q423 : x111_5 < (((rd_T65 l0_0 (rd x10_4 x11_4)).f6).length : Int) := sO
                    obtain ⟨ad423, e423, hx423_0, hx423_1⟩ := ab104 HR422_6.out HB x111_5 p423 q423
                    cases e423
                    replace p423 := eq_true p423
                    replace q423 := eq_true q423
                    go_wp2_with (first | ((with_reducible refine gd 13 rfl ?_); (first | refine bxE 13 #[.string (⟨#[]⟩ : ByteArray), .int .i64 0] 104 ?_ | refine bgE 13 #[.string (⟨#[]⟩ : ByteArray), .int .i64 0] 104 ?_); intro gb424 hg w123 hbox hb; replace HO_9 := nR HO_9 hb; replace HO_10 := nR HO_10 hb; have BK424 := Aside0.mk hbox; have GW424 := nGC hg; have GE424 := nGC hg; replace HB := nSC hb; have NB394_424 := nL BK394 hg; have NB424_394 := nH BK394 hg; replace BK394 := nK BK394 hb; clear hb hbox hg; have hnb124 := NB424_394.out; have hnc124 := NB394_424.out; have hcz125 := cb2 BK424; have hcz126 := cb2 BK394; have p425 : 0 ≤ (((rd_T104 ((rd_T65 l0_0 (rd x10_4 x11_4)).f6) x111_5).f1) : Int) := sO; have q425 : ((rd_T104 ((rd_T65 l0_0 (rd x10_4 x11_4)).f6) x111_5).f1) < (l0_0.length : Int) := sO; obtain ⟨ad425, A425_6, c425_6, e425, hx425_0, hx425_1, hx425_2, hx425_3, hx425_4, hx425_5, hx425_6, hl425_6, hi425_6⟩ := at_T65 HR0_0.out ((rd_T104 ((rd_T65 l0_0 (rd x10_4 x11_4)).f6) x111_5).f1) p425 q425; obtain rfl : ad422 = ad425 := (by injection e425); have hn425_0 : ad422.block ≠ gb424 := Nat.ne_of_lt (Nat.lt_of_lt_of_le (by have := World.block_lt_of_cell? _ _ hx425_0; first | rwa [add_block] at this | exact this) GW424.out); have hn425_1 : ad422.block ≠ gb424 := Nat.ne_of_lt (Nat.lt_of_lt_of_le (by have := World.block_lt_of_cell? _ _ hx425_0; first | rwa [add_block] at this | exact this) GW424.out); replace hx425_0 := hB HB hx425_0; replace hx425_1 := hB HB hx425_1; replace hx425_2 := hB HB hx425_2; replace hx425_3 := hB HB hx425_3; replace hx425_4 := hB HB hx425_4; replace hx425_5 := hB HB hx425_5; replace hx425_6 := hB HB hx425_6; have HR425_6 := Aside0.mk hi425_6; have HC425_6 := Aside0.mk hl425_6; clear hi425_6 hl425_6; replace hx425_0 := (cell_far (p := ⟨gb424, 0, none⟩) (by first | (rw [add_block]; exact hn425_0) | (show (Addr.add _ _).block ≠ _; rw [add_block]; exact hn425_0) | exact hn425_0) (.string ((rd_T104 ((rd_T65 l0_0 (rd x10_4 x11_4)).f6) x111_5).f0))).trans hx425_0; replace hx425_1 := (cell_far (p := ⟨gb424, 0, none⟩) (by first | (rw [add_block]; exact hn425_0) | (show (Addr.add _ _).block ≠ _; rw [add_block]; exact hn425_0) | exact hn425_0) (.string ((rd_T104 ((rd_T65 l0_0 (rd x10_4 x11_4)).f6) x111_5).f0))).trans hx425_1; replace hx425_2 := (cell_far (p := ⟨gb424, 0, none⟩) (by first | (rw [add_block]; exact hn425_0) | (show (Addr.add _ _).block ≠ _; rw [add_block]; exact hn425_0) | exact hn425_0) (.string ((rd_T104 ((rd_T65 l0_0 (rd x10_4 x11_4)).f6) x111_5).f0))).trans hx425_2; replace hx425_3 := (cell_far (p := ⟨gb424, 0, none⟩) (by first | (rw [add_block]; exact hn425_0) | (show (Addr.add _ _).block ≠ _; rw [add_block]; exact hn425_0) | exact hn425_0) (.string ((rd_T104 ((rd_T65 l0_0 (rd x10_4 x11_4)).f6) x111_5).f0))).trans hx425_3; replace hx425_4 := (cell_far (p := ⟨gb424, 0, none⟩) (by first | (rw [add_block]; exact hn425_0) | (show (Addr.add _ _).block ≠ _; rw [add_block]; exact hn425_0) | exact hn425_0) (.string ((rd_T104 ((rd_T65 l0_0 (rd x10_4 x11_4)).f6) x111_5).f0))).trans hx425_4; replace hx425_5 := (cell_far (p := ⟨gb424, 0, none⟩) (by first | (rw [add_block]; exact hn425_0) | (show (Addr.add _ _).block ≠ _; rw [add_block]; exact hn425_0) | exact hn425_0) (.string ((rd_T104 ((rd_T65 l0_0 (rd x10_4 x11_4)).f6) x111_5).f0))).trans hx425_5; replace hx425_6 := (cell_far (p := ⟨gb424, 0, none⟩) (by first | (rw [add_block]; exact hn425_0) | (show (Addr.add _ _).block ≠ _; rw [add_block]; exact hn425_0) | exact hn425_0) (.string ((rd_T104 ((rd_T65 l0_0 (rd x10_4 x11_4)).f6) x111_5).f0))).trans hx425_6; replace hx425_0 := (cell_far (p := ⟨gb424, 1, none⟩) (by first | (rw [add_block]; exact hn425_1) | (show (Addr.add _ _).block ≠ _; rw [add_block]; exact hn425_1) | exact hn425_1) (.int .i64 ((rd_T104 ((rd_T65 l0_0 (rd x10_4 x11_4)).f6) x111_5).f1))).trans hx425_0; replace hx425_1 := (cell_far (p := ⟨gb424, 1, none⟩) (by first | (rw [add_block]; exact hn425_1) | (show (Addr.add _ _).block ≠ _; rw [add_block]; exact hn425_1) | exact hn425_1) (.int .i64 ((rd_T104 ((rd_T65 l0_0 (rd x10_4 x11_4)).f6) x111_5).f1))).trans hx425_1; replace hx425_2 := (cell_far (p := ⟨gb424, 1, none⟩) (by first | (rw [add_block]; exact hn425_1) | (show (Addr.add _ _).block ≠ _; rw [add_block]; exact hn425_1) | exact hn425_1) (.int .i64 ((rd_T104 ((rd_T65 l0_0 (rd x10_4 x11_4)).f6) x111_5).f1))).trans hx425_2; replace hx425_3 := (cell_far (p := ⟨gb424, 1, none⟩) (by first | (rw [add_block]; exact hn425_1) | (show (Addr.add _ _).block ≠ _; rw [add_block]; exact hn425_1) | exact hn425_1) (.int .i64 ((rd_T104 ((rd_T65 l0_0 (rd x10_4 x11_4)).f6) x111_5).f1))).trans hx425_3; replace hx425_4 := (cell_far (p := ⟨gb424, 1, none⟩) (by first | (rw [add_block]; exact hn425_1) | (show (Addr.add _ _).block ≠ _; rw [add_block]; exact hn425_1) | exact hn425_1) (.int .i64 ((rd_T104 ((rd_T65 l0_0 (rd x10_4 x11_4)).f6) x111_5).f1))).trans hx425_4; replace hx425_5 := (cell_far (p := ⟨gb424, 1, none⟩) (by first | (rw [add_block]; exact hn425_1) | (show (Addr.add _ _).block ≠ _; rw [add_block]; exact hn425_1) | exact hn425_1) (.int .i64 ((rd_T104 ((rd_T65 l0_0 (rd x10_4 x11_4)).f6) x111_5).f1))).trans hx425_5; replace hx425_6 := (cell_far (p := ⟨gb424, 1, none⟩) (by first | (rw [add_block]; exact hn425_1) | (show (Addr.add _ _).block ≠ _; rw [add_block]; exact hn425_1) | exact hn425_1) (.int .i64 ((rd_T104 ((rd_T65 l0_0 (rd x10_4 x11_4)).f6) x111_5).f1))).trans hx425_6; clear hn425_0; clear hn425_1; replace p425 := eq_true p425; replace q425 := eq_true q425; have p426 : 0 ≤ (((rd_T104 ((rd_T65 l0_0 (rd x10_4 x11_4)).f6) x111_5).f1) : Int) := sO; have q426 : ((rd_T104 ((rd_T65 l0_0 (rd x10_4 x11_4)).f6) x111_5).f1) < (y420.length : Int) := sO; obtain ⟨ad426, e426, hx426_0⟩ := Kd.at_bool (Kd.R_reads' HO_9.out).2.2 ((rd_T104 ((rd_T65 l0_0 (rd x10_4 x11_4)).f6) x111_5).f1) p426 q426; (try rw [← Nbq116.out] at hx426_0); obtain rfl : (⟨go103, 0, none⟩ : Addr) = ad426 := (by injection e426); (first | simp only [add_plain] at hx426_0 | simp only [add_at] at hx426_0 | simp only [Addr.add, Nat.zero_add] at hx426_0 | skip); have hn426_0 : (⟨go103, 0, none⟩ : Addr).block ≠ gb424 := Kd.own_blk (Kd.R_ne HO_9.out BK424.out (by decide)); have hn426_1 : (⟨go103, 0, none⟩ : Addr).block ≠ gb424 := Kd.own_blk (Kd.R_ne HO_9.out BK424.out (by decide)); replace hx426_0 := (cell_far (p := ⟨gb424, 0, none⟩) (by first | (rw [add_block]; exact hn426_0) | (show (Addr.add _ _).block ≠ _; rw [add_block]; exact hn426_0) | exact hn426_0) (.string ((rd_T104 ((rd_T65 l0_0 (rd x10_4 x11_4)).f6) x111_5).f0))).trans hx426_0; replace hx426_0 := (cell_far (p := ⟨gb424, 1, none⟩) (by first | (rw [add_block]; exact hn426_1) | (show (Addr.add _ _).block ≠ _; rw [add_block]; exact hn426_1) | exact hn426_1) (.int .i64 ((rd_T104 ((rd_T65 l0_0 (rd x10_4 x11_4)).f6) x111_5).f1))).trans hx426_0; clear hn426_0; clear hn426_1; replace p426 := eq_true p426; replace q426 := eq_true q426) | ((with_reducible refine gate_builtin (b := .append) (xs := #[.tmp 131, .tmp 134]) rfl ?_); (try (refine gate_guard (by rfl) ?_; dsimp only)); at_builtin; refine Kd.R_append (Kd.int .i64) (w0 := w) w.heap.size rfl (.tmp 131) (.tmp 134) 87 3 (.int .i64 0) 8 rfl Tryz.underlying87 info3 rfl (by decide) (by omega) u10 x10_5 ((rd_T104 ((rd_T65 l0_0 (rd x10_4 x11_4)).f6) x111_5).f1) [.int .i64 ((rd_T104 ((rd_T65 l0_0 (rd x10_4 x11_4)).f6) x111_5).f1)] (fun _ => True) (fun _ => False) rfl (by first | (go_simp; done) | (go_simp; rfl)) ?aP (fun _ hk => hk.elim) ?aF ?aO ?aB ?aS ?aL ?_; (case aP => exact rfl); (case aB => exact sC); (case aF => exact (fun _ _ => trivial)); (case aO => exact (by (with_reducible repeat (first | apply Kd.R_alloc | apply Kd.R_drewN | apply Kd.R_drew)); exact Kd.R_mono (Kd.R_far (p := ⟨gb424, 1, none⟩) (Kd.R_far (p := ⟨gb424, 0, none⟩) (Kd.R_types HO_10.out BK424.out (by decide)) (fun _ hk => hk.2) (.string ((rd_T104 ((rd_T65 l0_0 (rd x10_4 x11_4)).f6) x111_5).f0))) (fun _ hk => hk.2) (.int .i64 ((rd_T104 ((rd_T65 l0_0 (rd x10_4 x11_4)).f6) x111_5).f1))) (fun _ hk => trivial))); (case aS => exact (below_size sC)); (case aL => have := LMc122.out; omega); intro v428 w127 ho hb hg hat; rw [← Ny427.out] at ho; replace HO_9 := Aside0.mk (Kd.R_over' (by (with_reducible repeat (first | apply Kd.R_alloc | apply Kd.R_drewN | apply Kd.R_drew)); exact (Kd.R_mono (Kd.R_far (p := ⟨gb424, 1, none⟩) (Kd.R_far (p := ⟨gb424, 0, none⟩) (Kd.R_types HO_9.out BK424.out (by decide)) (fun _ hk => hk.2) (.string ((rd_T104 ((rd_T65 l0_0 (rd x10_4 x11_4)).f6) x111_5).f0))) (fun _ hk => hk.2) (.int .i64 ((rd_T104 ((rd_T65 l0_0 (rd x10_4 x11_4)).f6) x111_5).f1))) (fun _ h_ => h_.1))) (Kd.R_typed (by (with_reducible repeat (first | apply Kd.R_alloc | apply Kd.R_drewN | apply Kd.R_drew)); exact (Kd.R_mono (Kd.R_far (p := ⟨gb424, 1, none⟩) (Kd.R_far (p := ⟨gb424, 0, none⟩) (Kd.R_types HO_10.out BK424.out (by decide)) (fun _ hk => hk.2) (.string ((rd_T104 ((rd_T65 l0_0 (rd x10_4 x11_4)).f6) x111_5).f0))) (fun _ hk => hk.2) (.int .i64 ((rd_T104 ((rd_T65 l0_0 (rd x10_4 x11_4)).f6) x111_5).f1))) (fun _ h_ => h_.1)))) (by decide) hg); replace BK394 := Aside0.mk (blk_grown (g := gb394) (o := .cells #[.slice (some ad422) l0_0.length c0_0, .int .i64 a0_1] 30 (0, 0)) (sX BK394) hg (Kd.R_ne HO_10.out BK394.out (by decide))); replace BK424 := Aside0.mk (blk_grown (g := gb424) (o := .cells #[.string ((rd_T104 ((rd_T65 l0_0 (rd x10_4 x11_4)).f6) x111_5).f0), .int .i64 ((rd_T104 ((rd_T65 l0_0 (rd x10_4 x11_4)).f6) x111_5).f1)] 104 (0, 0)) (sX BK424) hg (Kd.R_ne HO_10.out BK424.out (by decide))); replace HB := Aside0.mk (hb); have HO429 := Aside0.mk (ho); clear HO_10; clear ho hb hg hat))
                    (try simp only [← hl9_5])
                    go_roundg k5
                    case measure => have := HJ1.out; have := HK2.out; have := HK3.out; have := HK4.out; have := HK5.out; omega
                    case rel => exact ⟨(y427), (wrap64 (x111_5 + 1)), sR, H', ⟨by have := HJ1.out; have := HK2.out; have := HK3.out; have := HK4.out; have := HK5.out; omega⟩, ⟨by (try simp only [hl9_5]); (with_reducible repeat (first | apply Kd.R_alloc | apply Kd.R_drewN | apply Kd.R_drew)); first | exact HO_9.out | exact Kd.R_mono HO_9.out (fun k_ hk => by simpa only [own_map] using hk) | exact Kd.S_mono HO_9.out (fun k_ hk => by simpa only [own_map] using hk)⟩, ⟨by (try simp only [hl9_5]); (with_reducible repeat (first | apply Kd.R_alloc | apply Kd.R_drewN | apply Kd.R_drew)); first | exact HO429.out | exact Kd.R_mono HO429.out (fun k_ hk => by simpa only [own_map] using hk) | exact Kd.S_mono HO429.out (fun k_ hk => by simpa only [own_map] using hk)⟩, ⟨by (try simp only [hl9_5]); (with_reducible repeat (first | refine blk_drewN ?_ _ | refine blk_drew ?_ | refine blk_alloc ?_ _)); exact BK394.out⟩, ⟨sC⟩⟩
                  ·rw [if_neg c114] at H
                   have c114b0 := beq_eq_false_iff_ne.mpr c114
                   have c114b1 := bne_iff_ne.mpr c114
                   have H' := Aside0.mk H
                   clear H
                   have p423 : 0 ≤ (x111_5 : Int) := sO
                   have q423 : x111_5 < (((rd_T65 l0_0 (rd x10_4 x11_4)).f6).length : Int) := sO
                   obtain ⟨ad423, e423, hx423_0, hx423_1⟩ := ab104 HR422_6.out HB x111_5 p423 q423
                   cases e423
                   replace p423 := eq_true p423
                   replace q423 := eq_true q423
                   go_wp2_with (first | ((with_reducible refine gd 13 rfl ?_); (first | refine bxE 13 #[.string (⟨#[]⟩ : ByteArray), .int .i64 0] 104 ?_ | refine bgE 13 #[.string (⟨#[]⟩ : ByteArray), .int .i64 0] 104 ?_); intro gb424 hg w128 hbox hb; replace HO_9 := nR HO_9 hb; replace HO_10 := nR HO_10 hb; have BK424 := Aside0.mk hbox; have GW424 := nGC hg; have GE424 := nGC hg; replace HB := nSC hb; have NB394_424 := nL BK394 hg; have NB424_394 := nH BK394 hg; replace BK394 := nK BK394 hb; clear hb hbox hg; have hnb129 := NB424_394.out; have hnc129 := NB394_424.out; have hcz130 := cb2 BK424; have hcz131 := cb2 BK394; have p425 : 0 ≤ (((rd_T104 ((rd_T65 l0_0 (rd x10_4 x11_4)).f6) x111_5).f1) : Int) := sO; have q425 : ((rd_T104 ((rd_T65 l0_0 (rd x10_4 x11_4)).f6) x111_5).f1) < (l0_0.length : Int) := sO; obtain ⟨ad425, A425_6, c425_6, e425, hx425_0, hx425_1, hx425_2, hx425_3, hx425_4, hx425_5, hx425_6, hl425_6, hi425_6⟩ := at_T65 HR0_0.out ((rd_T104 ((rd_T65 l0_0 (rd x10_4 x11_4)).f6) x111_5).f1) p425 q425; obtain rfl : ad422 = ad425 := (by injection e425); have hn425_0 : ad422.block ≠ gb424 := Nat.ne_of_lt (Nat.lt_of_lt_of_le (by have := World.block_lt_of_cell? _ _ hx425_0; first | rwa [add_block] at this | exact this) GW424.out); have hn425_1 : ad422.block ≠ gb424 := Nat.ne_of_lt (Nat.lt_of_lt_of_le (by have := World.block_lt_of_cell? _ _ hx425_0; first | rwa [add_block] at this | exact this) GW424.out); replace hx425_0 := hB HB hx425_0; replace hx425_1 := hB HB hx425_1; replace hx425_2 := hB HB hx425_2; replace hx425_3 := hB HB hx425_3; replace hx425_4 := hB HB hx425_4; replace hx425_5 := hB HB hx425_5; replace hx425_6 := hB HB hx425_6; have HR425_6 := Aside0.mk hi425_6; have HC425_6 := Aside0.mk hl425_6; clear hi425_6 hl425_6; replace hx425_0 := (cell_far (p := ⟨gb424, 0, none⟩) (by first | (rw [add_block]; exact hn425_0) | (show (Addr.add _ _).block ≠ _; rw [add_block]; exact hn425_0) | exact hn425_0) (.string ((rd_T104 ((rd_T65 l0_0 (rd x10_4 x11_4)).f6) x111_5).f0))).trans hx425_0; replace hx425_1 := (cell_far (p := ⟨gb424, 0, none⟩) (by first | (rw [add_block]; exact hn425_0) | (show (Addr.add _ _).block ≠ _; rw [add_block]; exact hn425_0) | exact hn425_0) (.string ((rd_T104 ((rd_T65 l0_0 (rd x10_4 x11_4)).f6) x111_5).f0))).trans hx425_1; replace hx425_2 := (cell_far (p := ⟨gb424, 0, none⟩) (by first | (rw [add_block]; exact hn425_0) | (show (Addr.add _ _).block ≠ _; rw [add_block]; exact hn425_0) | exact hn425_0) (.string ((rd_T104 ((rd_T65 l0_0 (rd x10_4 x11_4)).f6) x111_5).f0))).trans hx425_2; replace hx425_3 := (cell_far (p := ⟨gb424, 0, none⟩) (by first | (rw [add_block]; exact hn425_0) | (show (Addr.add _ _).block ≠ _; rw [add_block]; exact hn425_0) | exact hn425_0) (.string ((rd_T104 ((rd_T65 l0_0 (rd x10_4 x11_4)).f6) x111_5).f0))).trans hx425_3; replace hx425_4 := (cell_far (p := ⟨gb424, 0, none⟩) (by first | (rw [add_block]; exact hn425_0) | (show (Addr.add _ _).block ≠ _; rw [add_block]; exact hn425_0) | exact hn425_0) (.string ((rd_T104 ((rd_T65 l0_0 (rd x10_4 x11_4)).f6) x111_5).f0))).trans hx425_4; replace hx425_5 := (cell_far (p := ⟨gb424, 0, none⟩) (by first | (rw [add_block]; exact hn425_0) | (show (Addr.add _ _).block ≠ _; rw [add_block]; exact hn425_0) | exact hn425_0) (.string ((rd_T104 ((rd_T65 l0_0 (rd x10_4 x11_4)).f6) x111_5).f0))).trans hx425_5; replace hx425_6 := (cell_far (p := ⟨gb424, 0, none⟩) (by first | (rw [add_block]; exact hn425_0) | (show (Addr.add _ _).block ≠ _; rw [add_block]; exact hn425_0) | exact hn425_0) (.string ((rd_T104 ((rd_T65 l0_0 (rd x10_4 x11_4)).f6) x111_5).f0))).trans hx425_6; replace hx425_0 := (cell_far (p := ⟨gb424, 1, none⟩) (by first | (rw [add_block]; exact hn425_1) | (show (Addr.add _ _).block ≠ _; rw [add_block]; exact hn425_1) | exact hn425_1) (.int .i64 ((rd_T104 ((rd_T65 l0_0 (rd x10_4 x11_4)).f6) x111_5).f1))).trans hx425_0; replace hx425_1 := (cell_far (p := ⟨gb424, 1, none⟩) (by first | (rw [add_block]; exact hn425_1) | (show (Addr.add _ _).block ≠ _; rw [add_block]; exact hn425_1) | exact hn425_1) (.int .i64 ((rd_T104 ((rd_T65 l0_0 (rd x10_4 x11_4)).f6) x111_5).f1))).trans hx425_1; replace hx425_2 := (cell_far (p := ⟨gb424, 1, none⟩) (by first | (rw [add_block]; exact hn425_1) | (show (Addr.add _ _).block ≠ _; rw [add_block]; exact hn425_1) | exact hn425_1) (.int .i64 ((rd_T104 ((rd_T65 l0_0 (rd x10_4 x11_4)).f6) x111_5).f1))).trans hx425_2; replace hx425_3 := (cell_far (p := ⟨gb424, 1, none⟩) (by first | (rw [add_block]; exact hn425_1) | (show (Addr.add _ _).block ≠ _; rw [add_block]; exact hn425_1) | exact hn425_1) (.int .i64 ((rd_T104 ((rd_T65 l0_0 (rd x10_4 x11_4)).f6) x111_5).f1))).trans hx425_3; replace hx425_4 := (cell_far (p := ⟨gb424, 1, none⟩) (by first | (rw [add_block]; exact hn425_1) | (show (Addr.add _ _).block ≠ _; rw [add_block]; exact hn425_1) | exact hn425_1) (.int .i64 ((rd_T104 ((rd_T65 l0_0 (rd x10_4 x11_4)).f6) x111_5).f1))).trans hx425_4; replace hx425_5 := (cell_far (p := ⟨gb424, 1, none⟩) (by first | (rw [add_block]; exact hn425_1) | (show (Addr.add _ _).block ≠ _; rw [add_block]; exact hn425_1) | exact hn425_1) (.int .i64 ((rd_T104 ((rd_T65 l0_0 (rd x10_4 x11_4)).f6) x111_5).f1))).trans hx425_5; replace hx425_6 := (cell_far (p := ⟨gb424, 1, none⟩) (by first | (rw [add_block]; exact hn425_1) | (show (Addr.add _ _).block ≠ _; rw [add_block]; exact hn425_1) | exact hn425_1) (.int .i64 ((rd_T104 ((rd_T65 l0_0 (rd x10_4 x11_4)).f6) x111_5).f1))).trans hx425_6; clear hn425_0; clear hn425_1; replace p425 := eq_true p425; replace q425 := eq_true q425))
                   (try simp only [← hl9_5])
                   go_roundg k5
                   case measure => have := HJ1.out; have := HK2.out; have := HK3.out; have := HK4.out; have := HK5.out; omega
                   case rel => exact ⟨(x10_5), (wrap64 (x111_5 + 1)), sR, H', ⟨by have := HJ1.out; have := HK2.out; have := HK3.out; have := HK4.out; have := HK5.out; omega⟩, ⟨by (try simp only [hl9_5]); (with_reducible repeat (first | apply Kd.R_alloc | apply Kd.R_drewN | apply Kd.R_drew)); exact Kd.R_mono (Kd.R_far (p := ⟨gb424, 1, none⟩) (Kd.R_far (p := ⟨gb424, 0, none⟩) (Kd.R_types HO_9.out BK424.out (by decide)) (fun _ hk => hk.2) (.string ((rd_T104 ((rd_T65 l0_0 (rd x10_4 x11_4)).f6) x111_5).f0))) (fun _ hk => hk.2) (.int .i64 ((rd_T104 ((rd_T65 l0_0 (rd x10_4 x11_4)).f6) x111_5).f1))) (fun _ hk => trivial)⟩, ⟨by (try simp only [hl9_5]); (with_reducible repeat (first | apply Kd.R_alloc | apply Kd.R_drewN | apply Kd.R_drew)); exact Kd.R_mono (Kd.R_far (p := ⟨gb424, 1, none⟩) (Kd.R_far (p := ⟨gb424, 0, none⟩) (Kd.R_types HO_10.out BK424.out (by decide)) (fun _ hk => hk.2) (.string ((rd_T104 ((rd_T65 l0_0 (rd x10_4 x11_4)).f6) x111_5).f0))) (fun _ hk => hk.2) (.int .i64 ((rd_T104 ((rd_T65 l0_0 (rd x10_4 x11_4)).f6) x111_5).f1))) (fun _ hk => trivial)⟩, ⟨by (try simp only [hl9_5]); (with_reducible repeat (first | refine blk_drewN ?_ _ | refine blk_drew ?_ | refine blk_alloc ?_ _)); refine blk_far ?_ NB394_424.out _; (with_reducible repeat (first | refine blk_drewN ?_ _ | refine blk_drew ?_ | refine blk_alloc ?_ _)); refine blk_far ?_ NB394_424.out _; (with_reducible repeat (first | refine blk_drewN ?_ _ | refine blk_drew ?_ | refine blk_alloc ?_ _)); exact BK394.out⟩, ⟨sC⟩⟩
                 ·rw [if_neg c109] at H
                  have c109b0 := decide_eq_false c109
                  clear c109
                  have H' := Aside0.mk H
                  clear H
                  go_wp2
                  (try simp only [← hl9_5])
                  go_roundg k5
                  case measure => have := HJ1.out; have := HK2.out; have := HK3.out; have := HK4.out; have := HK5.out; omega
                  case rel => exact ⟨(y420), (x10_5), (wrap64 (x11_4 + 1)), sR, H', ⟨by have := HJ1.out; have := HK2.out; have := HK3.out; have := HK4.out; have := HK5.out; omega⟩, ⟨by (try simp only [hl9_5]); (with_reducible repeat (first | apply Kd.R_alloc | apply Kd.R_drewN | apply Kd.R_drew)); first | exact HO_9.out | exact Kd.R_mono HO_9.out (fun k_ hk => by simpa only [own_map] using hk) | exact Kd.S_mono HO_9.out (fun k_ hk => by simpa only [own_map] using hk)⟩, ⟨by (try simp only [hl9_5]); (with_reducible repeat (first | apply Kd.R_alloc | apply Kd.R_drewN | apply Kd.R_drew)); first | exact HO_10.out | exact Kd.R_mono HO_10.out (fun k_ hk => by simpa only [own_map] using hk) | exact Kd.S_mono HO_10.out (fun k_ hk => by simpa only [own_map] using hk)⟩, ⟨by (try simp only [hl9_5]); (with_reducible repeat (first | refine blk_drewN ?_ _ | refine blk_drew ?_ | refine blk_alloc ?_ _)); exact BK394.out⟩, ⟨sC⟩⟩
              ·rw [if_neg c99] at H
               have c99b0 := decide_eq_false c99
               clear c99
               have H' := Aside0.mk H
               clear H
               obtain ⟨Ao132, co132, eo132⟩ := Kd.R_slice HO_10.out
               subst eo132
               have hcz133 := cb2 BK394
               go_wp2
               go_loopg [140] k4 (fun kq v140 w' => ∃ (x140_5 : Int), v140 = .int .i64 x140_5 ∧ Aside0 (impl_GoodFs.l4 kq x9_4 l0_0 (l0_0.length : Int) x140_5 = some r) ∧ Aside0 (kq ≤ k4) ∧ Aside0 (Kd.R Kd.bool 4 w' w.heap.size (fun _ => True) v414 x9_4) ∧ Aside0 (w'.heap[gb394]? = some (.cells #[(.slice A0_0 l0_0.length c0_0), .int .i64 a0_1] 30 (0, 0))) ∧ Aside0 (Below w.heap.size w w'))
               case atStart => exact ⟨(0), sR, H', ⟨Nat.le_refl _⟩, ⟨rR HO_9⟩, ⟨sK BK394⟩, ⟨sC⟩⟩
               case round =>
                clear H'
                try clear c1
                try clear p1
                try clear q1
                try clear hx1
                try clear hf1
                try clear c2
                try clear p2
                try clear c3
                try clear p3
                try clear q3
                try clear hx3
                try clear qi3
                try clear c4
                try clear p4
                try clear q4
                try clear hx4
                try clear c5
                try clear c6
                try clear p6
                try clear c7
                try clear c8
                try clear c8b0
                try clear c8b1
                try clear c9
                try clear c10
                try clear p10
                try clear q10
                try clear hx10
                try clear hf10
                try clear c11
                try clear q11
                try clear c12
                try clear c14
                try clear c14b0
                try clear c15
                try clear c15b0
                try clear c16
                try clear c16b0
                try clear c18
                try clear c20
                try clear c25
                try clear c30
                try clear c30b0
                try clear c39
                try clear c39b0
                try clear p39
                try clear q39
                try clear hx39
                try clear c40
                try clear c40b0
                try clear p40
                try clear q40
                try clear hx40
                try clear c41
                try clear c41b0
                try clear p41
                try clear q41
                try clear hx41
                try clear c42
                try clear c42b0
                try clear c42b1
                try clear p42
                try clear q42
                try clear hx42
                try clear c43
                try clear c43b0
                try clear c43b1
                try clear c45
                try clear c47
                try clear c47b0
                try clear c50
                try clear c52
                try clear c56
                try clear c59
                try clear c59b0
                try clear c59b1
                try clear c60
                try clear c60b0
                try clear c60b1
                try clear c62
                try clear c64
                try clear c64b0
                try clear p64
                try clear c67
                try clear c69
                try clear c70
                try clear c73
                try clear c76
                try clear c76b0
                try clear c76b1
                try clear c78
                try clear c80
                try clear c80b0
                try clear c83
                try clear c85
                try clear c89
                try clear c92
                try clear c92b0
                try clear c92b1
                try clear c93
                try clear c93b0
                try clear c93b1
                try clear c99
                try clear c99b0
                try clear c100
                try clear c100b0
                try clear c101
                try clear c101b0
                try clear c102
                try clear c102b0
                try clear p103
                try clear q103
                try clear hx103
                try clear hf103
                try clear c104
                try clear c104b0
                try clear c109
                try clear c109b0
                try clear c110
                try clear c110b0
                try clear c111
                try clear c111b0
                try clear c112
                try clear c112b0
                try clear c113
                try clear c113b0
                try clear c114
                try clear c114b0
                try clear c114b1
                try clear c115
                try clear c115b0
                try clear q116
                try clear c117
                try clear c119
                try clear c122
                try clear c124
                try clear c129
                try clear hcz10
                try clear hcz11
                try clear hcz120
                try clear hcz121
                try clear hcz125
                try clear hcz126
                try clear hcz130
                try clear hcz131
                try clear hcz133
                try clear hcz13
                try clear hcz21
                try clear hcz22
                try clear hcz26
                try clear hcz27
                try clear hcz36
                try clear hcz38
                try clear hcz46
                try clear hcz53
                try clear hcz57
                try clear hcz63
                try clear hcz70
                try clear hcz74
                try clear hcz79
                try clear hcz86
                try clear hcz90
                try clear hcz94
                try clear hcz9
                try clear hx103_0
                try clear hx397_0
                try clear hx397_1
                try clear hx397_2
                try clear hx397_3
                try clear hx397_4
                try clear hx397_5
                try clear hx397_6
                try clear hx398_0
                try clear hx398_1
                try clear hx398_2
                try clear hx398_3
                try clear hx398_4
                try clear hx398_5
                try clear hx398_6
                try clear hx405_0
                try clear hx405_1
                try clear hx405_2
                try clear hx405_3
                try clear hx405_4
                try clear hx405_5
                try clear hx405_6
                try clear hx407_0
                try clear hx409_0
                try clear hx411_0
                try clear hx419_0
                try clear hx421_0
                try clear hx422_0
                try clear hx422_1
                try clear hx422_2
                try clear hx422_3
                try clear hx422_4
                try clear hx422_5
                try clear hx422_6
                try clear hx423_0
                try clear hx423_1
                try clear hx425_0
                try clear hx425_1
                try clear hx425_2
                try clear hx425_3
                try clear hx425_4
                try clear hx425_5
                try clear hx425_6
                try clear hx426_0
                try clear p1
                try clear p10
                try clear p103
                try clear p2
                try clear p3
                try clear p39
                try clear p397
                try clear p398
                try clear p4
                try clear p40
                try clear p405
                try clear p407
                try clear p409
                try clear p41
                try clear p411
                try clear p419
                try clear p42
                try clear p421
                try clear p422
                try clear p423
                try clear p425
                try clear p426
                try clear p6
                try clear p64
                try clear q1
                try clear q10
                try clear q103
                try clear q3
                try clear q39
                try clear q397
                try clear q398
                try clear q4
                try clear q40
                try clear q405
                try clear q407
                try clear q409
                try clear q41
                try clear q411
                try clear q419
                try clear q42
                try clear q421
                try clear q422
                try clear q423
                try clear q425
                try clear q426
                obtain ⟨x140_5, rfl, HA, HK5, HO_9, BK394, HB⟩ := hrel
                cases gk with
                | zero => exact absurd HA.out (by simp [impl_GoodFs.l4])
                | succ k5 =>
                 have H := HA.out
                 clear HA
                 simp only [impl_GoodFs.l4] at H
                 by_cases c134 : x140_5 < (l0_0.length : Int)
                 ·rw [if_pos c134] at H
                  have c134b0 := decide_eq_true c134
                  clear c134
                  obtain ⟨c135, H⟩ := iN H
                  have c135b0 := decide_eq_true c135
                  clear c135
                  obtain ⟨c136, H⟩ := iN H
                  have c136b0 := decide_eq_true c136
                  clear c136
                  by_cases c137 : ((rd_T65 l0_0 x140_5).f0) = 2
                  ·rw [if_pos c137] at H
                   have c137b0 := beq_iff_eq.mpr c137
                   have c137b1 := bne_eq_false_iff_eq.mpr c137
                   clear c137
                   obtain ⟨c138, H⟩ := iN H
                   have c138b0 := decide_eq_true c138
                   clear c138
                   obtain ⟨bq139, hbq139⟩ : ∃ b_ : Bool, b_ = (rdOf false x9_4 x140_5) := ⟨_, rfl⟩
                   replace H : (if bq139 = true then (impl_GoodFs.l4 k5 x9_4 l0_0 (l0_0.length : Int) (wrap64 (x140_5 + 1))) else (some false)) = some r := by rw [← hbq139] at H; exact H
                   have Nbq139 := Aside0.mk hbq139
                   clear hbq139
                   by_cases c140 : bq139 = true
                   ·subst c140
                    rw [if_pos rfl] at H
                    have H' := Aside0.mk H
                    clear H
                    have p430 : 0 ≤ (x140_5 : Int) := sO
                    have q430 : x140_5 < (l0_0.length : Int) := sO
                    obtain ⟨ad430, A430_6, c430_6, e430, hx430_0, hx430_1, hx430_2, hx430_3, hx430_4, hx430_5, hx430_6, hl430_6, hi430_6⟩ := ab65 HR0_0.out HB x140_5 p430 q430
                    cases e430
                    have HR430_6 := Aside0.mk hi430_6
                    have HC430_6 := Aside0.mk hl430_6
                    clear hi430_6 hl430_6
                    replace p430 := eq_true p430
                    replace q430 := eq_true q430
                    go_wp2_with (first | ((with_reducible refine gd 15 rfl ?_); (first | refine bxE 15 #[.int .i64 0, .int .i64 0, .int .i64 0, .int .i64 0, .int .i64 0, .string (⟨#[]⟩ : ByteArray), .slice none 0 0] 65 ?_ | refine bgE 15 #[.int .i64 0, .int .i64 0, .int .i64 0, .int .i64 0, .int .i64 0, .string (⟨#[]⟩ : ByteArray), .slice none 0 0] 65 ?_); intro gb431 hg w141 hbox hb; replace HO_9 := nR HO_9 hb; have BK431 := Aside0.mk hbox; have GW431 := nGC hg; have GE431 := nGC hg; replace HB := nSC hb; have NB394_431 := nL BK394 hg; have NB431_394 := nH BK394 hg; replace BK394 := nK BK394 hb; clear hb hbox hg; have hnb142 := NB431_394.out; have hnc142 := NB394_431.out; have hcz143 := cb7 BK431; obtain ⟨Ao144, co144, eo144⟩ := Kd.R_slice HO_9.out; subst eo144; have p432 : 0 ≤ (x140_5 : Int) := sO; have q432 : x140_5 < (x9_4.length : Int) := sO; obtain ⟨ad432, e432, hx432_0⟩ := Kd.at_bool (Kd.R_reads' HO_9.out).2.2 x140_5 p432 q432; (try rw [← Nbq139.out] at hx432_0); cases e432; have hn432_0 : ad432.block ≠ gb431 := Kd.own_blk (Kd.R_ne HO_9.out BK431.out (by decide)); have hn432_1 : ad432.block ≠ gb431 := Kd.own_blk (Kd.R_ne HO_9.out BK431.out (by decide)); have hn432_2 : ad432.block ≠ gb431 := Kd.own_blk (Kd.R_ne HO_9.out BK431.out (by decide)); have hn432_3 : ad432.block ≠ gb431 := Kd.own_blk (Kd.R_ne HO_9.out BK431.out (by decide)); have hn432_4 : ad432.block ≠ gb431 := Kd.own_blk (Kd.R_ne HO_9.out BK431.out (by decide)); have hn432_5 : ad432.block ≠ gb431 := Kd.own_blk (Kd.R_ne HO_9.out BK431.out (by decide)); have hn432_6 : ad432.block ≠ gb431 := Kd.own_blk (Kd.R_ne HO_9.out BK431.out (by decide)); replace hx432_0 := (cell_far (p := ⟨gb431, 0, none⟩) (by first | (rw [add_block]; exact hn432_0) | (show (Addr.add _ _).block ≠ _; rw [add_block]; exact hn432_0) | exact hn432_0) (.int .i64 ((rd_T65 l0_0 x140_5).f0))).trans hx432_0; replace hx432_0 := (cell_far (p := ⟨gb431, 1, none⟩) (by first | (rw [add_block]; exact hn432_1) | (show (Addr.add _ _).block ≠ _; rw [add_block]; exact hn432_1) | exact hn432_1) (.int .i64 ((rd_T65 l0_0 x140_5).f1))).trans hx432_0; replace hx432_0 := (cell_far (p := ⟨gb431, 2, none⟩) (by first | (rw [add_block]; exact hn432_2) | (show (Addr.add _ _).block ≠ _; rw [add_block]; exact hn432_2) | exact hn432_2) (.int .i64 ((rd_T65 l0_0 x140_5).f2))).trans hx432_0; replace hx432_0 := (cell_far (p := ⟨gb431, 3, none⟩) (by first | (rw [add_block]; exact hn432_3) | (show (Addr.add _ _).block ≠ _; rw [add_block]; exact hn432_3) | exact hn432_3) (.int .i64 ((rd_T65 l0_0 x140_5).f3))).trans hx432_0; replace hx432_0 := (cell_far (p := ⟨gb431, 4, none⟩) (by first | (rw [add_block]; exact hn432_4) | (show (Addr.add _ _).block ≠ _; rw [add_block]; exact hn432_4) | exact hn432_4) (.int .i64 ((rd_T65 l0_0 x140_5).f4))).trans hx432_0; replace hx432_0 := (cell_far (p := ⟨gb431, 5, none⟩) (by first | (rw [add_block]; exact hn432_5) | (show (Addr.add _ _).block ≠ _; rw [add_block]; exact hn432_5) | exact hn432_5) (.string ((rd_T65 l0_0 x140_5).f5))).trans hx432_0; replace hx432_0 := (cell_far (p := ⟨gb431, 6, none⟩) (by first | (rw [add_block]; exact hn432_6) | (show (Addr.add _ _).block ≠ _; rw [add_block]; exact hn432_6) | exact hn432_6) (.slice A430_6 ((rd_T65 l0_0 x140_5).f6).length c430_6)).trans hx432_0; clear hn432_0; clear hn432_1; clear hn432_2; clear hn432_3; clear hn432_4; clear hn432_5; clear hn432_6; replace p432 := eq_true p432; replace q432 := eq_true q432))
                    go_roundg k5
                    case measure => have := HJ1.out; have := HK2.out; have := HK3.out; have := HK4.out; have := HK5.out; omega
                    case rel => exact ⟨(wrap64 (x140_5 + 1)), sR, H', ⟨by have := HJ1.out; have := HK2.out; have := HK3.out; have := HK4.out; have := HK5.out; omega⟩, ⟨rRf HO_9 BK431 (fun _ hk => trivial)⟩, ⟨sX BK394⟩, ⟨sC⟩⟩
                   ·replace c140 := Bool.eq_false_iff.mpr c140
                    subst c140
                    rw [if_neg (show ¬ (false = true) by decide)] at H
                    obtain rfl := Option.some.inj H
                    have p430 : 0 ≤ (x140_5 : Int) := sO
                    have q430 : x140_5 < (l0_0.length : Int) := sO
                    obtain ⟨ad430, A430_6, c430_6, e430, hx430_0, hx430_1, hx430_2, hx430_3, hx430_4, hx430_5, hx430_6, hl430_6, hi430_6⟩ := ab65 HR0_0.out HB x140_5 p430 q430
                    cases e430
                    have HR430_6 := Aside0.mk hi430_6
                    have HC430_6 := Aside0.mk hl430_6
                    clear hi430_6 hl430_6
                    replace p430 := eq_true p430
                    replace q430 := eq_true q430
                    go_wp2_with (first | ((with_reducible refine gd 15 rfl ?_); (first | refine bxE 15 #[.int .i64 0, .int .i64 0, .int .i64 0, .int .i64 0, .int .i64 0, .string (⟨#[]⟩ : ByteArray), .slice none 0 0] 65 ?_ | refine bgE 15 #[.int .i64 0, .int .i64 0, .int .i64 0, .int .i64 0, .int .i64 0, .string (⟨#[]⟩ : ByteArray), .slice none 0 0] 65 ?_); intro gb431 hg w145 hbox hb; replace HO_9 := nR HO_9 hb; have BK431 := Aside0.mk hbox; have GW431 := nGC hg; have GE431 := nGC hg; replace HB := nSC hb; have NB394_431 := nL BK394 hg; have NB431_394 := nH BK394 hg; replace BK394 := nK BK394 hb; clear hb hbox hg; have hnb146 := NB431_394.out; have hnc146 := NB394_431.out; have hcz147 := cb7 BK431; obtain ⟨Ao148, co148, eo148⟩ := Kd.R_slice HO_9.out; subst eo148; have p432 : 0 ≤ (x140_5 : Int) := sO; have q432 : x140_5 < (x9_4.length : Int) := sO; obtain ⟨ad432, e432, hx432_0⟩ := Kd.at_bool (Kd.R_reads' HO_9.out).2.2 x140_5 p432 q432; (try rw [← Nbq139.out] at hx432_0); cases e432; have hn432_0 : ad432.block ≠ gb431 := Kd.own_blk (Kd.R_ne HO_9.out BK431.out (by decide)); have hn432_1 : ad432.block ≠ gb431 := Kd.own_blk (Kd.R_ne HO_9.out BK431.out (by decide)); have hn432_2 : ad432.block ≠ gb431 := Kd.own_blk (Kd.R_ne HO_9.out BK431.out (by decide)); have hn432_3 : ad432.block ≠ gb431 := Kd.own_blk (Kd.R_ne HO_9.out BK431.out (by decide)); have hn432_4 : ad432.block ≠ gb431 := Kd.own_blk (Kd.R_ne HO_9.out BK431.out (by decide)); have hn432_5 : ad432.block ≠ gb431 := Kd.own_blk (Kd.R_ne HO_9.out BK431.out (by decide)); have hn432_6 : ad432.block ≠ gb431 := Kd.own_blk (Kd.R_ne HO_9.out BK431.out (by decide)); replace hx432_0 := (cell_far (p := ⟨gb431, 0, none⟩) (by first | (rw [add_block]; exact hn432_0) | (show (Addr.add _ _).block ≠ _; rw [add_block]; exact hn432_0) | exact hn432_0) (.int .i64 ((rd_T65 l0_0 x140_5).f0))).trans hx432_0; replace hx432_0 := (cell_far (p := ⟨gb431, 1, none⟩) (by first | (rw [add_block]; exact hn432_1) | (show (Addr.add _ _).block ≠ _; rw [add_block]; exact hn432_1) | exact hn432_1) (.int .i64 ((rd_T65 l0_0 x140_5).f1))).trans hx432_0; replace hx432_0 := (cell_far (p := ⟨gb431, 2, none⟩) (by first | (rw [add_block]; exact hn432_2) | (show (Addr.add _ _).block ≠ _; rw [add_block]; exact hn432_2) | exact hn432_2) (.int .i64 ((rd_T65 l0_0 x140_5).f2))).trans hx432_0; replace hx432_0 := (cell_far (p := ⟨gb431, 3, none⟩) (by first | (rw [add_block]; exact hn432_3) | (show (Addr.add _ _).block ≠ _; rw [add_block]; exact hn432_3) | exact hn432_3) (.int .i64 ((rd_T65 l0_0 x140_5).f3))).trans hx432_0; replace hx432_0 := (cell_far (p := ⟨gb431, 4, none⟩) (by first | (rw [add_block]; exact hn432_4) | (show (Addr.add _ _).block ≠ _; rw [add_block]; exact hn432_4) | exact hn432_4) (.int .i64 ((rd_T65 l0_0 x140_5).f4))).trans hx432_0; replace hx432_0 := (cell_far (p := ⟨gb431, 5, none⟩) (by first | (rw [add_block]; exact hn432_5) | (show (Addr.add _ _).block ≠ _; rw [add_block]; exact hn432_5) | exact hn432_5) (.string ((rd_T65 l0_0 x140_5).f5))).trans hx432_0; replace hx432_0 := (cell_far (p := ⟨gb431, 6, none⟩) (by first | (rw [add_block]; exact hn432_6) | (show (Addr.add _ _).block ≠ _; rw [add_block]; exact hn432_6) | exact hn432_6) (.slice A430_6 ((rd_T65 l0_0 x140_5).f6).length c430_6)).trans hx432_0; clear hn432_0; clear hn432_1; clear hn432_2; clear hn432_3; clear hn432_4; clear hn432_5; clear hn432_6; replace p432 := eq_true p432; replace q432 := eq_true q432))
                    go_ret
                    exact ⟨sE, sC⟩
                  ·rw [if_neg c137] at H
                   have c137b0 := beq_eq_false_iff_ne.mpr c137
                   have c137b1 := bne_iff_ne.mpr c137
                   have H' := Aside0.mk H
                   clear H
                   have p430 : 0 ≤ (x140_5 : Int) := sO
                   have q430 : x140_5 < (l0_0.length : Int) := sO
                   obtain ⟨ad430, A430_6, c430_6, e430, hx430_0, hx430_1, hx430_2, hx430_3, hx430_4, hx430_5, hx430_6, hl430_6, hi430_6⟩ := ab65 HR0_0.out HB x140_5 p430 q430
                   cases e430
                   have HR430_6 := Aside0.mk hi430_6
                   have HC430_6 := Aside0.mk hl430_6
                   clear hi430_6 hl430_6
                   replace p430 := eq_true p430
                   replace q430 := eq_true q430
                   go_wp2_with (first | ((with_reducible refine gd 15 rfl ?_); (first | refine bxE 15 #[.int .i64 0, .int .i64 0, .int .i64 0, .int .i64 0, .int .i64 0, .string (⟨#[]⟩ : ByteArray), .slice none 0 0] 65 ?_ | refine bgE 15 #[.int .i64 0, .int .i64 0, .int .i64 0, .int .i64 0, .int .i64 0, .string (⟨#[]⟩ : ByteArray), .slice none 0 0] 65 ?_); intro gb431 hg w149 hbox hb; replace HO_9 := nR HO_9 hb; have BK431 := Aside0.mk hbox; have GW431 := nGC hg; have GE431 := nGC hg; replace HB := nSC hb; have NB394_431 := nL BK394 hg; have NB431_394 := nH BK394 hg; replace BK394 := nK BK394 hb; clear hb hbox hg; have hnb150 := NB431_394.out; have hnc150 := NB394_431.out; have hcz151 := cb7 BK431))
                   go_roundg k5
                   case measure => have := HJ1.out; have := HK2.out; have := HK3.out; have := HK4.out; have := HK5.out; omega
                   case rel => exact ⟨(wrap64 (x140_5 + 1)), sR, H', ⟨by have := HJ1.out; have := HK2.out; have := HK3.out; have := HK4.out; have := HK5.out; omega⟩, ⟨rRf HO_9 BK431 (fun _ hk => trivial)⟩, ⟨sX BK394⟩, ⟨sC⟩⟩
                 ·rw [if_neg c134] at H
                  have c134b0 := decide_eq_false c134
                  clear c134
                  obtain rfl := Option.some.inj H
                  go_wp2
                  go_ret
                  exact ⟨sE, sC⟩
           ·rw [if_neg c92] at H
            exact absurd H (by simp)
end Go.Proofs.YtdjceippnokimaaGreatDoor.PGrp
