-- Written by a program of this session (wip/print2) out of the translation. Lean checks it.
import Derived.Test.YteffcglgdfhkmaaDoorPWkx0
import Derived.Test.YteffcglgdfhkmaaDoorPWkx8
import Derived.Test.YteffcglgdfhkmaaDoorPWkx10
import Derived.Test.YteffcglgdfhkmaaDoorPWkx11
namespace Go.Proofs.YteffcglgdfhkmaaDoor.PWk
open Go.RowKit Go.Proofs.YteffcglgdfhkmaaDoorW.PrintWords Go.Proofs.YteffcglgdfhkmaaDoorW.PrintLast Go.Proofs.YteffcglgdfhkmaaDoorW.PrintMore
attribute [local go_sem] max2_int min2_int max_two min_two max_three min_three max_four min_four   -- for this text's walks alone
set_option linter.unusedVariables false
set_option linter.unusedSimpArgs false
set_option maxHeartbeats 8000000
set_option maxRecDepth 100000

/-! ### impl_GoodFs: function 16 -/
mutual
def impl_GoodFs.j0 : Nat → Bool → List (S53) → Int → Option (Bool)
 | 0, _, _, _ => none
 | k + 1, x34, x319000, x319001 => if x34 = true then (some false) else (impl_GoodFs.l0 k x319000 (x319000.length : Int) 0 x319000 x319001)
def impl_GoodFs.l0 : Nat → List (S53) → Int → Int → List (S53) → Int → Option (Bool)
 | 0, _, _, _, _, _ => none
 | k + 1, x36, x37, x38, x319000, x319001 => if x38 < x37 then (if 0 ≤ x38 then (if x38 < (x36.length : Int) then ((impl_Fs_isNode.f k x319000 x319001 ((rd_T53 x36 x38).f0) ((rd_T53 x36 x38).f1) ((rd_T53 x36 x38).f2) ((rd_T53 x36 x38).f3) ((rd_T53 x36 x38).f4) ((rd_T53 x36 x38).f5) ((rd_T53 x36 x38).f6)).bind fun t324 => (if t324 = true then (impl_GoodFs.l0 k x36 x37 (wrap64 (x38 + 1)) x319000 x319001) else (some false))) else (none)) else (none)) else ((impl_Fs_bytesIn.f k x319000 x319001).bind fun t325 => (if t325 > x319001 then (some false) else ((impl_Fs_links.f k x319000 x319001).bind fun t326 => (impl_GoodFs.l1 k t326 x319000 (x319000.length : Int) 0 x319000 x319001))))
def impl_GoodFs.l1 : Nat → List Int → List (S53) → Int → Int → List (S53) → Int → Option (Bool)
 | 0, _, _, _, _, _, _ => none
 | k + 1, x5, x55, x56, x57, x319000, x319001 => if x57 < x56 then (if 0 ≤ x57 then (if x57 < (x55.length : Int) then (if x57 = 0 then (if ((rd_T53 x55 x57).f0) = 0 then (impl_GoodFs.l1 k x5 x55 x56 (wrap64 (x57 + 1)) x319000 x319001) else (if x57 < (x5.length : Int) then ((impl_within.f (rd x5 x57) (mn x57 1) 0).bind fun t332 => (if t332 = true then (impl_GoodFs.l1 k x5 x55 x56 (wrap64 (x57 + 1)) x319000 x319001) else (some false))) else (none))) else (if ((rd_T53 x55 x57).f0) = 2 then (if ((rd_T53 x55 x57).f0) = 0 then (impl_GoodFs.l1 k x5 x55 x56 (wrap64 (x57 + 1)) x319000 x319001) else (if x57 < (x5.length : Int) then ((impl_within.f (rd x5 x57) (mn x57 1) 1).bind fun t334 => (if t334 = true then (impl_GoodFs.l1 k x5 x55 x56 (wrap64 (x57 + 1)) x319000 x319001) else (some false))) else (none))) else (if ((rd_T53 x55 x57).f0) = 0 then (impl_GoodFs.l1 k x5 x55 x56 (wrap64 (x57 + 1)) x319000 x319001) else (if x57 < (x5.length : Int) then ((impl_within.f (rd x5 x57) (mn x57 1) 1152921504606846976).bind fun t336 => (if t336 = true then (impl_GoodFs.l1 k x5 x55 x56 (wrap64 (x57 + 1)) x319000 x319001) else (some false))) else (none))))) else (none)) else (none)) else (if 0 ≤ (x319000.length : Int) then (if ((x319000.length : Int) : Int).toNat ≤ 281474976710656 then (impl_GoodFs.l2 k (List.replicate ((x319000.length : Int) : Int).toNat false) (([0] : List Int)) 0 x319000 x319001) else (none)) else (none))
def impl_GoodFs.l2 : Nat → List Bool → List Int → Int → List (S53) → Int → Option (Bool)
 | 0, _, _, _, _, _ => none
 | k + 1, x9, x10, x11, x319000, x319001 => if x11 < (x10.length : Int) then (if 0 ≤ x11 then (if 0 ≤ (rd x10 x11) then (if (rd x10 x11) < (x9.length : Int) then (if (rd x10 x11) < (x319000.length : Int) then (impl_GoodFs.l3 k (x9.set ((rd x10 x11) : Int).toNat true) x10 x11 ((rd_T53 x319000 (rd x10 x11)).f6) (((rd_T53 x319000 (rd x10 x11)).f6).length : Int) 0 x319000 x319001) else (none)) else (none)) else (none)) else (none)) else (impl_GoodFs.l4 k x9 x319000 (x319000.length : Int) 0)
def impl_GoodFs.l3 : Nat → List Bool → List Int → Int → List (S60) → Int → Int → List (S53) → Int → Option (Bool)
 | 0, _, _, _, _, _, _, _, _ => none
 | k + 1, x9, x10, x11, x109, x110, x111, x319000, x319001 => if x111 < x110 then (if 0 ≤ x111 then (if x111 < (x109.length : Int) then (if 0 ≤ ((rd_T60 x109 x111).f1) then (if ((rd_T60 x109 x111).f1) < (x319000.length : Int) then (if ((rd_T53 x319000 ((rd_T60 x109 x111).f1)).f0) = 2 then (if ((rd_T60 x109 x111).f1) < (x9.length : Int) then (if (rdOf false x9 ((rd_T60 x109 x111).f1) = true) then (impl_GoodFs.l3 k x9 x10 x11 x109 x110 (wrap64 (x111 + 1)) x319000 x319001) else (if x10.length < 17592186044416 then (impl_GoodFs.l3 k x9 (x10 ++ [(rd_T60 x109 x111).f1]) x11 x109 x110 (wrap64 (x111 + 1)) x319000 x319001) else (none))) else (none)) else (impl_GoodFs.l3 k x9 x10 x11 x109 x110 (wrap64 (x111 + 1)) x319000 x319001)) else (none)) else (none)) else (none)) else (none)) else (impl_GoodFs.l2 k x9 x10 (wrap64 (x11 + 1)) x319000 x319001)
def impl_GoodFs.l4 : Nat → List Bool → List (S53) → Int → Int → Option (Bool)
 | 0, _, _, _, _ => none
 | k + 1, x9, x138, x139, x140 => if x140 < x139 then (if 0 ≤ x140 then (if x140 < (x138.length : Int) then (if ((rd_T53 x138 x140).f0) = 2 then (if x140 < (x9.length : Int) then (if rdOf false x9 x140 = true then (impl_GoodFs.l4 k x9 x138 x139 (wrap64 (x140 + 1))) else (some false)) else (none)) else (impl_GoodFs.l4 k x9 x138 x139 (wrap64 (x140 + 1)))) else (none)) else (none)) else (some true)
end
def impl_GoodFs.f (k : Nat) (l0_0 : List (S53)) (a0_1 : Int) : Option (Bool) := (impl_within.f (l0_0.length : Int) 1 40).bind fun t319 => (if t319 = true then ((impl_isRoom.f a0_1).bind fun t320 => (if t320 = true then (if 0 < (l0_0.length : Int) then (impl_GoodFs.j0 k (((rd_T53 l0_0 0).f0) != 2) l0_0 a0_1) else (none)) else (impl_GoodFs.j0 k true l0_0 a0_1))) else (impl_GoodFs.j0 k true l0_0 a0_1))
def impl_GoodFs.T29 : Bool × List (List Nat × List Nat) := (true, [([], []), ([0], [0]), ([], []), ([], []), ([2, 3], [2, 3]), ([4], [4]), ([1, 5], [1, 5]), ([6], [6]), ([7], [7]), ([8], [8]), ([], [])])
def impl_GoodFs.B29 : List Nat := [0, 1, 0, 0, 12, 28, 63, 127, 255, 511, 0]
theorem impl_GoodFs.tab29 : rtab .any (opsOf Tryd.f16 29) = impl_GoodFs.T29 := by kernel_rfl
theorem impl_GoodFs.bits29 : waitsOk impl_GoodFs.T29.2 impl_GoodFs.B29 = true := by kernel_rfl
theorem impl_GoodFs.calls (k : Nat) (A0_0 : Option Addr) (c0_0 : Nat) (l0_0 : List (S53)) (a0_1 : Int) (r : Bool) (w : World) (hr0_0 : Kd.C k53 w A0_0 l0_0.length l0_0) (hc0_0 : l0_0.length ≤ c0_0) (h : impl_GoodFs.f k l0_0 a0_1 = some r) :
  Calls Tryd.prog 16 #[.agg #[.slice A0_0 l0_0.length c0_0, .int .i64 a0_1]] w fun e w' => e = .returned (.bool r) ∧ Below w.heap.size w w' := by
 have hu29 := Tryd.underlying29
 have hu53 := Tryd.underlying53
 have hu60 := Tryd.underlying60
 have HR0_0 := Aside0.mk hr0_0
 have HC0_0 := Aside0.mk hc0_0
 clear hr0_0 hc0_0
 have HB := Aside0.mk (Below.refl w.heap.size w)
 have H : ((impl_within.f (l0_0.length : Int) 1 40).bind fun t319 => (if t319 = true then ((impl_isRoom.f a0_1).bind fun t320 => (if t320 = true then (if 0 < (l0_0.length : Int) then (impl_GoodFs.j0 k (((rd_T53 l0_0 0).f0) != 2) l0_0 a0_1) else (none)) else (impl_GoodFs.j0 k true l0_0 a0_1))) else (impl_GoodFs.j0 k true l0_0 a0_1))) = some r := h
 clear h
 have HC2 := Aside0.mk H
 clear H
 go_enter Tryd.func16, Tryd.ntmps16
 go_upto_region 1 with (first | ((with_reducible refine gd 1 rfl ?_); (first | refine bxE 1 #[.slice A0_0 l0_0.length c0_0, .int .i64 a0_1] 29 ?_ | refine bgE 1 #[.slice A0_0 l0_0.length c0_0, .int .i64 a0_1] 29 ?_); intro gb318 hg w3 hbox hb; have BK318 := Aside0.mk hbox; have GW318 := nGB hg; have GE318 := nGB hg; replace HB := nSB hb; clear hb hbox hg))
 (try simp only [Act.put, List.setIfInBounds_toArray, List.set_cons_zero, List.set_cons_succ])
 go_cut [34] (fun v34 wc => ∃ (kq : Nat) (x34_1 : Bool), v34 = .bool x34_1 ∧ Aside0 (impl_GoodFs.j0 kq x34_1 l0_0 a0_1 = some r) ∧ Aside0 (kq ≤ k) ∧ Aside0 (wc.heap[gb318]? = some (.cells #[(.slice A0_0 l0_0.length c0_0), .int .i64 a0_1] 29 (0, 0))) ∧ Aside0 (Below w.heap.size w wc))
 case first =>
  have H := HC2.out
  clear HC2
  obtain ⟨t319, A4, H⟩ := bS H
  try dsimp only at H
  by_cases c5 : t319 = true
  ·subst c5
   rw [if_pos rfl] at H
   obtain ⟨t320, A6, H⟩ := bS H
   try dsimp only at H
   by_cases c7 : t320 = true
   ·subst c7
    rw [if_pos rfl] at H
    obtain ⟨c8, H⟩ := iN H
    have c8b0 := decide_eq_true c8
    have c8b1 : decide (0 < l0_0.length) = true := decide_eq_true (by omega)
    clear c8
    (first | rw [c8b0] | (simp only [i64_w, i32_w]; rw [c8b0]) | skip)
    have H' := Aside0.mk H
    clear H
    have hcz9 := cb2 BK318
    go_wp2_with (first | ((with_reducible refine gt 43 rfl ?_); refine gL 43 19 Tryd.func43 #[.int .i64 (l0_0.length : Int), .int .i64 1, .int .i64 40] ?_; (with_reducible refine (impl_within.calls (l0_0.length : Int) 1 40 true _ A4.out).mono ?_); rintro e w' ⟨rfl, ⟨nd, rfl⟩⟩; refine ⟨_, rfl, ?_⟩) | (go_at_call 44; (with_reducible refine (impl_isRoom.calls a0_1 true _ A6.out).mono ?_); rintro e w' ⟨rfl, ⟨nd, rfl⟩⟩; have p321 : 0 ≤ (0 : Int) := (by omega); have q321 : 0 < (l0_0.length : Int) := sO; obtain ⟨ad321, A321_6, c321_6, e321, hx321_0, hx321_1, hx321_2, hx321_3, hx321_4, hx321_5, hx321_6, hl321_6, hi321_6⟩ := at_T53 HR0_0.out 0 p321 q321; cases e321; have qi321 : (0 < l0_0.length) = True := eq_true (by omega); (try rw [show ((0 : Int)).toNat = 0 from rfl] at hx321_0); (try rw [show 0 * 7 = 0 from rfl] at hx321_0); (try rw [Addr.add_zero'] at hx321_0); (try rw [show ((0 : Int)).toNat = 0 from rfl] at hx321_1); (try rw [show 0 * 7 = 0 from rfl] at hx321_1); (try rw [Addr.add_zero'] at hx321_1); (try rw [show ((0 : Int)).toNat = 0 from rfl] at hx321_2); (try rw [show 0 * 7 = 0 from rfl] at hx321_2); (try rw [Addr.add_zero'] at hx321_2); (try rw [show ((0 : Int)).toNat = 0 from rfl] at hx321_3); (try rw [show 0 * 7 = 0 from rfl] at hx321_3); (try rw [Addr.add_zero'] at hx321_3); (try rw [show ((0 : Int)).toNat = 0 from rfl] at hx321_4); (try rw [show 0 * 7 = 0 from rfl] at hx321_4); (try rw [Addr.add_zero'] at hx321_4); (try rw [show ((0 : Int)).toNat = 0 from rfl] at hx321_5); (try rw [show 0 * 7 = 0 from rfl] at hx321_5); (try rw [Addr.add_zero'] at hx321_5); (try rw [show ((0 : Int)).toNat = 0 from rfl] at hx321_6); (try rw [show 0 * 7 = 0 from rfl] at hx321_6); (try rw [Addr.add_zero'] at hx321_6); replace hx321_0 := hB HB hx321_0; replace hx321_1 := hB HB hx321_1; replace hx321_2 := hB HB hx321_2; replace hx321_3 := hB HB hx321_3; replace hx321_4 := hB HB hx321_4; replace hx321_5 := hB HB hx321_5; replace hx321_6 := hB HB hx321_6; have HR321_6 := Aside0.mk hi321_6; have HC321_6 := Aside0.mk hl321_6; clear hi321_6 hl321_6; replace p321 := eq_true p321; replace q321 := eq_true q321))
    go_meet
    case rel => exact ⟨_, ((((rd_T53 l0_0 0).f0) != 2)), sR, H', ⟨by first | omega | exact Nat.le_refl _⟩, ⟨sK BK318⟩, ⟨sC⟩⟩
   ·replace c7 := Bool.eq_false_iff.mpr c7
    subst c7
    rw [if_neg (show ¬ (false = true) by decide)] at H
    have H' := Aside0.mk H
    clear H
    have hcz10 := cb2 BK318
    go_wp2_with (first | ((with_reducible refine gt 43 rfl ?_); refine gL 43 19 Tryd.func43 #[.int .i64 (l0_0.length : Int), .int .i64 1, .int .i64 40] ?_; (with_reducible refine (impl_within.calls (l0_0.length : Int) 1 40 true _ A4.out).mono ?_); rintro e w' ⟨rfl, ⟨nd, rfl⟩⟩; refine ⟨_, rfl, ?_⟩) | (go_at_call 44; (with_reducible refine (impl_isRoom.calls a0_1 false _ A6.out).mono ?_); rintro e w' ⟨rfl, ⟨nd, rfl⟩⟩))
    go_meet
    case rel => exact ⟨_, (true), sR, H', ⟨by first | omega | exact Nat.le_refl _⟩, ⟨sK BK318⟩, ⟨sC⟩⟩
  ·replace c5 := Bool.eq_false_iff.mpr c5
   subst c5
   rw [if_neg (show ¬ (false = true) by decide)] at H
   have H' := Aside0.mk H
   clear H
   have hcz11 := cb2 BK318
   go_wp2_with (first | ((with_reducible refine gt 43 rfl ?_); refine gL 43 19 Tryd.func43 #[.int .i64 (l0_0.length : Int), .int .i64 1, .int .i64 40] ?_; (with_reducible refine (impl_within.calls (l0_0.length : Int) 1 40 false _ A4.out).mono ?_); rintro e w' ⟨rfl, ⟨nd, rfl⟩⟩; refine ⟨_, rfl, ?_⟩))
   go_meet
   case rel => exact ⟨_, (true), sR, H', ⟨by first | omega | exact Nat.le_refl _⟩, ⟨sK BK318⟩, ⟨sC⟩⟩
 case rest =>
  clear HC2
  try clear c1
  try clear p2
  try clear c3
  try clear p3
  try clear q3
  try clear hx3
  try clear qi3
  try clear c4
  try clear c5
  try clear c7
  try clear c8
  try clear c8b0
  try clear c8b1
  try clear hcz10
  try clear hcz11
  try clear hcz9
  try clear hx321_0
  try clear hx321_1
  try clear hx321_2
  try clear hx321_3
  try clear hx321_4
  try clear hx321_5
  try clear hx321_6
  try clear p321
  try clear q321
  obtain ⟨kq, x34_1, rfl, HA, HJ1, BK318, HB⟩ := hcut
  cases kq with
  | zero => exact absurd HA.out (by simp [impl_GoodFs.j0])
  | succ kj1 =>
   have H := HA.out
   clear HA
   simp only [impl_GoodFs.j0] at H
   by_cases c12 : x34_1 = true
   ·subst c12
    rw [if_pos rfl] at H
    obtain rfl := Option.some.inj H
    go_wp2
    go_ret
    exact ⟨sE, sC⟩
   ·replace c12 := Bool.eq_false_iff.mpr c12
    subst c12
    rw [if_neg (show ¬ (false = true) by decide)] at H
    have H' := Aside0.mk H
    clear H
    have hcz13 := cb2 BK318
    go_wp2
    go_loopg [38] kj1 (fun kq v38 w' => ∃ (x38_2 : Int), v38 = .int .i64 x38_2 ∧ Aside0 (impl_GoodFs.l0 kq l0_0 (l0_0.length : Int) x38_2 l0_0 a0_1 = some r) ∧ Aside0 (kq ≤ kj1) ∧ Aside0 (w'.heap[gb318]? = some (.cells #[(.slice A0_0 l0_0.length c0_0), .int .i64 a0_1] 29 (0, 0))) ∧ Aside0 (Below w.heap.size w w'))
    case atStart => exact ⟨(0), sR, H', ⟨Nat.le_refl _⟩, ⟨sK BK318⟩, ⟨sC⟩⟩
    case round =>
     clear H'
     try clear c1
     try clear p2
     try clear c3
     try clear p3
     try clear q3
     try clear hx3
     try clear qi3
     try clear c4
     try clear c5
     try clear c7
     try clear c8
     try clear c8b0
     try clear c8b1
     try clear c12
     try clear hcz10
     try clear hcz11
     try clear hcz13
     try clear hcz9
     try clear hx321_0
     try clear hx321_1
     try clear hx321_2
     try clear hx321_3
     try clear hx321_4
     try clear hx321_5
     try clear hx321_6
     try clear p2
     try clear p3
     try clear p321
     try clear q3
     try clear q321
     obtain ⟨x38_2, rfl, HA, HK2, BK318, HB⟩ := hrel
     cases gk with
     | zero => exact absurd HA.out (by simp [impl_GoodFs.l0])
     | succ k2 =>
      have H := HA.out
      clear HA
      simp only [impl_GoodFs.l0] at H
      by_cases c14 : x38_2 < (l0_0.length : Int)
      ·rw [if_pos c14] at H
       have c14b0 := decide_eq_true c14
       clear c14
       obtain ⟨c15, H⟩ := iN H
       have c15b0 := decide_eq_true c15
       clear c15
       obtain ⟨c16, H⟩ := iN H
       have c16b0 := decide_eq_true c16
       clear c16
       obtain ⟨t324, A17, H⟩ := bS H
       try dsimp only at H
       by_cases c18 : t324 = true
       ·subst c18
        rw [if_pos rfl] at H
        have H' := Aside0.mk H
        clear H
        have p322 : 0 ≤ (x38_2 : Int) := sO
        have q322 : x38_2 < (l0_0.length : Int) := sO
        obtain ⟨ad322, A322_6, c322_6, e322, hx322_0, hx322_1, hx322_2, hx322_3, hx322_4, hx322_5, hx322_6, hl322_6, hi322_6⟩ := ab53 HR0_0.out HB x38_2 p322 q322
        cases e322
        have HR322_6 := Aside0.mk hi322_6
        have HC322_6 := Aside0.mk hl322_6
        clear hi322_6 hl322_6
        replace p322 := eq_true p322
        replace q322 := eq_true q322
        go_wp2_with (first | ((with_reducible refine gd 4 rfl ?_); (first | refine bxE 4 #[.int .i64 0, .int .i64 0, .int .i64 0, .int .i64 0, .int .i64 0, .string (⟨#[]⟩ : ByteArray), .slice none 0 0] 53 ?_ | refine bgE 4 #[.int .i64 0, .int .i64 0, .int .i64 0, .int .i64 0, .int .i64 0, .string (⟨#[]⟩ : ByteArray), .slice none 0 0] 53 ?_); intro gb323 hg w19 hbox hb; have BK323 := Aside0.mk hbox; have GW323 := nGC hg; have GE323 := nGC hg; replace HB := nSC hb; have NB318_323 := nL BK318 hg; have NB323_318 := nH BK318 hg; replace BK318 := nK BK318 hb; clear hb hbox hg; have hnb20 := NB323_318.out; have hnc20 := NB318_323.out; have hcz21 := cb7 BK323; have hcz22 := cb2 BK318) | ((with_reducible refine gt 45 rfl ?_); refine gL 45 44 Tryd.func45 #[.agg #[.slice (some ad322) l0_0.length c0_0, .int .i64 a0_1], .agg #[.int .i64 ((rd_T53 l0_0 x38_2).f0), .int .i64 ((rd_T53 l0_0 x38_2).f1), .int .i64 ((rd_T53 l0_0 x38_2).f2), .int .i64 ((rd_T53 l0_0 x38_2).f3), .int .i64 ((rd_T53 l0_0 x38_2).f4), .string ((rd_T53 l0_0 x38_2).f5), .slice A322_6 ((rd_T53 l0_0 x38_2).f6).length c322_6]] ?_; (with_reducible refine (impl_Fs_isNode.calls k2 _ _ l0_0 a0_1 ((rd_T53 l0_0 x38_2).f0) ((rd_T53 l0_0 x38_2).f1) ((rd_T53 l0_0 x38_2).f2) ((rd_T53 l0_0 x38_2).f3) ((rd_T53 l0_0 x38_2).f4) ((rd_T53 l0_0 x38_2).f5) _ _ ((rd_T53 l0_0 x38_2).f6) true _ ?side1 ?side2 ?side3 ?side4 A17.out).mono ?_); (case side1 => exact Kd.C_below HR0_0.out sC); (case side2 => exact HC0_0.out); (case side3 => exact Kd.C_below HR322_6.out sC); (case side4 => exact HC322_6.out); rintro e w23 ⟨rfl, hb⟩; refine ⟨_, rfl, ?_⟩; replace BK318 := nF BK318 hb; replace BK323 := nX #[.int .i64 ((rd_T53 l0_0 x38_2).f0), .int .i64 ((rd_T53 l0_0 x38_2).f1), .int .i64 ((rd_T53 l0_0 x38_2).f2), .int .i64 ((rd_T53 l0_0 x38_2).f3), .int .i64 ((rd_T53 l0_0 x38_2).f4), .string ((rd_T53 l0_0 x38_2).f5), .slice A322_6 ((rd_T53 l0_0 x38_2).f6).length c322_6] BK323 hb; replace HB := nSC hb; try clear hb))
        go_roundg k2
        case measure => have := HJ1.out; have := HK2.out; omega
        case rel => exact ⟨(wrap64 (x38_2 + 1)), sR, H', ⟨by have := HJ1.out; have := HK2.out; omega⟩, ⟨sK BK318⟩, ⟨sC⟩⟩
       ·replace c18 := Bool.eq_false_iff.mpr c18
        subst c18
        rw [if_neg (show ¬ (false = true) by decide)] at H
        obtain rfl := Option.some.inj H
        have p322 : 0 ≤ (x38_2 : Int) := sO
        have q322 : x38_2 < (l0_0.length : Int) := sO
        obtain ⟨ad322, A322_6, c322_6, e322, hx322_0, hx322_1, hx322_2, hx322_3, hx322_4, hx322_5, hx322_6, hl322_6, hi322_6⟩ := ab53 HR0_0.out HB x38_2 p322 q322
        cases e322
        have HR322_6 := Aside0.mk hi322_6
        have HC322_6 := Aside0.mk hl322_6
        clear hi322_6 hl322_6
        replace p322 := eq_true p322
        replace q322 := eq_true q322
        go_wp2_with (first | ((with_reducible refine gd 4 rfl ?_); (first | refine bxE 4 #[.int .i64 0, .int .i64 0, .int .i64 0, .int .i64 0, .int .i64 0, .string (⟨#[]⟩ : ByteArray), .slice none 0 0] 53 ?_ | refine bgE 4 #[.int .i64 0, .int .i64 0, .int .i64 0, .int .i64 0, .int .i64 0, .string (⟨#[]⟩ : ByteArray), .slice none 0 0] 53 ?_); intro gb323 hg w24 hbox hb; have BK323 := Aside0.mk hbox; have GW323 := nGC hg; have GE323 := nGC hg; replace HB := nSC hb; have NB318_323 := nL BK318 hg; have NB323_318 := nH BK318 hg; replace BK318 := nK BK318 hb; clear hb hbox hg; have hnb25 := NB323_318.out; have hnc25 := NB318_323.out; have hcz26 := cb7 BK323; have hcz27 := cb2 BK318) | ((with_reducible refine gt 45 rfl ?_); refine gL 45 44 Tryd.func45 #[.agg #[.slice (some ad322) l0_0.length c0_0, .int .i64 a0_1], .agg #[.int .i64 ((rd_T53 l0_0 x38_2).f0), .int .i64 ((rd_T53 l0_0 x38_2).f1), .int .i64 ((rd_T53 l0_0 x38_2).f2), .int .i64 ((rd_T53 l0_0 x38_2).f3), .int .i64 ((rd_T53 l0_0 x38_2).f4), .string ((rd_T53 l0_0 x38_2).f5), .slice A322_6 ((rd_T53 l0_0 x38_2).f6).length c322_6]] ?_; (with_reducible refine (impl_Fs_isNode.calls k2 _ _ l0_0 a0_1 ((rd_T53 l0_0 x38_2).f0) ((rd_T53 l0_0 x38_2).f1) ((rd_T53 l0_0 x38_2).f2) ((rd_T53 l0_0 x38_2).f3) ((rd_T53 l0_0 x38_2).f4) ((rd_T53 l0_0 x38_2).f5) _ _ ((rd_T53 l0_0 x38_2).f6) false _ ?side1 ?side2 ?side3 ?side4 A17.out).mono ?_); (case side1 => exact Kd.C_below HR0_0.out sC); (case side2 => exact HC0_0.out); (case side3 => exact Kd.C_below HR322_6.out sC); (case side4 => exact HC322_6.out); rintro e w28 ⟨rfl, hb⟩; refine ⟨_, rfl, ?_⟩; replace BK318 := nF BK318 hb; replace BK323 := nX #[.int .i64 ((rd_T53 l0_0 x38_2).f0), .int .i64 ((rd_T53 l0_0 x38_2).f1), .int .i64 ((rd_T53 l0_0 x38_2).f2), .int .i64 ((rd_T53 l0_0 x38_2).f3), .int .i64 ((rd_T53 l0_0 x38_2).f4), .string ((rd_T53 l0_0 x38_2).f5), .slice A322_6 ((rd_T53 l0_0 x38_2).f6).length c322_6] BK323 hb; replace HB := nSC hb; try clear hb))
        go_ret
        exact ⟨sE, sC⟩
      ·rw [if_neg c14] at H
       have c14b0 := decide_eq_false c14
       clear c14
       obtain ⟨t325, A29, H⟩ := bS H
       try dsimp only at H
       by_cases c30 : t325 > a0_1
       ·rw [if_pos c30] at H
        have c30b0 := decide_eq_true c30
        clear c30
        obtain rfl := Option.some.inj H
        try go_wp2
        have n0_ := Aside0.mk (blk_drew BK318.out)
        have n1_ := Aside0.mk (below_drew1 HB.out)
        clear BK318
        clear HB
        have BK318 := n0_
        have HB := n1_
        clear n0_ n1_
        refine st2 5 [] (cz0 BK318) (cz1 BK318) (fun hHeld => ?_)
        generalize wr.drew = w31 at BK318 HB hHeld ⊢
        refine pu 2 49 ?_
        refine tk2 0 47 ?_
        refine tk2 3 50 ?_
        refine on 1 48 (fun K hK => ?_)
        refine gC Tryd.func46 #[.agg #[.slice A0_0 l0_0.length c0_0, .int .i64 a0_1]] ?_
        with_reducible refine (impl_Fs_bytesIn.calls k2 _ _ l0_0 a0_1 t325 _ ?side1 ?side2 A29.out).mono ?_
        (case side1 => exact sD (Kd.C_below HR0_0.out HB.out))
        (case side2 => exact HC0_0.out)
        rintro e w32 ⟨rfl, hb⟩
        refine ⟨_, rfl, ?_⟩
        have n0_ := nK BK318 hb
        have n1_ := nSC hb
        clear BK318
        clear HB
        have BK318 := n0_
        have HB := n1_
        clear n0_ n1_
        (try clear hb)
        (try clear hb2)
        (try clear hk)
        (try clear hi)
        refine hK.out _ _ ⟨cz0 BK318, cz1 BK318⟩ (fun hHeld => ?_)
        clear hK K
        refine nm ?_
        refine pu 4 51 ?_
        refine dn ?_
        try go_wp2
        go_ret
        exact ⟨sE, sC⟩
       ·rw [if_neg c30] at H
        have c30b0 := decide_eq_false c30
        clear c30
        obtain ⟨t326, A33, H⟩ := bS H
        try dsimp only at H
        have H' := Aside0.mk H
        clear H
        try go_wp2
        have n0_ := Aside0.mk (blk_drew BK318.out)
        have n1_ := Aside0.mk (below_drew1 HB.out)
        clear BK318
        clear HB
        have BK318 := n0_
        have HB := n1_
        clear n0_ n1_
        refine st2 5 [] (cz0 BK318) (cz1 BK318) (fun hHeld => ?_)
        generalize wr.drew = w34 at BK318 HB hHeld ⊢
        refine pu 2 49 ?_
        refine tk2 0 47 ?_
        refine tk2 3 50 ?_
        refine on 1 48 (fun K hK => ?_)
        refine gC Tryd.func46 #[.agg #[.slice A0_0 l0_0.length c0_0, .int .i64 a0_1]] ?_
        with_reducible refine (impl_Fs_bytesIn.calls k2 _ _ l0_0 a0_1 t325 _ ?side1 ?side2 A29.out).mono ?_
        (case side1 => exact sD (Kd.C_below HR0_0.out HB.out))
        (case side2 => exact HC0_0.out)
        rintro e w35 ⟨rfl, hb⟩
        refine ⟨_, rfl, ?_⟩
        have n0_ := nK BK318 hb
        have n1_ := nSC hb
        clear BK318
        clear HB
        have BK318 := n0_
        have HB := n1_
        clear n0_ n1_
        (try clear hb)
        (try clear hb2)
        (try clear hk)
        (try clear hi)
        refine hK.out _ _ ⟨cz0 BK318, cz1 BK318⟩ (fun hHeld => ?_)
        clear hK K
        refine nm ?_
        refine pu 4 51 ?_
        refine dn ?_
        have hcz36 := cb2 BK318
        try go_wp2_with (first | ((with_reducible refine gt 47 rfl ?_); refine gL 47 53 Tryd.func47 #[.agg #[.slice A0_0 l0_0.length c0_0, .int .i64 a0_1]] ?_; (with_reducible refine (impl_Fs_links.calls k2 _ _ l0_0 a0_1 t326 _ ?side1 ?side2 A33.out).mono ?_); (case side1 => exact sD (Kd.C_below HR0_0.out HB.out)); (case side2 => exact HC0_0.out); rintro e w37 ⟨v327, rfl, ho0, hb⟩; refine ⟨_, rfl, ?_⟩; have HO328 := Aside0.mk (Kd.R_lower ho0 (below_size sC)); replace BK318 := nK BK318 hb; replace HB := nSC hb; try clear hb; (try clear ho0); have hcz38 := cb2 BK318))
        go_loopg [57] k2 (fun kq v57 w' => ∃ (x57_3 : Int), v57 = .int .i64 x57_3 ∧ Aside0 (impl_GoodFs.l1 kq t326 l0_0 (l0_0.length : Int) x57_3 l0_0 a0_1 = some r) ∧ Aside0 (kq ≤ k2) ∧ Aside0 (Kd.R (Kd.int .i64) 3 w' w.heap.size (fun _ => True) v327 t326) ∧ Aside0 (w'.heap[gb318]? = some (.cells #[(.slice A0_0 l0_0.length c0_0), .int .i64 a0_1] 29 (0, 0))) ∧ Aside0 (Below w.heap.size w w'))
        case atStart => exact ⟨(0), sR, H', ⟨Nat.le_refl _⟩, ⟨rR HO328⟩, ⟨sK BK318⟩, ⟨sC⟩⟩
        case round =>
         clear H'
         try clear c1
         try clear c2
         try clear p2
         try clear c3
         try clear p3
         try clear q3
         try clear hx3
         try clear qi3
         try clear c4
         try clear c5
         try clear p6
         try clear c7
         try clear c8
         try clear c8b0
         try clear c8b1
         try clear c12
         try clear c14
         try clear c14b0
         try clear c15
         try clear c15b0
         try clear c16
         try clear c16b0
         try clear c18
         try clear c20
         try clear c25
         try clear c30
         try clear c30b0
         try clear c32
         try clear p32
         try clear q32
         try clear hx32
         try clear qi32
         try clear hcz10
         try clear hcz11
         try clear hcz13
         try clear hcz21
         try clear hcz22
         try clear hcz26
         try clear hcz27
         try clear hcz36
         try clear hcz38
         try clear hcz9
         try clear hx321_0
         try clear hx321_1
         try clear hx321_2
         try clear hx321_3
         try clear hx321_4
         try clear hx321_5
         try clear hx321_6
         try clear hx322_0
         try clear hx322_1
         try clear hx322_2
         try clear hx322_3
         try clear hx322_4
         try clear hx322_5
         try clear hx322_6
         try clear p2
         try clear p3
         try clear p321
         try clear p322
         try clear q3
         try clear q321
         try clear q322
         obtain ⟨x57_3, rfl, HA, HK3, HO_5, BK318, HB⟩ := hrel
         cases gk with
         | zero => exact absurd HA.out (by simp [impl_GoodFs.l1])
         | succ k3 =>
          have H := HA.out
          clear HA
          simp only [impl_GoodFs.l1] at H
          by_cases c39 : x57_3 < (l0_0.length : Int)
          ·rw [if_pos c39] at H
           have c39b0 := decide_eq_true c39
           clear c39
           obtain ⟨c40, H⟩ := iN H
           have c40b0 := decide_eq_true c40
           clear c40
           obtain ⟨c41, H⟩ := iN H
           have c41b0 := decide_eq_true c41
           clear c41
           by_cases c42 : x57_3 = 0
           ·rw [if_pos c42] at H
            have c42b0 := beq_iff_eq.mpr c42
            have c42b1 := bne_eq_false_iff_eq.mpr c42
            clear c42
            by_cases c43 : ((rd_T53 l0_0 x57_3).f0) = 0
            ·rw [if_pos c43] at H
             have c43b0 := beq_iff_eq.mpr c43
             have c43b1 := bne_eq_false_iff_eq.mpr c43
             clear c43
             have H' := Aside0.mk H
             clear H
             have p329 : 0 ≤ (x57_3 : Int) := sO
             have q329 : x57_3 < (l0_0.length : Int) := sO
             obtain ⟨ad329, A329_6, c329_6, e329, hx329_0, hx329_1, hx329_2, hx329_3, hx329_4, hx329_5, hx329_6, hl329_6, hi329_6⟩ := ab53 HR0_0.out HB x57_3 p329 q329
             cases e329
             have HR329_6 := Aside0.mk hi329_6
             have HC329_6 := Aside0.mk hl329_6
             clear hi329_6 hl329_6
             replace p329 := eq_true p329
             replace q329 := eq_true q329
             go_wp2_with (first | ((with_reducible refine gd 7 rfl ?_); (first | refine bxE 7 #[.int .i64 0, .int .i64 0, .int .i64 0, .int .i64 0, .int .i64 0, .string (⟨#[]⟩ : ByteArray), .slice none 0 0] 53 ?_ | refine bgE 7 #[.int .i64 0, .int .i64 0, .int .i64 0, .int .i64 0, .int .i64 0, .string (⟨#[]⟩ : ByteArray), .slice none 0 0] 53 ?_); intro gb330 hg w44 hbox hb; replace HO_5 := nR HO_5 hb; have BK330 := Aside0.mk hbox; have GW330 := nGC hg; have GE330 := nGC hg; replace HB := nSC hb; have NB318_330 := nL BK318 hg; have NB330_318 := nH BK318 hg; replace BK318 := nK BK318 hb; clear hb hbox hg; have hnb45 := NB330_318.out; have hnc45 := NB318_330.out; have hcz46 := cb7 BK330))
             go_roundg k3
             case measure => have := HJ1.out; have := HK2.out; have := HK3.out; omega
             case rel => exact ⟨(wrap64 (x57_3 + 1)), sR, H', ⟨by have := HJ1.out; have := HK2.out; have := HK3.out; omega⟩, ⟨rRf HO_5 BK330 (fun _ hk => trivial)⟩, ⟨sX BK318⟩, ⟨sC⟩⟩
            ·rw [if_neg c43] at H
             have c43b0 := beq_eq_false_iff_ne.mpr c43
             have c43b1 := bne_iff_ne.mpr c43
             obtain ⟨c47, H⟩ := iN H
             have c47b0 := decide_eq_true c47
             clear c47
             obtain ⟨ji48, hji48⟩ : ∃ j_ : Int, (mn x57_3 1) = j_ := ⟨_, rfl⟩
             replace H : ((impl_within.f (rd t326 x57_3) (ji48) 0).bind fun t332 => (if t332 = true then (impl_GoodFs.l1 k3 t326 l0_0 (l0_0.length : Int) (wrap64 (x57_3 + 1)) l0_0 a0_1) else (some false))) = some r := by first | (rw [hji48] at H; exact H) | (simp only [hji48] at H ⊢; exact H)
             have hji48_ : (if 1 < x57_3 then 1 else x57_3) = ji48 := hji48
             obtain ⟨t332, A49, H⟩ := bS H
             try dsimp only at H
             by_cases c50 : t332 = true
             ·subst c50
              rw [if_pos rfl] at H
              have H' := Aside0.mk H
              clear H
              have p329 : 0 ≤ (x57_3 : Int) := sO
              have q329 : x57_3 < (l0_0.length : Int) := sO
              obtain ⟨ad329, A329_6, c329_6, e329, hx329_0, hx329_1, hx329_2, hx329_3, hx329_4, hx329_5, hx329_6, hl329_6, hi329_6⟩ := ab53 HR0_0.out HB x57_3 p329 q329
              cases e329
              have HR329_6 := Aside0.mk hi329_6
              have HC329_6 := Aside0.mk hl329_6
              clear hi329_6 hl329_6
              replace p329 := eq_true p329
              replace q329 := eq_true q329
              go_wp2_with (first | ((with_reducible refine gd 7 rfl ?_); (first | refine bxE 7 #[.int .i64 0, .int .i64 0, .int .i64 0, .int .i64 0, .int .i64 0, .string (⟨#[]⟩ : ByteArray), .slice none 0 0] 53 ?_ | refine bgE 7 #[.int .i64 0, .int .i64 0, .int .i64 0, .int .i64 0, .int .i64 0, .string (⟨#[]⟩ : ByteArray), .slice none 0 0] 53 ?_); intro gb330 hg w51 hbox hb; replace HO_5 := nR HO_5 hb; have BK330 := Aside0.mk hbox; have GW330 := nGC hg; have GE330 := nGC hg; replace HB := nSC hb; have NB318_330 := nL BK318 hg; have NB330_318 := nH BK318 hg; replace BK318 := nK BK318 hb; clear hb hbox hg; have hnb52 := NB330_318.out; have hnc52 := NB318_330.out; have hcz53 := cb7 BK330; obtain ⟨Ao54, co54, eo54⟩ := Kd.R_slice HO_5.out; subst eo54; have p331 : 0 ≤ (x57_3 : Int) := sO; have q331 : x57_3 < (t326.length : Int) := sO; obtain ⟨ad331, e331, hx331_0⟩ := Kd.at_int (Kd.R_reads' HO_5.out).2.2 x57_3 p331 q331; cases e331; have hn331_0 : ad331.block ≠ gb330 := Kd.own_blk (Kd.R_ne HO_5.out BK330.out (by decide)); have hn331_1 : ad331.block ≠ gb330 := Kd.own_blk (Kd.R_ne HO_5.out BK330.out (by decide)); have hn331_2 : ad331.block ≠ gb330 := Kd.own_blk (Kd.R_ne HO_5.out BK330.out (by decide)); have hn331_3 : ad331.block ≠ gb330 := Kd.own_blk (Kd.R_ne HO_5.out BK330.out (by decide)); have hn331_4 : ad331.block ≠ gb330 := Kd.own_blk (Kd.R_ne HO_5.out BK330.out (by decide)); have hn331_5 : ad331.block ≠ gb330 := Kd.own_blk (Kd.R_ne HO_5.out BK330.out (by decide)); have hn331_6 : ad331.block ≠ gb330 := Kd.own_blk (Kd.R_ne HO_5.out BK330.out (by decide)); replace hx331_0 := (cell_far (p := ⟨gb330, 0, none⟩) (by first | (rw [add_block]; exact hn331_0) | (show (Addr.add _ _).block ≠ _; rw [add_block]; exact hn331_0) | exact hn331_0) (.int .i64 ((rd_T53 l0_0 x57_3).f0))).trans hx331_0; replace hx331_0 := (cell_far (p := ⟨gb330, 1, none⟩) (by first | (rw [add_block]; exact hn331_1) | (show (Addr.add _ _).block ≠ _; rw [add_block]; exact hn331_1) | exact hn331_1) (.int .i64 ((rd_T53 l0_0 x57_3).f1))).trans hx331_0; replace hx331_0 := (cell_far (p := ⟨gb330, 2, none⟩) (by first | (rw [add_block]; exact hn331_2) | (show (Addr.add _ _).block ≠ _; rw [add_block]; exact hn331_2) | exact hn331_2) (.int .i64 ((rd_T53 l0_0 x57_3).f2))).trans hx331_0; replace hx331_0 := (cell_far (p := ⟨gb330, 3, none⟩) (by first | (rw [add_block]; exact hn331_3) | (show (Addr.add _ _).block ≠ _; rw [add_block]; exact hn331_3) | exact hn331_3) (.int .i64 ((rd_T53 l0_0 x57_3).f3))).trans hx331_0; replace hx331_0 := (cell_far (p := ⟨gb330, 4, none⟩) (by first | (rw [add_block]; exact hn331_4) | (show (Addr.add _ _).block ≠ _; rw [add_block]; exact hn331_4) | exact hn331_4) (.int .i64 ((rd_T53 l0_0 x57_3).f4))).trans hx331_0; replace hx331_0 := (cell_far (p := ⟨gb330, 5, none⟩) (by first | (rw [add_block]; exact hn331_5) | (show (Addr.add _ _).block ≠ _; rw [add_block]; exact hn331_5) | exact hn331_5) (.string ((rd_T53 l0_0 x57_3).f5))).trans hx331_0; replace hx331_0 := (cell_far (p := ⟨gb330, 6, none⟩) (by first | (rw [add_block]; exact hn331_6) | (show (Addr.add _ _).block ≠ _; rw [add_block]; exact hn331_6) | exact hn331_6) (.slice A329_6 ((rd_T53 l0_0 x57_3).f6).length c329_6)).trans hx331_0; clear hn331_0; clear hn331_1; clear hn331_2; clear hn331_3; clear hn331_4; clear hn331_5; clear hn331_6; replace p331 := eq_true p331; replace q331 := eq_true q331) | (go_at_call 43; (with_reducible refine (impl_within.calls (rd t326 x57_3) ji48 0 true _ A49.out).mono ?_); rintro e w' ⟨rfl, ⟨nd, rfl⟩⟩))
              go_roundg k3
              case measure => have := HJ1.out; have := HK2.out; have := HK3.out; omega
              case rel => exact ⟨(wrap64 (x57_3 + 1)), sR, (by first | exact H' | (simp only [hji48]; exact H') | (simp only [hji48]; exact H')), ⟨by have := HJ1.out; have := HK2.out; have := HK3.out; omega⟩, ⟨rRf HO_5 BK330 (fun _ hk => trivial)⟩, ⟨sX BK318⟩, ⟨sC⟩⟩
             ·replace c50 := Bool.eq_false_iff.mpr c50
              subst c50
              rw [if_neg (show ¬ (false = true) by decide)] at H
              obtain rfl := Option.some.inj H
              have p329 : 0 ≤ (x57_3 : Int) := sO
              have q329 : x57_3 < (l0_0.length : Int) := sO
              obtain ⟨ad329, A329_6, c329_6, e329, hx329_0, hx329_1, hx329_2, hx329_3, hx329_4, hx329_5, hx329_6, hl329_6, hi329_6⟩ := ab53 HR0_0.out HB x57_3 p329 q329
              cases e329
              have HR329_6 := Aside0.mk hi329_6
              have HC329_6 := Aside0.mk hl329_6
              clear hi329_6 hl329_6
              replace p329 := eq_true p329
              replace q329 := eq_true q329
              go_wp2_with (first | ((with_reducible refine gd 7 rfl ?_); (first | refine bxE 7 #[.int .i64 0, .int .i64 0, .int .i64 0, .int .i64 0, .int .i64 0, .string (⟨#[]⟩ : ByteArray), .slice none 0 0] 53 ?_ | refine bgE 7 #[.int .i64 0, .int .i64 0, .int .i64 0, .int .i64 0, .int .i64 0, .string (⟨#[]⟩ : ByteArray), .slice none 0 0] 53 ?_); intro gb330 hg w55 hbox hb; replace HO_5 := nR HO_5 hb; have BK330 := Aside0.mk hbox; have GW330 := nGC hg; have GE330 := nGC hg; replace HB := nSC hb; have NB318_330 := nL BK318 hg; have NB330_318 := nH BK318 hg; replace BK318 := nK BK318 hb; clear hb hbox hg; have hnb56 := NB330_318.out; have hnc56 := NB318_330.out; have hcz57 := cb7 BK330; obtain ⟨Ao58, co58, eo58⟩ := Kd.R_slice HO_5.out; subst eo58; have p331 : 0 ≤ (x57_3 : Int) := sO; have q331 : x57_3 < (t326.length : Int) := sO; obtain ⟨ad331, e331, hx331_0⟩ := Kd.at_int (Kd.R_reads' HO_5.out).2.2 x57_3 p331 q331; cases e331; have hn331_0 : ad331.block ≠ gb330 := Kd.own_blk (Kd.R_ne HO_5.out BK330.out (by decide)); have hn331_1 : ad331.block ≠ gb330 := Kd.own_blk (Kd.R_ne HO_5.out BK330.out (by decide)); have hn331_2 : ad331.block ≠ gb330 := Kd.own_blk (Kd.R_ne HO_5.out BK330.out (by decide)); have hn331_3 : ad331.block ≠ gb330 := Kd.own_blk (Kd.R_ne HO_5.out BK330.out (by decide)); have hn331_4 : ad331.block ≠ gb330 := Kd.own_blk (Kd.R_ne HO_5.out BK330.out (by decide)); have hn331_5 : ad331.block ≠ gb330 := Kd.own_blk (Kd.R_ne HO_5.out BK330.out (by decide)); have hn331_6 : ad331.block ≠ gb330 := Kd.own_blk (Kd.R_ne HO_5.out BK330.out (by decide)); replace hx331_0 := (cell_far (p := ⟨gb330, 0, none⟩) (by first | (rw [add_block]; exact hn331_0) | (show (Addr.add _ _).block ≠ _; rw [add_block]; exact hn331_0) | exact hn331_0) (.int .i64 ((rd_T53 l0_0 x57_3).f0))).trans hx331_0; replace hx331_0 := (cell_far (p := ⟨gb330, 1, none⟩) (by first | (rw [add_block]; exact hn331_1) | (show (Addr.add _ _).block ≠ _; rw [add_block]; exact hn331_1) | exact hn331_1) (.int .i64 ((rd_T53 l0_0 x57_3).f1))).trans hx331_0; replace hx331_0 := (cell_far (p := ⟨gb330, 2, none⟩) (by first | (rw [add_block]; exact hn331_2) | (show (Addr.add _ _).block ≠ _; rw [add_block]; exact hn331_2) | exact hn331_2) (.int .i64 ((rd_T53 l0_0 x57_3).f2))).trans hx331_0; replace hx331_0 := (cell_far (p := ⟨gb330, 3, none⟩) (by first | (rw [add_block]; exact hn331_3) | (show (Addr.add _ _).block ≠ _; rw [add_block]; exact hn331_3) | exact hn331_3) (.int .i64 ((rd_T53 l0_0 x57_3).f3))).trans hx331_0; replace hx331_0 := (cell_far (p := ⟨gb330, 4, none⟩) (by first | (rw [add_block]; exact hn331_4) | (show (Addr.add _ _).block ≠ _; rw [add_block]; exact hn331_4) | exact hn331_4) (.int .i64 ((rd_T53 l0_0 x57_3).f4))).trans hx331_0; replace hx331_0 := (cell_far (p := ⟨gb330, 5, none⟩) (by first | (rw [add_block]; exact hn331_5) | (show (Addr.add _ _).block ≠ _; rw [add_block]; exact hn331_5) | exact hn331_5) (.string ((rd_T53 l0_0 x57_3).f5))).trans hx331_0; replace hx331_0 := (cell_far (p := ⟨gb330, 6, none⟩) (by first | (rw [add_block]; exact hn331_6) | (show (Addr.add _ _).block ≠ _; rw [add_block]; exact hn331_6) | exact hn331_6) (.slice A329_6 ((rd_T53 l0_0 x57_3).f6).length c329_6)).trans hx331_0; clear hn331_0; clear hn331_1; clear hn331_2; clear hn331_3; clear hn331_4; clear hn331_5; clear hn331_6; replace p331 := eq_true p331; replace q331 := eq_true q331) | (go_at_call 43; (with_reducible refine (impl_within.calls (rd t326 x57_3) ji48 0 false _ A49.out).mono ?_); rintro e w' ⟨rfl, ⟨nd, rfl⟩⟩))
              go_ret
              exact ⟨by first | rfl | (simp [errW_none, errW_some] <;> rfl) | (simp [errW_none, errW_some]; exact isEmpty_ne _) | (simp only [← hji48]; first | rfl | (simp [errW_none, errW_some] <;> rfl)) | (simp [*, errW_none, errW_some] <;> rfl), sC⟩
           ·rw [if_neg c42] at H
            have c42b0 := beq_eq_false_iff_ne.mpr c42
            have c42b1 := bne_iff_ne.mpr c42
            by_cases c59 : ((rd_T53 l0_0 x57_3).f0) = 2
            ·rw [if_pos c59] at H
             have c59b0 := beq_iff_eq.mpr c59
             have c59b1 := bne_eq_false_iff_eq.mpr c59
             clear c59
             by_cases c60 : ((rd_T53 l0_0 x57_3).f0) = 0
             ·rw [if_pos c60] at H
              have c60b0 := beq_iff_eq.mpr c60
              have c60b1 := bne_eq_false_iff_eq.mpr c60
              clear c60
              have H' := Aside0.mk H
              clear H
              have p329 : 0 ≤ (x57_3 : Int) := sO
              have q329 : x57_3 < (l0_0.length : Int) := sO
              obtain ⟨ad329, A329_6, c329_6, e329, hx329_0, hx329_1, hx329_2, hx329_3, hx329_4, hx329_5, hx329_6, hl329_6, hi329_6⟩ := ab53 HR0_0.out HB x57_3 p329 q329
              cases e329
              have HR329_6 := Aside0.mk hi329_6
              have HC329_6 := Aside0.mk hl329_6
              clear hi329_6 hl329_6
              replace p329 := eq_true p329
              replace q329 := eq_true q329
              go_wp2_with (first | ((with_reducible refine gd 7 rfl ?_); (first | refine bxE 7 #[.int .i64 0, .int .i64 0, .int .i64 0, .int .i64 0, .int .i64 0, .string (⟨#[]⟩ : ByteArray), .slice none 0 0] 53 ?_ | refine bgE 7 #[.int .i64 0, .int .i64 0, .int .i64 0, .int .i64 0, .int .i64 0, .string (⟨#[]⟩ : ByteArray), .slice none 0 0] 53 ?_); intro gb330 hg w61 hbox hb; replace HO_5 := nR HO_5 hb; have BK330 := Aside0.mk hbox; have GW330 := nGC hg; have GE330 := nGC hg; replace HB := nSC hb; have NB318_330 := nL BK318 hg; have NB330_318 := nH BK318 hg; replace BK318 := nK BK318 hb; clear hb hbox hg; have hnb62 := NB330_318.out; have hnc62 := NB318_330.out; have hcz63 := cb7 BK330))
              go_roundg k3
              case measure => have := HJ1.out; have := HK2.out; have := HK3.out; omega
              case rel => exact ⟨(wrap64 (x57_3 + 1)), sR, H', ⟨by have := HJ1.out; have := HK2.out; have := HK3.out; omega⟩, ⟨rRf HO_5 BK330 (fun _ hk => trivial)⟩, ⟨sX BK318⟩, ⟨sC⟩⟩
             ·rw [if_neg c60] at H
              have c60b0 := beq_eq_false_iff_ne.mpr c60
              have c60b1 := bne_iff_ne.mpr c60
              obtain ⟨c64, H⟩ := iN H
              have c64b0 := decide_eq_true c64
              clear c64
              obtain ⟨ji65, hji65⟩ : ∃ j_ : Int, (mn x57_3 1) = j_ := ⟨_, rfl⟩
              replace H : ((impl_within.f (rd t326 x57_3) (ji65) 1).bind fun t334 => (if t334 = true then (impl_GoodFs.l1 k3 t326 l0_0 (l0_0.length : Int) (wrap64 (x57_3 + 1)) l0_0 a0_1) else (some false))) = some r := by first | (rw [hji65] at H; exact H) | (simp only [hji65] at H ⊢; exact H)
              have hji65_ : (if 1 < x57_3 then 1 else x57_3) = ji65 := hji65
              obtain ⟨t334, A66, H⟩ := bS H
              try dsimp only at H
              by_cases c67 : t334 = true
              ·subst c67
               rw [if_pos rfl] at H
               have H' := Aside0.mk H
               clear H
               have p329 : 0 ≤ (x57_3 : Int) := sO
               have q329 : x57_3 < (l0_0.length : Int) := sO
               obtain ⟨ad329, A329_6, c329_6, e329, hx329_0, hx329_1, hx329_2, hx329_3, hx329_4, hx329_5, hx329_6, hl329_6, hi329_6⟩ := ab53 HR0_0.out HB x57_3 p329 q329
               cases e329
               have HR329_6 := Aside0.mk hi329_6
               have HC329_6 := Aside0.mk hl329_6
               clear hi329_6 hl329_6
               replace p329 := eq_true p329
               replace q329 := eq_true q329
               go_wp2_with (first | ((with_reducible refine gd 7 rfl ?_); (first | refine bxE 7 #[.int .i64 0, .int .i64 0, .int .i64 0, .int .i64 0, .int .i64 0, .string (⟨#[]⟩ : ByteArray), .slice none 0 0] 53 ?_ | refine bgE 7 #[.int .i64 0, .int .i64 0, .int .i64 0, .int .i64 0, .int .i64 0, .string (⟨#[]⟩ : ByteArray), .slice none 0 0] 53 ?_); intro gb330 hg w68 hbox hb; replace HO_5 := nR HO_5 hb; have BK330 := Aside0.mk hbox; have GW330 := nGC hg; have GE330 := nGC hg; replace HB := nSC hb; have NB318_330 := nL BK318 hg; have NB330_318 := nH BK318 hg; replace BK318 := nK BK318 hb; clear hb hbox hg; have hnb69 := NB330_318.out; have hnc69 := NB318_330.out; have hcz70 := cb7 BK330; obtain ⟨Ao71, co71, eo71⟩ := Kd.R_slice HO_5.out; subst eo71; have p333 : 0 ≤ (x57_3 : Int) := sO; have q333 : x57_3 < (t326.length : Int) := sO; obtain ⟨ad333, e333, hx333_0⟩ := Kd.at_int (Kd.R_reads' HO_5.out).2.2 x57_3 p333 q333; cases e333; have hn333_0 : ad333.block ≠ gb330 := Kd.own_blk (Kd.R_ne HO_5.out BK330.out (by decide)); have hn333_1 : ad333.block ≠ gb330 := Kd.own_blk (Kd.R_ne HO_5.out BK330.out (by decide)); have hn333_2 : ad333.block ≠ gb330 := Kd.own_blk (Kd.R_ne HO_5.out BK330.out (by decide)); have hn333_3 : ad333.block ≠ gb330 := Kd.own_blk (Kd.R_ne HO_5.out BK330.out (by decide)); have hn333_4 : ad333.block ≠ gb330 := Kd.own_blk (Kd.R_ne HO_5.out BK330.out (by decide)); have hn333_5 : ad333.block ≠ gb330 := Kd.own_blk (Kd.R_ne HO_5.out BK330.out (by decide)); have hn333_6 : ad333.block ≠ gb330 := Kd.own_blk (Kd.R_ne HO_5.out BK330.out (by decide)); replace hx333_0 := (cell_far (p := ⟨gb330, 0, none⟩) (by first | (rw [add_block]; exact hn333_0) | (show (Addr.add _ _).block ≠ _; rw [add_block]; exact hn333_0) | exact hn333_0) (.int .i64 ((rd_T53 l0_0 x57_3).f0))).trans hx333_0; replace hx333_0 := (cell_far (p := ⟨gb330, 1, none⟩) (by first | (rw [add_block]; exact hn333_1) | (show (Addr.add _ _).block ≠ _; rw [add_block]; exact hn333_1) | exact hn333_1) (.int .i64 ((rd_T53 l0_0 x57_3).f1))).trans hx333_0; replace hx333_0 := (cell_far (p := ⟨gb330, 2, none⟩) (by first | (rw [add_block]; exact hn333_2) | (show (Addr.add _ _).block ≠ _; rw [add_block]; exact hn333_2) | exact hn333_2) (.int .i64 ((rd_T53 l0_0 x57_3).f2))).trans hx333_0; replace hx333_0 := (cell_far (p := ⟨gb330, 3, none⟩) (by first | (rw [add_block]; exact hn333_3) | (show (Addr.add _ _).block ≠ _; rw [add_block]; exact hn333_3) | exact hn333_3) (.int .i64 ((rd_T53 l0_0 x57_3).f3))).trans hx333_0; replace hx333_0 := (cell_far (p := ⟨gb330, 4, none⟩) (by first | (rw [add_block]; exact hn333_4) | (show (Addr.add _ _).block ≠ _; rw [add_block]; exact hn333_4) | exact hn333_4) (.int .i64 ((rd_T53 l0_0 x57_3).f4))).trans hx333_0; replace hx333_0 := (cell_far (p := ⟨gb330, 5, none⟩) (by first | (rw [add_block]; exact hn333_5) | (show (Addr.add _ _).block ≠ _; rw [add_block]; exact hn333_5) | exact hn333_5) (.string ((rd_T53 l0_0 x57_3).f5))).trans hx333_0; replace hx333_0 := (cell_far (p := ⟨gb330, 6, none⟩) (by first | (rw [add_block]; exact hn333_6) | (show (Addr.add _ _).block ≠ _; rw [add_block]; exact hn333_6) | exact hn333_6) (.slice A329_6 ((rd_T53 l0_0 x57_3).f6).length c329_6)).trans hx333_0; clear hn333_0; clear hn333_1; clear hn333_2; clear hn333_3; clear hn333_4; clear hn333_5; clear hn333_6; replace p333 := eq_true p333; replace q333 := eq_true q333) | (go_at_call 43; (with_reducible refine (impl_within.calls (rd t326 x57_3) ji65 1 true _ A66.out).mono ?_); rintro e w' ⟨rfl, ⟨nd, rfl⟩⟩))
               go_roundg k3
               case measure => have := HJ1.out; have := HK2.out; have := HK3.out; omega
               case rel => exact ⟨(wrap64 (x57_3 + 1)), sR, (by first | exact H' | (simp only [hji65]; exact H') | (simp only [hji65]; exact H')), ⟨by have := HJ1.out; have := HK2.out; have := HK3.out; omega⟩, ⟨rRf HO_5 BK330 (fun _ hk => trivial)⟩, ⟨sX BK318⟩, ⟨sC⟩⟩
              ·replace c67 := Bool.eq_false_iff.mpr c67
               subst c67
               rw [if_neg (show ¬ (false = true) by decide)] at H
               obtain rfl := Option.some.inj H
               have p329 : 0 ≤ (x57_3 : Int) := sO
               have q329 : x57_3 < (l0_0.length : Int) := sO
               obtain ⟨ad329, A329_6, c329_6, e329, hx329_0, hx329_1, hx329_2, hx329_3, hx329_4, hx329_5, hx329_6, hl329_6, hi329_6⟩ := ab53 HR0_0.out HB x57_3 p329 q329
               cases e329
               have HR329_6 := Aside0.mk hi329_6
               have HC329_6 := Aside0.mk hl329_6
               clear hi329_6 hl329_6
               replace p329 := eq_true p329
               replace q329 := eq_true q329
               go_wp2_with (first | ((with_reducible refine gd 7 rfl ?_); (first | refine bxE 7 #[.int .i64 0, .int .i64 0, .int .i64 0, .int .i64 0, .int .i64 0, .string (⟨#[]⟩ : ByteArray), .slice none 0 0] 53 ?_ | refine bgE 7 #[.int .i64 0, .int .i64 0, .int .i64 0, .int .i64 0, .int .i64 0, .string (⟨#[]⟩ : ByteArray), .slice none 0 0] 53 ?_); intro gb330 hg w72 hbox hb; replace HO_5 := nR HO_5 hb; have BK330 := Aside0.mk hbox; have GW330 := nGC hg; have GE330 := nGC hg; replace HB := nSC hb; have NB318_330 := nL BK318 hg; have NB330_318 := nH BK318 hg; replace BK318 := nK BK318 hb; clear hb hbox hg; have hnb73 := NB330_318.out; have hnc73 := NB318_330.out; have hcz74 := cb7 BK330; obtain ⟨Ao75, co75, eo75⟩ := Kd.R_slice HO_5.out; subst eo75; have p333 : 0 ≤ (x57_3 : Int) := sO; have q333 : x57_3 < (t326.length : Int) := sO; obtain ⟨ad333, e333, hx333_0⟩ := Kd.at_int (Kd.R_reads' HO_5.out).2.2 x57_3 p333 q333; cases e333; have hn333_0 : ad333.block ≠ gb330 := Kd.own_blk (Kd.R_ne HO_5.out BK330.out (by decide)); have hn333_1 : ad333.block ≠ gb330 := Kd.own_blk (Kd.R_ne HO_5.out BK330.out (by decide)); have hn333_2 : ad333.block ≠ gb330 := Kd.own_blk (Kd.R_ne HO_5.out BK330.out (by decide)); have hn333_3 : ad333.block ≠ gb330 := Kd.own_blk (Kd.R_ne HO_5.out BK330.out (by decide)); have hn333_4 : ad333.block ≠ gb330 := Kd.own_blk (Kd.R_ne HO_5.out BK330.out (by decide)); have hn333_5 : ad333.block ≠ gb330 := Kd.own_blk (Kd.R_ne HO_5.out BK330.out (by decide)); have hn333_6 : ad333.block ≠ gb330 := Kd.own_blk (Kd.R_ne HO_5.out BK330.out (by decide)); replace hx333_0 := (cell_far (p := ⟨gb330, 0, none⟩) (by first | (rw [add_block]; exact hn333_0) | (show (Addr.add _ _).block ≠ _; rw [add_block]; exact hn333_0) | exact hn333_0) (.int .i64 ((rd_T53 l0_0 x57_3).f0))).trans hx333_0; replace hx333_0 := (cell_far (p := ⟨gb330, 1, none⟩) (by first | (rw [add_block]; exact hn333_1) | (show (Addr.add _ _).block ≠ _; rw [add_block]; exact hn333_1) | exact hn333_1) (.int .i64 ((rd_T53 l0_0 x57_3).f1))).trans hx333_0; replace hx333_0 := (cell_far (p := ⟨gb330, 2, none⟩) (by first | (rw [add_block]; exact hn333_2) | (show (Addr.add _ _).block ≠ _; rw [add_block]; exact hn333_2) | exact hn333_2) (.int .i64 ((rd_T53 l0_0 x57_3).f2))).trans hx333_0; replace hx333_0 := (cell_far (p := ⟨gb330, 3, none⟩) (by first | (rw [add_block]; exact hn333_3) | (show (Addr.add _ _).block ≠ _; rw [add_block]; exact hn333_3) | exact hn333_3) (.int .i64 ((rd_T53 l0_0 x57_3).f3))).trans hx333_0; replace hx333_0 := (cell_far (p := ⟨gb330, 4, none⟩) (by first | (rw [add_block]; exact hn333_4) | (show (Addr.add _ _).block ≠ _; rw [add_block]; exact hn333_4) | exact hn333_4) (.int .i64 ((rd_T53 l0_0 x57_3).f4))).trans hx333_0; replace hx333_0 := (cell_far (p := ⟨gb330, 5, none⟩) (by first | (rw [add_block]; exact hn333_5) | (show (Addr.add _ _).block ≠ _; rw [add_block]; exact hn333_5) | exact hn333_5) (.string ((rd_T53 l0_0 x57_3).f5))).trans hx333_0; replace hx333_0 := (cell_far (p := ⟨gb330, 6, none⟩) (by first | (rw [add_block]; exact hn333_6) | (show (Addr.add _ _).block ≠ _; rw [add_block]; exact hn333_6) | exact hn333_6) (.slice A329_6 ((rd_T53 l0_0 x57_3).f6).length c329_6)).trans hx333_0; clear hn333_0; clear hn333_1; clear hn333_2; clear hn333_3; clear hn333_4; clear hn333_5; clear hn333_6; replace p333 := eq_true p333; replace q333 := eq_true q333) | (go_at_call 43; (with_reducible refine (impl_within.calls (rd t326 x57_3) ji65 1 false _ A66.out).mono ?_); rintro e w' ⟨rfl, ⟨nd, rfl⟩⟩))
               go_ret
               exact ⟨by first | rfl | (simp [errW_none, errW_some] <;> rfl) | (simp [errW_none, errW_some]; exact isEmpty_ne _) | (simp only [← hji65]; first | rfl | (simp [errW_none, errW_some] <;> rfl)) | (simp [*, errW_none, errW_some] <;> rfl), sC⟩
            ·rw [if_neg c59] at H
             have c59b0 := beq_eq_false_iff_ne.mpr c59
             have c59b1 := bne_iff_ne.mpr c59
             by_cases c76 : ((rd_T53 l0_0 x57_3).f0) = 0
             ·rw [if_pos c76] at H
              have c76b0 := beq_iff_eq.mpr c76
              have c76b1 := bne_eq_false_iff_eq.mpr c76
              clear c76
              have H' := Aside0.mk H
              clear H
              have p329 : 0 ≤ (x57_3 : Int) := sO
              have q329 : x57_3 < (l0_0.length : Int) := sO
              obtain ⟨ad329, A329_6, c329_6, e329, hx329_0, hx329_1, hx329_2, hx329_3, hx329_4, hx329_5, hx329_6, hl329_6, hi329_6⟩ := ab53 HR0_0.out HB x57_3 p329 q329
              cases e329
              have HR329_6 := Aside0.mk hi329_6
              have HC329_6 := Aside0.mk hl329_6
              clear hi329_6 hl329_6
              replace p329 := eq_true p329
              replace q329 := eq_true q329
              go_wp2_with (first | ((with_reducible refine gd 7 rfl ?_); (first | refine bxE 7 #[.int .i64 0, .int .i64 0, .int .i64 0, .int .i64 0, .int .i64 0, .string (⟨#[]⟩ : ByteArray), .slice none 0 0] 53 ?_ | refine bgE 7 #[.int .i64 0, .int .i64 0, .int .i64 0, .int .i64 0, .int .i64 0, .string (⟨#[]⟩ : ByteArray), .slice none 0 0] 53 ?_); intro gb330 hg w77 hbox hb; replace HO_5 := nR HO_5 hb; have BK330 := Aside0.mk hbox; have GW330 := nGC hg; have GE330 := nGC hg; replace HB := nSC hb; have NB318_330 := nL BK318 hg; have NB330_318 := nH BK318 hg; replace BK318 := nK BK318 hb; clear hb hbox hg; have hnb78 := NB330_318.out; have hnc78 := NB318_330.out; have hcz79 := cb7 BK330))
              go_roundg k3
              case measure => have := HJ1.out; have := HK2.out; have := HK3.out; omega
              case rel => exact ⟨(wrap64 (x57_3 + 1)), sR, H', ⟨by have := HJ1.out; have := HK2.out; have := HK3.out; omega⟩, ⟨rRf HO_5 BK330 (fun _ hk => trivial)⟩, ⟨sX BK318⟩, ⟨sC⟩⟩
             ·rw [if_neg c76] at H
              have c76b0 := beq_eq_false_iff_ne.mpr c76
              have c76b1 := bne_iff_ne.mpr c76
              obtain ⟨c80, H⟩ := iN H
              have c80b0 := decide_eq_true c80
              clear c80
              obtain ⟨ji81, hji81⟩ : ∃ j_ : Int, (mn x57_3 1) = j_ := ⟨_, rfl⟩
              replace H : ((impl_within.f (rd t326 x57_3) (ji81) 1152921504606846976).bind fun t336 => (if t336 = true then (impl_GoodFs.l1 k3 t326 l0_0 (l0_0.length : Int) (wrap64 (x57_3 + 1)) l0_0 a0_1) else (some false))) = some r := by first | (rw [hji81] at H; exact H) | (simp only [hji81] at H ⊢; exact H)
              have hji81_ : (if 1 < x57_3 then 1 else x57_3) = ji81 := hji81
              obtain ⟨t336, A82, H⟩ := bS H
              try dsimp only at H
              by_cases c83 : t336 = true
              ·subst c83
               rw [if_pos rfl] at H
               have H' := Aside0.mk H
               clear H
               have p329 : 0 ≤ (x57_3 : Int) := sO
               have q329 : x57_3 < (l0_0.length : Int) := sO
               obtain ⟨ad329, A329_6, c329_6, e329, hx329_0, hx329_1, hx329_2, hx329_3, hx329_4, hx329_5, hx329_6, hl329_6, hi329_6⟩ := ab53 HR0_0.out HB x57_3 p329 q329
               cases e329
               have HR329_6 := Aside0.mk hi329_6
               have HC329_6 := Aside0.mk hl329_6
               clear hi329_6 hl329_6
               replace p329 := eq_true p329
               replace q329 := eq_true q329
               go_wp2_with (first | ((with_reducible refine gd 7 rfl ?_); (first | refine bxE 7 #[.int .i64 0, .int .i64 0, .int .i64 0, .int .i64 0, .int .i64 0, .string (⟨#[]⟩ : ByteArray), .slice none 0 0] 53 ?_ | refine bgE 7 #[.int .i64 0, .int .i64 0, .int .i64 0, .int .i64 0, .int .i64 0, .string (⟨#[]⟩ : ByteArray), .slice none 0 0] 53 ?_); intro gb330 hg w84 hbox hb; replace HO_5 := nR HO_5 hb; have BK330 := Aside0.mk hbox; have GW330 := nGC hg; have GE330 := nGC hg; replace HB := nSC hb; have NB318_330 := nL BK318 hg; have NB330_318 := nH BK318 hg; replace BK318 := nK BK318 hb; clear hb hbox hg; have hnb85 := NB330_318.out; have hnc85 := NB318_330.out; have hcz86 := cb7 BK330; obtain ⟨Ao87, co87, eo87⟩ := Kd.R_slice HO_5.out; subst eo87; have p335 : 0 ≤ (x57_3 : Int) := sO; have q335 : x57_3 < (t326.length : Int) := sO; obtain ⟨ad335, e335, hx335_0⟩ := Kd.at_int (Kd.R_reads' HO_5.out).2.2 x57_3 p335 q335; cases e335; have hn335_0 : ad335.block ≠ gb330 := Kd.own_blk (Kd.R_ne HO_5.out BK330.out (by decide)); have hn335_1 : ad335.block ≠ gb330 := Kd.own_blk (Kd.R_ne HO_5.out BK330.out (by decide)); have hn335_2 : ad335.block ≠ gb330 := Kd.own_blk (Kd.R_ne HO_5.out BK330.out (by decide)); have hn335_3 : ad335.block ≠ gb330 := Kd.own_blk (Kd.R_ne HO_5.out BK330.out (by decide)); have hn335_4 : ad335.block ≠ gb330 := Kd.own_blk (Kd.R_ne HO_5.out BK330.out (by decide)); have hn335_5 : ad335.block ≠ gb330 := Kd.own_blk (Kd.R_ne HO_5.out BK330.out (by decide)); have hn335_6 : ad335.block ≠ gb330 := Kd.own_blk (Kd.R_ne HO_5.out BK330.out (by decide)); replace hx335_0 := (cell_far (p := ⟨gb330, 0, none⟩) (by first | (rw [add_block]; exact hn335_0) | (show (Addr.add _ _).block ≠ _; rw [add_block]; exact hn335_0) | exact hn335_0) (.int .i64 ((rd_T53 l0_0 x57_3).f0))).trans hx335_0; replace hx335_0 := (cell_far (p := ⟨gb330, 1, none⟩) (by first | (rw [add_block]; exact hn335_1) | (show (Addr.add _ _).block ≠ _; rw [add_block]; exact hn335_1) | exact hn335_1) (.int .i64 ((rd_T53 l0_0 x57_3).f1))).trans hx335_0; replace hx335_0 := (cell_far (p := ⟨gb330, 2, none⟩) (by first | (rw [add_block]; exact hn335_2) | (show (Addr.add _ _).block ≠ _; rw [add_block]; exact hn335_2) | exact hn335_2) (.int .i64 ((rd_T53 l0_0 x57_3).f2))).trans hx335_0; replace hx335_0 := (cell_far (p := ⟨gb330, 3, none⟩) (by first | (rw [add_block]; exact hn335_3) | (show (Addr.add _ _).block ≠ _; rw [add_block]; exact hn335_3) | exact hn335_3) (.int .i64 ((rd_T53 l0_0 x57_3).f3))).trans hx335_0; replace hx335_0 := (cell_far (p := ⟨gb330, 4, none⟩) (by first | (rw [add_block]; exact hn335_4) | (show (Addr.add _ _).block ≠ _; rw [add_block]; exact hn335_4) | exact hn335_4) (.int .i64 ((rd_T53 l0_0 x57_3).f4))).trans hx335_0; replace hx335_0 := (cell_far (p := ⟨gb330, 5, none⟩) (by first | (rw [add_block]; exact hn335_5) | (show (Addr.add _ _).block ≠ _; rw [add_block]; exact hn335_5) | exact hn335_5) (.string ((rd_T53 l0_0 x57_3).f5))).trans hx335_0; replace hx335_0 := (cell_far (p := ⟨gb330, 6, none⟩) (by first | (rw [add_block]; exact hn335_6) | (show (Addr.add _ _).block ≠ _; rw [add_block]; exact hn335_6) | exact hn335_6) (.slice A329_6 ((rd_T53 l0_0 x57_3).f6).length c329_6)).trans hx335_0; clear hn335_0; clear hn335_1; clear hn335_2; clear hn335_3; clear hn335_4; clear hn335_5; clear hn335_6; replace p335 := eq_true p335; replace q335 := eq_true q335) | (go_at_call 43; (with_reducible refine (impl_within.calls (rd t326 x57_3) ji81 1152921504606846976 true _ A82.out).mono ?_); rintro e w' ⟨rfl, ⟨nd, rfl⟩⟩))
               go_roundg k3
               case measure => have := HJ1.out; have := HK2.out; have := HK3.out; omega
               case rel => exact ⟨(wrap64 (x57_3 + 1)), sR, (by first | exact H' | (simp only [hji81]; exact H') | (simp only [hji81]; exact H')), ⟨by have := HJ1.out; have := HK2.out; have := HK3.out; omega⟩, ⟨rRf HO_5 BK330 (fun _ hk => trivial)⟩, ⟨sX BK318⟩, ⟨sC⟩⟩
              ·replace c83 := Bool.eq_false_iff.mpr c83
               subst c83
               rw [if_neg (show ¬ (false = true) by decide)] at H
               obtain rfl := Option.some.inj H
               have p329 : 0 ≤ (x57_3 : Int) := sO
               have q329 : x57_3 < (l0_0.length : Int) := sO
               obtain ⟨ad329, A329_6, c329_6, e329, hx329_0, hx329_1, hx329_2, hx329_3, hx329_4, hx329_5, hx329_6, hl329_6, hi329_6⟩ := ab53 HR0_0.out HB x57_3 p329 q329
               cases e329
               have HR329_6 := Aside0.mk hi329_6
               have HC329_6 := Aside0.mk hl329_6
               clear hi329_6 hl329_6
               replace p329 := eq_true p329
               replace q329 := eq_true q329
               go_wp2_with (first | ((with_reducible refine gd 7 rfl ?_); (first | refine bxE 7 #[.int .i64 0, .int .i64 0, .int .i64 0, .int .i64 0, .int .i64 0, .string (⟨#[]⟩ : ByteArray), .slice none 0 0] 53 ?_ | refine bgE 7 #[.int .i64 0, .int .i64 0, .int .i64 0, .int .i64 0, .int .i64 0, .string (⟨#[]⟩ : ByteArray), .slice none 0 0] 53 ?_); intro gb330 hg w88 hbox hb; replace HO_5 := nR HO_5 hb; have BK330 := Aside0.mk hbox; have GW330 := nGC hg; have GE330 := nGC hg; replace HB := nSC hb; have NB318_330 := nL BK318 hg; have NB330_318 := nH BK318 hg; replace BK318 := nK BK318 hb; clear hb hbox hg; have hnb89 := NB330_318.out; have hnc89 := NB318_330.out; have hcz90 := cb7 BK330; obtain ⟨Ao91, co91, eo91⟩ := Kd.R_slice HO_5.out; subst eo91; have p335 : 0 ≤ (x57_3 : Int) := sO; have q335 : x57_3 < (t326.length : Int) := sO; obtain ⟨ad335, e335, hx335_0⟩ := Kd.at_int (Kd.R_reads' HO_5.out).2.2 x57_3 p335 q335; cases e335; have hn335_0 : ad335.block ≠ gb330 := Kd.own_blk (Kd.R_ne HO_5.out BK330.out (by decide)); have hn335_1 : ad335.block ≠ gb330 := Kd.own_blk (Kd.R_ne HO_5.out BK330.out (by decide)); have hn335_2 : ad335.block ≠ gb330 := Kd.own_blk (Kd.R_ne HO_5.out BK330.out (by decide)); have hn335_3 : ad335.block ≠ gb330 := Kd.own_blk (Kd.R_ne HO_5.out BK330.out (by decide)); have hn335_4 : ad335.block ≠ gb330 := Kd.own_blk (Kd.R_ne HO_5.out BK330.out (by decide)); have hn335_5 : ad335.block ≠ gb330 := Kd.own_blk (Kd.R_ne HO_5.out BK330.out (by decide)); have hn335_6 : ad335.block ≠ gb330 := Kd.own_blk (Kd.R_ne HO_5.out BK330.out (by decide)); replace hx335_0 := (cell_far (p := ⟨gb330, 0, none⟩) (by first | (rw [add_block]; exact hn335_0) | (show (Addr.add _ _).block ≠ _; rw [add_block]; exact hn335_0) | exact hn335_0) (.int .i64 ((rd_T53 l0_0 x57_3).f0))).trans hx335_0; replace hx335_0 := (cell_far (p := ⟨gb330, 1, none⟩) (by first | (rw [add_block]; exact hn335_1) | (show (Addr.add _ _).block ≠ _; rw [add_block]; exact hn335_1) | exact hn335_1) (.int .i64 ((rd_T53 l0_0 x57_3).f1))).trans hx335_0; replace hx335_0 := (cell_far (p := ⟨gb330, 2, none⟩) (by first | (rw [add_block]; exact hn335_2) | (show (Addr.add _ _).block ≠ _; rw [add_block]; exact hn335_2) | exact hn335_2) (.int .i64 ((rd_T53 l0_0 x57_3).f2))).trans hx335_0; replace hx335_0 := (cell_far (p := ⟨gb330, 3, none⟩) (by first | (rw [add_block]; exact hn335_3) | (show (Addr.add _ _).block ≠ _; rw [add_block]; exact hn335_3) | exact hn335_3) (.int .i64 ((rd_T53 l0_0 x57_3).f3))).trans hx335_0; replace hx335_0 := (cell_far (p := ⟨gb330, 4, none⟩) (by first | (rw [add_block]; exact hn335_4) | (show (Addr.add _ _).block ≠ _; rw [add_block]; exact hn335_4) | exact hn335_4) (.int .i64 ((rd_T53 l0_0 x57_3).f4))).trans hx335_0; replace hx335_0 := (cell_far (p := ⟨gb330, 5, none⟩) (by first | (rw [add_block]; exact hn335_5) | (show (Addr.add _ _).block ≠ _; rw [add_block]; exact hn335_5) | exact hn335_5) (.string ((rd_T53 l0_0 x57_3).f5))).trans hx335_0; replace hx335_0 := (cell_far (p := ⟨gb330, 6, none⟩) (by first | (rw [add_block]; exact hn335_6) | (show (Addr.add _ _).block ≠ _; rw [add_block]; exact hn335_6) | exact hn335_6) (.slice A329_6 ((rd_T53 l0_0 x57_3).f6).length c329_6)).trans hx335_0; clear hn335_0; clear hn335_1; clear hn335_2; clear hn335_3; clear hn335_4; clear hn335_5; clear hn335_6; replace p335 := eq_true p335; replace q335 := eq_true q335) | (go_at_call 43; (with_reducible refine (impl_within.calls (rd t326 x57_3) ji81 1152921504606846976 false _ A82.out).mono ?_); rintro e w' ⟨rfl, ⟨nd, rfl⟩⟩))
               go_ret
               exact ⟨by first | rfl | (simp [errW_none, errW_some] <;> rfl) | (simp [errW_none, errW_some]; exact isEmpty_ne _) | (simp only [← hji81]; first | rfl | (simp [errW_none, errW_some] <;> rfl)) | (simp [*, errW_none, errW_some] <;> rfl), sC⟩
          ·rw [if_neg c39] at H
           have c39b0 := decide_eq_false c39
           clear c39
           by_cases c92 : 0 ≤ (l0_0.length : Int)
           ·rw [if_pos c92] at H
            have c92b0 := eq_true c92
            have c92b1 := decide_eq_true c92
            clear c92
            obtain ⟨c93, H⟩ := iN H
            have c93b0 := eq_true c93
            have c93b1 := decide_eq_true c93
            clear c93
            obtain ⟨y337, hy337⟩ : ∃ y_ : List Bool, y_ = (List.replicate ((l0_0.length : Int) : Int).toNat false) := ⟨_, rfl⟩
            replace H : (impl_GoodFs.l2 k3 y337 (([0] : List Int)) 0 l0_0 a0_1) = some r := by first | (rw [hy337]; with_reducible exact H) | (have H2_ := (Option.bind_some _ _).symm.trans H; rw [hy337]; with_reducible exact H2_) | (have H2_ := (Option.bind_some _ _).symm.trans H; with_reducible exact H2_) | with_reducible exact H | (rw [hy337]; exact H) | exact H
            have Ny337 := Aside0.mk hy337
            clear hy337
            obtain ⟨y340, hy340⟩ : ∃ y_ : List Int, y_ = (([0] : List Int)) := ⟨_, rfl⟩
            replace H : (impl_GoodFs.l2 k3 y337 y340 0 l0_0 a0_1) = some r := by first | (rw [hy340]; with_reducible exact H) | (have H2_ := (Option.bind_some _ _).symm.trans H; rw [hy340]; with_reducible exact H2_) | (have H2_ := (Option.bind_some _ _).symm.trans H; with_reducible exact H2_) | with_reducible exact H | (rw [hy340]; exact H) | exact H
            have Ny340 := Aside0.mk hy340
            clear hy340
            have H' := Aside0.mk H
            clear H
            have hcz94 := cb2 BK318
            go_wp2_with (first | ((with_reducible refine gate_dst (N := 87) rfl ?_); (try (refine gate_guard (by rfl) ?_; dsimp only)); refine Kd.R_make Kd.bool _ 4 rfl (N := 87) rfl 58 _ _ rfl (l0_0.length : Int) rfl rfl Tryd.underlying58 (.bool false) 1 info4 rfl (by decide) (by omega) false (ok := fun _ => True) (okp := fun _ => True) rfl (fun _ hk => hk) trivial (sO) (Nat.le_trans (Nat.mul_le_mul_right _ (sO : (l0_0.length : Int).toNat ≤ 281474976710656)) (by omega)) (Below.refl _ _) (Nat.le_refl _) ?_; intro v338 w95 ho96 hb hg_ hnew_; clear hg_ hnew_; (first | rw [← Ny337.out] at ho96 | (simp only [Int.reduceToNat] at ho96; rw [← Ny337.out] at ho96)); replace HO_5 := nR HO_5 hb; have HO339 := Aside0.mk (Kd.R_lower ho96 (below_size sC)); replace BK318 := nK BK318 hb; replace HB := nSC hb; clear hb ho96) | ((with_reducible refine gate_dst (N := 88) rfl ?_); (try (refine gate_guard (by rfl) ?_; dsimp only)); refine Kd.R_lit (Kd.int .i64) _ 3 ?hg (N := 88) ?hd (xs := ([0] : List Int)) (inner := [.int .i64 0]) (ok := fun _ => True) (okp := fun _ => True) ?hr ?hp (fun _ hk => hk) trivial (Below.refl _ _) (Nat.le_refl _) (by simp) ?_; (case hd => rfl); (case hg => rfl); (case hr => first | (go_simp; done) | (go_simp; rfl)); (case hp => exact (Reps.one (show Kd.M (Kd.int .i64) _ _ _ 0 [.int .i64 0] from rfl) (Reps.none _ _))); intro v341 w97 ho98 hb hg_ hnew_; clear hg_ hnew_; (first | rw [← Ny340.out] at ho98 | (simp only [Int.reduceToNat] at ho98; rw [← Ny340.out] at ho98)); replace HO339 := nR HO339 hb; have HO342 := Aside0.mk (Kd.R_lower (Kd.R_new' ho98 (Kd.R_lt (by (with_reducible repeat (first | apply Kd.R_alloc | apply Kd.R_drewN | apply Kd.R_drew)); exact HO_5.out))) (below_size sC)); replace HO_5 := Aside0.mk (Kd.R_elder' (by (with_reducible repeat (first | apply Kd.R_alloc | apply Kd.R_drewN | apply Kd.R_drew)); exact HO_5.out) (Kd.R_base ho98) hb); replace BK318 := nK BK318 hb; replace HB := nSC hb; clear hb ho98))
            go_loopg [10, 11] k3 (fun kq v10 v11 w' => ∃ (x9_4 : List Bool) (x10_4 : List Int) (x11_4 : Int), v11 = .int .i64 x11_4 ∧ Aside0 (impl_GoodFs.l2 kq x9_4 x10_4 x11_4 l0_0 a0_1 = some r) ∧ Aside0 (kq ≤ k3) ∧ Aside0 (Kd.R Kd.bool 4 w' w.heap.size (fun _ => True) v338 x9_4) ∧ Aside0 (Kd.R (Kd.int .i64) 3 w' w.heap.size (fun _ => True) v10 x10_4) ∧ Aside0 (w'.heap[gb318]? = some (.cells #[(.slice A0_0 l0_0.length c0_0), .int .i64 a0_1] 29 (0, 0))) ∧ Aside0 (Below w.heap.size w w'))
            case atStart => exact ⟨(y337), (y340), (0), sR, H', ⟨Nat.le_refl _⟩, ⟨rR HO339⟩, ⟨by (with_reducible repeat (first | apply Kd.R_alloc | apply Kd.R_drewN | apply Kd.R_drew)); exact Kd.R_mono HO342.out (fun _ hk => trivial)⟩, ⟨sK BK318⟩, ⟨sC⟩⟩
            case round =>
             clear H'
             try clear c1
             try clear c2
             try clear p2
             try clear c3
             try clear p3
             try clear q3
             try clear hx3
             try clear qi3
             try clear c4
             try clear c5
             try clear c6
             try clear p6
             try clear c7
             try clear c8
             try clear c8b0
             try clear c8b1
             try clear c9
             try clear c12
             try clear c14
             try clear c14b0
             try clear c15
             try clear c15b0
             try clear c16
             try clear c16b0
             try clear c18
             try clear c20
             try clear c25
             try clear c30
             try clear c30b0
             try clear c32
             try clear p32
             try clear q32
             try clear hx32
             try clear qi32
             try clear p33
             try clear q33
             try clear hx33
             try clear c39
             try clear c39b0
             try clear c40
             try clear c40b0
             try clear c41
             try clear c41b0
             try clear c42
             try clear c42b0
             try clear c42b1
             try clear c43
             try clear c43b0
             try clear c43b1
             try clear c45
             try clear c46
             try clear c47
             try clear c47b0
             try clear c50
             try clear c52
             try clear c56
             try clear c59
             try clear c59b0
             try clear c59b1
             try clear c60
             try clear c60b0
             try clear c60b1
             try clear c62
             try clear c64
             try clear c64b0
             try clear p64
             try clear c67
             try clear c69
             try clear c73
             try clear c76
             try clear c76b0
             try clear c76b1
             try clear c78
             try clear c80
             try clear c80b0
             try clear c83
             try clear c85
             try clear c89
             try clear c92
             try clear c92b0
             try clear c92b1
             try clear c93
             try clear c93b0
             try clear c93b1
             try clear hcz10
             try clear hcz11
             try clear hcz13
             try clear hcz21
             try clear hcz22
             try clear hcz26
             try clear hcz27
             try clear hcz36
             try clear hcz38
             try clear hcz46
             try clear hcz53
             try clear hcz57
             try clear hcz63
             try clear hcz70
             try clear hcz74
             try clear hcz79
             try clear hcz86
             try clear hcz90
             try clear hcz94
             try clear hcz9
             try clear hx321_0
             try clear hx321_1
             try clear hx321_2
             try clear hx321_3
             try clear hx321_4
             try clear hx321_5
             try clear hx321_6
             try clear hx322_0
             try clear hx322_1
             try clear hx322_2
             try clear hx322_3
             try clear hx322_4
             try clear hx322_5
             try clear hx322_6
             try clear hx329_0
             try clear hx329_1
             try clear hx329_2
             try clear hx329_3
             try clear hx329_4
             try clear hx329_5
             try clear hx329_6
             try clear hx331_0
             try clear hx333_0
             try clear hx335_0
             try clear p2
             try clear p3
             try clear p32
             try clear p321
             try clear p322
             try clear p329
             try clear p331
             try clear p333
             try clear p335
             try clear p6
             try clear q3
             try clear q32
             try clear q321
             try clear q322
             try clear q329
             try clear q331
             try clear q333
             try clear q335
             obtain ⟨x9_4, x10_4, x11_4, rfl, HA, HK4, HO_9, HO_10, BK318, HB⟩ := hrel
             cases gk with
             | zero => exact absurd HA.out (by simp [impl_GoodFs.l2])
             | succ k4 =>
              have H := HA.out
              clear HA
              simp only [impl_GoodFs.l2] at H
              by_cases c99 : x11_4 < (x10_4.length : Int)
              ·rw [if_pos c99] at H
               have c99b0 := decide_eq_true c99
               clear c99
               obtain ⟨c100, H⟩ := iN H
               have c100b0 := decide_eq_true c100
               clear c100
               obtain ⟨c101, H⟩ := iN H
               have c101b0 := decide_eq_true c101
               clear c101
               obtain ⟨c102, H⟩ := iN H
               have c102b0 := decide_eq_true c102
               clear c102
               obtain ⟨y344, hy344⟩ : ∃ y_ : List Bool, y_ = (x9_4.set ((rd x10_4 x11_4) : Int).toNat true) := ⟨_, rfl⟩
               replace H : (if (rd x10_4 x11_4) < (l0_0.length : Int) then (impl_GoodFs.l3 k4 y344 x10_4 x11_4 ((rd_T53 l0_0 (rd x10_4 x11_4)).f6) (((rd_T53 l0_0 (rd x10_4 x11_4)).f6).length : Int) 0 l0_0 a0_1) else (none)) = some r := by first | (rw [hy344]; with_reducible exact H) | (have H2_ := (Option.bind_some _ _).symm.trans H; rw [hy344]; with_reducible exact H2_) | (have H2_ := (Option.bind_some _ _).symm.trans H; with_reducible exact H2_) | with_reducible exact H | (rw [hy344]; exact H) | exact H
               have Ny344 := Aside0.mk hy344
               clear hy344
               obtain ⟨c104, H⟩ := iN H
               have c104b0 := decide_eq_true c104
               clear c104
               have H' := Aside0.mk H
               clear H
               obtain ⟨Ao105, co105, eo105⟩ := Kd.R_slice HO_10.out
               subst eo105
               have p343 : 0 ≤ (x11_4 : Int) := sO
               have q343 : x11_4 < (x10_4.length : Int) := sO
               obtain ⟨ad343, e343, hx343_0⟩ := Kd.at_int (Kd.R_reads' HO_10.out).2.2 x11_4 p343 q343
               cases e343
               replace p343 := eq_true p343
               replace q343 := eq_true q343
               have p103 : 0 ≤ ((rd x10_4 x11_4) : Int) := sO
               have q103 : ((rd x10_4 x11_4) : Int) < ((x9_4.length : Int) : Int) := sO
               obtain ⟨go103, co103, eo103, gb103, gl103, cl103, HG103⟩ := Kd.R_form HO_9.out (by omega)
               (first | cases eo103 | (injection eo103 with ea_ en_ ec_; (first | subst ea_ | (injection ea_ with ea_; subst ea_)); subst ec_; clear en_))
               have GB103 := Aside0.mk gb103
               have GG103 := Aside0.mk HG103
               clear gb103 gl103 HG103
               obtain ⟨hx103_0, hf103_0⟩ := Kd.R_celln false HO_9.out ((rd x10_4 x11_4) : Int) p103 q103
               replace p103 := eq_true p103
               replace q103 := eq_true q103
               have HP106 := Kd.R_putg HO_9.out ((rd x10_4 x11_4) : Int) true
               try go_wp2_with (first | ((with_reducible refine gate_store (t := 4) (p := 100) rfl ?_); refine store_event (t := 4) (p := 100) (v := ?vo_w107) (w1 := (wr.setCell ⟨go103, ((rd x10_4 x11_4) : Int).toNat, none⟩ (.bool true))) ?hg ?ho ?hn ?hr ?_; (case ho => rfl); (case hg => rfl); (case hn => rfl); (case hr => first | (go_simp; done) | (go_simp; rfl)); intro w107 hw; have hg : wr.grownBy w107 (some go103) := (by rw [hw]; exact HP106.2); have hp_ : Kd.R Kd.bool 4 w107 w.heap.size (fun _ => True) (.slice (some ⟨go103, 0, none⟩) x9_4.length co103) y344 := (by rw [hw, Ny344.out]; exact HP106.1); clear HP106; replace HO_10 := Aside0.mk (Kd.R_over' (v := (.slice (some ⟨go103, 0, none⟩) x9_4.length co103)) (by (with_reducible repeat (first | apply Kd.R_alloc | apply Kd.R_drewN | apply Kd.R_drew)); exact HO_10.out) (Kd.R_typed HO_9.out) (by decide) hg); replace BK318 := Aside0.mk (blk_grown (g := gb318) (o := .cells #[.slice A0_0 l0_0.length c0_0, .int .i64 a0_1] 29 (0, 0)) (sK BK318) hg (Kd.R_ne HO_9.out BK318.out (by decide))); replace HO_9 := Aside0.mk (hp_); replace HB := Aside0.mk ((by rw [hw]; exact below_set (HB.out) GB103.out : Below w.heap.size w w107)); clear hg hw hp_))
               have n0_ := Aside0.mk (Kd.R_drew HO_9.out)
               have n1_ := Aside0.mk (Kd.R_drew HO_10.out)
               have n2_ := Aside0.mk (blk_drew BK318.out)
               have n3_ := Aside0.mk (below_drew1 HB.out)
               clear HO_9
               clear HO_10
               clear BK318
               clear HB
               have HO_9 := n0_
               have HO_10 := n1_
               have BK318 := n2_
               have HB := n3_
               clear n0_ n1_ n2_ n3_
               have p345 : 0 ≤ (x11_4 : Int) := sO
               have q345 : x11_4 < (x10_4.length : Int) := sO
               obtain ⟨ad345, e345, hx345_0⟩ := Kd.at_int (Kd.R_reads' HO_10.out).2.2 x11_4 p345 q345
               obtain rfl : ad343 = ad345 := (by injection e345)
               replace p345 := eq_true p345
               replace q345 := eq_true q345
               have p346 : 0 ≤ ((rd x10_4 x11_4) : Int) := sO
               have q346 : (rd x10_4 x11_4) < (l0_0.length : Int) := sO
               obtain ⟨ad346, A346_6, c346_6, e346, hx346_0, hx346_1, hx346_2, hx346_3, hx346_4, hx346_5, hx346_6, hl346_6, hi346_6⟩ := at_T53 HR0_0.out (rd x10_4 x11_4) p346 q346
               have hw346_6 := hx346_6
               have hw346_5 := hx346_5
               have hw346_4 := hx346_4
               have hw346_3 := hx346_3
               have hw346_2 := hx346_2
               have hw346_1 := hx346_1
               have hw346_0 := hx346_0
               cases e346
               replace hx346_0 := hB HB hx346_0
               replace hx346_1 := hB HB hx346_1
               replace hx346_2 := hB HB hx346_2
               replace hx346_3 := hB HB hx346_3
               replace hx346_4 := hB HB hx346_4
               replace hx346_5 := hB HB hx346_5
               replace hx346_6 := hB HB hx346_6
               have HR346_6 := Aside0.mk hi346_6
               have HC346_6 := Aside0.mk hl346_6
               clear hi346_6 hl346_6
               replace p346 := eq_true p346
               replace q346 := eq_true q346
               refine st10 11 [] (cz0 BK318) (cz1 BK318) hx345_0 (hB HB hw346_0 :) (hB HB hw346_1 :) (hB HB hw346_2 :) (hB HB hw346_3 :) (hB HB hw346_4 :) (hB HB hw346_5 :) (hB HB hw346_6 :) (fun hHeld => ?_); refine with_tabW impl_GoodFs.tab29 impl_GoodFs.bits29 (fun HT_ HW_ => ?_)
               generalize w107.drew = w108 at HO_9 HO_10 BK318 HB HR346_6 hx345_0 hx346_0 hx346_1 hx346_2 hx346_3 hx346_4 hx346_5 hx346_6 hHeld ⊢
               refine pu 0 101 ?_
               refine pu 2 103 ?_
               refine pu 3 104 ?_
               refine pu 4 105 ?_
               refine pu 10 111 ?_
               refine tk10 1 102 ?_
               refine tk10 5 106 ?_
               refine pu 6 107 ?_
               refine pu 7 108 ?_
               refine tk10 8 109 ?_
               refine pu 9 110 ?_
               refine dn ?_
               try go_wp2
               go_loopg [10, 111] k4 (fun kq v10 v111 w' => ∃ (x10_5 : List Int) (x111_5 : Int), v111 = .int .i64 x111_5 ∧ Aside0 (impl_GoodFs.l3 kq y344 x10_5 x11_4 ((rd_T53 l0_0 (rd x10_4 x11_4)).f6) (((rd_T53 l0_0 (rd x10_4 x11_4)).f6).length : Int) x111_5 l0_0 a0_1 = some r) ∧ Aside0 (kq ≤ k4) ∧ Aside0 (Kd.R Kd.bool 4 w' w.heap.size (fun _ => True) (.slice (some ⟨go103, 0, none⟩) x9_4.length co103) y344) ∧ Aside0 (Kd.R (Kd.int .i64) 3 w' w.heap.size (fun _ => True) v10 x10_5) ∧ Aside0 (w'.heap[gb318]? = some (.cells #[(.slice (some ad346) l0_0.length c0_0), .int .i64 a0_1] 29 (0, 0))) ∧ Aside0 (Below w.heap.size w w'))
               case atStart => exact ⟨(x10_4), (0), sR, H', ⟨Nat.le_refl _⟩, ⟨rR HO_9⟩, ⟨rR HO_10⟩, ⟨sK BK318⟩, ⟨sC⟩⟩
               case round =>
                clear H'
                try clear c1
                try clear p1
                try clear q1
                try clear hx1
                try clear hf1
                try clear c2
                try clear p2
                try clear c3
                try clear p3
                try clear q3
                try clear hx3
                try clear qi3
                try clear c4
                try clear c5
                try clear c6
                try clear p6
                try clear c7
                try clear c8
                try clear c8b0
                try clear c8b1
                try clear c9
                try clear c10
                try clear p10
                try clear q10
                try clear hx10
                try clear hf10
                try clear c12
                try clear c14
                try clear c14b0
                try clear c15
                try clear c15b0
                try clear c16
                try clear c16b0
                try clear c18
                try clear c20
                try clear c25
                try clear c30
                try clear c30b0
                try clear c32
                try clear p32
                try clear q32
                try clear hx32
                try clear qi32
                try clear p33
                try clear q33
                try clear hx33
                try clear c34
                try clear p34
                try clear q34
                try clear hx34
                try clear c39
                try clear c39b0
                try clear c40
                try clear c40b0
                try clear c41
                try clear c41b0
                try clear c42
                try clear c42b0
                try clear c42b1
                try clear c43
                try clear c43b0
                try clear c43b1
                try clear c45
                try clear c46
                try clear c47
                try clear c47b0
                try clear c50
                try clear c52
                try clear c56
                try clear c59
                try clear c59b0
                try clear c59b1
                try clear c60
                try clear c60b0
                try clear c60b1
                try clear c62
                try clear c64
                try clear c64b0
                try clear p64
                try clear c67
                try clear c69
                try clear c73
                try clear c76
                try clear c76b0
                try clear c76b1
                try clear c78
                try clear c80
                try clear c80b0
                try clear c83
                try clear c85
                try clear c89
                try clear c92
                try clear c92b0
                try clear c92b1
                try clear c93
                try clear c93b0
                try clear c93b1
                try clear c99
                try clear c99b0
                try clear c100
                try clear c100b0
                try clear c101
                try clear c101b0
                try clear c102
                try clear c102b0
                try clear p103
                try clear q103
                try clear hx103
                try clear hf103
                try clear c104
                try clear c104b0
                try clear hcz10
                try clear hcz11
                try clear hcz13
                try clear hcz21
                try clear hcz22
                try clear hcz26
                try clear hcz27
                try clear hcz36
                try clear hcz38
                try clear hcz46
                try clear hcz53
                try clear hcz57
                try clear hcz63
                try clear hcz70
                try clear hcz74
                try clear hcz79
                try clear hcz86
                try clear hcz90
                try clear hcz94
                try clear hcz9
                try clear hx103_0
                try clear hx321_0
                try clear hx321_1
                try clear hx321_2
                try clear hx321_3
                try clear hx321_4
                try clear hx321_5
                try clear hx321_6
                try clear hx322_0
                try clear hx322_1
                try clear hx322_2
                try clear hx322_3
                try clear hx322_4
                try clear hx322_5
                try clear hx322_6
                try clear hx329_0
                try clear hx329_1
                try clear hx329_2
                try clear hx329_3
                try clear hx329_4
                try clear hx329_5
                try clear hx329_6
                try clear hx331_0
                try clear hx333_0
                try clear hx335_0
                try clear hx343_0
                try clear hx345_0
                try clear hx346_0
                try clear hx346_1
                try clear hx346_2
                try clear hx346_3
                try clear hx346_4
                try clear hx346_5
                try clear hx346_6
                try clear p103
                try clear p2
                try clear p3
                try clear p32
                try clear p321
                try clear p322
                try clear p329
                try clear p33
                try clear p331
                try clear p333
                try clear p335
                try clear p343
                try clear p345
                try clear p346
                try clear p6
                try clear p64
                try clear q103
                try clear q3
                try clear q32
                try clear q321
                try clear q322
                try clear q329
                try clear q33
                try clear q331
                try clear q333
                try clear q335
                try clear q343
                try clear q345
                try clear q346
                obtain ⟨x10_5, x111_5, rfl, HA, HK5, HO_9, HO_10, BK318, HB⟩ := hrel
                have hl9_5 := (Kd.R_reads' HO_9.out).1
                rw [hl9_5] at HO_9
                (try simp only [hl9_5])
                (try simp only [hl9_5] at BK318)
                (try simp only [hl9_5] at HO_10)
                cases gk with
                | zero => exact absurd HA.out (by simp [impl_GoodFs.l3])
                | succ k5 =>
                 have H := HA.out
                 clear HA
                 simp only [impl_GoodFs.l3] at H
                 by_cases c109 : x111_5 < (((rd_T53 l0_0 (rd x10_4 x11_4)).f6).length : Int)
                 ·rw [if_pos c109] at H
                  have c109b0 := decide_eq_true c109
                  clear c109
                  obtain ⟨c110, H⟩ := iN H
                  have c110b0 := decide_eq_true c110
                  clear c110
                  obtain ⟨c111, H⟩ := iN H
                  have c111b0 := decide_eq_true c111
                  clear c111
                  obtain ⟨c112, H⟩ := iN H
                  have c112b0 := decide_eq_true c112
                  clear c112
                  obtain ⟨c113, H⟩ := iN H
                  have c113b0 := decide_eq_true c113
                  clear c113
                  by_cases c114 : ((rd_T53 l0_0 ((rd_T60 ((rd_T53 l0_0 (rd x10_4 x11_4)).f6) x111_5).f1)).f0) = 2
                  ·rw [if_pos c114] at H
                   have c114b0 := beq_iff_eq.mpr c114
                   have c114b1 := bne_eq_false_iff_eq.mpr c114
                   clear c114
                   obtain ⟨c115, H⟩ := iN H
                   have c115b0 := decide_eq_true c115
                   clear c115
                   obtain ⟨bq116, hbq116⟩ : ∃ b_ : Bool, b_ = (rdOf false y344 ((rd_T60 ((rd_T53 l0_0 (rd x10_4 x11_4)).f6) x111_5).f1)) := ⟨_, rfl⟩
                   replace H : (if (bq116 = true) then (impl_GoodFs.l3 k5 y344 x10_5 x11_4 ((rd_T53 l0_0 (rd x10_4 x11_4)).f6) (((rd_T53 l0_0 (rd x10_4 x11_4)).f6).length : Int) (wrap64 (x111_5 + 1)) l0_0 a0_1) else (if x10_5.length < 17592186044416 then (impl_GoodFs.l3 k5 y344 (x10_5 ++ [(rd_T60 ((rd_T53 l0_0 (rd x10_4 x11_4)).f6) x111_5).f1]) x11_4 ((rd_T53 l0_0 (rd x10_4 x11_4)).f6) (((rd_T53 l0_0 (rd x10_4 x11_4)).f6).length : Int) (wrap64 (x111_5 + 1)) l0_0 a0_1) else (none))) = some r := by rw [← hbq116] at H; exact H
                   have Nbq116 := Aside0.mk hbq116
                   clear hbq116
                   by_cases c117 : (bq116 = true)
                   ·subst c117
                    rw [if_pos rfl] at H
                    have H' := Aside0.mk H
                    clear H
                    have p347 : 0 ≤ (x111_5 : Int) := sO
                    have q347 : x111_5 < (((rd_T53 l0_0 (rd x10_4 x11_4)).f6).length : Int) := sO
                    obtain ⟨ad347, e347, hx347_0, hx347_1⟩ := ab60 HR346_6.out HB x111_5 p347 q347
                    cases e347
                    replace p347 := eq_true p347
                    replace q347 := eq_true q347
                    go_wp2_with (first | ((with_reducible refine gd 13 rfl ?_); (first | refine bxE 13 #[.string (⟨#[]⟩ : ByteArray), .int .i64 0] 60 ?_ | refine bgE 13 #[.string (⟨#[]⟩ : ByteArray), .int .i64 0] 60 ?_); intro gb348 hg w118 hbox hb; replace HO_9 := nR HO_9 hb; replace HO_10 := nR HO_10 hb; have BK348 := Aside0.mk hbox; have GW348 := nGC hg; have GE348 := nGC hg; replace HB := nSC hb; have NB318_348 := nL BK318 hg; have NB348_318 := nH BK318 hg; replace BK318 := nK BK318 hb; clear hb hbox hg; have hnb119 := NB348_318.out; have hnc119 := NB318_348.out; have hcz120 := cb2 BK348; have hcz121 := cb2 BK318; have p349 : 0 ≤ (((rd_T60 ((rd_T53 l0_0 (rd x10_4 x11_4)).f6) x111_5).f1) : Int) := sO; have q349 : ((rd_T60 ((rd_T53 l0_0 (rd x10_4 x11_4)).f6) x111_5).f1) < (l0_0.length : Int) := sO; obtain ⟨ad349, A349_6, c349_6, e349, hx349_0, hx349_1, hx349_2, hx349_3, hx349_4, hx349_5, hx349_6, hl349_6, hi349_6⟩ := at_T53 HR0_0.out ((rd_T60 ((rd_T53 l0_0 (rd x10_4 x11_4)).f6) x111_5).f1) p349 q349; obtain rfl : ad346 = ad349 := (by injection e349); have hn349_0 : ad346.block ≠ gb348 := Nat.ne_of_lt (Nat.lt_of_lt_of_le (by have := World.block_lt_of_cell? _ _ hx349_0; first | rwa [add_block] at this | exact this) GW348.out); have hn349_1 : ad346.block ≠ gb348 := Nat.ne_of_lt (Nat.lt_of_lt_of_le (by have := World.block_lt_of_cell? _ _ hx349_0; first | rwa [add_block] at this | exact this) GW348.out); replace hx349_0 := hB HB hx349_0; replace hx349_1 := hB HB hx349_1; replace hx349_2 := hB HB hx349_2; replace hx349_3 := hB HB hx349_3; replace hx349_4 := hB HB hx349_4; replace hx349_5 := hB HB hx349_5; replace hx349_6 := hB HB hx349_6; have HR349_6 := Aside0.mk hi349_6; have HC349_6 := Aside0.mk hl349_6; clear hi349_6 hl349_6; replace hx349_0 := (cell_far (p := ⟨gb348, 0, none⟩) (by first | (rw [add_block]; exact hn349_0) | (show (Addr.add _ _).block ≠ _; rw [add_block]; exact hn349_0) | exact hn349_0) (.string ((rd_T60 ((rd_T53 l0_0 (rd x10_4 x11_4)).f6) x111_5).f0))).trans hx349_0; replace hx349_1 := (cell_far (p := ⟨gb348, 0, none⟩) (by first | (rw [add_block]; exact hn349_0) | (show (Addr.add _ _).block ≠ _; rw [add_block]; exact hn349_0) | exact hn349_0) (.string ((rd_T60 ((rd_T53 l0_0 (rd x10_4 x11_4)).f6) x111_5).f0))).trans hx349_1; replace hx349_2 := (cell_far (p := ⟨gb348, 0, none⟩) (by first | (rw [add_block]; exact hn349_0) | (show (Addr.add _ _).block ≠ _; rw [add_block]; exact hn349_0) | exact hn349_0) (.string ((rd_T60 ((rd_T53 l0_0 (rd x10_4 x11_4)).f6) x111_5).f0))).trans hx349_2; replace hx349_3 := (cell_far (p := ⟨gb348, 0, none⟩) (by first | (rw [add_block]; exact hn349_0) | (show (Addr.add _ _).block ≠ _; rw [add_block]; exact hn349_0) | exact hn349_0) (.string ((rd_T60 ((rd_T53 l0_0 (rd x10_4 x11_4)).f6) x111_5).f0))).trans hx349_3; replace hx349_4 := (cell_far (p := ⟨gb348, 0, none⟩) (by first | (rw [add_block]; exact hn349_0) | (show (Addr.add _ _).block ≠ _; rw [add_block]; exact hn349_0) | exact hn349_0) (.string ((rd_T60 ((rd_T53 l0_0 (rd x10_4 x11_4)).f6) x111_5).f0))).trans hx349_4; replace hx349_5 := (cell_far (p := ⟨gb348, 0, none⟩) (by first | (rw [add_block]; exact hn349_0) | (show (Addr.add _ _).block ≠ _; rw [add_block]; exact hn349_0) | exact hn349_0) (.string ((rd_T60 ((rd_T53 l0_0 (rd x10_4 x11_4)).f6) x111_5).f0))).trans hx349_5; replace hx349_6 := (cell_far (p := ⟨gb348, 0, none⟩) (by first | (rw [add_block]; exact hn349_0) | (show (Addr.add _ _).block ≠ _; rw [add_block]; exact hn349_0) | exact hn349_0) (.string ((rd_T60 ((rd_T53 l0_0 (rd x10_4 x11_4)).f6) x111_5).f0))).trans hx349_6; replace hx349_0 := (cell_far (p := ⟨gb348, 1, none⟩) (by first | (rw [add_block]; exact hn349_1) | (show (Addr.add _ _).block ≠ _; rw [add_block]; exact hn349_1) | exact hn349_1) (.int .i64 ((rd_T60 ((rd_T53 l0_0 (rd x10_4 x11_4)).f6) x111_5).f1))).trans hx349_0; replace hx349_1 := (cell_far (p := ⟨gb348, 1, none⟩) (by first | (rw [add_block]; exact hn349_1) | (show (Addr.add _ _).block ≠ _; rw [add_block]; exact hn349_1) | exact hn349_1) (.int .i64 ((rd_T60 ((rd_T53 l0_0 (rd x10_4 x11_4)).f6) x111_5).f1))).trans hx349_1; replace hx349_2 := (cell_far (p := ⟨gb348, 1, none⟩) (by first | (rw [add_block]; exact hn349_1) | (show (Addr.add _ _).block ≠ _; rw [add_block]; exact hn349_1) | exact hn349_1) (.int .i64 ((rd_T60 ((rd_T53 l0_0 (rd x10_4 x11_4)).f6) x111_5).f1))).trans hx349_2; replace hx349_3 := (cell_far (p := ⟨gb348, 1, none⟩) (by first | (rw [add_block]; exact hn349_1) | (show (Addr.add _ _).block ≠ _; rw [add_block]; exact hn349_1) | exact hn349_1) (.int .i64 ((rd_T60 ((rd_T53 l0_0 (rd x10_4 x11_4)).f6) x111_5).f1))).trans hx349_3; replace hx349_4 := (cell_far (p := ⟨gb348, 1, none⟩) (by first | (rw [add_block]; exact hn349_1) | (show (Addr.add _ _).block ≠ _; rw [add_block]; exact hn349_1) | exact hn349_1) (.int .i64 ((rd_T60 ((rd_T53 l0_0 (rd x10_4 x11_4)).f6) x111_5).f1))).trans hx349_4; replace hx349_5 := (cell_far (p := ⟨gb348, 1, none⟩) (by first | (rw [add_block]; exact hn349_1) | (show (Addr.add _ _).block ≠ _; rw [add_block]; exact hn349_1) | exact hn349_1) (.int .i64 ((rd_T60 ((rd_T53 l0_0 (rd x10_4 x11_4)).f6) x111_5).f1))).trans hx349_5; replace hx349_6 := (cell_far (p := ⟨gb348, 1, none⟩) (by first | (rw [add_block]; exact hn349_1) | (show (Addr.add _ _).block ≠ _; rw [add_block]; exact hn349_1) | exact hn349_1) (.int .i64 ((rd_T60 ((rd_T53 l0_0 (rd x10_4 x11_4)).f6) x111_5).f1))).trans hx349_6; clear hn349_0; clear hn349_1; replace p349 := eq_true p349; replace q349 := eq_true q349; have p350 : 0 ≤ (((rd_T60 ((rd_T53 l0_0 (rd x10_4 x11_4)).f6) x111_5).f1) : Int) := sO; have q350 : ((rd_T60 ((rd_T53 l0_0 (rd x10_4 x11_4)).f6) x111_5).f1) < (y344.length : Int) := sO; obtain ⟨ad350, e350, hx350_0⟩ := Kd.at_bool (Kd.R_reads' HO_9.out).2.2 ((rd_T60 ((rd_T53 l0_0 (rd x10_4 x11_4)).f6) x111_5).f1) p350 q350; (try rw [← Nbq116.out] at hx350_0); obtain rfl : (⟨go103, 0, none⟩ : Addr) = ad350 := (by injection e350); (first | simp only [add_plain] at hx350_0 | simp only [add_at] at hx350_0 | simp only [Addr.add, Nat.zero_add] at hx350_0 | skip); have hn350_0 : (⟨go103, 0, none⟩ : Addr).block ≠ gb348 := Kd.own_blk (Kd.R_ne HO_9.out BK348.out (by decide)); have hn350_1 : (⟨go103, 0, none⟩ : Addr).block ≠ gb348 := Kd.own_blk (Kd.R_ne HO_9.out BK348.out (by decide)); replace hx350_0 := (cell_far (p := ⟨gb348, 0, none⟩) (by first | (rw [add_block]; exact hn350_0) | (show (Addr.add _ _).block ≠ _; rw [add_block]; exact hn350_0) | exact hn350_0) (.string ((rd_T60 ((rd_T53 l0_0 (rd x10_4 x11_4)).f6) x111_5).f0))).trans hx350_0; replace hx350_0 := (cell_far (p := ⟨gb348, 1, none⟩) (by first | (rw [add_block]; exact hn350_1) | (show (Addr.add _ _).block ≠ _; rw [add_block]; exact hn350_1) | exact hn350_1) (.int .i64 ((rd_T60 ((rd_T53 l0_0 (rd x10_4 x11_4)).f6) x111_5).f1))).trans hx350_0; clear hn350_0; clear hn350_1; replace p350 := eq_true p350; replace q350 := eq_true q350))
                    (try simp only [← hl9_5])
                    go_roundg k5
                    case measure => have := HJ1.out; have := HK2.out; have := HK3.out; have := HK4.out; have := HK5.out; omega
                    case rel => exact ⟨(x10_5), (wrap64 (x111_5 + 1)), sR, H', ⟨by have := HJ1.out; have := HK2.out; have := HK3.out; have := HK4.out; have := HK5.out; omega⟩, ⟨by (try simp only [hl9_5]); (with_reducible repeat (first | apply Kd.R_alloc | apply Kd.R_drewN | apply Kd.R_drew)); exact Kd.R_mono (Kd.R_far (p := ⟨gb348, 1, none⟩) (Kd.R_far (p := ⟨gb348, 0, none⟩) (Kd.R_types HO_9.out BK348.out (by decide)) (fun _ hk => hk.2) (.string ((rd_T60 ((rd_T53 l0_0 (rd x10_4 x11_4)).f6) x111_5).f0))) (fun _ hk => hk.2) (.int .i64 ((rd_T60 ((rd_T53 l0_0 (rd x10_4 x11_4)).f6) x111_5).f1))) (fun _ hk => trivial)⟩, ⟨by (try simp only [hl9_5]); (with_reducible repeat (first | apply Kd.R_alloc | apply Kd.R_drewN | apply Kd.R_drew)); exact Kd.R_mono (Kd.R_far (p := ⟨gb348, 1, none⟩) (Kd.R_far (p := ⟨gb348, 0, none⟩) (Kd.R_types HO_10.out BK348.out (by decide)) (fun _ hk => hk.2) (.string ((rd_T60 ((rd_T53 l0_0 (rd x10_4 x11_4)).f6) x111_5).f0))) (fun _ hk => hk.2) (.int .i64 ((rd_T60 ((rd_T53 l0_0 (rd x10_4 x11_4)).f6) x111_5).f1))) (fun _ hk => trivial)⟩, ⟨by (try simp only [hl9_5]); (with_reducible repeat (first | refine blk_drewN ?_ _ | refine blk_drew ?_ | refine blk_alloc ?_ _)); refine blk_far ?_ NB318_348.out _; (with_reducible repeat (first | refine blk_drewN ?_ _ | refine blk_drew ?_ | refine blk_alloc ?_ _)); refine blk_far ?_ NB318_348.out _; (with_reducible repeat (first | refine blk_drewN ?_ _ | refine blk_drew ?_ | refine blk_alloc ?_ _)); exact BK318.out⟩, ⟨sC⟩⟩
                   ·replace c117 := Bool.eq_false_iff.mpr c117
                    subst c117
                    rw [if_neg (show ¬ (false = true) by decide)] at H
                    obtain ⟨c122, H⟩ := iN H
                    have LMc122 := Aside0.mk c122
                    clear c122
                    obtain ⟨y351, hy351⟩ : ∃ y_ : List Int, y_ = (x10_5 ++ [(rd_T60 ((rd_T53 l0_0 (rd x10_4 x11_4)).f6) x111_5).f1]) := ⟨_, rfl⟩
                    replace H : (impl_GoodFs.l3 k5 y344 y351 x11_4 ((rd_T53 l0_0 (rd x10_4 x11_4)).f6) (((rd_T53 l0_0 (rd x10_4 x11_4)).f6).length : Int) (wrap64 (x111_5 + 1)) l0_0 a0_1) = some r := by first | (rw [hy351]; with_reducible exact H) | (have H2_ := (Option.bind_some _ _).symm.trans H; rw [hy351]; with_reducible exact H2_) | (have H2_ := (Option.bind_some _ _).symm.trans H; with_reducible exact H2_) | with_reducible exact H | (rw [hy351]; exact H) | exact H
                    have Ny351 := Aside0.mk hy351
                    clear hy351
                    have H' := Aside0.mk H
                    clear H
                    have p347 : 0 ≤ (x111_5 : Int) := sO
                    have q347 : x111_5 < (((rd_T53 l0_0 (rd x10_4 x11_4)).f6).length : Int) := sO
                    obtain ⟨ad347, e347, hx347_0, hx347_1⟩ := ab60 HR346_6.out HB x111_5 p347 q347
                    cases e347
                    replace p347 := eq_true p347
                    replace q347 := eq_true q347
                    go_wp2_with (first | ((with_reducible refine gd 13 rfl ?_); (first | refine bxE 13 #[.string (⟨#[]⟩ : ByteArray), .int .i64 0] 60 ?_ | refine bgE 13 #[.string (⟨#[]⟩ : ByteArray), .int .i64 0] 60 ?_); intro gb348 hg w123 hbox hb; replace HO_9 := nR HO_9 hb; replace HO_10 := nR HO_10 hb; have BK348 := Aside0.mk hbox; have GW348 := nGC hg; have GE348 := nGC hg; replace HB := nSC hb; have NB318_348 := nL BK318 hg; have NB348_318 := nH BK318 hg; replace BK318 := nK BK318 hb; clear hb hbox hg; have hnb124 := NB348_318.out; have hnc124 := NB318_348.out; have hcz125 := cb2 BK348; have hcz126 := cb2 BK318; have p349 : 0 ≤ (((rd_T60 ((rd_T53 l0_0 (rd x10_4 x11_4)).f6) x111_5).f1) : Int) := sO; have q349 : ((rd_T60 ((rd_T53 l0_0 (rd x10_4 x11_4)).f6) x111_5).f1) < (l0_0.length : Int) := sO; obtain ⟨ad349, A349_6, c349_6, e349, hx349_0, hx349_1, hx349_2, hx349_3, hx349_4, hx349_5, hx349_6, hl349_6, hi349_6⟩ := at_T53 HR0_0.out ((rd_T60 ((rd_T53 l0_0 (rd x10_4 x11_4)).f6) x111_5).f1) p349 q349; obtain rfl : ad346 = ad349 := (by injection e349); have hn349_0 : ad346.block ≠ gb348 := Nat.ne_of_lt (Nat.lt_of_lt_of_le (by have := World.block_lt_of_cell? _ _ hx349_0; first | rwa [add_block] at this | exact this) GW348.out); have hn349_1 : ad346.block ≠ gb348 := Nat.ne_of_lt (Nat.lt_of_lt_of_le (by have := World.block_lt_of_cell? _ _ hx349_0; first | rwa [add_block] at this | exact this) GW348.out); replace hx349_0 := hB HB hx349_0; replace hx349_1 := hB HB hx349_1; replace hx349_2 := hB HB hx349_2; replace hx349_3 := hB HB hx349_3; replace hx349_4 := hB HB hx349_4; replace hx349_5 := hB HB hx349_5; replace hx349_6 := hB HB hx349_6; have HR349_6 := Aside0.mk hi349_6; have HC349_6 := Aside0.mk hl349_6; clear hi349_6 hl349_6; replace hx349_0 := (cell_far (p := ⟨gb348, 0, none⟩) (by first | (rw [add_block]; exact hn349_0) | (show (Addr.add _ _).block ≠ _; rw [add_block]; exact hn349_0) | exact hn349_0) (.string ((rd_T60 ((rd_T53 l0_0 (rd x10_4 x11_4)).f6) x111_5).f0))).trans hx349_0; replace hx349_1 := (cell_far (p := ⟨gb348, 0, none⟩) (by first | (rw [add_block]; exact hn349_0) | (show (Addr.add _ _).block ≠ _; rw [add_block]; exact hn349_0) | exact hn349_0) (.string ((rd_T60 ((rd_T53 l0_0 (rd x10_4 x11_4)).f6) x111_5).f0))).trans hx349_1; replace hx349_2 := (cell_far (p := ⟨gb348, 0, none⟩) (by first | (rw [add_block]; exact hn349_0) | (show (Addr.add _ _).block ≠ _; rw [add_block]; exact hn349_0) | exact hn349_0) (.string ((rd_T60 ((rd_T53 l0_0 (rd x10_4 x11_4)).f6) x111_5).f0))).trans hx349_2; replace hx349_3 := (cell_far (p := ⟨gb348, 0, none⟩) (by first | (rw [add_block]; exact hn349_0) | (show (Addr.add _ _).block ≠ _; rw [add_block]; exact hn349_0) | exact hn349_0) (.string ((rd_T60 ((rd_T53 l0_0 (rd x10_4 x11_4)).f6) x111_5).f0))).trans hx349_3; replace hx349_4 := (cell_far (p := ⟨gb348, 0, none⟩) (by first | (rw [add_block]; exact hn349_0) | (show (Addr.add _ _).block ≠ _; rw [add_block]; exact hn349_0) | exact hn349_0) (.string ((rd_T60 ((rd_T53 l0_0 (rd x10_4 x11_4)).f6) x111_5).f0))).trans hx349_4; replace hx349_5 := (cell_far (p := ⟨gb348, 0, none⟩) (by first | (rw [add_block]; exact hn349_0) | (show (Addr.add _ _).block ≠ _; rw [add_block]; exact hn349_0) | exact hn349_0) (.string ((rd_T60 ((rd_T53 l0_0 (rd x10_4 x11_4)).f6) x111_5).f0))).trans hx349_5; replace hx349_6 := (cell_far (p := ⟨gb348, 0, none⟩) (by first | (rw [add_block]; exact hn349_0) | (show (Addr.add _ _).block ≠ _; rw [add_block]; exact hn349_0) | exact hn349_0) (.string ((rd_T60 ((rd_T53 l0_0 (rd x10_4 x11_4)).f6) x111_5).f0))).trans hx349_6; replace hx349_0 := (cell_far (p := ⟨gb348, 1, none⟩) (by first | (rw [add_block]; exact hn349_1) | (show (Addr.add _ _).block ≠ _; rw [add_block]; exact hn349_1) | exact hn349_1) (.int .i64 ((rd_T60 ((rd_T53 l0_0 (rd x10_4 x11_4)).f6) x111_5).f1))).trans hx349_0; replace hx349_1 := (cell_far (p := ⟨gb348, 1, none⟩) (by first | (rw [add_block]; exact hn349_1) | (show (Addr.add _ _).block ≠ _; rw [add_block]; exact hn349_1) | exact hn349_1) (.int .i64 ((rd_T60 ((rd_T53 l0_0 (rd x10_4 x11_4)).f6) x111_5).f1))).trans hx349_1; replace hx349_2 := (cell_far (p := ⟨gb348, 1, none⟩) (by first | (rw [add_block]; exact hn349_1) | (show (Addr.add _ _).block ≠ _; rw [add_block]; exact hn349_1) | exact hn349_1) (.int .i64 ((rd_T60 ((rd_T53 l0_0 (rd x10_4 x11_4)).f6) x111_5).f1))).trans hx349_2; replace hx349_3 := (cell_far (p := ⟨gb348, 1, none⟩) (by first | (rw [add_block]; exact hn349_1) | (show (Addr.add _ _).block ≠ _; rw [add_block]; exact hn349_1) | exact hn349_1) (.int .i64 ((rd_T60 ((rd_T53 l0_0 (rd x10_4 x11_4)).f6) x111_5).f1))).trans hx349_3; replace hx349_4 := (cell_far (p := ⟨gb348, 1, none⟩) (by first | (rw [add_block]; exact hn349_1) | (show (Addr.add _ _).block ≠ _; rw [add_block]; exact hn349_1) | exact hn349_1) (.int .i64 ((rd_T60 ((rd_T53 l0_0 (rd x10_4 x11_4)).f6) x111_5).f1))).trans hx349_4; replace hx349_5 := (cell_far (p := ⟨gb348, 1, none⟩) (by first | (rw [add_block]; exact hn349_1) | (show (Addr.add _ _).block ≠ _; rw [add_block]; exact hn349_1) | exact hn349_1) (.int .i64 ((rd_T60 ((rd_T53 l0_0 (rd x10_4 x11_4)).f6) x111_5).f1))).trans hx349_5; replace hx349_6 := (cell_far (p := ⟨gb348, 1, none⟩) (by first | (rw [add_block]; exact hn349_1) | (show (Addr.add _ _).block ≠ _; rw [add_block]; exact hn349_1) | exact hn349_1) (.int .i64 ((rd_T60 ((rd_T53 l0_0 (rd x10_4 x11_4)).f6) x111_5).f1))).trans hx349_6; clear hn349_0; clear hn349_1; replace p349 := eq_true p349; replace q349 := eq_true q349; have p350 : 0 ≤ (((rd_T60 ((rd_T53 l0_0 (rd x10_4 x11_4)).f6) x111_5).f1) : Int) := sO; have q350 : ((rd_T60 ((rd_T53 l0_0 (rd x10_4 x11_4)).f6) x111_5).f1) < (y344.length : Int) := sO; obtain ⟨ad350, e350, hx350_0⟩ := Kd.at_bool (Kd.R_reads' HO_9.out).2.2 ((rd_T60 ((rd_T53 l0_0 (rd x10_4 x11_4)).f6) x111_5).f1) p350 q350; (try rw [← Nbq116.out] at hx350_0); obtain rfl : (⟨go103, 0, none⟩ : Addr) = ad350 := (by injection e350); (first | simp only [add_plain] at hx350_0 | simp only [add_at] at hx350_0 | simp only [Addr.add, Nat.zero_add] at hx350_0 | skip); have hn350_0 : (⟨go103, 0, none⟩ : Addr).block ≠ gb348 := Kd.own_blk (Kd.R_ne HO_9.out BK348.out (by decide)); have hn350_1 : (⟨go103, 0, none⟩ : Addr).block ≠ gb348 := Kd.own_blk (Kd.R_ne HO_9.out BK348.out (by decide)); replace hx350_0 := (cell_far (p := ⟨gb348, 0, none⟩) (by first | (rw [add_block]; exact hn350_0) | (show (Addr.add _ _).block ≠ _; rw [add_block]; exact hn350_0) | exact hn350_0) (.string ((rd_T60 ((rd_T53 l0_0 (rd x10_4 x11_4)).f6) x111_5).f0))).trans hx350_0; replace hx350_0 := (cell_far (p := ⟨gb348, 1, none⟩) (by first | (rw [add_block]; exact hn350_1) | (show (Addr.add _ _).block ≠ _; rw [add_block]; exact hn350_1) | exact hn350_1) (.int .i64 ((rd_T60 ((rd_T53 l0_0 (rd x10_4 x11_4)).f6) x111_5).f1))).trans hx350_0; clear hn350_0; clear hn350_1; replace p350 := eq_true p350; replace q350 := eq_true q350) | ((with_reducible refine gate_builtin (b := .append) (xs := #[.tmp 131, .tmp 134]) rfl ?_); (try (refine gate_guard (by rfl) ?_; dsimp only)); at_builtin; refine Kd.R_append (Kd.int .i64) (w0 := w) w.heap.size rfl (.tmp 131) (.tmp 134) 56 3 (.int .i64 0) 8 rfl Tryd.underlying56 info3 rfl (by decide) (by omega) u10 x10_5 ((rd_T60 ((rd_T53 l0_0 (rd x10_4 x11_4)).f6) x111_5).f1) [.int .i64 ((rd_T60 ((rd_T53 l0_0 (rd x10_4 x11_4)).f6) x111_5).f1)] (fun _ => True) (fun _ => False) rfl (by first | (go_simp; done) | (go_simp; rfl)) ?aP (fun _ hk => hk.elim) ?aF ?aO ?aB ?aS ?aL ?_; (case aP => exact rfl); (case aB => exact sC); (case aF => exact (fun _ _ => trivial)); (case aO => exact (by (with_reducible repeat (first | apply Kd.R_alloc | apply Kd.R_drewN | apply Kd.R_drew)); exact Kd.R_mono (Kd.R_far (p := ⟨gb348, 1, none⟩) (Kd.R_far (p := ⟨gb348, 0, none⟩) (Kd.R_types HO_10.out BK348.out (by decide)) (fun _ hk => hk.2) (.string ((rd_T60 ((rd_T53 l0_0 (rd x10_4 x11_4)).f6) x111_5).f0))) (fun _ hk => hk.2) (.int .i64 ((rd_T60 ((rd_T53 l0_0 (rd x10_4 x11_4)).f6) x111_5).f1))) (fun _ hk => trivial))); (case aS => exact (below_size sC)); (case aL => have := LMc122.out; omega); intro v352 w127 ho hb hg hat; rw [← Ny351.out] at ho; replace HO_9 := Aside0.mk (Kd.R_over' (by (with_reducible repeat (first | apply Kd.R_alloc | apply Kd.R_drewN | apply Kd.R_drew)); exact (Kd.R_mono (Kd.R_far (p := ⟨gb348, 1, none⟩) (Kd.R_far (p := ⟨gb348, 0, none⟩) (Kd.R_types HO_9.out BK348.out (by decide)) (fun _ hk => hk.2) (.string ((rd_T60 ((rd_T53 l0_0 (rd x10_4 x11_4)).f6) x111_5).f0))) (fun _ hk => hk.2) (.int .i64 ((rd_T60 ((rd_T53 l0_0 (rd x10_4 x11_4)).f6) x111_5).f1))) (fun _ h_ => h_.1))) (Kd.R_typed (by (with_reducible repeat (first | apply Kd.R_alloc | apply Kd.R_drewN | apply Kd.R_drew)); exact (Kd.R_mono (Kd.R_far (p := ⟨gb348, 1, none⟩) (Kd.R_far (p := ⟨gb348, 0, none⟩) (Kd.R_types HO_10.out BK348.out (by decide)) (fun _ hk => hk.2) (.string ((rd_T60 ((rd_T53 l0_0 (rd x10_4 x11_4)).f6) x111_5).f0))) (fun _ hk => hk.2) (.int .i64 ((rd_T60 ((rd_T53 l0_0 (rd x10_4 x11_4)).f6) x111_5).f1))) (fun _ h_ => h_.1)))) (by decide) hg); replace BK318 := Aside0.mk (blk_grown (g := gb318) (o := .cells #[.slice (some ad346) l0_0.length c0_0, .int .i64 a0_1] 29 (0, 0)) (sX BK318) hg (Kd.R_ne HO_10.out BK318.out (by decide))); replace BK348 := Aside0.mk (blk_grown (g := gb348) (o := .cells #[.string ((rd_T60 ((rd_T53 l0_0 (rd x10_4 x11_4)).f6) x111_5).f0), .int .i64 ((rd_T60 ((rd_T53 l0_0 (rd x10_4 x11_4)).f6) x111_5).f1)] 60 (0, 0)) (sX BK348) hg (Kd.R_ne HO_10.out BK348.out (by decide))); replace HB := Aside0.mk (hb); have HO353 := Aside0.mk (ho); clear HO_10; clear ho hb hg hat))
                    (try simp only [← hl9_5])
                    go_roundg k5
                    case measure => have := HJ1.out; have := HK2.out; have := HK3.out; have := HK4.out; have := HK5.out; omega
                    case rel => exact ⟨(y351), (wrap64 (x111_5 + 1)), sR, H', ⟨by have := HJ1.out; have := HK2.out; have := HK3.out; have := HK4.out; have := HK5.out; omega⟩, ⟨by (try simp only [hl9_5]); (with_reducible repeat (first | apply Kd.R_alloc | apply Kd.R_drewN | apply Kd.R_drew)); first | exact HO_9.out | exact Kd.R_mono HO_9.out (fun k_ hk => by simpa only [own_map] using hk) | exact Kd.S_mono HO_9.out (fun k_ hk => by simpa only [own_map] using hk)⟩, ⟨by (try simp only [hl9_5]); (with_reducible repeat (first | apply Kd.R_alloc | apply Kd.R_drewN | apply Kd.R_drew)); first | exact HO353.out | exact Kd.R_mono HO353.out (fun k_ hk => by simpa only [own_map] using hk) | exact Kd.S_mono HO353.out (fun k_ hk => by simpa only [own_map] using hk)⟩, ⟨by (try simp only [hl9_5]); (with_reducible repeat (first | refine blk_drewN ?_ _ | refine blk_drew ?_ | refine blk_alloc ?_ _)); exact BK318.out⟩, ⟨sC⟩⟩
                  ·rw [if_neg c114] at H
                   have c114b0 := beq_eq_false_iff_ne.mpr c114
                   have c114b1 := bne_iff_ne.mpr c114
                   have H' := Aside0.mk H
                   clear H
                   have p347 : 0 ≤ (x111_5 : Int) := sO
                   have q347 : x111_5 < (((rd_T53 l0_0 (rd x10_4 x11_4)).f6).length : Int) := sO
                   obtain ⟨ad347, e347, hx347_0, hx347_1⟩ := ab60 HR346_6.out HB x111_5 p347 q347
                   cases e347
                   replace p347 := eq_true p347
                   replace q347 := eq_true q347
                   go_wp2_with (first | ((with_reducible refine gd 13 rfl ?_); (first | refine bxE 13 #[.string (⟨#[]⟩ : ByteArray), .int .i64 0] 60 ?_ | refine bgE 13 #[.string (⟨#[]⟩ : ByteArray), .int .i64 0] 60 ?_); intro gb348 hg w128 hbox hb; replace HO_9 := nR HO_9 hb; replace HO_10 := nR HO_10 hb; have BK348 := Aside0.mk hbox; have GW348 := nGC hg; have GE348 := nGC hg; replace HB := nSC hb; have NB318_348 := nL BK318 hg; have NB348_318 := nH BK318 hg; replace BK318 := nK BK318 hb; clear hb hbox hg; have hnb129 := NB348_318.out; have hnc129 := NB318_348.out; have hcz130 := cb2 BK348; have hcz131 := cb2 BK318; have p349 : 0 ≤ (((rd_T60 ((rd_T53 l0_0 (rd x10_4 x11_4)).f6) x111_5).f1) : Int) := sO; have q349 : ((rd_T60 ((rd_T53 l0_0 (rd x10_4 x11_4)).f6) x111_5).f1) < (l0_0.length : Int) := sO; obtain ⟨ad349, A349_6, c349_6, e349, hx349_0, hx349_1, hx349_2, hx349_3, hx349_4, hx349_5, hx349_6, hl349_6, hi349_6⟩ := at_T53 HR0_0.out ((rd_T60 ((rd_T53 l0_0 (rd x10_4 x11_4)).f6) x111_5).f1) p349 q349; obtain rfl : ad346 = ad349 := (by injection e349); have hn349_0 : ad346.block ≠ gb348 := Nat.ne_of_lt (Nat.lt_of_lt_of_le (by have := World.block_lt_of_cell? _ _ hx349_0; first | rwa [add_block] at this | exact this) GW348.out); have hn349_1 : ad346.block ≠ gb348 := Nat.ne_of_lt (Nat.lt_of_lt_of_le (by have := World.block_lt_of_cell? _ _ hx349_0; first | rwa [add_block] at this | exact this) GW348.out); replace hx349_0 := hB HB hx349_0; replace hx349_1 := hB HB hx349_1; replace hx349_2 := hB HB hx349_2; replace hx349_3 := hB HB hx349_3; replace hx349_4 := hB HB hx349_4; replace hx349_5 := hB HB hx349_5; replace hx349_6 := hB HB hx349_6; have HR349_6 := Aside0.mk hi349_6; have HC349_6 := Aside0.mk hl349_6; clear hi349_6 hl349_6; replace hx349_0 := (cell_far (p := ⟨gb348, 0, none⟩) (by first | (rw [add_block]; exact hn349_0) | (show (Addr.add _ _).block ≠ _; rw [add_block]; exact hn349_0) | exact hn349_0) (.string ((rd_T60 ((rd_T53 l0_0 (rd x10_4 x11_4)).f6) x111_5).f0))).trans hx349_0; replace hx349_1 := (cell_far (p := ⟨gb348, 0, none⟩) (by first | (rw [add_block]; exact hn349_0) | (show (Addr.add _ _).block ≠ _; rw [add_block]; exact hn349_0) | exact hn349_0) (.string ((rd_T60 ((rd_T53 l0_0 (rd x10_4 x11_4)).f6) x111_5).f0))).trans hx349_1; replace hx349_2 := (cell_far (p := ⟨gb348, 0, none⟩) (by first | (rw [add_block]; exact hn349_0) | (show (Addr.add _ _).block ≠ _; rw [add_block]; exact hn349_0) | exact hn349_0) (.string ((rd_T60 ((rd_T53 l0_0 (rd x10_4 x11_4)).f6) x111_5).f0))).trans hx349_2; replace hx349_3 := (cell_far (p := ⟨gb348, 0, none⟩) (by first | (rw [add_block]; exact hn349_0) | (show (Addr.add _ _).block ≠ _; rw [add_block]; exact hn349_0) | exact hn349_0) (.string ((rd_T60 ((rd_T53 l0_0 (rd x10_4 x11_4)).f6) x111_5).f0))).trans hx349_3; replace hx349_4 := (cell_far (p := ⟨gb348, 0, none⟩) (by first | (rw [add_block]; exact hn349_0) | (show (Addr.add _ _).block ≠ _; rw [add_block]; exact hn349_0) | exact hn349_0) (.string ((rd_T60 ((rd_T53 l0_0 (rd x10_4 x11_4)).f6) x111_5).f0))).trans hx349_4; replace hx349_5 := (cell_far (p := ⟨gb348, 0, none⟩) (by first | (rw [add_block]; exact hn349_0) | (show (Addr.add _ _).block ≠ _; rw [add_block]; exact hn349_0) | exact hn349_0) (.string ((rd_T60 ((rd_T53 l0_0 (rd x10_4 x11_4)).f6) x111_5).f0))).trans hx349_5; replace hx349_6 := (cell_far (p := ⟨gb348, 0, none⟩) (by first | (rw [add_block]; exact hn349_0) | (show (Addr.add _ _).block ≠ _; rw [add_block]; exact hn349_0) | exact hn349_0) (.string ((rd_T60 ((rd_T53 l0_0 (rd x10_4 x11_4)).f6) x111_5).f0))).trans hx349_6; replace hx349_0 := (cell_far (p := ⟨gb348, 1, none⟩) (by first | (rw [add_block]; exact hn349_1) | (show (Addr.add _ _).block ≠ _; rw [add_block]; exact hn349_1) | exact hn349_1) (.int .i64 ((rd_T60 ((rd_T53 l0_0 (rd x10_4 x11_4)).f6) x111_5).f1))).trans hx349_0; replace hx349_1 := (cell_far (p := ⟨gb348, 1, none⟩) (by first | (rw [add_block]; exact hn349_1) | (show (Addr.add _ _).block ≠ _; rw [add_block]; exact hn349_1) | exact hn349_1) (.int .i64 ((rd_T60 ((rd_T53 l0_0 (rd x10_4 x11_4)).f6) x111_5).f1))).trans hx349_1; replace hx349_2 := (cell_far (p := ⟨gb348, 1, none⟩) (by first | (rw [add_block]; exact hn349_1) | (show (Addr.add _ _).block ≠ _; rw [add_block]; exact hn349_1) | exact hn349_1) (.int .i64 ((rd_T60 ((rd_T53 l0_0 (rd x10_4 x11_4)).f6) x111_5).f1))).trans hx349_2; replace hx349_3 := (cell_far (p := ⟨gb348, 1, none⟩) (by first | (rw [add_block]; exact hn349_1) | (show (Addr.add _ _).block ≠ _; rw [add_block]; exact hn349_1) | exact hn349_1) (.int .i64 ((rd_T60 ((rd_T53 l0_0 (rd x10_4 x11_4)).f6) x111_5).f1))).trans hx349_3; replace hx349_4 := (cell_far (p := ⟨gb348, 1, none⟩) (by first | (rw [add_block]; exact hn349_1) | (show (Addr.add _ _).block ≠ _; rw [add_block]; exact hn349_1) | exact hn349_1) (.int .i64 ((rd_T60 ((rd_T53 l0_0 (rd x10_4 x11_4)).f6) x111_5).f1))).trans hx349_4; replace hx349_5 := (cell_far (p := ⟨gb348, 1, none⟩) (by first | (rw [add_block]; exact hn349_1) | (show (Addr.add _ _).block ≠ _; rw [add_block]; exact hn349_1) | exact hn349_1) (.int .i64 ((rd_T60 ((rd_T53 l0_0 (rd x10_4 x11_4)).f6) x111_5).f1))).trans hx349_5; replace hx349_6 := (cell_far (p := ⟨gb348, 1, none⟩) (by first | (rw [add_block]; exact hn349_1) | (show (Addr.add _ _).block ≠ _; rw [add_block]; exact hn349_1) | exact hn349_1) (.int .i64 ((rd_T60 ((rd_T53 l0_0 (rd x10_4 x11_4)).f6) x111_5).f1))).trans hx349_6; clear hn349_0; clear hn349_1; replace p349 := eq_true p349; replace q349 := eq_true q349))
                   (try simp only [← hl9_5])
                   go_roundg k5
                   case measure => have := HJ1.out; have := HK2.out; have := HK3.out; have := HK4.out; have := HK5.out; omega
                   case rel => exact ⟨(x10_5), (wrap64 (x111_5 + 1)), sR, H', ⟨by have := HJ1.out; have := HK2.out; have := HK3.out; have := HK4.out; have := HK5.out; omega⟩, ⟨by (try simp only [hl9_5]); (with_reducible repeat (first | apply Kd.R_alloc | apply Kd.R_drewN | apply Kd.R_drew)); exact Kd.R_mono (Kd.R_far (p := ⟨gb348, 1, none⟩) (Kd.R_far (p := ⟨gb348, 0, none⟩) (Kd.R_types HO_9.out BK348.out (by decide)) (fun _ hk => hk.2) (.string ((rd_T60 ((rd_T53 l0_0 (rd x10_4 x11_4)).f6) x111_5).f0))) (fun _ hk => hk.2) (.int .i64 ((rd_T60 ((rd_T53 l0_0 (rd x10_4 x11_4)).f6) x111_5).f1))) (fun _ hk => trivial)⟩, ⟨by (try simp only [hl9_5]); (with_reducible repeat (first | apply Kd.R_alloc | apply Kd.R_drewN | apply Kd.R_drew)); exact Kd.R_mono (Kd.R_far (p := ⟨gb348, 1, none⟩) (Kd.R_far (p := ⟨gb348, 0, none⟩) (Kd.R_types HO_10.out BK348.out (by decide)) (fun _ hk => hk.2) (.string ((rd_T60 ((rd_T53 l0_0 (rd x10_4 x11_4)).f6) x111_5).f0))) (fun _ hk => hk.2) (.int .i64 ((rd_T60 ((rd_T53 l0_0 (rd x10_4 x11_4)).f6) x111_5).f1))) (fun _ hk => trivial)⟩, ⟨by (try simp only [hl9_5]); (with_reducible repeat (first | refine blk_drewN ?_ _ | refine blk_drew ?_ | refine blk_alloc ?_ _)); refine blk_far ?_ NB318_348.out _; (with_reducible repeat (first | refine blk_drewN ?_ _ | refine blk_drew ?_ | refine blk_alloc ?_ _)); refine blk_far ?_ NB318_348.out _; (with_reducible repeat (first | refine blk_drewN ?_ _ | refine blk_drew ?_ | refine blk_alloc ?_ _)); exact BK318.out⟩, ⟨sC⟩⟩
                 ·rw [if_neg c109] at H
                  have c109b0 := decide_eq_false c109
                  clear c109
                  have H' := Aside0.mk H
                  clear H
                  go_wp2
                  (try simp only [← hl9_5])
                  go_roundg k5
                  case measure => have := HJ1.out; have := HK2.out; have := HK3.out; have := HK4.out; have := HK5.out; omega
                  case rel => exact ⟨(y344), (x10_5), (wrap64 (x11_4 + 1)), sR, H', ⟨by have := HJ1.out; have := HK2.out; have := HK3.out; have := HK4.out; have := HK5.out; omega⟩, ⟨by (try simp only [hl9_5]); (with_reducible repeat (first | apply Kd.R_alloc | apply Kd.R_drewN | apply Kd.R_drew)); first | exact HO_9.out | exact Kd.R_mono HO_9.out (fun k_ hk => by simpa only [own_map] using hk) | exact Kd.S_mono HO_9.out (fun k_ hk => by simpa only [own_map] using hk)⟩, ⟨by (try simp only [hl9_5]); (with_reducible repeat (first | apply Kd.R_alloc | apply Kd.R_drewN | apply Kd.R_drew)); first | exact HO_10.out | exact Kd.R_mono HO_10.out (fun k_ hk => by simpa only [own_map] using hk) | exact Kd.S_mono HO_10.out (fun k_ hk => by simpa only [own_map] using hk)⟩, ⟨by (try simp only [hl9_5]); (with_reducible repeat (first | refine blk_drewN ?_ _ | refine blk_drew ?_ | refine blk_alloc ?_ _)); exact BK318.out⟩, ⟨sC⟩⟩
              ·rw [if_neg c99] at H
               have c99b0 := decide_eq_false c99
               clear c99
               have H' := Aside0.mk H
               clear H
               obtain ⟨Ao132, co132, eo132⟩ := Kd.R_slice HO_10.out
               subst eo132
               have hcz133 := cb2 BK318
               go_wp2
               go_loopg [140] k4 (fun kq v140 w' => ∃ (x140_5 : Int), v140 = .int .i64 x140_5 ∧ Aside0 (impl_GoodFs.l4 kq x9_4 l0_0 (l0_0.length : Int) x140_5 = some r) ∧ Aside0 (kq ≤ k4) ∧ Aside0 (Kd.R Kd.bool 4 w' w.heap.size (fun _ => True) v338 x9_4) ∧ Aside0 (w'.heap[gb318]? = some (.cells #[(.slice A0_0 l0_0.length c0_0), .int .i64 a0_1] 29 (0, 0))) ∧ Aside0 (Below w.heap.size w w'))
               case atStart => exact ⟨(0), sR, H', ⟨Nat.le_refl _⟩, ⟨rR HO_9⟩, ⟨sK BK318⟩, ⟨sC⟩⟩
               case round =>
                clear H'
                try clear c1
                try clear p1
                try clear q1
                try clear hx1
                try clear hf1
                try clear c2
                try clear p2
                try clear c3
                try clear p3
                try clear q3
                try clear hx3
                try clear qi3
                try clear c4
                try clear c5
                try clear c6
                try clear p6
                try clear c7
                try clear c8
                try clear c8b0
                try clear c8b1
                try clear c9
                try clear c10
                try clear p10
                try clear q10
                try clear hx10
                try clear hf10
                try clear c11
                try clear q11
                try clear c12
                try clear c14
                try clear c14b0
                try clear c15
                try clear c15b0
                try clear c16
                try clear c16b0
                try clear c18
                try clear c20
                try clear c25
                try clear c30
                try clear c30b0
                try clear c32
                try clear p32
                try clear q32
                try clear hx32
                try clear qi32
                try clear p33
                try clear q33
                try clear hx33
                try clear c34
                try clear p34
                try clear q34
                try clear hx34
                try clear p35
                try clear q35
                try clear hx35
                try clear c39
                try clear c39b0
                try clear c40
                try clear c40b0
                try clear c41
                try clear c41b0
                try clear c42
                try clear c42b0
                try clear c42b1
                try clear c43
                try clear c43b0
                try clear c43b1
                try clear c45
                try clear c46
                try clear c47
                try clear c47b0
                try clear c50
                try clear c52
                try clear c56
                try clear c59
                try clear c59b0
                try clear c59b1
                try clear c60
                try clear c60b0
                try clear c60b1
                try clear c62
                try clear c64
                try clear c64b0
                try clear p64
                try clear c67
                try clear c69
                try clear c73
                try clear c76
                try clear c76b0
                try clear c76b1
                try clear c78
                try clear c80
                try clear c80b0
                try clear c83
                try clear c85
                try clear c89
                try clear c92
                try clear c92b0
                try clear c92b1
                try clear c93
                try clear c93b0
                try clear c93b1
                try clear c99
                try clear c99b0
                try clear c100
                try clear c100b0
                try clear c101
                try clear c101b0
                try clear c102
                try clear c102b0
                try clear p103
                try clear q103
                try clear hx103
                try clear hf103
                try clear c104
                try clear c104b0
                try clear c109
                try clear c109b0
                try clear c110
                try clear c110b0
                try clear c111
                try clear c111b0
                try clear c112
                try clear c112b0
                try clear c113
                try clear c113b0
                try clear c114
                try clear c114b0
                try clear c114b1
                try clear c115
                try clear c115b0
                try clear q116
                try clear c117
                try clear c119
                try clear c122
                try clear c124
                try clear c129
                try clear hcz10
                try clear hcz11
                try clear hcz120
                try clear hcz121
                try clear hcz125
                try clear hcz126
                try clear hcz130
                try clear hcz131
                try clear hcz133
                try clear hcz13
                try clear hcz21
                try clear hcz22
                try clear hcz26
                try clear hcz27
                try clear hcz36
                try clear hcz38
                try clear hcz46
                try clear hcz53
                try clear hcz57
                try clear hcz63
                try clear hcz70
                try clear hcz74
                try clear hcz79
                try clear hcz86
                try clear hcz90
                try clear hcz94
                try clear hcz9
                try clear hx103_0
                try clear hx321_0
                try clear hx321_1
                try clear hx321_2
                try clear hx321_3
                try clear hx321_4
                try clear hx321_5
                try clear hx321_6
                try clear hx322_0
                try clear hx322_1
                try clear hx322_2
                try clear hx322_3
                try clear hx322_4
                try clear hx322_5
                try clear hx322_6
                try clear hx329_0
                try clear hx329_1
                try clear hx329_2
                try clear hx329_3
                try clear hx329_4
                try clear hx329_5
                try clear hx329_6
                try clear hx331_0
                try clear hx333_0
                try clear hx335_0
                try clear hx343_0
                try clear hx345_0
                try clear hx346_0
                try clear hx346_1
                try clear hx346_2
                try clear hx346_3
                try clear hx346_4
                try clear hx346_5
                try clear hx346_6
                try clear hx347_0
                try clear hx347_1
                try clear hx349_0
                try clear hx349_1
                try clear hx349_2
                try clear hx349_3
                try clear hx349_4
                try clear hx349_5
                try clear hx349_6
                try clear hx350_0
                try clear p1
                try clear p10
                try clear p103
                try clear p2
                try clear p3
                try clear p32
                try clear p321
                try clear p322
                try clear p329
                try clear p33
                try clear p331
                try clear p333
                try clear p335
                try clear p34
                try clear p343
                try clear p345
                try clear p346
                try clear p347
                try clear p349
                try clear p350
                try clear p6
                try clear p64
                try clear q1
                try clear q10
                try clear q103
                try clear q3
                try clear q32
                try clear q321
                try clear q322
                try clear q329
                try clear q33
                try clear q331
                try clear q333
                try clear q335
                try clear q34
                try clear q343
                try clear q345
                try clear q346
                try clear q347
                try clear q349
                try clear q350
                obtain ⟨x140_5, rfl, HA, HK5, HO_9, BK318, HB⟩ := hrel
                cases gk with
                | zero => exact absurd HA.out (by simp [impl_GoodFs.l4])
                | succ k5 =>
                 have H := HA.out
                 clear HA
                 simp only [impl_GoodFs.l4] at H
                 by_cases c134 : x140_5 < (l0_0.length : Int)
                 ·rw [if_pos c134] at H
                  have c134b0 := decide_eq_true c134
                  clear c134
                  obtain ⟨c135, H⟩ := iN H
                  have c135b0 := decide_eq_true c135
                  clear c135
                  obtain ⟨c136, H⟩ := iN H
                  have c136b0 := decide_eq_true c136
                  clear c136
                  by_cases c137 : ((rd_T53 l0_0 x140_5).f0) = 2
                  ·rw [if_pos c137] at H
                   have c137b0 := beq_iff_eq.mpr c137
                   have c137b1 := bne_eq_false_iff_eq.mpr c137
                   clear c137
                   obtain ⟨c138, H⟩ := iN H
                   have c138b0 := decide_eq_true c138
                   clear c138
                   obtain ⟨bq139, hbq139⟩ : ∃ b_ : Bool, b_ = (rdOf false x9_4 x140_5) := ⟨_, rfl⟩
                   replace H : (if bq139 = true then (impl_GoodFs.l4 k5 x9_4 l0_0 (l0_0.length : Int) (wrap64 (x140_5 + 1))) else (some false)) = some r := by rw [← hbq139] at H; exact H
                   have Nbq139 := Aside0.mk hbq139
                   clear hbq139
                   by_cases c140 : bq139 = true
                   ·subst c140
                    rw [if_pos rfl] at H
                    have H' := Aside0.mk H
                    clear H
                    have p354 : 0 ≤ (x140_5 : Int) := sO
                    have q354 : x140_5 < (l0_0.length : Int) := sO
                    obtain ⟨ad354, A354_6, c354_6, e354, hx354_0, hx354_1, hx354_2, hx354_3, hx354_4, hx354_5, hx354_6, hl354_6, hi354_6⟩ := ab53 HR0_0.out HB x140_5 p354 q354
                    cases e354
                    have HR354_6 := Aside0.mk hi354_6
                    have HC354_6 := Aside0.mk hl354_6
                    clear hi354_6 hl354_6
                    replace p354 := eq_true p354
                    replace q354 := eq_true q354
                    go_wp2_with (first | ((with_reducible refine gd 15 rfl ?_); (first | refine bxE 15 #[.int .i64 0, .int .i64 0, .int .i64 0, .int .i64 0, .int .i64 0, .string (⟨#[]⟩ : ByteArray), .slice none 0 0] 53 ?_ | refine bgE 15 #[.int .i64 0, .int .i64 0, .int .i64 0, .int .i64 0, .int .i64 0, .string (⟨#[]⟩ : ByteArray), .slice none 0 0] 53 ?_); intro gb355 hg w141 hbox hb; replace HO_9 := nR HO_9 hb; have BK355 := Aside0.mk hbox; have GW355 := nGC hg; have GE355 := nGC hg; replace HB := nSC hb; have NB318_355 := nL BK318 hg; have NB355_318 := nH BK318 hg; replace BK318 := nK BK318 hb; clear hb hbox hg; have hnb142 := NB355_318.out; have hnc142 := NB318_355.out; have hcz143 := cb7 BK355; obtain ⟨Ao144, co144, eo144⟩ := Kd.R_slice HO_9.out; subst eo144; have p356 : 0 ≤ (x140_5 : Int) := sO; have q356 : x140_5 < (x9_4.length : Int) := sO; obtain ⟨ad356, e356, hx356_0⟩ := Kd.at_bool (Kd.R_reads' HO_9.out).2.2 x140_5 p356 q356; (try rw [← Nbq139.out] at hx356_0); cases e356; have hn356_0 : ad356.block ≠ gb355 := Kd.own_blk (Kd.R_ne HO_9.out BK355.out (by decide)); have hn356_1 : ad356.block ≠ gb355 := Kd.own_blk (Kd.R_ne HO_9.out BK355.out (by decide)); have hn356_2 : ad356.block ≠ gb355 := Kd.own_blk (Kd.R_ne HO_9.out BK355.out (by decide)); have hn356_3 : ad356.block ≠ gb355 := Kd.own_blk (Kd.R_ne HO_9.out BK355.out (by decide)); have hn356_4 : ad356.block ≠ gb355 := Kd.own_blk (Kd.R_ne HO_9.out BK355.out (by decide)); have hn356_5 : ad356.block ≠ gb355 := Kd.own_blk (Kd.R_ne HO_9.out BK355.out (by decide)); have hn356_6 : ad356.block ≠ gb355 := Kd.own_blk (Kd.R_ne HO_9.out BK355.out (by decide)); replace hx356_0 := (cell_far (p := ⟨gb355, 0, none⟩) (by first | (rw [add_block]; exact hn356_0) | (show (Addr.add _ _).block ≠ _; rw [add_block]; exact hn356_0) | exact hn356_0) (.int .i64 ((rd_T53 l0_0 x140_5).f0))).trans hx356_0; replace hx356_0 := (cell_far (p := ⟨gb355, 1, none⟩) (by first | (rw [add_block]; exact hn356_1) | (show (Addr.add _ _).block ≠ _; rw [add_block]; exact hn356_1) | exact hn356_1) (.int .i64 ((rd_T53 l0_0 x140_5).f1))).trans hx356_0; replace hx356_0 := (cell_far (p := ⟨gb355, 2, none⟩) (by first | (rw [add_block]; exact hn356_2) | (show (Addr.add _ _).block ≠ _; rw [add_block]; exact hn356_2) | exact hn356_2) (.int .i64 ((rd_T53 l0_0 x140_5).f2))).trans hx356_0; replace hx356_0 := (cell_far (p := ⟨gb355, 3, none⟩) (by first | (rw [add_block]; exact hn356_3) | (show (Addr.add _ _).block ≠ _; rw [add_block]; exact hn356_3) | exact hn356_3) (.int .i64 ((rd_T53 l0_0 x140_5).f3))).trans hx356_0; replace hx356_0 := (cell_far (p := ⟨gb355, 4, none⟩) (by first | (rw [add_block]; exact hn356_4) | (show (Addr.add _ _).block ≠ _; rw [add_block]; exact hn356_4) | exact hn356_4) (.int .i64 ((rd_T53 l0_0 x140_5).f4))).trans hx356_0; replace hx356_0 := (cell_far (p := ⟨gb355, 5, none⟩) (by first | (rw [add_block]; exact hn356_5) | (show (Addr.add _ _).block ≠ _; rw [add_block]; exact hn356_5) | exact hn356_5) (.string ((rd_T53 l0_0 x140_5).f5))).trans hx356_0; replace hx356_0 := (cell_far (p := ⟨gb355, 6, none⟩) (by first | (rw [add_block]; exact hn356_6) | (show (Addr.add _ _).block ≠ _; rw [add_block]; exact hn356_6) | exact hn356_6) (.slice A354_6 ((rd_T53 l0_0 x140_5).f6).length c354_6)).trans hx356_0; clear hn356_0; clear hn356_1; clear hn356_2; clear hn356_3; clear hn356_4; clear hn356_5; clear hn356_6; replace p356 := eq_true p356; replace q356 := eq_true q356))
                    go_roundg k5
                    case measure => have := HJ1.out; have := HK2.out; have := HK3.out; have := HK4.out; have := HK5.out; omega
                    case rel => exact ⟨(wrap64 (x140_5 + 1)), sR, H', ⟨by have := HJ1.out; have := HK2.out; have := HK3.out; have := HK4.out; have := HK5.out; omega⟩, ⟨rRf HO_9 BK355 (fun _ hk => trivial)⟩, ⟨sX BK318⟩, ⟨sC⟩⟩
                   ·replace c140 := Bool.eq_false_iff.mpr c140
                    subst c140
                    rw [if_neg (show ¬ (false = true) by decide)] at H
                    obtain rfl := Option.some.inj H
                    have p354 : 0 ≤ (x140_5 : Int) := sO
                    have q354 : x140_5 < (l0_0.length : Int) := sO
                    obtain ⟨ad354, A354_6, c354_6, e354, hx354_0, hx354_1, hx354_2, hx354_3, hx354_4, hx354_5, hx354_6, hl354_6, hi354_6⟩ := ab53 HR0_0.out HB x140_5 p354 q354
                    cases e354
                    have HR354_6 := Aside0.mk hi354_6
                    have HC354_6 := Aside0.mk hl354_6
                    clear hi354_6 hl354_6
                    replace p354 := eq_true p354
                    replace q354 := eq_true q354
                    go_wp2_with (first | ((with_reducible refine gd 15 rfl ?_); (first | refine bxE 15 #[.int .i64 0, .int .i64 0, .int .i64 0, .int .i64 0, .int .i64 0, .string (⟨#[]⟩ : ByteArray), .slice none 0 0] 53 ?_ | refine bgE 15 #[.int .i64 0, .int .i64 0, .int .i64 0, .int .i64 0, .int .i64 0, .string (⟨#[]⟩ : ByteArray), .slice none 0 0] 53 ?_); intro gb355 hg w145 hbox hb; replace HO_9 := nR HO_9 hb; have BK355 := Aside0.mk hbox; have GW355 := nGC hg; have GE355 := nGC hg; replace HB := nSC hb; have NB318_355 := nL BK318 hg; have NB355_318 := nH BK318 hg; replace BK318 := nK BK318 hb; clear hb hbox hg; have hnb146 := NB355_318.out; have hnc146 := NB318_355.out; have hcz147 := cb7 BK355; obtain ⟨Ao148, co148, eo148⟩ := Kd.R_slice HO_9.out; subst eo148; have p356 : 0 ≤ (x140_5 : Int) := sO; have q356 : x140_5 < (x9_4.length : Int) := sO; obtain ⟨ad356, e356, hx356_0⟩ := Kd.at_bool (Kd.R_reads' HO_9.out).2.2 x140_5 p356 q356; (try rw [← Nbq139.out] at hx356_0); cases e356; have hn356_0 : ad356.block ≠ gb355 := Kd.own_blk (Kd.R_ne HO_9.out BK355.out (by decide)); have hn356_1 : ad356.block ≠ gb355 := Kd.own_blk (Kd.R_ne HO_9.out BK355.out (by decide)); have hn356_2 : ad356.block ≠ gb355 := Kd.own_blk (Kd.R_ne HO_9.out BK355.out (by decide)); have hn356_3 : ad356.block ≠ gb355 := Kd.own_blk (Kd.R_ne HO_9.out BK355.out (by decide)); have hn356_4 : ad356.block ≠ gb355 := Kd.own_blk (Kd.R_ne HO_9.out BK355.out (by decide)); have hn356_5 : ad356.block ≠ gb355 := Kd.own_blk (Kd.R_ne HO_9.out BK355.out (by decide)); have hn356_6 : ad356.block ≠ gb355 := Kd.own_blk (Kd.R_ne HO_9.out BK355.out (by decide)); replace hx356_0 := (cell_far (p := ⟨gb355, 0, none⟩) (by first | (rw [add_block]; exact hn356_0) | (show (Addr.add _ _).block ≠ _; rw [add_block]; exact hn356_0) | exact hn356_0) (.int .i64 ((rd_T53 l0_0 x140_5).f0))).trans hx356_0; replace hx356_0 := (cell_far (p := ⟨gb355, 1, none⟩) (by first | (rw [add_block]; exact hn356_1) | (show (Addr.add _ _).block ≠ _; rw [add_block]; exact hn356_1) | exact hn356_1) (.int .i64 ((rd_T53 l0_0 x140_5).f1))).trans hx356_0; replace hx356_0 := (cell_far (p := ⟨gb355, 2, none⟩) (by first | (rw [add_block]; exact hn356_2) | (show (Addr.add _ _).block ≠ _; rw [add_block]; exact hn356_2) | exact hn356_2) (.int .i64 ((rd_T53 l0_0 x140_5).f2))).trans hx356_0; replace hx356_0 := (cell_far (p := ⟨gb355, 3, none⟩) (by first | (rw [add_block]; exact hn356_3) | (show (Addr.add _ _).block ≠ _; rw [add_block]; exact hn356_3) | exact hn356_3) (.int .i64 ((rd_T53 l0_0 x140_5).f3))).trans hx356_0; replace hx356_0 := (cell_far (p := ⟨gb355, 4, none⟩) (by first | (rw [add_block]; exact hn356_4) | (show (Addr.add _ _).block ≠ _; rw [add_block]; exact hn356_4) | exact hn356_4) (.int .i64 ((rd_T53 l0_0 x140_5).f4))).trans hx356_0; replace hx356_0 := (cell_far (p := ⟨gb355, 5, none⟩) (by first | (rw [add_block]; exact hn356_5) | (show (Addr.add _ _).block ≠ _; rw [add_block]; exact hn356_5) | exact hn356_5) (.string ((rd_T53 l0_0 x140_5).f5))).trans hx356_0; replace hx356_0 := (cell_far (p := ⟨gb355, 6, none⟩) (by first | (rw [add_block]; exact hn356_6) | (show (Addr.add _ _).block ≠ _; rw [add_block]; exact hn356_6) | exact hn356_6) (.slice A354_6 ((rd_T53 l0_0 x140_5).f6).length c354_6)).trans hx356_0; clear hn356_0; clear hn356_1; clear hn356_2; clear hn356_3; clear hn356_4; clear hn356_5; clear hn356_6; replace p356 := eq_true p356; replace q356 := eq_true q356))
                    go_ret
                    exact ⟨sE, sC⟩
                  ·rw [if_neg c137] at H
                   have c137b0 := beq_eq_false_iff_ne.mpr c137
                   have c137b1 := bne_iff_ne.mpr c137
                   have H' := Aside0.mk H
                   clear H
                   have p354 : 0 ≤ (x140_5 : Int) := sO
                   have q354 : x140_5 < (l0_0.length : Int) := sO
                   obtain ⟨ad354, A354_6, c354_6, e354, hx354_0, hx354_1, hx354_2, hx354_3, hx354_4, hx354_5, hx354_6, hl354_6, hi354_6⟩ := ab53 HR0_0.out HB x140_5 p354 q354
                   cases e354
                   have HR354_6 := Aside0.mk hi354_6
                   have HC354_6 := Aside0.mk hl354_6
                   clear hi354_6 hl354_6
                   replace p354 := eq_true p354
                   replace q354 := eq_true q354
                   go_wp2_with (first | ((with_reducible refine gd 15 rfl ?_); (first | refine bxE 15 #[.int .i64 0, .int .i64 0, .int .i64 0, .int .i64 0, .int .i64 0, .string (⟨#[]⟩ : ByteArray), .slice none 0 0] 53 ?_ | refine bgE 15 #[.int .i64 0, .int .i64 0, .int .i64 0, .int .i64 0, .int .i64 0, .string (⟨#[]⟩ : ByteArray), .slice none 0 0] 53 ?_); intro gb355 hg w149 hbox hb; replace HO_9 := nR HO_9 hb; have BK355 := Aside0.mk hbox; have GW355 := nGC hg; have GE355 := nGC hg; replace HB := nSC hb; have NB318_355 := nL BK318 hg; have NB355_318 := nH BK318 hg; replace BK318 := nK BK318 hb; clear hb hbox hg; have hnb150 := NB355_318.out; have hnc150 := NB318_355.out; have hcz151 := cb7 BK355))
                   go_roundg k5
                   case measure => have := HJ1.out; have := HK2.out; have := HK3.out; have := HK4.out; have := HK5.out; omega
                   case rel => exact ⟨(wrap64 (x140_5 + 1)), sR, H', ⟨by have := HJ1.out; have := HK2.out; have := HK3.out; have := HK4.out; have := HK5.out; omega⟩, ⟨rRf HO_9 BK355 (fun _ hk => trivial)⟩, ⟨sX BK318⟩, ⟨sC⟩⟩
                 ·rw [if_neg c134] at H
                  have c134b0 := decide_eq_false c134
                  clear c134
                  obtain rfl := Option.some.inj H
                  go_wp2
                  go_ret
                  exact ⟨sE, sC⟩
           ·rw [if_neg c92] at H
            exact absurd H (by simp)

end Go.Proofs.YteffcglgdfhkmaaDoor.PWk
