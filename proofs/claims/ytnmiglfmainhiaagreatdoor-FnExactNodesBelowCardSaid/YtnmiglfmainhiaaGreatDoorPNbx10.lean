-- Written by a program of this session (wip/print2) out of the translation. Lean checks it.
import Derived.Test.YtnmiglfmainhiaaGreatDoorPNbx0
import Derived.Test.YtnmiglfmainhiaaGreatDoorPNbx4
import Derived.Test.YtnmiglfmainhiaaGreatDoorPNbx9
namespace Go.Proofs.YtnmiglfmainhiaaGreatDoor.PNb
open Go.RowKit Go.Proofs.YtnmiglfmainhiaaGreatDoorW.PrintWords Go.Proofs.YtnmiglfmainhiaaGreatDoorW.PrintLast Go.Proofs.YtnmiglfmainhiaaGreatDoorW.PrintMore
attribute [local go_sem] max2_int min2_int max_two min_two max_three min_three max_four min_four   -- for this text's walks alone
set_option linter.unusedVariables false
set_option linter.unusedSimpArgs false
set_option maxHeartbeats 8000000
set_option maxRecDepth 100000

/-! ### spec_l3Is: function 61 -/
def spec_l3Is.f (l0_0 : List (S74)) (a0_1 : Int) (a1 : Int) : Option (Bool) := (spec_l1In.f a1 0 (wrap64 ((l0_0.length : Int) - 1))).bind fun t281 => (if t281 = true then (if 0 ≤ a1 then (if a1 < (l0_0.length : Int) then (some (((rd_T74 l0_0 a1).f0) != 0)) else (none)) else (none)) else (some false))
theorem spec_l3Is.calls (A0_0 : Option Addr) (c0_0 : Nat) (l0_0 : List (S74)) (a0_1 : Int) (a1 : Int) (r : Bool) (w : World) (hr0_0 : Kd.C k74 w A0_0 l0_0.length l0_0) (hc0_0 : l0_0.length ≤ c0_0) (h : spec_l3Is.f l0_0 a0_1 a1 = some r) :
  Calls Tryz.prog 61 #[.agg #[.slice A0_0 l0_0.length c0_0, .int .i64 a0_1], .int .i64 a1] w fun e w' => e = .returned (.bool r) ∧ Below w.heap.size w w' := by
 have hu31 := Tryz.underlying31
 have HR0_0 := Aside0.mk hr0_0
 have HC0_0 := Aside0.mk hc0_0
 clear hr0_0 hc0_0
 have HB := Aside0.mk (Below.refl w.heap.size w)
 have H : ((spec_l1In.f a1 0 (wrap64 ((l0_0.length : Int) - 1))).bind fun t281 => (if t281 = true then (if 0 ≤ a1 then (if a1 < (l0_0.length : Int) then (some (((rd_T74 l0_0 a1).f0) != 0)) else (none)) else (none)) else (some false))) = some r := h
 clear h
 obtain ⟨t281, A3, H⟩ := bS H
 try dsimp only at H
 by_cases c4 : t281 = true
 ·subst c4
  rw [if_pos rfl] at H
  obtain ⟨c5, H⟩ := iN H
  have c5b0 := decide_eq_true c5
  clear c5
  obtain ⟨c6, H⟩ := iN H
  have c6b0 := decide_eq_true c6
  clear c6
  obtain rfl := Option.some.inj H
  go_enter Tryz.func61, Tryz.ntmps61
  go_wp2_with (first | ((with_reducible refine gd 2 rfl ?_); refine bxE 2 #[.slice A0_0 l0_0.length c0_0, .int .i64 a0_1] 31 ?_; intro gb280 hg w7 hbox hb; have BK280 := Aside0.mk hbox; have GW280 := nGB hg; have GE280 := nGB hg; replace HB := nSB hb; clear hb hbox hg; have hcz8 := cb2 BK280) | ((with_reducible refine gt 91 rfl ?_); refine gL 91 10 Tryz.func91 #[.int .i64 a1, .int .i64 0, .int .i64 (wrap64 ((l0_0.length : Int) - 1))] ?_; (with_reducible refine (spec_l1In.calls a1 0 (wrap64 ((l0_0.length : Int) - 1)) true _ A3.out).mono ?_); rintro e w' ⟨rfl, ⟨nd, rfl⟩⟩; refine ⟨_, rfl, ?_⟩; have p282 : 0 ≤ (a1 : Int) := sO; have q282 : a1 < (l0_0.length : Int) := sO; obtain ⟨ad282, A282_6, c282_6, e282, hx282_0, hx282_1, hx282_2, hx282_3, hx282_4, hx282_5, hx282_6, hl282_6, hi282_6⟩ := ab74 HR0_0.out HB a1 p282 q282; cases e282; have HR282_6 := Aside0.mk hi282_6; have HC282_6 := Aside0.mk hl282_6; clear hi282_6 hl282_6; replace p282 := eq_true p282; replace q282 := eq_true q282))
  go_ret
  exact ⟨sE, sC⟩
 ·replace c4 := Bool.eq_false_iff.mpr c4
  subst c4
  rw [if_neg (show ¬ (false = true) by decide)] at H
  obtain rfl := Option.some.inj H
  go_enter Tryz.func61, Tryz.ntmps61
  go_wp2_with (first | ((with_reducible refine gd 2 rfl ?_); refine bxE 2 #[.slice A0_0 l0_0.length c0_0, .int .i64 a0_1] 31 ?_; intro gb280 hg w9 hbox hb; have BK280 := Aside0.mk hbox; have GW280 := nGB hg; have GE280 := nGB hg; replace HB := nSB hb; clear hb hbox hg; have hcz10 := cb2 BK280) | ((with_reducible refine gt 91 rfl ?_); refine gL 91 10 Tryz.func91 #[.int .i64 a1, .int .i64 0, .int .i64 (wrap64 ((l0_0.length : Int) - 1))] ?_; (with_reducible refine (spec_l1In.calls a1 0 (wrap64 ((l0_0.length : Int) - 1)) false _ A3.out).mono ?_); rintro e w' ⟨rfl, ⟨nd, rfl⟩⟩; refine ⟨_, rfl, ?_⟩))
  go_ret
  exact ⟨sE, sC⟩

/-! ### spec_l7Asked: function 36 -/
def spec_l7Asked.f (k : Nat) (l0_0 : List (S74)) (a0_1 : Int) (a1 : Int) : Option (Bool) := (spec_l3Good.f k l0_0 a0_1).bind fun t284 => (if t284 = true then ((spec_l3Is.f l0_0 a0_1 a1).bind fun t285 => (some t285)) else (some false))
theorem spec_l7Asked.mono : ∀ a0 a1 a2 k, LeO (spec_l7Asked.f k a0 a1 a2) (spec_l7Asked.f (k + 1) a0 a1 a2) := by
 intro a0 a1 a2 k
 unfold spec_l7Asked.f
 have m0 := @spec_l3Good.mono
 exact mo
theorem spec_l7Asked.calls (k : Nat) (A0_0 : Option Addr) (c0_0 : Nat) (l0_0 : List (S74)) (a0_1 : Int) (a1 : Int) (r : Bool) (w : World) (hr0_0 : Kd.C k74 w A0_0 l0_0.length l0_0) (hc0_0 : l0_0.length ≤ c0_0) (h : spec_l7Asked.f k l0_0 a0_1 a1 = some r) :
  Calls Tryz.prog 36 #[.agg #[.slice A0_0 l0_0.length c0_0, .int .i64 a0_1], .int .i64 a1] w fun e w' => e = .returned (.bool r) ∧ Below w.heap.size w w' := by
 have hu31 := Tryz.underlying31
 have HR0_0 := Aside0.mk hr0_0
 have HC0_0 := Aside0.mk hc0_0
 clear hr0_0 hc0_0
 have HB := Aside0.mk (Below.refl w.heap.size w)
 have H : ((spec_l3Good.f k l0_0 a0_1).bind fun t284 => (if t284 = true then ((spec_l3Is.f l0_0 a0_1 a1).bind fun t285 => (some t285)) else (some false))) = some r := h
 clear h
 obtain ⟨t284, A3, H⟩ := bS H
 try dsimp only at H
 by_cases c4 : t284 = true
 ·subst c4
  rw [if_pos rfl] at H
  obtain ⟨t285, A5, H⟩ := bS H
  try dsimp only at H
  obtain rfl := Option.some.inj H
  go_enter Tryz.func36, Tryz.ntmps36
  go_wp2_with (first | ((with_reducible refine gd 2 rfl ?_); refine bxE 2 #[.slice A0_0 l0_0.length c0_0, .int .i64 a0_1] 31 ?_; intro gb283 hg w6 hbox hb; have BK283 := Aside0.mk hbox; have GW283 := nGB hg; have GE283 := nGB hg; replace HB := nSB hb; clear hb hbox hg; have hcz7 := cb2 BK283) | ((with_reducible refine gt 53 rfl ?_); refine gL 53 6 Tryz.func53 #[.agg #[.slice A0_0 l0_0.length c0_0, .int .i64 a0_1]] ?_; (with_reducible refine (spec_l3Good.calls k _ _ l0_0 a0_1 true _ ?side1 ?side2 A3.out).mono ?_); (case side1 => exact sD (Kd.C_below HR0_0.out HB.out)); (case side2 => exact HC0_0.out); rintro e w8 ⟨rfl, hb⟩; refine ⟨_, rfl, ?_⟩; replace BK283 := nK BK283 hb; replace HB := nSC hb; try clear hb; have hcz9 := cb2 BK283) | (go_at_call 61; (with_reducible refine (spec_l3Is.calls _ _ l0_0 a0_1 a1 t285 _ ?side1 ?side2 A5.out).mono ?_); (case side1 => exact sD (Kd.C_below HR0_0.out HB.out)); (case side2 => exact HC0_0.out); rintro e w10 ⟨rfl, hb⟩; replace BK283 := nK BK283 hb; replace HB := nSC hb; try clear hb))
  go_ret
  exact ⟨sE, sC⟩
 ·replace c4 := Bool.eq_false_iff.mpr c4
  subst c4
  rw [if_neg (show ¬ (false = true) by decide)] at H
  obtain rfl := Option.some.inj H
  go_enter Tryz.func36, Tryz.ntmps36
  go_wp2_with (first | ((with_reducible refine gd 2 rfl ?_); refine bxE 2 #[.slice A0_0 l0_0.length c0_0, .int .i64 a0_1] 31 ?_; intro gb283 hg w11 hbox hb; have BK283 := Aside0.mk hbox; have GW283 := nGB hg; have GE283 := nGB hg; replace HB := nSB hb; clear hb hbox hg; have hcz12 := cb2 BK283) | ((with_reducible refine gt 53 rfl ?_); refine gL 53 6 Tryz.func53 #[.agg #[.slice A0_0 l0_0.length c0_0, .int .i64 a0_1]] ?_; (with_reducible refine (spec_l3Good.calls k _ _ l0_0 a0_1 false _ ?side1 ?side2 A3.out).mono ?_); (case side1 => exact sD (Kd.C_below HR0_0.out HB.out)); (case side2 => exact HC0_0.out); rintro e w13 ⟨rfl, hb⟩; refine ⟨_, rfl, ?_⟩; replace BK283 := nK BK283 hb; replace HB := nSC hb; try clear hb))
  go_ret
  exact ⟨sE, sC⟩

/-! ### spec_l8Size: function 46 -/
def spec_l8Size.l0 : Nat → Int → List Int → Int → Int → List (S74) → Int → Option (Int)
 | 0, _, _, _, _, _, _ => none
 | k + 1, x5, x10, x11, x12, x287000, x287001 => if x12 < x11 then (if 0 ≤ x12 then (if x12 < (x10.length : Int) then (if 0 ≤ (rd x10 x12) then (if (rd x10 x12) < (x287000.length : Int) then (spec_l8Size.l0 k (wrap64 (x5 + (wrap64 (1 + (((rd_T74 x287000 (rd x10 x12)).f5).size : Int))))) x10 x11 (wrap64 (x12 + 1)) x287000 x287001) else (none)) else (none)) else (none)) else (none)) else (some x5)
def spec_l8Size.f (k : Nat) (l0_0 : List (S74)) (a0_1 : Int) (a1 : Int) : Option (Int) := (spec_l3Met.f k l0_0 a0_1 a1 ([] : List Int)).bind fun t287 => (spec_l8Size.l0 k 0 t287 (t287.length : Int) 0 l0_0 a0_1)
theorem spec_l8Size.mono_l : ∀ k, (∀ y0 y1 y2 y3 y4 y5, LeO (spec_l8Size.l0 k y0 y1 y2 y3 y4 y5) (spec_l8Size.l0 (k + 1) y0 y1 y2 y3 y4 y5))
 | 0 => fun _ _ _ _ _ _ r h => by simp [spec_l8Size.l0] at h
 | k + 1 => by
  have ih0 := spec_l8Size.mono_l k
  ·intro y0 y1 y2 y3 y4 y5
   unfold spec_l8Size.l0
   have m0 := @spec_l3Met.mono
   exact mo
theorem spec_l8Size.mono : ∀ a0 a1 a2 k, LeO (spec_l8Size.f k a0 a1 a2) (spec_l8Size.f (k + 1) a0 a1 a2) := by
 intro a0 a1 a2 k
 have ih0 := spec_l8Size.mono_l k
 unfold spec_l8Size.f
 have m0 := @spec_l3Met.mono
 exact mo
theorem spec_l8Size.calls (k : Nat) (A0_0 : Option Addr) (c0_0 : Nat) (l0_0 : List (S74)) (a0_1 : Int) (a1 : Int) (r : Int) (w : World) (hr0_0 : Kd.C k74 w A0_0 l0_0.length l0_0) (hc0_0 : l0_0.length ≤ c0_0) (h : spec_l8Size.f k l0_0 a0_1 a1 = some r) :
  Calls Tryz.prog 46 #[.agg #[.slice A0_0 l0_0.length c0_0, .int .i64 a0_1], .int .i64 a1] w fun e w' => e = .returned (.int .i64 r) ∧ Below w.heap.size w w' := by
 have hu31 := Tryz.underlying31
 have HR0_0 := Aside0.mk hr0_0
 have HC0_0 := Aside0.mk hc0_0
 clear hr0_0 hc0_0
 have HB := Aside0.mk (Below.refl w.heap.size w)
 have H : ((spec_l3Met.f k l0_0 a0_1 a1 ([] : List Int)).bind fun t287 => (spec_l8Size.l0 k 0 t287 (t287.length : Int) 0 l0_0 a0_1)) = some r := h
 clear h
 obtain ⟨t287, A3, H⟩ := bS H
 try dsimp only at H
 have H' := Aside0.mk H
 clear H
 go_enter Tryz.func46, Tryz.ntmps46
 go_wp2_with (first | ((with_reducible refine gd 2 rfl ?_); refine bxE 2 #[.slice A0_0 l0_0.length c0_0, .int .i64 a0_1] 31 ?_; intro gb286 hg w4 hbox hb; have BK286 := Aside0.mk hbox; have GW286 := nGB hg; have GE286 := nGB hg; replace HB := nSB hb; clear hb hbox hg; have hcz5 := cb2 BK286) | ((with_reducible refine gt 37 rfl ?_); refine gL 37 10 Tryz.func37 #[.agg #[.slice A0_0 l0_0.length c0_0, .int .i64 a0_1], .int .i64 a1, .slice none 0 0] ?_; (refine (spec_l3Met.calls k _ _ l0_0 a0_1 a1 (fun k_ => some k_ = (.slice none 0 0 : Value).ownBlock) (.slice none 0 0) ([] : List Int) t287 w _ ?side1 ?side2 ?side3 ?side4 A3.out).mono ?_); (case side1 => repeat (first | (with_reducible first | exact HB.out | apply below_alloc | apply pw_below_drewN | apply below_drew1 | refine below_set ?_ GE286.out) | exact HB.out)); (case side2 => exact Kd.C_kept_came k74_heap HR0_0.out sC (fun k_ hs_ => (fun e_ => by simp [Value.ownBlock] at e_) hs_)); (case side3 => exact HC0_0.out); (case side4 => exact Kd.R_nil _ _ _ _ _); rintro e w6 ⟨v288, rfl, ho0, hb, hkp⟩; refine ⟨_, rfl, ?_⟩; replace BK286 := Aside0.mk (blk_kept (sK BK286) hkp (fun hs_ => (fun e_ => by simp [Value.ownBlock] at e_) hs_)); have HO289 := Aside0.mk (Kd.R_mono (ok' := fun k_ => True) ho0 (fun k_ hk_ => trivial)); replace HB := Aside0.mk (hb); (try clear hb); (try clear hkp); (try clear ho0); obtain ⟨Ao7, co7, eo7⟩ := Kd.R_slice HO289.out; subst eo7))
 go_loopg [5, 12] k (fun kq v5 v12 w' => ∃ (x5_1 : Int) (x12_1 : Int), v5 = .int .i64 x5_1 ∧ v12 = .int .i64 x12_1 ∧ Aside0 (spec_l8Size.l0 kq x5_1 t287 (t287.length : Int) x12_1 l0_0 a0_1 = some r) ∧ Aside0 (kq ≤ k) ∧ Aside0 (Kd.R (Kd.int .i64) 3 w' w.heap.size (fun _ => True) (.slice Ao7 t287.length co7) t287) ∧ Aside0 (w'.heap[gb286]? = some (.cells #[(.slice A0_0 l0_0.length c0_0), .int .i64 a0_1] 31 (0, 0))) ∧ Aside0 (Below w.heap.size w w'))
 case atStart => exact ⟨(0), (0), sR, sR, H', ⟨Nat.le_refl _⟩, ⟨rR HO289⟩, ⟨sK BK286⟩, ⟨sC⟩⟩
 case round =>
  clear H'
  try clear p2
  try clear c3
  try clear c4
  try clear hcz5
  obtain ⟨x5_1, x12_1, rfl, rfl, HA, HK1, HO_10, BK286, HB⟩ := hrel
  cases gk with
  | zero => exact absurd HA.out (by simp [spec_l8Size.l0])
  | succ k1 =>
   have H := HA.out
   clear HA
   simp only [spec_l8Size.l0] at H
   by_cases c8 : x12_1 < (t287.length : Int)
   ·rw [if_pos c8] at H
    have c8b0 := decide_eq_true c8
    clear c8
    obtain ⟨c9, H⟩ := iN H
    have c9b0 := decide_eq_true c9
    clear c9
    obtain ⟨c10, H⟩ := iN H
    have c10b0 := decide_eq_true c10
    clear c10
    obtain ⟨c11, H⟩ := iN H
    have c11b0 := decide_eq_true c11
    clear c11
    obtain ⟨c12, H⟩ := iN H
    have c12b0 := decide_eq_true c12
    clear c12
    have H' := Aside0.mk H
    clear H
    have p290 : 0 ≤ (x12_1 : Int) := sO
    have q290 : x12_1 < (t287.length : Int) := sO
    obtain ⟨ad290, e290, hx290_0⟩ := Kd.at_int (Kd.R_reads' HO_10.out).2.2 x12_1 p290 q290
    cases e290
    replace p290 := eq_true p290
    replace q290 := eq_true q290
    have hcz13 := cb2 BK286
    have p291 : 0 ≤ ((rd t287 x12_1) : Int) := sO
    have q291 : (rd t287 x12_1) < (l0_0.length : Int) := sO
    obtain ⟨ad291, A291_6, c291_6, e291, hx291_0, hx291_1, hx291_2, hx291_3, hx291_4, hx291_5, hx291_6, hl291_6, hi291_6⟩ := ab74 HR0_0.out HB (rd t287 x12_1) p291 q291
    cases e291
    have HR291_6 := Aside0.mk hi291_6
    have HC291_6 := Aside0.mk hl291_6
    clear hi291_6 hl291_6
    replace p291 := eq_true p291
    replace q291 := eq_true q291
    go_wp2
    go_roundg k1
    case measure => have := HK1.out; omega
    case rel => exact ⟨(wrap64 (x5_1 + (wrap64 (1 + (((rd_T74 l0_0 (rd t287 x12_1)).f5).size : Int))))), (wrap64 (x12_1 + 1)), sR, sR, H', ⟨by have := HK1.out; omega⟩, ⟨rR HO_10⟩, ⟨sK BK286⟩, ⟨sC⟩⟩
   ·rw [if_neg c8] at H
    have c8b0 := decide_eq_false c8
    clear c8
    obtain rfl := Option.some.inj H
    go_wp2
    go_ret
    exact ⟨sE, sC⟩

/-! ### spec_SizeBelow: function 21 -/
def spec_SizeBelow.f (k : Nat) (l0_0 : List (S74)) (a0_1 : Int) (a1 : Int) : Option (Int × Bool) := (spec_l7Asked.f k l0_0 a0_1 a1).bind fun t293 => (if t293 = true then ((spec_l8Size.f k l0_0 a0_1 a1).bind fun t294 => (some (t294, true))) else (some (0, false)))
theorem spec_SizeBelow.mono : ∀ a0 a1 a2 k, LeO (spec_SizeBelow.f k a0 a1 a2) (spec_SizeBelow.f (k + 1) a0 a1 a2) := by
 intro a0 a1 a2 k
 unfold spec_SizeBelow.f
 have m0 := @spec_l7Asked.mono
 have m1 := @spec_l8Size.mono
 exact mo
theorem spec_SizeBelow.calls (k : Nat) (A0_0 : Option Addr) (c0_0 : Nat) (l0_0 : List (S74)) (a0_1 : Int) (a1 : Int) (r1 : Int) (r2 : Bool) (w : World) (hr0_0 : Kd.C k74 w A0_0 l0_0.length l0_0) (hc0_0 : l0_0.length ≤ c0_0) (h : spec_SizeBelow.f k l0_0 a0_1 a1 = some (r1, r2)) :
  Calls Tryz.prog 21 #[.agg #[.slice A0_0 l0_0.length c0_0, .int .i64 a0_1], .int .i64 a1] w fun e w' => e = .returned (.tuple #[.int .i64 r1, .bool r2]) ∧ Below w.heap.size w w' := by
 have hu31 := Tryz.underlying31
 have HR0_0 := Aside0.mk hr0_0
 have HC0_0 := Aside0.mk hc0_0
 clear hr0_0 hc0_0
 have HB := Aside0.mk (Below.refl w.heap.size w)
 have H : ((spec_l7Asked.f k l0_0 a0_1 a1).bind fun t293 => (if t293 = true then ((spec_l8Size.f k l0_0 a0_1 a1).bind fun t294 => (some (t294, true))) else (some (0, false)))) = some (r1, r2) := h
 clear h
 obtain ⟨t293, A3, H⟩ := bS H
 try dsimp only at H
 by_cases c4 : t293 = true
 ·subst c4
  rw [if_pos rfl] at H
  obtain ⟨t294, A5, H⟩ := bS H
  try dsimp only at H
  simp only [Option.some.injEq, Prod.mk.injEq] at H
  obtain ⟨rfl, rfl⟩ := H
  go_enter Tryz.func21, Tryz.ntmps21
  go_wp2_with (first | ((with_reducible refine gd 2 rfl ?_); refine bxE 2 #[.slice A0_0 l0_0.length c0_0, .int .i64 a0_1] 31 ?_; intro gb292 hg w6 hbox hb; have BK292 := Aside0.mk hbox; have GW292 := nGB hg; have GE292 := nGB hg; replace HB := nSB hb; clear hb hbox hg; have hcz7 := cb2 BK292) | ((with_reducible refine gt 36 rfl ?_); refine gL 36 8 Tryz.func36 #[.agg #[.slice A0_0 l0_0.length c0_0, .int .i64 a0_1], .int .i64 a1] ?_; (with_reducible refine (spec_l7Asked.calls k _ _ l0_0 a0_1 a1 true _ ?side1 ?side2 A3.out).mono ?_); (case side1 => exact sD (Kd.C_below HR0_0.out HB.out)); (case side2 => exact HC0_0.out); rintro e w8 ⟨rfl, hb⟩; refine ⟨_, rfl, ?_⟩; replace BK292 := nK BK292 hb; replace HB := nSC hb; try clear hb; have hcz9 := cb2 BK292) | ((with_reducible refine gt 46 rfl ?_); refine gL 46 12 Tryz.func46 #[.agg #[.slice A0_0 l0_0.length c0_0, .int .i64 a0_1], .int .i64 a1] ?_; (with_reducible refine (spec_l8Size.calls k _ _ l0_0 a0_1 a1 t294 _ ?side1 ?side2 A5.out).mono ?_); (case side1 => exact sD (Kd.C_below HR0_0.out HB.out)); (case side2 => exact HC0_0.out); rintro e w10 ⟨rfl, hb⟩; refine ⟨_, rfl, ?_⟩; replace BK292 := nK BK292 hb; replace HB := nSC hb; try clear hb))
  go_ret2
  exact ⟨sE, sC⟩
 ·replace c4 := Bool.eq_false_iff.mpr c4
  subst c4
  rw [if_neg (show ¬ (false = true) by decide)] at H
  simp only [Option.some.injEq, Prod.mk.injEq] at H
  obtain ⟨rfl, rfl⟩ := H
  go_enter Tryz.func21, Tryz.ntmps21
  go_wp2_with (first | ((with_reducible refine gd 2 rfl ?_); refine bxE 2 #[.slice A0_0 l0_0.length c0_0, .int .i64 a0_1] 31 ?_; intro gb292 hg w11 hbox hb; have BK292 := Aside0.mk hbox; have GW292 := nGB hg; have GE292 := nGB hg; replace HB := nSB hb; clear hb hbox hg; have hcz12 := cb2 BK292) | ((with_reducible refine gt 36 rfl ?_); refine gL 36 8 Tryz.func36 #[.agg #[.slice A0_0 l0_0.length c0_0, .int .i64 a0_1], .int .i64 a1] ?_; (with_reducible refine (spec_l7Asked.calls k _ _ l0_0 a0_1 a1 false _ ?side1 ?side2 A3.out).mono ?_); (case side1 => exact sD (Kd.C_below HR0_0.out HB.out)); (case side2 => exact HC0_0.out); rintro e w13 ⟨rfl, hb⟩; refine ⟨_, rfl, ?_⟩; replace BK292 := nK BK292 hb; replace HB := nSC hb; try clear hb))
  go_ret2
  exact ⟨sE, sC⟩

/-! ### impl_within: function 97 -/
def impl_within.f (a0 : Int) (a1 : Int) (a2 : Int) : Option (Bool) := if a0 ≥ a1 then (some (decide (a0 ≤ a2))) else (some false)
theorem impl_within.calls (a0 : Int) (a1 : Int) (a2 : Int) (r : Bool) (w : World) (h : impl_within.f a0 a1 a2 = some r) :
  Calls Tryz.prog 97 #[.int .i64 a0, .int .i64 a1, .int .i64 a2] w fun e w' => e = .returned (.bool r) ∧ Drawn0 w w' := by
 have H : (if a0 ≥ a1 then (some (decide (a0 ≤ a2))) else (some false)) = some r := h
 clear h
 by_cases c4 : a0 ≥ a1
 ·rw [if_pos c4] at H
  have c4b0 := decide_eq_true c4
  clear c4
  obtain rfl := Option.some.inj H
  go_enter Tryz.func97, Tryz.ntmps97
  go_wp2
  go_ret
  exact ⟨by first | rfl | (simp; done) | (simp [*]; done), by repeat (first | exact Drawn0.refl _ | apply Drawn0.step)⟩
 ·rw [if_neg c4] at H
  have c4b0 := decide_eq_false c4
  clear c4
  obtain rfl := Option.some.inj H
  go_enter Tryz.func97, Tryz.ntmps97
  go_wp2
  go_ret
  exact ⟨by first | rfl | (simp; done) | (simp [*]; done), by repeat (first | exact Drawn0.refl _ | apply Drawn0.step)⟩

/-! ### impl_isRoom: function 98 -/
def impl_isRoom.f (a0 : Int) : Option (Bool) := (impl_within.f a0 0 1000).bind fun t295 => (some t295)
theorem impl_isRoom.calls (a0 : Int) (r : Bool) (w : World) (h : impl_isRoom.f a0 = some r) :
  Calls Tryz.prog 98 #[.int .i64 a0] w fun e w' => e = .returned (.bool r) ∧ Drawn0 w w' := by
 have H : ((impl_within.f a0 0 1000).bind fun t295 => (some t295)) = some r := h
 clear h
 obtain ⟨t295, A2, H⟩ := bS H
 try dsimp only at H
 obtain rfl := Option.some.inj H
 go_enter Tryz.func98, Tryz.ntmps98
 go_wp2_with (first | ((with_reducible refine gt 97 rfl ?_); refine gL 97 4 Tryz.func97 #[.int .i64 a0, .int .i64 0, .int .i64 1000] ?_; (with_reducible refine (impl_within.calls a0 0 1000 t295 _ A2.out).mono ?_); rintro e w' ⟨rfl, ⟨nd, rfl⟩⟩; refine ⟨_, rfl, ?_⟩))
 go_ret
 exact ⟨by first | rfl | (simp; done) | (simp [*]; done), by repeat (first | exact Drawn0.refl _ | apply Drawn0.step)⟩

/-! ### impl_Fs_isThere: function 74 -/
def impl_Fs_isThere.f (l0_0 : List (S74)) (a0_1 : Int) (a1 : Int) : Option (Bool) := (impl_within.f a1 0 (wrap64 ((l0_0.length : Int) - 1))).bind fun t297 => (if t297 = true then (if 0 ≤ a1 then (if a1 < (l0_0.length : Int) then (some (((rd_T74 l0_0 a1).f0) != 0)) else (none)) else (none)) else (some false))
theorem impl_Fs_isThere.calls (A0_0 : Option Addr) (c0_0 : Nat) (l0_0 : List (S74)) (a0_1 : Int) (a1 : Int) (r : Bool) (w : World) (hr0_0 : Kd.C k74 w A0_0 l0_0.length l0_0) (hc0_0 : l0_0.length ≤ c0_0) (h : impl_Fs_isThere.f l0_0 a0_1 a1 = some r) :
  Calls Tryz.prog 74 #[.agg #[.slice A0_0 l0_0.length c0_0, .int .i64 a0_1], .int .i64 a1] w fun e w' => e = .returned (.bool r) ∧ Below w.heap.size w w' := by
 have hu31 := Tryz.underlying31
 have HR0_0 := Aside0.mk hr0_0
 have HC0_0 := Aside0.mk hc0_0
 clear hr0_0 hc0_0
 have HB := Aside0.mk (Below.refl w.heap.size w)
 have H : ((impl_within.f a1 0 (wrap64 ((l0_0.length : Int) - 1))).bind fun t297 => (if t297 = true then (if 0 ≤ a1 then (if a1 < (l0_0.length : Int) then (some (((rd_T74 l0_0 a1).f0) != 0)) else (none)) else (none)) else (some false))) = some r := h
 clear h
 obtain ⟨t297, A3, H⟩ := bS H
 try dsimp only at H
 by_cases c4 : t297 = true
 ·subst c4
  rw [if_pos rfl] at H
  obtain ⟨c5, H⟩ := iN H
  have c5b0 := decide_eq_true c5
  clear c5
  obtain ⟨c6, H⟩ := iN H
  have c6b0 := decide_eq_true c6
  clear c6
  obtain rfl := Option.some.inj H
  go_enter Tryz.func74, Tryz.ntmps74
  go_wp2_with (first | ((with_reducible refine gd 2 rfl ?_); refine bxE 2 #[.slice A0_0 l0_0.length c0_0, .int .i64 a0_1] 31 ?_; intro gb296 hg w7 hbox hb; have BK296 := Aside0.mk hbox; have GW296 := nGB hg; have GE296 := nGB hg; replace HB := nSB hb; clear hb hbox hg; have hcz8 := cb2 BK296) | ((with_reducible refine gt 97 rfl ?_); refine gL 97 10 Tryz.func97 #[.int .i64 a1, .int .i64 0, .int .i64 (wrap64 ((l0_0.length : Int) - 1))] ?_; (with_reducible refine (impl_within.calls a1 0 (wrap64 ((l0_0.length : Int) - 1)) true _ A3.out).mono ?_); rintro e w' ⟨rfl, ⟨nd, rfl⟩⟩; refine ⟨_, rfl, ?_⟩; have p298 : 0 ≤ (a1 : Int) := sO; have q298 : a1 < (l0_0.length : Int) := sO; obtain ⟨ad298, A298_6, c298_6, e298, hx298_0, hx298_1, hx298_2, hx298_3, hx298_4, hx298_5, hx298_6, hl298_6, hi298_6⟩ := ab74 HR0_0.out HB a1 p298 q298; cases e298; have HR298_6 := Aside0.mk hi298_6; have HC298_6 := Aside0.mk hl298_6; clear hi298_6 hl298_6; replace p298 := eq_true p298; replace q298 := eq_true q298))
  go_ret
  exact ⟨sE, sC⟩
 ·replace c4 := Bool.eq_false_iff.mpr c4
  subst c4
  rw [if_neg (show ¬ (false = true) by decide)] at H
  obtain rfl := Option.some.inj H
  go_enter Tryz.func74, Tryz.ntmps74
  go_wp2_with (first | ((with_reducible refine gd 2 rfl ?_); refine bxE 2 #[.slice A0_0 l0_0.length c0_0, .int .i64 a0_1] 31 ?_; intro gb296 hg w9 hbox hb; have BK296 := Aside0.mk hbox; have GW296 := nGB hg; have GE296 := nGB hg; replace HB := nSB hb; clear hb hbox hg; have hcz10 := cb2 BK296) | ((with_reducible refine gt 97 rfl ?_); refine gL 97 10 Tryz.func97 #[.int .i64 a1, .int .i64 0, .int .i64 (wrap64 ((l0_0.length : Int) - 1))] ?_; (with_reducible refine (impl_within.calls a1 0 (wrap64 ((l0_0.length : Int) - 1)) false _ A3.out).mono ?_); rintro e w' ⟨rfl, ⟨nd, rfl⟩⟩; refine ⟨_, rfl, ?_⟩))
  go_ret
  exact ⟨sE, sC⟩

/-! ### impl_partsOf_1: function 141 -/
def impl_partsOf_1.f (a0 : ByteArray) : Option (Bool) := some (a0.toList == ([] : List UInt8))
theorem impl_partsOf_1.calls (a0 : ByteArray) (r : Bool) (w : World) (h : impl_partsOf_1.f a0 = some r) :
  Calls Tryz.prog 141 #[.string a0] w fun e w' => e = .returned (.bool r) ∧ Drawn0 w w' := by
 have H : (some (a0.toList == ([] : List UInt8))) = some r := h
 clear h
 obtain rfl := Option.some.inj H
 go_enter Tryz.func141, Tryz.ntmps141
 go_wp2
 go_ret
 exact ⟨by first | rfl | (simp; done) | (simp [*]; done), by repeat (first | exact Drawn0.refl _ | apply Drawn0.step)⟩

/-! ### impl_partsOf: function 103 -/
open Go.Lib Go.Sort in
/-- The pieces between slashes, as strings.Split tells them. -/
def impl_partsOf.raw (s : ByteArray) : List ByteArray := Lib.splitB ⟨#[47]⟩ 0 (Lib.countB s ⟨#[47]⟩) s
def impl_partsOf.f (a0 : ByteArray) : Option (List ByteArray) := if a0.size < 4294967281 then some ((impl_partsOf.raw a0).filter fun x => !x.toList.isEmpty) else none
theorem impl_partsOf.index (x : ByteArray) : Lib.indexB x ⟨#[47]⟩ = Lib.indexByte x.data.toList 47 := Lib.index_one _ _
theorem impl_partsOf.count (x : ByteArray) : (Lib.countB x ⟨#[47]⟩ : Int) = Lib.countByte x.data.toList 47 := by
 show ((Lib.count x.data.toList [47] : Nat) : Int) = _
 rw [Lib.count_one]; rfl
set_option maxHeartbeats 1000000 in
theorem impl_partsOf.gen (s : ByteArray) (w : World) (hs : s.size < 4294967281) :
  Calls Tryz.prog 181 #[.string s, .string ⟨#[47]⟩, .int .i64 0, .int .i64 (-1)] w fun e w' =>
   e = .returned (.slice (some ⟨w.heap.size, 0, none⟩) (impl_partsOf.raw s).length (impl_partsOf.raw s).length) ∧ w' = w.alloc (.cells ((impl_partsOf.raw s).map Value.string).toArray 9) := by
 have h1 : 1 ≤ (⟨#[47]⟩ : ByteArray).size := by decide
 have hle := Lib.countB_le ⟨#[47]⟩ h1 s.size s (Nat.le_refl _)
 have hlen := Lib.splitB_all ⟨#[47]⟩ h1 0 _ s rfl
 have c := Any.strings_genSplit_core Tryz.lays221 (by kernel_rfl) s ⟨#[47]⟩ 0 (-1) (Lib.countB s ⟨#[47]⟩ + 1) w hs h1 (Nat.zero_le _)
  (fun x c _ => (Any.strings_Index_one Tryz.lays143 x 47 _).mono fun _ _ ⟨he, hw⟩ => ⟨by rw [he, impl_partsOf.index], hw⟩)
  ((Any.strings_Count_one Tryz.lays138 s 47 w).mono fun _ _ ⟨he, hw⟩ => ⟨by rw [he, impl_partsOf.count], hw⟩)
  (by decide) (by decide) (by rw [if_pos (by decide)]; omega)
 rw [Nat.add_sub_cancel, hlen] at c
 have e2 : Lib.cellsOf (Lib.splitB ⟨#[47]⟩ 0 (Lib.countB s ⟨#[47]⟩) s) (Lib.countB s ⟨#[47]⟩ + 1) = ((Lib.splitB ⟨#[47]⟩ 0 (Lib.countB s ⟨#[47]⟩) s).map Value.string).toArray := by rw [← hlen]; exact Lib.cellsOf_full _
 rw [e2, ← hlen] at c
 exact c
set_option maxHeartbeats 1000000 in
theorem impl_partsOf.split (s : ByteArray) (w : World) (hs : s.size < 4294967281) :
  Calls Tryz.prog 140 #[.string s, .string ⟨#[47]⟩] w fun e w' =>
   e = .returned (.slice (some ⟨w.heap.size, 0, none⟩) (impl_partsOf.raw s).length (impl_partsOf.raw s).length) ∧ w' = w.alloc (.cells ((impl_partsOf.raw s).map Value.string).toArray 9) := by
 have C := Aside0.mk (impl_partsOf.gen s w hs)
 clear hs
 go_enter Tryz.func140, Tryz.ntmps140
 go_wp2_with (go_at_call 181; (with_reducible refine C.out.mono ?_); rintro e w' ⟨rfl, hw⟩; rw [hw])
 go_ret
 exact ⟨rfl, rfl⟩
theorem impl_partsOf.gives (x : ByteArray) (W : World) : FnGives Tryz.prog 141 #[] #[.string x] (.bool x.toList.isEmpty) W :=
 (impl_partsOf_1.calls x _ W rfl).mono fun _ _ ⟨he, hd⟩ => ⟨by rw [he]; cases x.toList <;> rfl, hd.out⟩
open Go.Sort in
set_option maxHeartbeats 1000000 in
theorem impl_partsOf.calls (a0 : ByteArray) (r : List ByteArray) (w : World) (h : impl_partsOf.f a0 = some r) :
  Calls Tryz.prog 103 #[.string a0] w fun e w' => ∃ v0_ : Value, e = .returned (v0_) ∧ Kd.R Kd.string 9 w' w.heap.size (fun _ => True) v0_ r ∧ Below w.heap.size w w' := by
 unfold impl_partsOf.f at h
 by_cases hs : a0.size < 4294967281
 ·rw [if_pos hs] at h
  obtain rfl := Option.some.inj h
  clear h
  haveI : Inhabited ByteArray := ⟨ByteArray.empty⟩
  generalize hraw : impl_partsOf.raw a0 = raw
  have S := Aside0.mk (hraw ▸ impl_partsOf.split a0 w hs)
  have hl : raw.length ≤ 4294967281 := by
   rw [← hraw]; unfold impl_partsOf.raw
   have := Lib.splitB_length_le ⟨#[47]⟩ 0 (Lib.countB a0 ⟨#[47]⟩) a0
   have h2 := Lib.countB_le ⟨#[47]⟩ (by decide) a0.size a0 (Nat.le_refl _)
   omega
  have hown : (w.alloc (.cells (raw.map Value.string).toArray 9)).ownsRow w.heap.size 9 1 (.slice (some ⟨w.heap.size, 0, none⟩) raw.length raw.length) raw.length (raw.map Value.string) :=
   ⟨by simp, .inr ⟨w.heap.size, raw.length, (raw.map Value.string).toArray, rfl, Nat.le_refl _, heap_alloc_new w _, Nat.le_refl _, by unfold maxLen; omega, by simp, by rw [Nat.mul_one, List.take_of_length_le (by simp)]⟩⟩
  have hH : Holds Value.string (w.alloc (.cells (raw.map Value.string).toArray 9)) w.heap.size 0 raw.toArray := fun j hj => by
   have hb := heap_alloc_new w (.cells (raw.map Value.string).toArray 9)
   have hj' : j < raw.length := by simpa using hj
   rw [Nat.zero_add]
   refine ⟨?_, blk_frozen hb j⟩
   rw [blk_cell hb j]
   simp [getElem!_pos, hj']
  have eg : ∀ args w, (callFunc 141 args).run Tryz.prog w = .ok (.enter 141 args) w := enters_of Tryz.func141 (by kernel_rfl) rfl
  have D := AnyE.slices_DeleteFunc Tryz.laysDel Value.string (fun _ => rfl) (fun x => x.toList.isEmpty) 141 #[] eg ByteArray.empty Tryz.zeroValue9 w.heap.size 0 raw.length raw.toArray (w.alloc (.cells (raw.map Value.string).toArray 9))
   (fun W x _ => impl_partsOf.gives x W) (fun n os dk x _ => impl_partsOf.gives x _) hH (by simp; omega) (by simp)
  have D' := Aside0.mk (show Calls Tryz.prog 139 #[.slice (some ⟨w.heap.size, 0, none⟩) raw.length raw.length, .func (.func 141) #[] #[]] (w.alloc (.cells (raw.map Value.string).toArray 9)) fun e w' =>
   e = .returned (.slice (some ⟨w.heap.size, 0, none⟩) (raw.filter fun x => !x.toList.isEmpty).length raw.length) ∧
    ∃ q, w' = putRow Value.string (Sort.ahead (w.alloc (.cells (raw.map Value.string).toArray 9)) q) w.heap.size 0 ((raw.filter fun x => !x.toList.isEmpty) ++ List.replicate (raw.length - (raw.filter fun x => !x.toList.isEmpty).length) ByteArray.empty).toArray from D)
  clear D eg hH
  have HO := Aside0.mk hown
  clear hown hs hraw hl
  go_enter Tryz.func103, Tryz.ntmps103
  go_wp2_with (first | (go_at_call 140; (with_reducible refine S.out.mono ?_); rintro e w' ⟨rfl, hw⟩; rw [hw]) | (go_at_call 139; (with_reducible refine D'.out.mono ?_); rintro e w2 ⟨rfl, q, hw2⟩; rw [hw2]))
  go_ret
  have hk : (raw.filter fun x => !x.toList.isEmpty).length ≤ raw.length := List.length_filter_le _ _
  have ho := Lib.ownsRow_putRow (q := q) HO.out (ys := (raw.filter fun x => !x.toList.isEmpty) ++ List.replicate (raw.length - (raw.filter fun x => !x.toList.isEmpty).length) ByteArray.empty) (by rw [List.length_append, List.length_replicate]; omega) hk
  rw [List.take_left] at ho
  exact ⟨_, rfl, Kd.R_of_own ho (fun _ _ => trivial), Lib.below_putRow ((Below.refl _ w).alloc (Nat.le_refl _) _) (Nat.le_refl _)⟩
 ·rw [if_neg hs] at h; cases h

-- NOT PRINTED: function 180 (slices_IndexFunc_string_string)

-- NOT PRINTED: function 178 (slices_ContainsFunc_string_string)

-- NOT PRINTED: function 210 (slices_IndexFunc_byte_byte)

-- NOT PRINTED: function 194 (slices_ContainsFunc_byte_byte)

/-! ### impl_isNameByte: function 196 -/
def impl_isNameByte.f (a0 : Int) : Option (Bool) := if a0 ≥ 97 then (if a0 ≤ 122 then (some true) else (if a0 ≥ 48 then (if a0 ≤ 57 then (some true) else (if a0 = 46 then (some true) else (if a0 = 95 then (some true) else (some (a0 == 45))))) else (if a0 = 46 then (some true) else (if a0 = 95 then (some true) else (some (a0 == 45)))))) else (if a0 ≥ 48 then (if a0 ≤ 57 then (some true) else (if a0 = 46 then (some true) else (if a0 = 95 then (some true) else (some (a0 == 45))))) else (if a0 = 46 then (some true) else (if a0 = 95 then (some true) else (some (a0 == 45)))))
theorem impl_isNameByte.calls (a0 : Int) (r : Bool) (w : World) (h : impl_isNameByte.f a0 = some r) :
  Calls Tryz.prog 196 #[.int .u8 a0] w fun e w' => e = .returned (.bool r) ∧ Drawn0 w w' := by
 have H : (if a0 ≥ 97 then (if a0 ≤ 122 then (some true) else (if a0 ≥ 48 then (if a0 ≤ 57 then (some true) else (if a0 = 46 then (some true) else (if a0 = 95 then (some true) else (some (a0 == 45))))) else (if a0 = 46 then (some true) else (if a0 = 95 then (some true) else (some (a0 == 45)))))) else (if a0 ≥ 48 then (if a0 ≤ 57 then (some true) else (if a0 = 46 then (some true) else (if a0 = 95 then (some true) else (some (a0 == 45))))) else (if a0 = 46 then (some true) else (if a0 = 95 then (some true) else (some (a0 == 45)))))) = some r := h
 clear h
 by_cases c2 : a0 ≥ 97
 ·rw [if_pos c2] at H
  have c2b0 := decide_eq_true c2
  clear c2
  by_cases c3 : a0 ≤ 122
  ·rw [if_pos c3] at H
   have c3b0 := decide_eq_true c3
   clear c3
   obtain rfl := Option.some.inj H
   go_enter Tryz.func196, Tryz.ntmps196
   go_wp2
   go_ret
   exact ⟨by first | rfl | (simp; done) | (simp [*]; done), by repeat (first | exact Drawn0.refl _ | apply Drawn0.step)⟩
  ·rw [if_neg c3] at H
   have c3b0 := decide_eq_false c3
   clear c3
   by_cases c4 : a0 ≥ 48
   ·rw [if_pos c4] at H
    have c4b0 := decide_eq_true c4
    clear c4
    by_cases c5 : a0 ≤ 57
    ·rw [if_pos c5] at H
     have c5b0 := decide_eq_true c5
     clear c5
     obtain rfl := Option.some.inj H
     go_enter Tryz.func196, Tryz.ntmps196
     go_wp2
     go_ret
     exact ⟨by first | rfl | (simp; done) | (simp [*]; done), by repeat (first | exact Drawn0.refl _ | apply Drawn0.step)⟩
    ·rw [if_neg c5] at H
     have c5b0 := decide_eq_false c5
     clear c5
     by_cases c6 : a0 = 46
     ·rw [if_pos c6] at H
      have c6b0 := beq_iff_eq.mpr c6
      have c6b1 := bne_eq_false_iff_eq.mpr c6
      clear c6
      obtain rfl := Option.some.inj H
      go_enter Tryz.func196, Tryz.ntmps196
      go_wp2
      go_ret
      exact ⟨by first | rfl | (simp; done) | (simp [*]; done), by repeat (first | exact Drawn0.refl _ | apply Drawn0.step)⟩
     ·rw [if_neg c6] at H
      have c6b0 := beq_eq_false_iff_ne.mpr c6
      have c6b1 := bne_iff_ne.mpr c6
      by_cases c7 : a0 = 95
      ·rw [if_pos c7] at H
       have c7b0 := beq_iff_eq.mpr c7
       have c7b1 := bne_eq_false_iff_eq.mpr c7
       clear c7
       obtain rfl := Option.some.inj H
       go_enter Tryz.func196, Tryz.ntmps196
       go_wp2
       go_ret
       exact ⟨by first | rfl | (simp; done) | (simp [*]; done), by repeat (first | exact Drawn0.refl _ | apply Drawn0.step)⟩
      ·rw [if_neg c7] at H
       have c7b0 := beq_eq_false_iff_ne.mpr c7
       have c7b1 := bne_iff_ne.mpr c7
       obtain rfl := Option.some.inj H
       go_enter Tryz.func196, Tryz.ntmps196
       go_wp2
       go_ret
       exact ⟨by first | rfl | (simp; done) | (simp [*]; done), by repeat (first | exact Drawn0.refl _ | apply Drawn0.step)⟩
   ·rw [if_neg c4] at H
    have c4b0 := decide_eq_false c4
    clear c4
    by_cases c8 : a0 = 46
    ·rw [if_pos c8] at H
     have c8b0 := beq_iff_eq.mpr c8
     have c8b1 := bne_eq_false_iff_eq.mpr c8
     clear c8
     obtain rfl := Option.some.inj H
     go_enter Tryz.func196, Tryz.ntmps196
     go_wp2
     go_ret
     exact ⟨by first | rfl | (simp; done) | (simp [*]; done), by repeat (first | exact Drawn0.refl _ | apply Drawn0.step)⟩
    ·rw [if_neg c8] at H
     have c8b0 := beq_eq_false_iff_ne.mpr c8
     have c8b1 := bne_iff_ne.mpr c8
     by_cases c9 : a0 = 95
     ·rw [if_pos c9] at H
      have c9b0 := beq_iff_eq.mpr c9
      have c9b1 := bne_eq_false_iff_eq.mpr c9
      clear c9
      obtain rfl := Option.some.inj H
      go_enter Tryz.func196, Tryz.ntmps196
      go_wp2
      go_ret
      exact ⟨by first | rfl | (simp; done) | (simp [*]; done), by repeat (first | exact Drawn0.refl _ | apply Drawn0.step)⟩
     ·rw [if_neg c9] at H
      have c9b0 := beq_eq_false_iff_ne.mpr c9
      have c9b1 := bne_iff_ne.mpr c9
      obtain rfl := Option.some.inj H
      go_enter Tryz.func196, Tryz.ntmps196
      go_wp2
      go_ret
      exact ⟨by first | rfl | (simp; done) | (simp [*]; done), by repeat (first | exact Drawn0.refl _ | apply Drawn0.step)⟩
 ·rw [if_neg c2] at H
  have c2b0 := decide_eq_false c2
  clear c2
  by_cases c10 : a0 ≥ 48
  ·rw [if_pos c10] at H
   have c10b0 := decide_eq_true c10
   clear c10
   by_cases c11 : a0 ≤ 57
   ·rw [if_pos c11] at H
    have c11b0 := decide_eq_true c11
    clear c11
    obtain rfl := Option.some.inj H
    go_enter Tryz.func196, Tryz.ntmps196
    go_wp2
    go_ret
    exact ⟨by first | rfl | (simp; done) | (simp [*]; done), by repeat (first | exact Drawn0.refl _ | apply Drawn0.step)⟩
   ·rw [if_neg c11] at H
    have c11b0 := decide_eq_false c11
    clear c11
    by_cases c12 : a0 = 46
    ·rw [if_pos c12] at H
     have c12b0 := beq_iff_eq.mpr c12
     have c12b1 := bne_eq_false_iff_eq.mpr c12
     clear c12
     obtain rfl := Option.some.inj H
     go_enter Tryz.func196, Tryz.ntmps196
     go_wp2
     go_ret
     exact ⟨by first | rfl | (simp; done) | (simp [*]; done), by repeat (first | exact Drawn0.refl _ | apply Drawn0.step)⟩
    ·rw [if_neg c12] at H
     have c12b0 := beq_eq_false_iff_ne.mpr c12
     have c12b1 := bne_iff_ne.mpr c12
     by_cases c13 : a0 = 95
     ·rw [if_pos c13] at H
      have c13b0 := beq_iff_eq.mpr c13
      have c13b1 := bne_eq_false_iff_eq.mpr c13
      clear c13
      obtain rfl := Option.some.inj H
      go_enter Tryz.func196, Tryz.ntmps196
      go_wp2
      go_ret
      exact ⟨by first | rfl | (simp; done) | (simp [*]; done), by repeat (first | exact Drawn0.refl _ | apply Drawn0.step)⟩
     ·rw [if_neg c13] at H
      have c13b0 := beq_eq_false_iff_ne.mpr c13
      have c13b1 := bne_iff_ne.mpr c13
      obtain rfl := Option.some.inj H
      go_enter Tryz.func196, Tryz.ntmps196
      go_wp2
      go_ret
      exact ⟨by first | rfl | (simp; done) | (simp [*]; done), by repeat (first | exact Drawn0.refl _ | apply Drawn0.step)⟩
  ·rw [if_neg c10] at H
   have c10b0 := decide_eq_false c10
   clear c10
   by_cases c14 : a0 = 46
   ·rw [if_pos c14] at H
    have c14b0 := beq_iff_eq.mpr c14
    have c14b1 := bne_eq_false_iff_eq.mpr c14
    clear c14
    obtain rfl := Option.some.inj H
    go_enter Tryz.func196, Tryz.ntmps196
    go_wp2
    go_ret
    exact ⟨by first | rfl | (simp; done) | (simp [*]; done), by repeat (first | exact Drawn0.refl _ | apply Drawn0.step)⟩
   ·rw [if_neg c14] at H
    have c14b0 := beq_eq_false_iff_ne.mpr c14
    have c14b1 := bne_iff_ne.mpr c14
    by_cases c15 : a0 = 95
    ·rw [if_pos c15] at H
     have c15b0 := beq_iff_eq.mpr c15
     have c15b1 := bne_eq_false_iff_eq.mpr c15
     clear c15
     obtain rfl := Option.some.inj H
     go_enter Tryz.func196, Tryz.ntmps196
     go_wp2
     go_ret
     exact ⟨by first | rfl | (simp; done) | (simp [*]; done), by repeat (first | exact Drawn0.refl _ | apply Drawn0.step)⟩
    ·rw [if_neg c15] at H
     have c15b0 := beq_eq_false_iff_ne.mpr c15
     have c15b1 := bne_iff_ne.mpr c15
     obtain rfl := Option.some.inj H
     go_enter Tryz.func196, Tryz.ntmps196
     go_wp2
     go_ret
     exact ⟨by first | rfl | (simp; done) | (simp [*]; done), by repeat (first | exact Drawn0.refl _ | apply Drawn0.step)⟩

/-! ### impl_isPart_1: function 195 -/
def impl_isPart_1.f (a0 : Int) : Option (Bool) := (impl_isNameByte.f a0).bind fun t299 => (some (!t299))
theorem impl_isPart_1.calls (a0 : Int) (r : Bool) (w : World) (h : impl_isPart_1.f a0 = some r) :
  Calls Tryz.prog 195 #[.int .u8 a0] w fun e w' => e = .returned (.bool r) ∧ Drawn0 w w' := by
 have H : ((impl_isNameByte.f a0).bind fun t299 => (some (!t299))) = some r := h
 clear h
 obtain ⟨t299, A2, H⟩ := bS H
 try dsimp only at H
 obtain rfl := Option.some.inj H
 go_enter Tryz.func195, Tryz.ntmps195
 go_wp2_with (first | ((with_reducible refine gt 196 rfl ?_); refine gL 196 4 Tryz.func196 #[.int .u8 a0] ?_; (with_reducible refine (impl_isNameByte.calls a0 t299 _ A2.out).mono ?_); rintro e w' ⟨rfl, ⟨nd, rfl⟩⟩; refine ⟨_, rfl, ?_⟩))
 go_ret
 exact ⟨by first | rfl | (simp; done) | (simp [*]; done), by repeat (first | exact Drawn0.refl _ | apply Drawn0.step)⟩

/-! ### slices_IndexFunc_byte_byte__impl_isPart_1: function 210 -/
def slices_IndexFunc_byte_byte__impl_isPart_1.l0 : Nat → List Int → Int → Int → Option (Int)
 | 0, _, _, _ => none
 | k + 1, x0, x7, x8 => if x8 < x7 then (if 0 ≤ x8 then (if x8 < (x0.length : Int) then ((impl_isPart_1.f (rd x0 x8)).bind fun t301 => (if t301 = true then (some x8) else (slices_IndexFunc_byte_byte__impl_isPart_1.l0 k x0 x7 (wrap64 (x8 + 1))))) else (none)) else (none)) else (some (-1))
def slices_IndexFunc_byte_byte__impl_isPart_1.f (k : Nat) (l0 : List Int)  : Option (Int) := slices_IndexFunc_byte_byte__impl_isPart_1.l0 k l0 (l0.length : Int) 0
theorem slices_IndexFunc_byte_byte__impl_isPart_1.mono_l : ∀ k, (∀ y0 y1 y2, LeO (slices_IndexFunc_byte_byte__impl_isPart_1.l0 k y0 y1 y2) (slices_IndexFunc_byte_byte__impl_isPart_1.l0 (k + 1) y0 y1 y2))
 | 0 => fun _ _ _ r h => by simp [slices_IndexFunc_byte_byte__impl_isPart_1.l0] at h
 | k + 1 => by
  have ih0 := slices_IndexFunc_byte_byte__impl_isPart_1.mono_l k
  ·intro y0 y1 y2
   unfold slices_IndexFunc_byte_byte__impl_isPart_1.l0
   exact mo
theorem slices_IndexFunc_byte_byte__impl_isPart_1.mono : ∀ a0 k, LeO (slices_IndexFunc_byte_byte__impl_isPart_1.f k a0) (slices_IndexFunc_byte_byte__impl_isPart_1.f (k + 1) a0) := by
 intro a0 k
 have ih0 := slices_IndexFunc_byte_byte__impl_isPart_1.mono_l k
 unfold slices_IndexFunc_byte_byte__impl_isPart_1.f
 exact mo
theorem slices_IndexFunc_byte_byte__impl_isPart_1.calls (k : Nat) (A0 : Option Addr) (c0 : Nat) (l0 : List Int)  (r : Int) (w : World) (hr0 : Kd.C (Kd.int .u8) w A0 l0.length l0) (hc0 : l0.length ≤ c0) (h : slices_IndexFunc_byte_byte__impl_isPart_1.f k l0 = some r) :
  Calls Tryz.prog 210 #[.slice A0 l0.length c0, .func (.func 195) #[] #[]] w fun e w' => e = .returned (.int .i64 r) ∧ Below w.heap.size w w' := by
 have HR0 := Aside0.mk hr0
 have HC0 := Aside0.mk hc0
 clear hr0 hc0
 have HB := Aside0.mk (Below.refl w.heap.size w)
 have H : (slices_IndexFunc_byte_byte__impl_isPart_1.l0 k l0 (l0.length : Int) 0) = some r := h
 clear h
 have H' := Aside0.mk H
 clear H
 go_enter Tryz.func210, Tryz.ntmps210
 go_wp2
 go_loopg [8] k (fun kq v8 w' => ∃ (x8_1 : Int), v8 = .int .i64 x8_1 ∧ Aside0 (slices_IndexFunc_byte_byte__impl_isPart_1.l0 kq l0 (l0.length : Int) x8_1 = some r) ∧ Aside0 (kq ≤ k) ∧ Aside0 (Below w.heap.size w w'))
 case atStart => exact ⟨(0), sR, H', ⟨Nat.le_refl _⟩, ⟨sB⟩⟩
 case round =>
  clear H'
  try clear p2
  obtain ⟨x8_1, rfl, HA, HK1, HB⟩ := hrel
  cases gk with
  | zero => exact absurd HA.out (by simp [slices_IndexFunc_byte_byte__impl_isPart_1.l0])
  | succ k1 =>
   have H := HA.out
   clear HA
   simp only [slices_IndexFunc_byte_byte__impl_isPart_1.l0] at H
   by_cases c3 : x8_1 < (l0.length : Int)
   ·rw [if_pos c3] at H
    have c3b0 := decide_eq_true c3
    clear c3
    obtain ⟨c4, H⟩ := iN H
    have c4b0 := decide_eq_true c4
    clear c4
    obtain ⟨c5, H⟩ := iN H
    have c5b0 := decide_eq_true c5
    clear c5
    obtain ⟨t301, A6, H⟩ := bS H
    try dsimp only at H
    by_cases c7 : t301 = true
    ·subst c7
     rw [if_pos rfl] at H
     obtain rfl := Option.some.inj H
     have p300 : 0 ≤ (x8_1 : Int) := sO
     have q300 : x8_1 < (l0.length : Int) := sO
     obtain ⟨ad300, e300, hx300_0⟩ := Kd.at_int HR0.out x8_1 p300 q300
     cases e300
     replace hx300_0 := hB HB hx300_0
     replace p300 := eq_true p300
     replace q300 := eq_true q300
     go_wp2_with (first | (go_at_call 195; (with_reducible refine (impl_isPart_1.calls (rd l0 x8_1) true _ A6.out).mono ?_); rintro e w' ⟨rfl, ⟨nd, rfl⟩⟩))
     go_ret
     exact ⟨sE, sB⟩
    ·replace c7 := Bool.eq_false_iff.mpr c7
     subst c7
     rw [if_neg (show ¬ (false = true) by decide)] at H
     have H' := Aside0.mk H
     clear H
     have p300 : 0 ≤ (x8_1 : Int) := sO
     have q300 : x8_1 < (l0.length : Int) := sO
     obtain ⟨ad300, e300, hx300_0⟩ := Kd.at_int HR0.out x8_1 p300 q300
     cases e300
     replace hx300_0 := hB HB hx300_0
     replace p300 := eq_true p300
     replace q300 := eq_true q300
     go_wp2_with (first | (go_at_call 195; (with_reducible refine (impl_isPart_1.calls (rd l0 x8_1) false _ A6.out).mono ?_); rintro e w' ⟨rfl, ⟨nd, rfl⟩⟩))
     go_roundg k1
     case measure => have := HK1.out; omega
     case rel => exact ⟨(wrap64 (x8_1 + 1)), sR, H', ⟨by have := HK1.out; omega⟩, ⟨sB⟩⟩
   ·rw [if_neg c3] at H
    have c3b0 := decide_eq_false c3
    clear c3
    obtain rfl := Option.some.inj H
    go_wp2
    go_ret
    exact ⟨sE, sB⟩

/-! ### slices_ContainsFunc_byte_byte__impl_isPart_1: function 194 -/
def slices_ContainsFunc_byte_byte__impl_isPart_1.f (k : Nat) (l0 : List Int)  : Option (Bool) := (slices_IndexFunc_byte_byte__impl_isPart_1.f k l0).bind fun t302 => (some (decide (t302 ≥ 0)))
theorem slices_ContainsFunc_byte_byte__impl_isPart_1.mono : ∀ a0 k, LeO (slices_ContainsFunc_byte_byte__impl_isPart_1.f k a0) (slices_ContainsFunc_byte_byte__impl_isPart_1.f (k + 1) a0) := by
 intro a0 k
 unfold slices_ContainsFunc_byte_byte__impl_isPart_1.f
 have m0 := @slices_IndexFunc_byte_byte__impl_isPart_1.mono
 exact mo
theorem slices_ContainsFunc_byte_byte__impl_isPart_1.calls (k : Nat) (A0 : Option Addr) (c0 : Nat) (l0 : List Int)  (r : Bool) (w : World) (hr0 : Kd.C (Kd.int .u8) w A0 l0.length l0) (hc0 : l0.length ≤ c0) (h : slices_ContainsFunc_byte_byte__impl_isPart_1.f k l0 = some r) :
  Calls Tryz.prog 194 #[.slice A0 l0.length c0, .func (.func 195) #[] #[]] w fun e w' => e = .returned (.bool r) ∧ Below w.heap.size w w' := by
 have HR0 := Aside0.mk hr0
 have HC0 := Aside0.mk hc0
 clear hr0 hc0
 have HB := Aside0.mk (Below.refl w.heap.size w)
 have H : ((slices_IndexFunc_byte_byte__impl_isPart_1.f k l0).bind fun t302 => (some (decide (t302 ≥ 0)))) = some r := h
 clear h
 obtain ⟨t302, A3, H⟩ := bS H
 try dsimp only at H
 obtain rfl := Option.some.inj H
 go_enter Tryz.func194, Tryz.ntmps194
 go_wp2_with (first | ((with_reducible refine gt 210 rfl ?_); refine gL 210 7 Tryz.func210 #[.slice A0 l0.length c0, .func (.func 195) #[] #[]] ?_; (with_reducible refine (slices_IndexFunc_byte_byte__impl_isPart_1.calls k _ _ l0  t302 _ ?side1 ?side2 A3.out).mono ?_); (case side1 => repeat (first | exact HR0.out | (with_reducible refine Kd.C_alloc ?_ _) | (with_reducible refine Kd.C_drewN ?_ _) | (with_reducible refine Kd.C_drew ?_))); (case side2 => exact HC0.out); rintro e w4 ⟨rfl, hb⟩; refine ⟨_, rfl, ?_⟩; replace HB := nSB hb; try clear hb))
 go_ret
 exact ⟨sE, sB⟩

end Go.Proofs.YtnmiglfmainhiaaGreatDoor.PNb
