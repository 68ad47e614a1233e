import Derived.Test.YtdjceippnokimaaGreatDoorPTrx0
import Derived.Test.YtdjceippnokimaaGreatDoorPTrx10
import Derived.Test.YtdjceippnokimaaGreatDoorPTrx12
namespace Go.Proofs.YtdjceippnokimaaGreatDoor.PTr
open Go.RowKit Go.Proofs.YtdjceippnokimaaGreatDoorW.PrintWords Go.Proofs.YtdjceippnokimaaGreatDoorW.PrintLast Go.Proofs.YtdjceippnokimaaGreatDoorW.PrintMore
attribute [local go_sem] max2_int min2_int max_two min_two max_three min_three max_four min_four   -- for this text's walks alone
set_option linter.unusedVariables false
set_option linter.unusedSimpArgs false
set_option maxHeartbeats 8000000
set_option maxRecDepth 100000
/-! ### spec_TreeText: function 17 -/
def spec_TreeText.f (k : Nat) (l0_0 : List (S65)) (a0_1 : Int) (a1 : Int) : Option (ByteArray × Bool) := (spec_l7Asked.f k l0_0 a0_1 a1).bind fun t340 => (if t340 = true then ((spec_l7Text.f k l0_0 a0_1 a1).bind fun t341 => (some (t341, true))) else (some ((⟨#[]⟩ : ByteArray), false)))
theorem spec_TreeText.calls (k : Nat) (A0_0 : Option Addr) (c0_0 : Nat) (l0_0 : List (S65)) (a0_1 : Int) (a1 : Int) (r1 : ByteArray) (r2 : Bool) (w : World) (hr0_0 : Kd.C k65 w A0_0 l0_0.length l0_0) (hc0_0 : l0_0.length ≤ c0_0) (h : spec_TreeText.f k l0_0 a0_1 a1 = some (r1, r2)) :
  Calls Tryz.prog 17 #[.agg #[.slice A0_0 l0_0.length c0_0, .int .i64 a0_1], .int .i64 a1] w fun e w' => e = .returned (.tuple #[.string r1, .bool r2]) ∧ Below w.heap.size w w' := by
 have hu30 := Tryz.underlying30
 have HR0_0 := Aside0.mk hr0_0
 have HC0_0 := Aside0.mk hc0_0
 clear hr0_0 hc0_0
 have HB := Aside0.mk (Below.refl w.heap.size w)
 have H : ((spec_l7Asked.f k l0_0 a0_1 a1).bind fun t340 => (if t340 = true then ((spec_l7Text.f k l0_0 a0_1 a1).bind fun t341 => (some (t341, true))) else (some ((⟨#[]⟩ : ByteArray), false)))) = some (r1, r2) := h
 clear h
 obtain ⟨t340, A3, H⟩ := bS H
 try dsimp only at H
 by_cases c4 : t340 = true
 ·subst c4
  rw [if_pos rfl] at H
  obtain ⟨t341, A5, H⟩ := bS H
  try dsimp only at H
  simp only [Option.some.injEq, Prod.mk.injEq] at H
  obtain ⟨rfl, rfl⟩ := H
  go_enter Tryz.func17, Tryz.ntmps17
  go_wp2_with (first | ((with_reducible refine gd 2 rfl ?_); refine bxE 2 #[.slice A0_0 l0_0.length c0_0, .int .i64 a0_1] 30 ?_; intro gb339 hg w6 hbox hb; have BK339 := Aside0.mk hbox; have GW339 := nGB hg; have GE339 := nGB hg; replace HB := nSB hb; clear hb hbox hg; have hcz7 := cb2 BK339) | ((with_reducible refine gt 20 rfl ?_); refine gL 20 8 Tryz.func20 #[.agg #[.slice A0_0 l0_0.length c0_0, .int .i64 a0_1], .int .i64 a1] ?_; (with_reducible refine (spec_l7Asked.calls k _ _ l0_0 a0_1 a1 true _ ?side1 ?side2 A3.out).mono ?_); (case side1 => exact sD (Kd.C_below HR0_0.out HB.out)); (case side2 => exact HC0_0.out); rintro e w8 ⟨rfl, hb⟩; refine ⟨_, rfl, ?_⟩; replace BK339 := nK BK339 hb; replace HB := nSC hb; try clear hb; have hcz9 := cb2 BK339) | ((with_reducible refine gt 35 rfl ?_); refine gL 35 12 Tryz.func35 #[.agg #[.slice A0_0 l0_0.length c0_0, .int .i64 a0_1], .int .i64 a1] ?_; (with_reducible refine (spec_l7Text.calls k _ _ l0_0 a0_1 a1 t341 _ ?side1 ?side2 A5.out).mono ?_); (case side1 => exact sD (Kd.C_below HR0_0.out HB.out)); (case side2 => exact HC0_0.out); rintro e w10 ⟨rfl, hb⟩; refine ⟨_, rfl, ?_⟩; replace BK339 := nK BK339 hb; replace HB := nSC hb; try clear hb))
  go_ret2
  exact ⟨sE, sC⟩
 ·replace c4 := Bool.eq_false_iff.mpr c4
  subst c4
  rw [if_neg (show ¬ (false = true) by decide)] at H
  simp only [Option.some.injEq, Prod.mk.injEq] at H
  obtain ⟨rfl, rfl⟩ := H
  go_enter Tryz.func17, Tryz.ntmps17
  go_wp2_with (first | ((with_reducible refine gd 2 rfl ?_); refine bxE 2 #[.slice A0_0 l0_0.length c0_0, .int .i64 a0_1] 30 ?_; intro gb339 hg w11 hbox hb; have BK339 := Aside0.mk hbox; have GW339 := nGB hg; have GE339 := nGB hg; replace HB := nSB hb; clear hb hbox hg; have hcz12 := cb2 BK339) | ((with_reducible refine gt 20 rfl ?_); refine gL 20 8 Tryz.func20 #[.agg #[.slice A0_0 l0_0.length c0_0, .int .i64 a0_1], .int .i64 a1] ?_; (with_reducible refine (spec_l7Asked.calls k _ _ l0_0 a0_1 a1 false _ ?side1 ?side2 A3.out).mono ?_); (case side1 => exact sD (Kd.C_below HR0_0.out HB.out)); (case side2 => exact HC0_0.out); rintro e w13 ⟨rfl, hb⟩; refine ⟨_, rfl, ?_⟩; replace BK339 := nK BK339 hb; replace HB := nSC hb; try clear hb))
  go_ret2
  exact ⟨sE, sC⟩
def impl_within.f (a0 : Int) (a1 : Int) (a2 : Int) : Option (Bool) := if a0 ≥ a1 then (some (decide (a0 ≤ a2))) else (some false)
theorem impl_within.calls (a0 : Int) (a1 : Int) (a2 : Int) (r : Bool) (w : World) (h : impl_within.f a0 a1 a2 = some r) :
  Calls Tryz.prog 66 #[.int .i64 a0, .int .i64 a1, .int .i64 a2] w fun e w' => e = .returned (.bool r) ∧ Drawn0 w w' := by
 have H : (if a0 ≥ a1 then (some (decide (a0 ≤ a2))) else (some false)) = some r := h
 clear h
 by_cases c4 : a0 ≥ a1
 ·rw [if_pos c4] at H
  have c4b0 := decide_eq_true c4
  clear c4
  obtain rfl := Option.some.inj H
  go_enter Tryz.func66, Tryz.ntmps66
  go_wp2
  go_ret
  exact ⟨by first | rfl | (simp; done) | (simp [*]; done), by repeat (first | exact Drawn0.refl _ | apply Drawn0.step)⟩
 ·rw [if_neg c4] at H
  have c4b0 := decide_eq_false c4
  clear c4
  obtain rfl := Option.some.inj H
  go_enter Tryz.func66, Tryz.ntmps66
  go_wp2
  go_ret
  exact ⟨by first | rfl | (simp; done) | (simp [*]; done), by repeat (first | exact Drawn0.refl _ | apply Drawn0.step)⟩
def impl_isRoom.f (a0 : Int) : Option (Bool) := (impl_within.f a0 0 1000).bind fun t342 => (some t342)
theorem impl_isRoom.calls (a0 : Int) (r : Bool) (w : World) (h : impl_isRoom.f a0 = some r) :
  Calls Tryz.prog 67 #[.int .i64 a0] w fun e w' => e = .returned (.bool r) ∧ Drawn0 w w' := by
 have H : ((impl_within.f a0 0 1000).bind fun t342 => (some t342)) = some r := h
 clear h
 obtain ⟨t342, A2, H⟩ := bS H
 try dsimp only at H
 obtain rfl := Option.some.inj H
 go_enter Tryz.func67, Tryz.ntmps67
 go_wp2_with (first | ((with_reducible refine gt 66 rfl ?_); refine gL 66 4 Tryz.func66 #[.int .i64 a0, .int .i64 0, .int .i64 1000] ?_; (with_reducible refine (impl_within.calls a0 0 1000 t342 _ A2.out).mono ?_); rintro e w' ⟨rfl, ⟨nd, rfl⟩⟩; refine ⟨_, rfl, ?_⟩))
 go_ret
 exact ⟨by first | rfl | (simp; done) | (simp [*]; done), by repeat (first | exact Drawn0.refl _ | apply Drawn0.step)⟩
def impl_Fs_isThere.f (l0_0 : List (S65)) (a0_1 : Int) (a1 : Int) : Option (Bool) := (impl_within.f a1 0 (wrap64 ((l0_0.length : Int) - 1))).bind fun t344 => (if t344 = true then (if 0 ≤ a1 then (if a1 < (l0_0.length : Int) then (some (((rd_T65 l0_0 a1).f0) != 0)) else (none)) else (none)) else (some false))
theorem impl_Fs_isThere.calls (A0_0 : Option Addr) (c0_0 : Nat) (l0_0 : List (S65)) (a0_1 : Int) (a1 : Int) (r : Bool) (w : World) (hr0_0 : Kd.C k65 w A0_0 l0_0.length l0_0) (hc0_0 : l0_0.length ≤ c0_0) (h : impl_Fs_isThere.f l0_0 a0_1 a1 = some r) :
  Calls Tryz.prog 42 #[.agg #[.slice A0_0 l0_0.length c0_0, .int .i64 a0_1], .int .i64 a1] w fun e w' => e = .returned (.bool r) ∧ Below w.heap.size w w' := by
 have hu30 := Tryz.underlying30
 have HR0_0 := Aside0.mk hr0_0
 have HC0_0 := Aside0.mk hc0_0
 clear hr0_0 hc0_0
 have HB := Aside0.mk (Below.refl w.heap.size w)
 have H : ((impl_within.f a1 0 (wrap64 ((l0_0.length : Int) - 1))).bind fun t344 => (if t344 = true then (if 0 ≤ a1 then (if a1 < (l0_0.length : Int) then (some (((rd_T65 l0_0 a1).f0) != 0)) else (none)) else (none)) else (some false))) = some r := h
 clear h
 obtain ⟨t344, A3, H⟩ := bS H
 try dsimp only at H
 by_cases c4 : t344 = true
 ·subst c4
  rw [if_pos rfl] at H
  obtain ⟨c5, H⟩ := iN H
  have c5b0 := decide_eq_true c5
  clear c5
  obtain ⟨c6, H⟩ := iN H
  have c6b0 := decide_eq_true c6
  clear c6
  obtain rfl := Option.some.inj H
  go_enter Tryz.func42, Tryz.ntmps42
  go_wp2_with (first | ((with_reducible refine gd 2 rfl ?_); refine bxE 2 #[.slice A0_0 l0_0.length c0_0, .int .i64 a0_1] 30 ?_; intro gb343 hg w7 hbox hb; have BK343 := Aside0.mk hbox; have GW343 := nGB hg; have GE343 := nGB hg; replace HB := nSB hb; clear hb hbox hg; have hcz8 := cb2 BK343) | ((with_reducible refine gt 66 rfl ?_); refine gL 66 10 Tryz.func66 #[.int .i64 a1, .int .i64 0, .int .i64 (wrap64 ((l0_0.length : Int) - 1))] ?_; (with_reducible refine (impl_within.calls a1 0 (wrap64 ((l0_0.length : Int) - 1)) true _ A3.out).mono ?_); rintro e w' ⟨rfl, ⟨nd, rfl⟩⟩; refine ⟨_, rfl, ?_⟩; have p345 : 0 ≤ (a1 : Int) := sO; have q345 : a1 < (l0_0.length : Int) := sO; obtain ⟨ad345, A345_6, c345_6, e345, hx345_0, hx345_1, hx345_2, hx345_3, hx345_4, hx345_5, hx345_6, hl345_6, hi345_6⟩ := ab65 HR0_0.out HB a1 p345 q345; cases e345; have HR345_6 := Aside0.mk hi345_6; have HC345_6 := Aside0.mk hl345_6; clear hi345_6 hl345_6; replace p345 := eq_true p345; replace q345 := eq_true q345))
  go_ret
  exact ⟨sE, sC⟩
 ·replace c4 := Bool.eq_false_iff.mpr c4
  subst c4
  rw [if_neg (show ¬ (false = true) by decide)] at H
  obtain rfl := Option.some.inj H
  go_enter Tryz.func42, Tryz.ntmps42
  go_wp2_with (first | ((with_reducible refine gd 2 rfl ?_); refine bxE 2 #[.slice A0_0 l0_0.length c0_0, .int .i64 a0_1] 30 ?_; intro gb343 hg w9 hbox hb; have BK343 := Aside0.mk hbox; have GW343 := nGB hg; have GE343 := nGB hg; replace HB := nSB hb; clear hb hbox hg; have hcz10 := cb2 BK343) | ((with_reducible refine gt 66 rfl ?_); refine gL 66 10 Tryz.func66 #[.int .i64 a1, .int .i64 0, .int .i64 (wrap64 ((l0_0.length : Int) - 1))] ?_; (with_reducible refine (impl_within.calls a1 0 (wrap64 ((l0_0.length : Int) - 1)) false _ A3.out).mono ?_); rintro e w' ⟨rfl, ⟨nd, rfl⟩⟩; refine ⟨_, rfl, ?_⟩))
  go_ret
  exact ⟨sE, sC⟩
def impl_Node_isFree.f (a0_0 : Int) (a0_1 : Int) (a0_2 : Int) (a0_3 : Int) (a0_4 : Int) (a0_5 : ByteArray) (l0_6 : List (S104)) : Option (Bool) := if a0_0 = 0 then (if a0_1 = 0 then (if a0_2 = 0 then (if a0_3 = 0 then (if a0_4 = 0 then (if a0_5.toList = ([] : List UInt8) then (some ((l0_6.length : Int) == 0)) else (some false)) else (some false)) else (some false)) else (some false)) else (some false)) else (some false)
theorem impl_Node_isFree.calls (a0_0 : Int) (a0_1 : Int) (a0_2 : Int) (a0_3 : Int) (a0_4 : Int) (a0_5 : ByteArray) (A0_6 : Option Addr) (c0_6 : Nat) (l0_6 : List (S104)) (r : Bool) (w : World) (hr0_6 : Kd.C k104 w A0_6 l0_6.length l0_6) (hc0_6 : l0_6.length ≤ c0_6) (h : impl_Node_isFree.f a0_0 a0_1 a0_2 a0_3 a0_4 a0_5 l0_6 = some r) :
  Calls Tryz.prog 86 #[.agg #[.int .i64 a0_0, .int .i64 a0_1, .int .i64 a0_2, .int .i64 a0_3, .int .i64 a0_4, .string a0_5, .slice A0_6 l0_6.length c0_6]] w fun e w' => e = .returned (.bool r) ∧ Below w.heap.size w w' := by
 have hu65 := Tryz.underlying65
 have HR0_6 := Aside0.mk hr0_6
 have HC0_6 := Aside0.mk hc0_6
 clear hr0_6 hc0_6
 have HB := Aside0.mk (Below.refl w.heap.size w)
 have H : (if a0_0 = 0 then (if a0_1 = 0 then (if a0_2 = 0 then (if a0_3 = 0 then (if a0_4 = 0 then (if a0_5.toList = ([] : List UInt8) then (some ((l0_6.length : Int) == 0)) else (some false)) else (some false)) else (some false)) else (some false)) else (some false)) else (some false)) = some r := h
 clear h
 by_cases c2 : a0_0 = 0
 ·rw [if_pos c2] at H
  have c2b0 := beq_iff_eq.mpr c2
  have c2b1 := bne_eq_false_iff_eq.mpr c2
  clear c2
  by_cases c3 : a0_1 = 0
  ·rw [if_pos c3] at H
   have c3b0 := beq_iff_eq.mpr c3
   have c3b1 := bne_eq_false_iff_eq.mpr c3
   clear c3
   by_cases c4 : a0_2 = 0
   ·rw [if_pos c4] at H
    have c4b0 := beq_iff_eq.mpr c4
    have c4b1 := bne_eq_false_iff_eq.mpr c4
    clear c4
    by_cases c5 : a0_3 = 0
    ·rw [if_pos c5] at H
     have c5b0 := beq_iff_eq.mpr c5
     have c5b1 := bne_eq_false_iff_eq.mpr c5
     clear c5
     by_cases c6 : a0_4 = 0
     ·rw [if_pos c6] at H
      have c6b0 := beq_iff_eq.mpr c6
      have c6b1 := bne_eq_false_iff_eq.mpr c6
      clear c6
      by_cases c7 : a0_5.toList = ([] : List UInt8)
      ·rw [if_pos c7] at H
       have c7b0 := beq_iff_eq.mpr c7
       have c7b1 := bne_eq_false_iff_eq.mpr c7
       clear c7
       obtain rfl := Option.some.inj H
       go_enter Tryz.func86, Tryz.ntmps86
       go_wp2_with (first | ((with_reducible refine gd 1 rfl ?_); (first | refine bxE 1 #[.int .i64 a0_0, .int .i64 a0_1, .int .i64 a0_2, .int .i64 a0_3, .int .i64 a0_4, .string a0_5, .slice A0_6 l0_6.length c0_6] 65 ?_ | refine bgE 1 #[.int .i64 a0_0, .int .i64 a0_1, .int .i64 a0_2, .int .i64 a0_3, .int .i64 a0_4, .string a0_5, .slice A0_6 l0_6.length c0_6] 65 ?_); intro gb346 hg w8 hbox hb; have BK346 := Aside0.mk hbox; have GW346 := nGB hg; have GE346 := nGB hg; replace HB := nSB hb; clear hb hbox hg; have hcz9 := cb7 BK346))
       go_ret
       exact ⟨sE, sC⟩
      ·rw [if_neg c7] at H
       have c7b0 := beq_eq_false_iff_ne.mpr c7
       have c7b1 := bne_iff_ne.mpr c7
       obtain rfl := Option.some.inj H
       go_enter Tryz.func86, Tryz.ntmps86
       go_wp2_with (first | ((with_reducible refine gd 1 rfl ?_); (first | refine bxE 1 #[.int .i64 a0_0, .int .i64 a0_1, .int .i64 a0_2, .int .i64 a0_3, .int .i64 a0_4, .string a0_5, .slice A0_6 l0_6.length c0_6] 65 ?_ | refine bgE 1 #[.int .i64 a0_0, .int .i64 a0_1, .int .i64 a0_2, .int .i64 a0_3, .int .i64 a0_4, .string a0_5, .slice A0_6 l0_6.length c0_6] 65 ?_); intro gb346 hg w10 hbox hb; have BK346 := Aside0.mk hbox; have GW346 := nGB hg; have GE346 := nGB hg; replace HB := nSB hb; clear hb hbox hg; have hcz11 := cb7 BK346))
       go_ret
       exact ⟨sE, sC⟩
     ·rw [if_neg c6] at H
      have c6b0 := beq_eq_false_iff_ne.mpr c6
      have c6b1 := bne_iff_ne.mpr c6
      obtain rfl := Option.some.inj H
      go_enter Tryz.func86, Tryz.ntmps86
      go_wp2_with (first | ((with_reducible refine gd 1 rfl ?_); (first | refine bxE 1 #[.int .i64 a0_0, .int .i64 a0_1, .int .i64 a0_2, .int .i64 a0_3, .int .i64 a0_4, .string a0_5, .slice A0_6 l0_6.length c0_6] 65 ?_ | refine bgE 1 #[.int .i64 a0_0, .int .i64 a0_1, .int .i64 a0_2, .int .i64 a0_3, .int .i64 a0_4, .string a0_5, .slice A0_6 l0_6.length c0_6] 65 ?_); intro gb346 hg w12 hbox hb; have BK346 := Aside0.mk hbox; have GW346 := nGB hg; have GE346 := nGB hg; replace HB := nSB hb; clear hb hbox hg; have hcz13 := cb7 BK346))
      go_ret
      exact ⟨sE, sC⟩
    ·rw [if_neg c5] at H
     have c5b0 := beq_eq_false_iff_ne.mpr c5
     have c5b1 := bne_iff_ne.mpr c5
     obtain rfl := Option.some.inj H
     go_enter Tryz.func86, Tryz.ntmps86
     go_wp2_with (first | ((with_reducible refine gd 1 rfl ?_); (first | refine bxE 1 #[.int .i64 a0_0, .int .i64 a0_1, .int .i64 a0_2, .int .i64 a0_3, .int .i64 a0_4, .string a0_5, .slice A0_6 l0_6.length c0_6] 65 ?_ | refine bgE 1 #[.int .i64 a0_0, .int .i64 a0_1, .int .i64 a0_2, .int .i64 a0_3, .int .i64 a0_4, .string a0_5, .slice A0_6 l0_6.length c0_6] 65 ?_); intro gb346 hg w14 hbox hb; have BK346 := Aside0.mk hbox; have GW346 := nGB hg; have GE346 := nGB hg; replace HB := nSB hb; clear hb hbox hg; have hcz15 := cb7 BK346))
     go_ret
     exact ⟨sE, sC⟩
   ·rw [if_neg c4] at H
    have c4b0 := beq_eq_false_iff_ne.mpr c4
    have c4b1 := bne_iff_ne.mpr c4
    obtain rfl := Option.some.inj H
    go_enter Tryz.func86, Tryz.ntmps86
    go_wp2_with (first | ((with_reducible refine gd 1 rfl ?_); (first | refine bxE 1 #[.int .i64 a0_0, .int .i64 a0_1, .int .i64 a0_2, .int .i64 a0_3, .int .i64 a0_4, .string a0_5, .slice A0_6 l0_6.length c0_6] 65 ?_ | refine bgE 1 #[.int .i64 a0_0, .int .i64 a0_1, .int .i64 a0_2, .int .i64 a0_3, .int .i64 a0_4, .string a0_5, .slice A0_6 l0_6.length c0_6] 65 ?_); intro gb346 hg w16 hbox hb; have BK346 := Aside0.mk hbox; have GW346 := nGB hg; have GE346 := nGB hg; replace HB := nSB hb; clear hb hbox hg; have hcz17 := cb7 BK346))
    go_ret
    exact ⟨sE, sC⟩
  ·rw [if_neg c3] at H
   have c3b0 := beq_eq_false_iff_ne.mpr c3
   have c3b1 := bne_iff_ne.mpr c3
   obtain rfl := Option.some.inj H
   go_enter Tryz.func86, Tryz.ntmps86
   go_wp2_with (first | ((with_reducible refine gd 1 rfl ?_); (first | refine bxE 1 #[.int .i64 a0_0, .int .i64 a0_1, .int .i64 a0_2, .int .i64 a0_3, .int .i64 a0_4, .string a0_5, .slice A0_6 l0_6.length c0_6] 65 ?_ | refine bgE 1 #[.int .i64 a0_0, .int .i64 a0_1, .int .i64 a0_2, .int .i64 a0_3, .int .i64 a0_4, .string a0_5, .slice A0_6 l0_6.length c0_6] 65 ?_); intro gb346 hg w18 hbox hb; have BK346 := Aside0.mk hbox; have GW346 := nGB hg; have GE346 := nGB hg; replace HB := nSB hb; clear hb hbox hg; have hcz19 := cb7 BK346))
   go_ret
   exact ⟨sE, sC⟩
 ·rw [if_neg c2] at H
  have c2b0 := beq_eq_false_iff_ne.mpr c2
  have c2b1 := bne_iff_ne.mpr c2
  obtain rfl := Option.some.inj H
  go_enter Tryz.func86, Tryz.ntmps86
  go_wp2_with (first | ((with_reducible refine gd 1 rfl ?_); (first | refine bxE 1 #[.int .i64 a0_0, .int .i64 a0_1, .int .i64 a0_2, .int .i64 a0_3, .int .i64 a0_4, .string a0_5, .slice A0_6 l0_6.length c0_6] 65 ?_ | refine bgE 1 #[.int .i64 a0_0, .int .i64 a0_1, .int .i64 a0_2, .int .i64 a0_3, .int .i64 a0_4, .string a0_5, .slice A0_6 l0_6.length c0_6] 65 ?_); intro gb346 hg w20 hbox hb; have BK346 := Aside0.mk hbox; have GW346 := nGB hg; have GE346 := nGB hg; replace HB := nSB hb; clear hb hbox hg; have hcz21 := cb7 BK346))
  go_ret
  exact ⟨sE, sC⟩
def impl_isMode.f (a0 : Int) : Option (Bool) := (impl_within.f a0 0 511).bind fun t347 => (some t347)
theorem impl_isMode.calls (a0 : Int) (r : Bool) (w : World) (h : impl_isMode.f a0 = some r) :
  Calls Tryz.prog 87 #[.int .i64 a0] w fun e w' => e = .returned (.bool r) ∧ Drawn0 w w' := by
 have H : ((impl_within.f a0 0 511).bind fun t347 => (some t347)) = some r := h
 clear h
 obtain ⟨t347, A2, H⟩ := bS H
 try dsimp only at H
 obtain rfl := Option.some.inj H
 go_enter Tryz.func87, Tryz.ntmps87
 go_wp2_with (first | ((with_reducible refine gt 66 rfl ?_); refine gL 66 4 Tryz.func66 #[.int .i64 a0, .int .i64 0, .int .i64 511] ?_; (with_reducible refine (impl_within.calls a0 0 511 t347 _ A2.out).mono ?_); rintro e w' ⟨rfl, ⟨nd, rfl⟩⟩; refine ⟨_, rfl, ?_⟩))
 go_ret
 exact ⟨by first | rfl | (simp; done) | (simp [*]; done), by repeat (first | exact Drawn0.refl _ | apply Drawn0.step)⟩
def impl_isId.f (a0 : Int) : Option (Bool) := (impl_within.f a0 0 99).bind fun t348 => (some t348)
theorem impl_isId.calls (a0 : Int) (r : Bool) (w : World) (h : impl_isId.f a0 = some r) :
  Calls Tryz.prog 88 #[.int .i64 a0] w fun e w' => e = .returned (.bool r) ∧ Drawn0 w w' := by
 have H : ((impl_within.f a0 0 99).bind fun t348 => (some t348)) = some r := h
 clear h
 obtain ⟨t348, A2, H⟩ := bS H
 try dsimp only at H
 obtain rfl := Option.some.inj H
 go_enter Tryz.func88, Tryz.ntmps88
 go_wp2_with (first | ((with_reducible refine gt 66 rfl ?_); refine gL 66 4 Tryz.func66 #[.int .i64 a0, .int .i64 0, .int .i64 99] ?_; (with_reducible refine (impl_within.calls a0 0 99 t348 _ A2.out).mono ?_); rintro e w' ⟨rfl, ⟨nd, rfl⟩⟩; refine ⟨_, rfl, ?_⟩))
 go_ret
 exact ⟨by first | rfl | (simp; done) | (simp [*]; done), by repeat (first | exact Drawn0.refl _ | apply Drawn0.step)⟩
def impl_isTime.f (a0 : Int) : Option (Bool) := (impl_within.f a0 0 1000000).bind fun t349 => (some t349)
theorem impl_isTime.calls (a0 : Int) (r : Bool) (w : World) (h : impl_isTime.f a0 = some r) :
  Calls Tryz.prog 89 #[.int .i64 a0] w fun e w' => e = .returned (.bool r) ∧ Drawn0 w w' := by
 have H : ((impl_within.f a0 0 1000000).bind fun t349 => (some t349)) = some r := h
 clear h
 obtain ⟨t349, A2, H⟩ := bS H
 try dsimp only at H
 obtain rfl := Option.some.inj H
 go_enter Tryz.func89, Tryz.ntmps89
 go_wp2_with (first | ((with_reducible refine gt 66 rfl ?_); refine gL 66 4 Tryz.func66 #[.int .i64 a0, .int .i64 0, .int .i64 1000000] ?_; (with_reducible refine (impl_within.calls a0 0 1000000 t349 _ A2.out).mono ?_); rintro e w' ⟨rfl, ⟨nd, rfl⟩⟩; refine ⟨_, rfl, ?_⟩))
 go_ret
 exact ⟨by first | rfl | (simp; done) | (simp [*]; done), by repeat (first | exact Drawn0.refl _ | apply Drawn0.step)⟩
def impl_partsOf_1.f (a0 : ByteArray) : Option (Bool) := some (a0.toList == ([] : List UInt8))
theorem impl_partsOf_1.calls (a0 : ByteArray) (r : Bool) (w : World) (h : impl_partsOf_1.f a0 = some r) :
  Calls Tryz.prog 115 #[.string a0] w fun e w' => e = .returned (.bool r) ∧ Drawn0 w w' := by
 have H : (some (a0.toList == ([] : List UInt8))) = some r := h
 clear h
 obtain rfl := Option.some.inj H
 go_enter Tryz.func115, Tryz.ntmps115
 go_wp2
 go_ret
 exact ⟨by first | rfl | (simp; done) | (simp [*]; done), by repeat (first | exact Drawn0.refl _ | apply Drawn0.step)⟩
open Go.Lib Go.Sort in
def impl_partsOf.raw (s : ByteArray) : List ByteArray := Lib.splitB ⟨#[47]⟩ 0 (Lib.countB s ⟨#[47]⟩) s
def impl_partsOf.f (a0 : ByteArray) : Option (List ByteArray) := if a0.size < 4294967281 then some ((impl_partsOf.raw a0).filter fun x => !x.toList.isEmpty) else none
theorem impl_partsOf.index (x : ByteArray) : Lib.indexB x ⟨#[47]⟩ = Lib.indexByte x.data.toList 47 := Lib.index_one _ _
theorem impl_partsOf.count (x : ByteArray) : (Lib.countB x ⟨#[47]⟩ : Int) = Lib.countByte x.data.toList 47 := by
 show ((Lib.count x.data.toList [47] : Nat) : Int) = _
 rw [Lib.count_one]; rfl
set_option maxHeartbeats 1000000 in
theorem impl_partsOf.gen (s : ByteArray) (w : World) (hs : s.size < 4294967281) :
  Calls Tryz.prog 122 #[.string s, .string ⟨#[47]⟩, .int .i64 0, .int .i64 (-1)] w fun e w' =>
   e = .returned (.slice (some ⟨w.heap.size, 0, none⟩) (impl_partsOf.raw s).length (impl_partsOf.raw s).length) ∧ w' = w.alloc (.cells ((impl_partsOf.raw s).map Value.string).toArray 9) := by
 have h1 : 1 ≤ (⟨#[47]⟩ : ByteArray).size := by decide
 have hle := Lib.countB_le ⟨#[47]⟩ h1 s.size s (Nat.le_refl _)
 have hlen := Lib.splitB_all ⟨#[47]⟩ h1 0 _ s rfl
 have c := Any.strings_genSplit_core Tryz.lays221 (by kernel_rfl) s ⟨#[47]⟩ 0 (-1) (Lib.countB s ⟨#[47]⟩ + 1) w hs h1 (Nat.zero_le _)
  (fun x c _ => (Any.strings_Index_one Tryz.lays143 x 47 _).mono fun _ _ ⟨he, hw⟩ => ⟨by rw [he, impl_partsOf.index], hw⟩)
  ((Any.strings_Count_one Tryz.lays138 s 47 w).mono fun _ _ ⟨he, hw⟩ => ⟨by rw [he, impl_partsOf.count], hw⟩)
  (by decide) (by decide) (by rw [if_pos (by decide)]; omega)
 rw [Nat.add_sub_cancel, hlen] at c
 have e2 : Lib.cellsOf (Lib.splitB ⟨#[47]⟩ 0 (Lib.countB s ⟨#[47]⟩) s) (Lib.countB s ⟨#[47]⟩ + 1) = ((Lib.splitB ⟨#[47]⟩ 0 (Lib.countB s ⟨#[47]⟩) s).map Value.string).toArray := by rw [← hlen]; exact Lib.cellsOf_full _
 rw [e2, ← hlen] at c
 exact c
set_option maxHeartbeats 1000000 in
theorem impl_partsOf.split (s : ByteArray) (w : World) (hs : s.size < 4294967281) :
  Calls Tryz.prog 114 #[.string s, .string ⟨#[47]⟩] w fun e w' =>
   e = .returned (.slice (some ⟨w.heap.size, 0, none⟩) (impl_partsOf.raw s).length (impl_partsOf.raw s).length) ∧ w' = w.alloc (.cells ((impl_partsOf.raw s).map Value.string).toArray 9) := by
 have C := Aside0.mk (impl_partsOf.gen s w hs)
 clear hs
 go_enter Tryz.func114, Tryz.ntmps114
 go_wp2_with (go_at_call 122; (with_reducible refine C.out.mono ?_); rintro e w' ⟨rfl, hw⟩; rw [hw])
 go_ret
 exact ⟨rfl, rfl⟩
theorem impl_partsOf.gives (x : ByteArray) (W : World) : FnGives Tryz.prog 115 #[] #[.string x] (.bool x.toList.isEmpty) W :=
 (impl_partsOf_1.calls x _ W rfl).mono fun _ _ ⟨he, hd⟩ => ⟨by rw [he]; cases x.toList <;> rfl, hd.out⟩
open Go.Sort in
set_option maxHeartbeats 1000000 in
theorem impl_partsOf.calls (a0 : ByteArray) (r : List ByteArray) (w : World) (h : impl_partsOf.f a0 = some r) :
  Calls Tryz.prog 103 #[.string a0] w fun e w' => ∃ v0_ : Value, e = .returned (v0_) ∧ Kd.R Kd.string 9 w' w.heap.size (fun _ => True) v0_ r ∧ Below w.heap.size w w' := by
 unfold impl_partsOf.f at h
 by_cases hs : a0.size < 4294967281
 ·rw [if_pos hs] at h
  obtain rfl := Option.some.inj h
  clear h
  haveI : Inhabited ByteArray := ⟨ByteArray.empty⟩
  generalize hraw : impl_partsOf.raw a0 = raw
  have S := Aside0.mk (hraw ▸ impl_partsOf.split a0 w hs)
  have hl : raw.length ≤ 4294967281 := by
   rw [← hraw]; unfold impl_partsOf.raw
   have := Lib.splitB_length_le ⟨#[47]⟩ 0 (Lib.countB a0 ⟨#[47]⟩) a0
   have h2 := Lib.countB_le ⟨#[47]⟩ (by decide) a0.size a0 (Nat.le_refl _)
   omega
  have hown : (w.alloc (.cells (raw.map Value.string).toArray 9)).ownsRow w.heap.size 9 1 (.slice (some ⟨w.heap.size, 0, none⟩) raw.length raw.length) raw.length (raw.map Value.string) :=
   ⟨by simp, .inr ⟨w.heap.size, raw.length, (raw.map Value.string).toArray, rfl, Nat.le_refl _, heap_alloc_new w _, Nat.le_refl _, by unfold maxLen; omega, by simp, by rw [Nat.mul_one, List.take_of_length_le (by simp)]⟩⟩
  have hH : Holds Value.string (w.alloc (.cells (raw.map Value.string).toArray 9)) w.heap.size 0 raw.toArray := fun j hj => by
   have hb := heap_alloc_new w (.cells (raw.map Value.string).toArray 9)
   have hj' : j < raw.length := by simpa using hj
   rw [Nat.zero_add]
   refine ⟨?_, blk_frozen hb j⟩
   rw [blk_cell hb j]
   simp [getElem!_pos, hj']
  have eg : ∀ args w, (callFunc 115 args).run Tryz.prog w = .ok (.enter 115 args) w := enters_of Tryz.func115 (by kernel_rfl) rfl
  have D := AnyE.slices_DeleteFunc Tryz.laysDel Value.string (fun _ => rfl) (fun x => x.toList.isEmpty) 115 #[] eg ByteArray.empty Tryz.zeroValue9 w.heap.size 0 raw.length raw.toArray (w.alloc (.cells (raw.map Value.string).toArray 9))
   (fun W x _ => impl_partsOf.gives x W) (fun n os dk x _ => impl_partsOf.gives x _) hH (by simp; omega) (by simp)
  have D' := Aside0.mk (show Calls Tryz.prog 113 #[.slice (some ⟨w.heap.size, 0, none⟩) raw.length raw.length, .func (.func 115) #[] #[]] (w.alloc (.cells (raw.map Value.string).toArray 9)) fun e w' =>
   e = .returned (.slice (some ⟨w.heap.size, 0, none⟩) (raw.filter fun x => !x.toList.isEmpty).length raw.length) ∧
    ∃ q, w' = putRow Value.string (Sort.ahead (w.alloc (.cells (raw.map Value.string).toArray 9)) q) w.heap.size 0 ((raw.filter fun x => !x.toList.isEmpty) ++ List.replicate (raw.length - (raw.filter fun x => !x.toList.isEmpty).length) ByteArray.empty).toArray from D)
  clear D eg hH
  have HO := Aside0.mk hown
  clear hown hs hraw hl
  go_enter Tryz.func103, Tryz.ntmps103
  go_wp2_with (first | (go_at_call 114; (with_reducible refine S.out.mono ?_); rintro e w' ⟨rfl, hw⟩; rw [hw]) | (go_at_call 113; (with_reducible refine D'.out.mono ?_); rintro e w2 ⟨rfl, q, hw2⟩; rw [hw2]))
  go_ret
  have hk : (raw.filter fun x => !x.toList.isEmpty).length ≤ raw.length := List.length_filter_le _ _
  have ho := Lib.ownsRow_putRow (q := q) HO.out (ys := (raw.filter fun x => !x.toList.isEmpty) ++ List.replicate (raw.length - (raw.filter fun x => !x.toList.isEmpty).length) ByteArray.empty) (by rw [List.length_append, List.length_replicate]; omega) hk
  rw [List.take_left] at ho
  exact ⟨_, rfl, Kd.R_of_own ho (fun _ _ => trivial), Lib.below_putRow ((Below.refl _ w).alloc (Nat.le_refl _) _) (Nat.le_refl _)⟩
 ·rw [if_neg hs] at h; cases h
def impl_isNameByte.f (a0 : Int) : Option (Bool) := if a0 ≥ 97 then (if a0 ≤ 122 then (some true) else (if a0 ≥ 48 then (if a0 ≤ 57 then (some true) else (if a0 = 46 then (some true) else (if a0 = 95 then (some true) else (some (a0 == 45))))) else (if a0 = 46 then (some true) else (if a0 = 95 then (some true) else (some (a0 == 45)))))) else (if a0 ≥ 48 then (if a0 ≤ 57 then (some true) else (if a0 = 46 then (some true) else (if a0 = 95 then (some true) else (some (a0 == 45))))) else (if a0 = 46 then (some true) else (if a0 = 95 then (some true) else (some (a0 == 45)))))
theorem impl_isNameByte.calls (a0 : Int) (r : Bool) (w : World) (h : impl_isNameByte.f a0 = some r) :
  Calls Tryz.prog 107 #[.int .u8 a0] w fun e w' => e = .returned (.bool r) ∧ Drawn0 w w' := by
 have H : (if a0 ≥ 97 then (if a0 ≤ 122 then (some true) else (if a0 ≥ 48 then (if a0 ≤ 57 then (some true) else (if a0 = 46 then (some true) else (if a0 = 95 then (some true) else (some (a0 == 45))))) else (if a0 = 46 then (some true) else (if a0 = 95 then (some true) else (some (a0 == 45)))))) else (if a0 ≥ 48 then (if a0 ≤ 57 then (some true) else (if a0 = 46 then (some true) else (if a0 = 95 then (some true) else (some (a0 == 45))))) else (if a0 = 46 then (some true) else (if a0 = 95 then (some true) else (some (a0 == 45)))))) = some r := h
 clear h
 by_cases c2 : a0 ≥ 97
 ·rw [if_pos c2] at H
  have c2b0 := decide_eq_true c2
  clear c2
  by_cases c3 : a0 ≤ 122
  ·rw [if_pos c3] at H
   have c3b0 := decide_eq_true c3
   clear c3
   obtain rfl := Option.some.inj H
   go_enter Tryz.func107, Tryz.ntmps107
   go_wp2
   go_ret
   exact ⟨by first | rfl | (simp; done) | (simp [*]; done), by repeat (first | exact Drawn0.refl _ | apply Drawn0.step)⟩
  ·rw [if_neg c3] at H
   have c3b0 := decide_eq_false c3
   clear c3
   by_cases c4 : a0 ≥ 48
   ·rw [if_pos c4] at H
    have c4b0 := decide_eq_true c4
    clear c4
    by_cases c5 : a0 ≤ 57
    ·rw [if_pos c5] at H
     have c5b0 := decide_eq_true c5
     clear c5
     obtain rfl := Option.some.inj H
     go_enter Tryz.func107, Tryz.ntmps107
     go_wp2
     go_ret
     exact ⟨by first | rfl | (simp; done) | (simp [*]; done), by repeat (first | exact Drawn0.refl _ | apply Drawn0.step)⟩
    ·rw [if_neg c5] at H
     have c5b0 := decide_eq_false c5
     clear c5
     by_cases c6 : a0 = 46
     ·rw [if_pos c6] at H
      have c6b0 := beq_iff_eq.mpr c6
      have c6b1 := bne_eq_false_iff_eq.mpr c6
      clear c6
      obtain rfl := Option.some.inj H
      go_enter Tryz.func107, Tryz.ntmps107
      go_wp2
      go_ret
      exact ⟨by first | rfl | (simp; done) | (simp [*]; done), by repeat (first | exact Drawn0.refl _ | apply Drawn0.step)⟩
     ·rw [if_neg c6] at H
      have c6b0 := beq_eq_false_iff_ne.mpr c6
      have c6b1 := bne_iff_ne.mpr c6
      by_cases c7 : a0 = 95
      ·rw [if_pos c7] at H
       have c7b0 := beq_iff_eq.mpr c7
       have c7b1 := bne_eq_false_iff_eq.mpr c7
       clear c7
       obtain rfl := Option.some.inj H
       go_enter Tryz.func107, Tryz.ntmps107
       go_wp2
       go_ret
       exact ⟨by first | rfl | (simp; done) | (simp [*]; done), by repeat (first | exact Drawn0.refl _ | apply Drawn0.step)⟩
      ·rw [if_neg c7] at H
       have c7b0 := beq_eq_false_iff_ne.mpr c7
       have c7b1 := bne_iff_ne.mpr c7
       obtain rfl := Option.some.inj H
       go_enter Tryz.func107, Tryz.ntmps107
       go_wp2
       go_ret
       exact ⟨by first | rfl | (simp; done) | (simp [*]; done), by repeat (first | exact Drawn0.refl _ | apply Drawn0.step)⟩
   ·rw [if_neg c4] at H
    have c4b0 := decide_eq_false c4
    clear c4
    by_cases c8 : a0 = 46
    ·rw [if_pos c8] at H
     have c8b0 := beq_iff_eq.mpr c8
     have c8b1 := bne_eq_false_iff_eq.mpr c8
     clear c8
     obtain rfl := Option.some.inj H
     go_enter Tryz.func107, Tryz.ntmps107
     go_wp2
     go_ret
     exact ⟨by first | rfl | (simp; done) | (simp [*]; done), by repeat (first | exact Drawn0.refl _ | apply Drawn0.step)⟩
    ·rw [if_neg c8] at H
     have c8b0 := beq_eq_false_iff_ne.mpr c8
     have c8b1 := bne_iff_ne.mpr c8
     by_cases c9 : a0 = 95
     ·rw [if_pos c9] at H
      have c9b0 := beq_iff_eq.mpr c9
      have c9b1 := bne_eq_false_iff_eq.mpr c9
      clear c9
      obtain rfl := Option.some.inj H
      go_enter Tryz.func107, Tryz.ntmps107
      go_wp2
      go_ret
      exact ⟨by first | rfl | (simp; done) | (simp [*]; done), by repeat (first | exact Drawn0.refl _ | apply Drawn0.step)⟩
     ·rw [if_neg c9] at H
      have c9b0 := beq_eq_false_iff_ne.mpr c9
      have c9b1 := bne_iff_ne.mpr c9
      obtain rfl := Option.some.inj H
      go_enter Tryz.func107, Tryz.ntmps107
      go_wp2
      go_ret
      exact ⟨by first | rfl | (simp; done) | (simp [*]; done), by repeat (first | exact Drawn0.refl _ | apply Drawn0.step)⟩
 ·rw [if_neg c2] at H
  have c2b0 := decide_eq_false c2
  clear c2
  by_cases c10 : a0 ≥ 48
  ·rw [if_pos c10] at H
   have c10b0 := decide_eq_true c10
   clear c10
   by_cases c11 : a0 ≤ 57
   ·rw [if_pos c11] at H
    have c11b0 := decide_eq_true c11
    clear c11
    obtain rfl := Option.some.inj H
    go_enter Tryz.func107, Tryz.ntmps107
    go_wp2
    go_ret
    exact ⟨by first | rfl | (simp; done) | (simp [*]; done), by repeat (first | exact Drawn0.refl _ | apply Drawn0.step)⟩
   ·rw [if_neg c11] at H
    have c11b0 := decide_eq_false c11
    clear c11
    by_cases c12 : a0 = 46
    ·rw [if_pos c12] at H
     have c12b0 := beq_iff_eq.mpr c12
     have c12b1 := bne_eq_false_iff_eq.mpr c12
     clear c12
     obtain rfl := Option.some.inj H
     go_enter Tryz.func107, Tryz.ntmps107
     go_wp2
     go_ret
     exact ⟨by first | rfl | (simp; done) | (simp [*]; done), by repeat (first | exact Drawn0.refl _ | apply Drawn0.step)⟩
    ·rw [if_neg c12] at H
     have c12b0 := beq_eq_false_iff_ne.mpr c12
     have c12b1 := bne_iff_ne.mpr c12
     by_cases c13 : a0 = 95
     ·rw [if_pos c13] at H
      have c13b0 := beq_iff_eq.mpr c13
      have c13b1 := bne_eq_false_iff_eq.mpr c13
      clear c13
      obtain rfl := Option.some.inj H
      go_enter Tryz.func107, Tryz.ntmps107
      go_wp2
      go_ret
      exact ⟨by first | rfl | (simp; done) | (simp [*]; done), by repeat (first | exact Drawn0.refl _ | apply Drawn0.step)⟩
     ·rw [if_neg c13] at H
      have c13b0 := beq_eq_false_iff_ne.mpr c13
      have c13b1 := bne_iff_ne.mpr c13
      obtain rfl := Option.some.inj H
      go_enter Tryz.func107, Tryz.ntmps107
      go_wp2
      go_ret
      exact ⟨by first | rfl | (simp; done) | (simp [*]; done), by repeat (first | exact Drawn0.refl _ | apply Drawn0.step)⟩
  ·rw [if_neg c10] at H
   have c10b0 := decide_eq_false c10
   clear c10
   by_cases c14 : a0 = 46
   ·rw [if_pos c14] at H
    have c14b0 := beq_iff_eq.mpr c14
    have c14b1 := bne_eq_false_iff_eq.mpr c14
    clear c14
    obtain rfl := Option.some.inj H
    go_enter Tryz.func107, Tryz.ntmps107
    go_wp2
    go_ret
    exact ⟨by first | rfl | (simp; done) | (simp [*]; done), by repeat (first | exact Drawn0.refl _ | apply Drawn0.step)⟩
   ·rw [if_neg c14] at H
    have c14b0 := beq_eq_false_iff_ne.mpr c14
    have c14b1 := bne_iff_ne.mpr c14
    by_cases c15 : a0 = 95
    ·rw [if_pos c15] at H
     have c15b0 := beq_iff_eq.mpr c15
     have c15b1 := bne_eq_false_iff_eq.mpr c15
     clear c15
     obtain rfl := Option.some.inj H
     go_enter Tryz.func107, Tryz.ntmps107
     go_wp2
     go_ret
     exact ⟨by first | rfl | (simp; done) | (simp [*]; done), by repeat (first | exact Drawn0.refl _ | apply Drawn0.step)⟩
    ·rw [if_neg c15] at H
     have c15b0 := beq_eq_false_iff_ne.mpr c15
     have c15b1 := bne_iff_ne.mpr c15
     obtain rfl := Option.some.inj H
     go_enter Tryz.func107, Tryz.ntmps107
     go_wp2
     go_ret
     exact ⟨by first | rfl | (simp; done) | (simp [*]; done), by repeat (first | exact Drawn0.refl _ | apply Drawn0.step)⟩
def impl_isPart_1.f (a0 : Int) : Option (Bool) := (impl_isNameByte.f a0).bind fun t350 => (some (!t350))
theorem impl_isPart_1.calls (a0 : Int) (r : Bool) (w : World) (h : impl_isPart_1.f a0 = some r) :
  Calls Tryz.prog 106 #[.int .u8 a0] w fun e w' => e = .returned (.bool r) ∧ Drawn0 w w' := by
 have H : ((impl_isNameByte.f a0).bind fun t350 => (some (!t350))) = some r := h
 clear h
 obtain ⟨t350, A2, H⟩ := bS H
 try dsimp only at H
 obtain rfl := Option.some.inj H
 go_enter Tryz.func106, Tryz.ntmps106
 go_wp2_with (first | ((with_reducible refine gt 107 rfl ?_); refine gL 107 4 Tryz.func107 #[.int .u8 a0] ?_; (with_reducible refine (impl_isNameByte.calls a0 t350 _ A2.out).mono ?_); rintro e w' ⟨rfl, ⟨nd, rfl⟩⟩; refine ⟨_, rfl, ?_⟩))
 go_ret
 exact ⟨by first | rfl | (simp; done) | (simp [*]; done), by repeat (first | exact Drawn0.refl _ | apply Drawn0.step)⟩
def slices_IndexFunc_byte_byte__impl_isPart_1.l0 : Nat → List Int → Int → Int → Option (Int)
 | 0, _, _, _ => none
 | k + 1, x0, x7, x8 => if x8 < x7 then (if 0 ≤ x8 then (if x8 < (x0.length : Int) then ((impl_isPart_1.f (rd x0 x8)).bind fun t352 => (if t352 = true then (some x8) else (slices_IndexFunc_byte_byte__impl_isPart_1.l0 k x0 x7 (wrap64 (x8 + 1))))) else (none)) else (none)) else (some (-1))
def slices_IndexFunc_byte_byte__impl_isPart_1.f (k : Nat) (l0 : List Int)  : Option (Int) := slices_IndexFunc_byte_byte__impl_isPart_1.l0 k l0 (l0.length : Int) 0
theorem slices_IndexFunc_byte_byte__impl_isPart_1.calls (k : Nat) (A0 : Option Addr) (c0 : Nat) (l0 : List Int)  (r : Int) (w : World) (hr0 : Kd.C (Kd.int .u8) w A0 l0.length l0) (hc0 : l0.length ≤ c0) (h : slices_IndexFunc_byte_byte__impl_isPart_1.f k l0 = some r) :
  Calls Tryz.prog 116 #[.slice A0 l0.length c0, .func (.func 106) #[] #[]] w fun e w' => e = .returned (.int .i64 r) ∧ Below w.heap.size w w' := by
 have HR0 := Aside0.mk hr0
 have HC0 := Aside0.mk hc0
 clear hr0 hc0
 have HB := Aside0.mk (Below.refl w.heap.size w)
 have H : (slices_IndexFunc_byte_byte__impl_isPart_1.l0 k l0 (l0.length : Int) 0) = some r := h
 clear h
 have H' := Aside0.mk H
 clear H
 go_enter Tryz.func116, Tryz.ntmps116
 go_wp2
 go_loopg [8] k (fun kq v8 w' => ∃ (x8_1 : Int), v8 = .int .i64 x8_1 ∧ Aside0 (slices_IndexFunc_byte_byte__impl_isPart_1.l0 kq l0 (l0.length : Int) x8_1 = some r) ∧ Aside0 (kq ≤ k) ∧ Aside0 (Below w.heap.size w w'))
 case atStart => exact ⟨(0), sR, H', ⟨Nat.le_refl _⟩, ⟨sB⟩⟩
 case round =>
  clear H'
  try clear p2
  obtain ⟨x8_1, rfl, HA, HK1, HB⟩ := hrel
  cases gk with
  | zero => exact absurd HA.out (by simp [slices_IndexFunc_byte_byte__impl_isPart_1.l0])
  | succ k1 =>
   have H := HA.out
   clear HA
   simp only [slices_IndexFunc_byte_byte__impl_isPart_1.l0] at H
   by_cases c3 : x8_1 < (l0.length : Int)
   ·rw [if_pos c3] at H
    have c3b0 := decide_eq_true c3
    clear c3
    obtain ⟨c4, H⟩ := iN H
    have c4b0 := decide_eq_true c4
    clear c4
    obtain ⟨c5, H⟩ := iN H
    have c5b0 := decide_eq_true c5
    clear c5
    obtain ⟨t352, A6, H⟩ := bS H
    try dsimp only at H
    by_cases c7 : t352 = true
    ·subst c7
     rw [if_pos rfl] at H
     obtain rfl := Option.some.inj H
     have p351 : 0 ≤ (x8_1 : Int) := sO
     have q351 : x8_1 < (l0.length : Int) := sO
     obtain ⟨ad351, e351, hx351_0⟩ := Kd.at_int HR0.out x8_1 p351 q351
     cases e351
     replace hx351_0 := hB HB hx351_0
     replace p351 := eq_true p351
     replace q351 := eq_true q351
     go_wp2_with (first | (go_at_call 106; (with_reducible refine (impl_isPart_1.calls (rd l0 x8_1) true _ A6.out).mono ?_); rintro e w' ⟨rfl, ⟨nd, rfl⟩⟩))
     go_ret
     exact ⟨sE, sB⟩
    ·replace c7 := Bool.eq_false_iff.mpr c7
     subst c7
     rw [if_neg (show ¬ (false = true) by decide)] at H
     have H' := Aside0.mk H
     clear H
     have p351 : 0 ≤ (x8_1 : Int) := sO
     have q351 : x8_1 < (l0.length : Int) := sO
     obtain ⟨ad351, e351, hx351_0⟩ := Kd.at_int HR0.out x8_1 p351 q351
     cases e351
     replace hx351_0 := hB HB hx351_0
     replace p351 := eq_true p351
     replace q351 := eq_true q351
     go_wp2_with (first | (go_at_call 106; (with_reducible refine (impl_isPart_1.calls (rd l0 x8_1) false _ A6.out).mono ?_); rintro e w' ⟨rfl, ⟨nd, rfl⟩⟩))
     go_roundg k1
     case measure => have := HK1.out; omega
     case rel => exact ⟨(wrap64 (x8_1 + 1)), sR, H', ⟨by have := HK1.out; omega⟩, ⟨sB⟩⟩
   ·rw [if_neg c3] at H
    have c3b0 := decide_eq_false c3
    clear c3
    obtain rfl := Option.some.inj H
    go_wp2
    go_ret
    exact ⟨sE, sB⟩
def slices_ContainsFunc_byte_byte__impl_isPart_1.f (k : Nat) (l0 : List Int)  : Option (Bool) := (slices_IndexFunc_byte_byte__impl_isPart_1.f k l0).bind fun t353 => (some (decide (t353 ≥ 0)))
theorem slices_ContainsFunc_byte_byte__impl_isPart_1.calls (k : Nat) (A0 : Option Addr) (c0 : Nat) (l0 : List Int)  (r : Bool) (w : World) (hr0 : Kd.C (Kd.int .u8) w A0 l0.length l0) (hc0 : l0.length ≤ c0) (h : slices_ContainsFunc_byte_byte__impl_isPart_1.f k l0 = some r) :
  Calls Tryz.prog 105 #[.slice A0 l0.length c0, .func (.func 106) #[] #[]] w fun e w' => e = .returned (.bool r) ∧ Below w.heap.size w w' := by
 have HR0 := Aside0.mk hr0
 have HC0 := Aside0.mk hc0
 clear hr0 hc0
 have HB := Aside0.mk (Below.refl w.heap.size w)
 have H : ((slices_IndexFunc_byte_byte__impl_isPart_1.f k l0).bind fun t353 => (some (decide (t353 ≥ 0)))) = some r := h
 clear h
 obtain ⟨t353, A3, H⟩ := bS H
 try dsimp only at H
 obtain rfl := Option.some.inj H
 go_enter Tryz.func105, Tryz.ntmps105
 go_wp2_with (first | ((with_reducible refine gt 116 rfl ?_); refine gL 116 7 Tryz.func116 #[.slice A0 l0.length c0, .func (.func 106) #[] #[]] ?_; (with_reducible refine (slices_IndexFunc_byte_byte__impl_isPart_1.calls k _ _ l0  t353 _ ?side1 ?side2 A3.out).mono ?_); (case side1 => repeat (first | exact HR0.out | (with_reducible refine Kd.C_alloc ?_ _) | (with_reducible refine Kd.C_drewN ?_ _) | (with_reducible refine Kd.C_drew ?_))); (case side2 => exact HC0.out); rintro e w4 ⟨rfl, hb⟩; refine ⟨_, rfl, ?_⟩; replace HB := nSB hb; try clear hb))
 go_ret
 exact ⟨sE, sB⟩
def impl_isPart.f (k : Nat) (a0 : ByteArray) : Option Bool := (impl_within.f (a0.size : Int) 1 8).bind fun t => if t = true then ((slices_ContainsFunc_byte_byte__impl_isPart_1.f k (bytesOf a0)).bind fun b => some (!b)) else some false
theorem impl_isPart.within (n : Int) : impl_within.f n 1 8 = some (decide (1 ≤ n) && decide (n ≤ 8)) := by
 unfold impl_within.f
 by_cases h : n ≥ 1
 ·rw [if_pos h]; simp [show (1 : Int) ≤ n from h]
 ·rw [if_neg h]; simp [show ¬ (1 : Int) ≤ n from h]
set_option maxHeartbeats 1000000 in
theorem impl_isPart.calls (k : Nat) (a0 : ByteArray) (r : Bool) (w : World) (h : impl_isPart.f k a0 = some r) :
  Calls Tryz.prog 99 #[.string a0] w fun e w' => e = .returned (.bool r) ∧ Below w.heap.size w w' := by
 unfold impl_isPart.f at h
 rw [impl_isPart.within] at h
 simp only [Option.bind_some] at h
 have hw := impl_isPart.within (a0.size : Int)
 generalize hb : (decide (1 ≤ (a0.size : Int)) && decide ((a0.size : Int) ≤ 8)) = b at h hw
 cases b with
 | false =>
  simp only [Bool.false_eq_true, if_false] at h
  obtain rfl := Option.some.inj h
  clear h hb
  have HW := Aside0.mk hw
  clear hw
  go_enter Tryz.func99, Tryz.ntmps99
  go_wp2_with (go_at_call 66; (with_reducible refine (impl_within.calls _ 1 8 false _ HW.out).mono ?_); rintro e w' ⟨rfl, ⟨nd, rfl⟩⟩)
  go_ret
  exact ⟨rfl, pw_below_drewN (Below.refl _ _) _⟩
 | true =>
  have hs : a0.size ≤ 8 := by simp at hb; omega
  simp only [if_true] at h
  obtain ⟨b, hc, h⟩ := Option.bind_eq_some_iff.mp h
  obtain rfl := Option.some.inj h
  clear h hb
  have HW := Aside0.mk hw
  have HS := Aside0.mk hs
  have HCC := Aside0.mk (fun (A : Option Addr) (c : Nat) (W : World) (hr : Kd.C (Kd.int .u8) W A a0.size (bytesOf a0)) (hc0 : a0.size ≤ c) =>
   (show Calls Tryz.prog 105 #[.slice A a0.size c, .func (.func 106) #[] #[]] W fun e w' => e = .returned (.bool b) ∧ Below W.heap.size W w' by
    have h := slices_ContainsFunc_byte_byte__impl_isPart_1.calls k A c (bytesOf a0) b W
    rw [bytesOf_length] at h
    exact h hr hc0 hc))
  clear hw hc hs
  have kb := fun W => print_bytes (P := Tryz.prog) 9 69 5 Tryz.underlying9 Tryz.underlying69 Tryz.underlying5 a0 W
  go_enter Tryz.func99, Tryz.ntmps99
  go_wp2_with (first | (go_at_call 66; (with_reducible refine (impl_within.calls _ 1 8 true _ HW.out).mono ?_); rintro e w' ⟨rfl, ⟨nd, rfl⟩⟩) | (go_at_call 105; (with_reducible refine (HCC.out _ _ _ ?hr ?hc).mono ?_); (case hr => exact Kd.C_of_reads (d := (0 : Int)) (h1 := fun _ => rfl) (bytes_reads (w.drewN nd) 5 a0 (by have := HS.out; omega))); (case hc => exact grownCap_ge _ _ _ _); rintro e w2 ⟨rfl, hb2⟩))
  go_ret
  exact ⟨rfl, below_step (bytes_below (pw_below_drewN (Below.refl _ _) _) (Nat.le_refl _) 5 a0) hb2⟩
def impl_isLong_1.f (k : Nat) (a0 : ByteArray) : Option (Bool) := (impl_isPart.f k a0).bind fun t354 => (some (!t354))
theorem impl_isLong_1.calls (k : Nat) (a0 : ByteArray) (r : Bool) (w : World) (h : impl_isLong_1.f k a0 = some r) :
  Calls Tryz.prog 104 #[.string a0] w fun e w' => e = .returned (.bool r) ∧ Below w.heap.size w w' := by
 have HB := Aside0.mk (Below.refl w.heap.size w)
 have H : ((impl_isPart.f k a0).bind fun t354 => (some (!t354))) = some r := h
 clear h
 obtain ⟨t354, A2, H⟩ := bS H
 try dsimp only at H
 obtain rfl := Option.some.inj H
 go_enter Tryz.func104, Tryz.ntmps104
 go_wp2_with (first | ((with_reducible refine gt 99 rfl ?_); refine gL 99 4 Tryz.func99 #[.string a0] ?_; (with_reducible refine (impl_isPart.calls k a0 t354 _ A2.out).mono ?_); rintro e w3 ⟨rfl, hb⟩; refine ⟨_, rfl, ?_⟩; replace HB := nSB hb; try clear hb))
 go_ret
 exact ⟨sE, sB⟩
end Go.Proofs.YtdjceippnokimaaGreatDoor.PTr
