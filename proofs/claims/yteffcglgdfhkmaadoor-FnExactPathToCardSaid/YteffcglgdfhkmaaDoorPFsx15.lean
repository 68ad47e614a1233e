-- Written by a program of this session (wip/print2) out of the translation. Lean checks it.
import Derived.Test.YteffcglgdfhkmaaDoorPFsx0
import Derived.Test.YteffcglgdfhkmaaDoorPFsx1
import Derived.Test.YteffcglgdfhkmaaDoorPFsx7
import Derived.Test.YteffcglgdfhkmaaDoorPFsx8
import Derived.Test.YteffcglgdfhkmaaDoorPFsx9
import Derived.Test.YteffcglgdfhkmaaDoorPFsx11
import Derived.Test.YteffcglgdfhkmaaDoorPFsx12
import Derived.Test.YteffcglgdfhkmaaDoorPFsx14
namespace Go.Proofs.YteffcglgdfhkmaaDoor.PFs
open Go.RowKit Go.Proofs.YteffcglgdfhkmaaDoorW.PrintWords Go.Proofs.YteffcglgdfhkmaaDoorW.PrintLast Go.Proofs.YteffcglgdfhkmaaDoorW.PrintMore
attribute [local go_sem] max2_int min2_int max_two min_two max_three min_three max_four min_four   -- for this text's walks alone
set_option linter.unusedVariables false
set_option linter.unusedSimpArgs false

/-! ### spec_l3Is: function 50 -/
def spec_l3Is.f (l0_0 : List (S53)) (a0_1 : Int) (a1 : Int) : Option (Bool) := (spec_l1In.f a1 0 (wrap64 ((l0_0.length : Int) - 1))).bind fun t416 => (if t416 = true then (if 0 ≤ a1 then (if a1 < (l0_0.length : Int) then (some (((rd_T53 l0_0 a1).f0) != 0)) else (none)) else (none)) else (some false))
set_option maxHeartbeats 8000000 in
set_option maxRecDepth 100000 in
theorem spec_l3Is.calls (A0_0 : Option Addr) (c0_0 : Nat) (l0_0 : List (S53)) (a0_1 : Int) (a1 : Int) (r : Bool) (w : World) (hr0_0 : Kd.C k53 w A0_0 l0_0.length l0_0) (hc0_0 : l0_0.length ≤ c0_0) (h : spec_l3Is.f l0_0 a0_1 a1 = some r) :
  Calls Tryd.prog 50 #[.agg #[.slice A0_0 l0_0.length c0_0, .int .i64 a0_1], .int .i64 a1] w fun e w' => e = .returned (.bool r) ∧ Below w.heap.size w w' := by
 have hu29 := Tryd.underlying29
 have HR0_0 := Aside0.mk hr0_0
 have HC0_0 := Aside0.mk hc0_0
 clear hr0_0 hc0_0
 have HB := Aside0.mk (Below.refl w.heap.size w)
 have H : ((spec_l1In.f a1 0 (wrap64 ((l0_0.length : Int) - 1))).bind fun t416 => (if t416 = true then (if 0 ≤ a1 then (if a1 < (l0_0.length : Int) then (some (((rd_T53 l0_0 a1).f0) != 0)) else (none)) else (none)) else (some false))) = some r := h
 clear h
 obtain ⟨t416, A30, H⟩ := Option.bind_eq_some_iff.mp H
 try dsimp only at H
 replace A30 := Aside0.mk A30; have A3 := A30; clear A30
 by_cases c4 : t416 = true
 ·subst c4
  rw [if_pos rfl] at H
  by_cases c5 : 0 ≤ a1
  ·rw [if_pos c5] at H
   have c5b0 := decide_eq_true c5
   clear c5
   by_cases c6 : a1 < (l0_0.length : Int)
   ·rw [if_pos c6] at H
    have c6b0 := decide_eq_true c6
    clear c6
    obtain rfl := Option.some.inj H
    go_enter Tryd.func50, Tryd.ntmps50
    go_wp2_with (first | ((with_reducible refine gd 2 rfl ?_); refine bxE 2 #[.slice A0_0 l0_0.length c0_0, .int .i64 a0_1] 29 ?_; intro gb415 hg w7 hbox hb; have BK415 := Aside0.mk hbox; have GW415 := nGB hg; have GE415 := nGB hg; replace HB := nSB hb; clear hb hbox hg; have hcz8 := cb2 BK415) | ((with_reducible refine gt 72 rfl ?_); refine gL 72 10 Tryd.func72 #[.int .i64 a1, .int .i64 0, .int .i64 (wrap64 ((l0_0.length : Int) - 1))] ?_; (with_reducible refine (spec_l1In.calls a1 0 (wrap64 ((l0_0.length : Int) - 1)) true _ A3.out).mono ?_); rintro e w' ⟨rfl, ⟨nd, rfl⟩⟩; refine ⟨_, rfl, ?_⟩; have p417 : 0 ≤ (a1 : Int) := sO; have q417 : a1 < (l0_0.length : Int) := sO; obtain ⟨ad417, A417_6, c417_6, e417, hx417_0, hx417_1, hx417_2, hx417_3, hx417_4, hx417_5, hx417_6, hl417_6, hi417_6⟩ := at_T53 HR0_0.out a1 p417 q417; cases e417; replace hx417_0 := hB HB hx417_0; replace hx417_1 := hB HB hx417_1; replace hx417_2 := hB HB hx417_2; replace hx417_3 := hB HB hx417_3; replace hx417_4 := hB HB hx417_4; replace hx417_5 := hB HB hx417_5; replace hx417_6 := hB HB hx417_6; have HR417_6 := Aside0.mk hi417_6; have HC417_6 := Aside0.mk hl417_6; clear hi417_6 hl417_6; replace p417 := eq_true p417; replace q417 := eq_true q417))
    go_ret
    exact ⟨sE, sC⟩
   ·rw [if_neg c6] at H
    exact absurd H (by simp)
  ·rw [if_neg c5] at H
   exact absurd H (by simp)
 ·replace c4 := Bool.eq_false_iff.mpr c4
  subst c4
  rw [if_neg (show ¬ (false = true) by decide)] at H
  obtain rfl := Option.some.inj H
  go_enter Tryd.func50, Tryd.ntmps50
  go_wp2_with (first | ((with_reducible refine gd 2 rfl ?_); refine bxE 2 #[.slice A0_0 l0_0.length c0_0, .int .i64 a0_1] 29 ?_; intro gb415 hg w9 hbox hb; have BK415 := Aside0.mk hbox; have GW415 := nGB hg; have GE415 := nGB hg; replace HB := nSB hb; clear hb hbox hg; have hcz10 := cb2 BK415) | ((with_reducible refine gt 72 rfl ?_); refine gL 72 10 Tryd.func72 #[.int .i64 a1, .int .i64 0, .int .i64 (wrap64 ((l0_0.length : Int) - 1))] ?_; (with_reducible refine (spec_l1In.calls a1 0 (wrap64 ((l0_0.length : Int) - 1)) false _ A3.out).mono ?_); rintro e w' ⟨rfl, ⟨nd, rfl⟩⟩; refine ⟨_, rfl, ?_⟩))
  go_ret
  exact ⟨sE, sC⟩

/-! ### impl_isGoodAt: function 52 -/
def impl_isGoodAt.f (k : Nat) (l0_0 : List (S53)) (a0_1 : Int) (a1 : Int) : Option (Bool) := (impl_GoodFs.f k l0_0 a0_1).bind fun t423 => (if t423 = true then ((impl_Fs_isThere.f l0_0 a0_1 a1).bind fun t424 => (some t424)) else (some false))
theorem impl_isGoodAt.mono : ∀ a0 a1 a2 k, LeO (impl_isGoodAt.f k a0 a1 a2) (impl_isGoodAt.f (k + 1) a0 a1 a2) := by
 intro a0 a1 a2 k
 unfold impl_isGoodAt.f
 have m0 := @impl_GoodFs.mono
 exact mo
set_option maxHeartbeats 8000000 in
set_option maxRecDepth 100000 in
theorem impl_isGoodAt.calls (k : Nat) (A0_0 : Option Addr) (c0_0 : Nat) (l0_0 : List (S53)) (a0_1 : Int) (a1 : Int) (r : Bool) (w : World) (hr0_0 : Kd.C k53 w A0_0 l0_0.length l0_0) (hc0_0 : l0_0.length ≤ c0_0) (h : impl_isGoodAt.f k l0_0 a0_1 a1 = some r) :
  Calls Tryd.prog 52 #[.agg #[.slice A0_0 l0_0.length c0_0, .int .i64 a0_1], .int .i64 a1] w fun e w' => e = .returned (.bool r) ∧ Below w.heap.size w w' := by
 have hu29 := Tryd.underlying29
 have HR0_0 := Aside0.mk hr0_0
 have HC0_0 := Aside0.mk hc0_0
 clear hr0_0 hc0_0
 have HB := Aside0.mk (Below.refl w.heap.size w)
 have H : ((impl_GoodFs.f k l0_0 a0_1).bind fun t423 => (if t423 = true then ((impl_Fs_isThere.f l0_0 a0_1 a1).bind fun t424 => (some t424)) else (some false))) = some r := h
 clear h
 obtain ⟨t423, A30, H⟩ := Option.bind_eq_some_iff.mp H
 try dsimp only at H
 replace A30 := Aside0.mk A30; have A3 := A30; clear A30
 by_cases c4 : t423 = true
 ·subst c4
  rw [if_pos rfl] at H
  obtain ⟨t424, A50, H⟩ := Option.bind_eq_some_iff.mp H
  try dsimp only at H
  replace A50 := Aside0.mk A50; have A5 := A50; clear A50
  obtain rfl := Option.some.inj H
  go_enter Tryd.func52, Tryd.ntmps52
  go_wp2_with (first | ((with_reducible refine gd 2 rfl ?_); refine bxE 2 #[.slice A0_0 l0_0.length c0_0, .int .i64 a0_1] 29 ?_; intro gb422 hg w6 hbox hb; have BK422 := Aside0.mk hbox; have GW422 := nGB hg; have GE422 := nGB hg; replace HB := nSB hb; clear hb hbox hg; have hcz7 := cb2 BK422) | ((with_reducible refine gt 16 rfl ?_); refine gL 16 6 Tryd.func16 #[.agg #[.slice A0_0 l0_0.length c0_0, .int .i64 a0_1]] ?_; (with_reducible refine (impl_GoodFs.calls k _ _ l0_0 a0_1 true _ ?side1 ?side2 A3.out).mono ?_); (case side1 => exact sD (Kd.C_below HR0_0.out HB.out)); (case side2 => exact HC0_0.out); rintro e w8 ⟨rfl, hb⟩; refine ⟨_, rfl, ?_⟩; replace BK422 := nK BK422 hb; replace HB := nSC hb; try clear hb; have hcz9 := cb2 BK422) | (go_at_call 83; (with_reducible refine (impl_Fs_isThere.calls _ _ l0_0 a0_1 a1 t424 _ ?side1 ?side2 A5.out).mono ?_); (case side1 => exact sD (Kd.C_below HR0_0.out HB.out)); (case side2 => exact HC0_0.out); rintro e w10 ⟨rfl, hb⟩; replace BK422 := nK BK422 hb; replace HB := nSC hb; try clear hb))
  go_ret
  exact ⟨sE, sC⟩
 ·replace c4 := Bool.eq_false_iff.mpr c4
  subst c4
  rw [if_neg (show ¬ (false = true) by decide)] at H
  obtain rfl := Option.some.inj H
  go_enter Tryd.func52, Tryd.ntmps52
  go_wp2_with (first | ((with_reducible refine gd 2 rfl ?_); refine bxE 2 #[.slice A0_0 l0_0.length c0_0, .int .i64 a0_1] 29 ?_; intro gb422 hg w11 hbox hb; have BK422 := Aside0.mk hbox; have GW422 := nGB hg; have GE422 := nGB hg; replace HB := nSB hb; clear hb hbox hg; have hcz12 := cb2 BK422) | ((with_reducible refine gt 16 rfl ?_); refine gL 16 6 Tryd.func16 #[.agg #[.slice A0_0 l0_0.length c0_0, .int .i64 a0_1]] ?_; (with_reducible refine (impl_GoodFs.calls k _ _ l0_0 a0_1 false _ ?side1 ?side2 A3.out).mono ?_); (case side1 => exact sD (Kd.C_below HR0_0.out HB.out)); (case side2 => exact HC0_0.out); rintro e w13 ⟨rfl, hb⟩; refine ⟨_, rfl, ?_⟩; replace BK422 := nK BK422 hb; replace HB := nSC hb; try clear hb))
  go_ret
  exact ⟨sE, sC⟩

end Go.Proofs.YteffcglgdfhkmaaDoor.PFs
