-- Written by a program of this session (wip/print2) out of the translation. Lean checks it.
import Derived.Test.YteffcglgdfhkmaaDoorPFsx0
import Derived.Test.YteffcglgdfhkmaaDoorPFsx7
import Derived.Test.YteffcglgdfhkmaaDoorPFsx1
import Derived.Test.YteffcglgdfhkmaaDoorPFsx8
import Derived.Test.YteffcglgdfhkmaaDoorPFsx12
import Derived.Test.YteffcglgdfhkmaaDoorPFsx14
import Derived.Test.YteffcglgdfhkmaaDoorPFsx15
import Derived.Test.YteffcglgdfhkmaaDoorPFsx16
namespace Go.Proofs.YteffcglgdfhkmaaDoor.PFs
open Go.RowKit Go.Proofs.YteffcglgdfhkmaaDoorW.PrintWords Go.Proofs.YteffcglgdfhkmaaDoorW.PrintLast Go.Proofs.YteffcglgdfhkmaaDoorW.PrintMore
attribute [local go_sem] max2_int min2_int max_two min_two max_three min_three max_four min_four   -- for this text's walks alone
set_option linter.unusedVariables false
set_option linter.unusedSimpArgs false

/-! ### impl_Fs_free: function 54 -/
def impl_Fs_free.f (k : Nat) (l0_0 : List (S53)) (a0_1 : Int) : Option (Int × Bool) := (impl_Node__impl_Fs_free_1.f k l0_0).bind fun t462 => (if t462 < 0 then (some ((l0_0.length : Int), decide ((l0_0.length : Int) < 40))) else (some (t462, decide (t462 < 40))))
theorem impl_Fs_free.mono : ∀ a0 a1 k, LeO (impl_Fs_free.f k a0 a1) (impl_Fs_free.f (k + 1) a0 a1) := by
 intro a0 a1 k
 unfold impl_Fs_free.f
 have m0 := @impl_Node__impl_Fs_free_1.mono
 exact mo
set_option maxHeartbeats 8000000 in
set_option maxRecDepth 100000 in
theorem impl_Fs_free.calls (k : Nat) (A0_0 : Option Addr) (c0_0 : Nat) (l0_0 : List (S53)) (a0_1 : Int) (r1 : Int) (r2 : Bool) (w : World) (hr0_0 : Kd.C k53 w A0_0 l0_0.length l0_0) (hc0_0 : l0_0.length ≤ c0_0) (h : impl_Fs_free.f k l0_0 a0_1 = some (r1, r2)) :
  Calls Tryd.prog 54 #[.agg #[.slice A0_0 l0_0.length c0_0, .int .i64 a0_1]] w fun e w' => e = .returned (.tuple #[.int .i64 r1, .bool r2]) ∧ Below w.heap.size w w' := by
 have hu29 := Tryd.underlying29
 have HR0_0 := Aside0.mk hr0_0
 have HC0_0 := Aside0.mk hc0_0
 clear hr0_0 hc0_0
 have HB := Aside0.mk (Below.refl w.heap.size w)
 have H : ((impl_Node__impl_Fs_free_1.f k l0_0).bind fun t462 => (if t462 < 0 then (some ((l0_0.length : Int), decide ((l0_0.length : Int) < 40))) else (some (t462, decide (t462 < 40))))) = some (r1, r2) := h
 clear h
 obtain ⟨t462, A20, H⟩ := Option.bind_eq_some_iff.mp H
 try dsimp only at H
 replace A20 := Aside0.mk A20; have A2 := A20; clear A20
 by_cases c3 : t462 < 0
 ·rw [if_pos c3] at H
  have c3b0 := decide_eq_true c3
  clear c3
  simp only [Option.some.injEq, Prod.mk.injEq] at H
  obtain ⟨rfl, rfl⟩ := H
  go_enter Tryd.func54, Tryd.ntmps54
  go_wp2_with (first | ((with_reducible refine gd 1 rfl ?_); refine bxE 1 #[.slice A0_0 l0_0.length c0_0, .int .i64 a0_1] 29 ?_; intro gb461 hg w4 hbox hb; have BK461 := Aside0.mk hbox; have GW461 := nGB hg; have GE461 := nGB hg; replace HB := nSB hb; clear hb hbox hg; have hcz5 := cb2 BK461) | ((with_reducible refine gt 85 rfl ?_); refine gL 85 7 Tryd.func85 #[.slice A0_0 l0_0.length c0_0, .func (.func 86) #[] #[]] ?_; (with_reducible refine (impl_Node__impl_Fs_free_1.calls k _ _ l0_0  t462 _ ?side1 ?side2 A2.out).mono ?_); (case side1 => exact sD (Kd.C_below HR0_0.out HB.out)); (case side2 => exact HC0_0.out); rintro e w6 ⟨rfl, hb⟩; refine ⟨_, rfl, ?_⟩; replace BK461 := nK BK461 hb; replace HB := nSC hb; try clear hb; have hcz7 := cb2 BK461))
  go_ret2
  exact ⟨sE, sC⟩
 ·rw [if_neg c3] at H
  have c3b0 := decide_eq_false c3
  clear c3
  simp only [Option.some.injEq, Prod.mk.injEq] at H
  obtain ⟨rfl, rfl⟩ := H
  go_enter Tryd.func54, Tryd.ntmps54
  go_wp2_with (first | ((with_reducible refine gd 1 rfl ?_); refine bxE 1 #[.slice A0_0 l0_0.length c0_0, .int .i64 a0_1] 29 ?_; intro gb461 hg w8 hbox hb; have BK461 := Aside0.mk hbox; have GW461 := nGB hg; have GE461 := nGB hg; replace HB := nSB hb; clear hb hbox hg; have hcz9 := cb2 BK461) | ((with_reducible refine gt 85 rfl ?_); refine gL 85 7 Tryd.func85 #[.slice A0_0 l0_0.length c0_0, .func (.func 86) #[] #[]] ?_; (with_reducible refine (impl_Node__impl_Fs_free_1.calls k _ _ l0_0  t462 _ ?side1 ?side2 A2.out).mono ?_); (case side1 => exact sD (Kd.C_below HR0_0.out HB.out)); (case side2 => exact HC0_0.out); rintro e w10 ⟨rfl, hb⟩; refine ⟨_, rfl, ?_⟩; replace BK461 := nK BK461 hb; replace HB := nSC hb; try clear hb))
  go_ret2
  exact ⟨sE, sC⟩

/-! ### impl_FreeNode: function 23 -/
def impl_FreeNode.f (k : Nat) (l0_0 : List (S53)) (a0_1 : Int) : Option (Int × Bool) := (impl_GoodFs.f k l0_0 a0_1).bind fun t464 => (if t464 = true then ((impl_Fs_free.f k l0_0 a0_1).bind fun bt465 => (if bt465.2 = true then (some (bt465.1, true)) else (some (0, false)))) else (some (0, false)))
theorem impl_FreeNode.mono : ∀ a0 a1 k, LeO (impl_FreeNode.f k a0 a1) (impl_FreeNode.f (k + 1) a0 a1) := by
 intro a0 a1 k
 unfold impl_FreeNode.f
 have m0 := @impl_Fs_free.mono
 have m1 := @impl_GoodFs.mono
 exact mo
set_option maxHeartbeats 8000000 in
set_option maxRecDepth 100000 in
theorem impl_FreeNode.calls (k : Nat) (A0_0 : Option Addr) (c0_0 : Nat) (l0_0 : List (S53)) (a0_1 : Int) (r1 : Int) (r2 : Bool) (w : World) (hr0_0 : Kd.C k53 w A0_0 l0_0.length l0_0) (hc0_0 : l0_0.length ≤ c0_0) (h : impl_FreeNode.f k l0_0 a0_1 = some (r1, r2)) :
  Calls Tryd.prog 23 #[.agg #[.slice A0_0 l0_0.length c0_0, .int .i64 a0_1]] w fun e w' => e = .returned (.tuple #[.int .i64 r1, .bool r2]) ∧ Below w.heap.size w w' := by
 have hu29 := Tryd.underlying29
 have HR0_0 := Aside0.mk hr0_0
 have HC0_0 := Aside0.mk hc0_0
 clear hr0_0 hc0_0
 have HB := Aside0.mk (Below.refl w.heap.size w)
 have H : ((impl_GoodFs.f k l0_0 a0_1).bind fun t464 => (if t464 = true then ((impl_Fs_free.f k l0_0 a0_1).bind fun bt465 => (if bt465.2 = true then (some (bt465.1, true)) else (some (0, false)))) else (some (0, false)))) = some (r1, r2) := h
 clear h
 obtain ⟨t464, A20, H⟩ := Option.bind_eq_some_iff.mp H
 try dsimp only at H
 replace A20 := Aside0.mk A20; have A2 := A20; clear A20
 by_cases c3 : t464 = true
 ·subst c3
  rw [if_pos rfl] at H
  obtain ⟨⟨t465, t466⟩, A40, H⟩ := Option.bind_eq_some_iff.mp H
  try dsimp only at H
  replace A40 := Aside0.mk A40; have A4 := A40; clear A40
  by_cases c5 : t466 = true
  ·subst c5
   rw [if_pos rfl] at H
   simp only [Option.some.injEq, Prod.mk.injEq] at H
   obtain ⟨rfl, rfl⟩ := H
   go_enter Tryd.func23, Tryd.ntmps23
   go_wp2_with (first | ((with_reducible refine gd 1 rfl ?_); refine bxE 1 #[.slice A0_0 l0_0.length c0_0, .int .i64 a0_1] 29 ?_; intro gb463 hg w6 hbox hb; have BK463 := Aside0.mk hbox; have GW463 := nGB hg; have GE463 := nGB hg; replace HB := nSB hb; clear hb hbox hg; have hcz7 := cb2 BK463) | ((with_reducible refine gt 16 rfl ?_); refine gL 16 7 Tryd.func16 #[.agg #[.slice A0_0 l0_0.length c0_0, .int .i64 a0_1]] ?_; (with_reducible refine (impl_GoodFs.calls k _ _ l0_0 a0_1 true _ ?side1 ?side2 A2.out).mono ?_); (case side1 => exact sD (Kd.C_below HR0_0.out HB.out)); (case side2 => exact HC0_0.out); rintro e w8 ⟨rfl, hb⟩; refine ⟨_, rfl, ?_⟩; replace BK463 := nK BK463 hb; replace HB := nSC hb; try clear hb; have hcz9 := cb2 BK463) | ((with_reducible refine gt 54 rfl ?_); refine gL 54 11 Tryd.func54 #[.agg #[.slice A0_0 l0_0.length c0_0, .int .i64 a0_1]] ?_; (with_reducible refine (impl_Fs_free.calls k _ _ l0_0 a0_1 t465 true _ ?side1 ?side2 A4.out).mono ?_); (case side1 => exact sD (Kd.C_below HR0_0.out HB.out)); (case side2 => exact HC0_0.out); rintro e w10 ⟨rfl, hb⟩; refine ⟨_, rfl, ?_⟩; replace BK463 := nK BK463 hb; replace HB := nSC hb; try clear hb))
   go_ret2
   exact ⟨sE, sC⟩
  ·replace c5 := Bool.eq_false_iff.mpr c5
   subst c5
   rw [if_neg (show ¬ (false = true) by decide)] at H
   simp only [Option.some.injEq, Prod.mk.injEq] at H
   obtain ⟨rfl, rfl⟩ := H
   go_enter Tryd.func23, Tryd.ntmps23
   go_wp2_with (first | ((with_reducible refine gd 1 rfl ?_); refine bxE 1 #[.slice A0_0 l0_0.length c0_0, .int .i64 a0_1] 29 ?_; intro gb463 hg w11 hbox hb; have BK463 := Aside0.mk hbox; have GW463 := nGB hg; have GE463 := nGB hg; replace HB := nSB hb; clear hb hbox hg; have hcz12 := cb2 BK463) | ((with_reducible refine gt 16 rfl ?_); refine gL 16 7 Tryd.func16 #[.agg #[.slice A0_0 l0_0.length c0_0, .int .i64 a0_1]] ?_; (with_reducible refine (impl_GoodFs.calls k _ _ l0_0 a0_1 true _ ?side1 ?side2 A2.out).mono ?_); (case side1 => exact sD (Kd.C_below HR0_0.out HB.out)); (case side2 => exact HC0_0.out); rintro e w13 ⟨rfl, hb⟩; refine ⟨_, rfl, ?_⟩; replace BK463 := nK BK463 hb; replace HB := nSC hb; try clear hb; have hcz14 := cb2 BK463) | ((with_reducible refine gt 54 rfl ?_); refine gL 54 11 Tryd.func54 #[.agg #[.slice A0_0 l0_0.length c0_0, .int .i64 a0_1]] ?_; (with_reducible refine (impl_Fs_free.calls k _ _ l0_0 a0_1 t465 false _ ?side1 ?side2 A4.out).mono ?_); (case side1 => exact sD (Kd.C_below HR0_0.out HB.out)); (case side2 => exact HC0_0.out); rintro e w15 ⟨rfl, hb⟩; refine ⟨_, rfl, ?_⟩; replace BK463 := nK BK463 hb; replace HB := nSC hb; try clear hb))
   go_ret2
   exact ⟨sE, sC⟩
 ·replace c3 := Bool.eq_false_iff.mpr c3
  subst c3
  rw [if_neg (show ¬ (false = true) by decide)] at H
  simp only [Option.some.injEq, Prod.mk.injEq] at H
  obtain ⟨rfl, rfl⟩ := H
  go_enter Tryd.func23, Tryd.ntmps23
  go_wp2_with (first | ((with_reducible refine gd 1 rfl ?_); refine bxE 1 #[.slice A0_0 l0_0.length c0_0, .int .i64 a0_1] 29 ?_; intro gb463 hg w16 hbox hb; have BK463 := Aside0.mk hbox; have GW463 := nGB hg; have GE463 := nGB hg; replace HB := nSB hb; clear hb hbox hg; have hcz17 := cb2 BK463) | ((with_reducible refine gt 16 rfl ?_); refine gL 16 7 Tryd.func16 #[.agg #[.slice A0_0 l0_0.length c0_0, .int .i64 a0_1]] ?_; (with_reducible refine (impl_GoodFs.calls k _ _ l0_0 a0_1 false _ ?side1 ?side2 A2.out).mono ?_); (case side1 => exact sD (Kd.C_below HR0_0.out HB.out)); (case side2 => exact HC0_0.out); rintro e w18 ⟨rfl, hb⟩; refine ⟨_, rfl, ?_⟩; replace BK463 := nK BK463 hb; replace HB := nSC hb; try clear hb))
  go_ret2
  exact ⟨sE, sC⟩

/-! ### laws_FnExactFreeNode: function 6 -/
def laws_FnExactFreeNode.j0 : Nat → Bool → List (S82) → Int → List (S53) → Int → Option (Bool)
 | 0, _, _, _, _, _ => none
 | k + 1, x34, x468000, x468001, x480000, x480001 => if x34 = true then (some false) else ((laws_toFs.f k x468000 x468001).bind fun bt482 => ((laws_eqFs.f k x480000 x480001 bt482.1 bt482.2).bind fun t486 => (if t486 = true then (some true) else (some false))))
def laws_FnExactFreeNode.f (k : Nat) (l0_0 : List (S82)) (a0_1 : Int) : Option (Bool) := (laws_szFs.f k l0_0 a0_1 1048576).bind fun t468 => (if t468 < 0 then (some true) else ((laws_toFs.f k l0_0 a0_1).bind fun bt469 => ((spec_FreeNode.f k bt469.1 bt469.2).bind fun bt473 => ((laws_toFs.f k l0_0 a0_1).bind fun bt475 => ((impl_FreeNode.f k bt475.1 bt475.2).bind fun bt480 => (if bt480.1 = bt473.1 then (laws_FnExactFreeNode.j0 k (bt480.2 != bt473.2) l0_0 a0_1 bt475.1 bt475.2) else (laws_FnExactFreeNode.j0 k true l0_0 a0_1 bt475.1 bt475.2)))))))
theorem laws_FnExactFreeNode.mono_l : ∀ k, (∀ y0 y1 y2 y3 y4, LeO (laws_FnExactFreeNode.j0 k y0 y1 y2 y3 y4) (laws_FnExactFreeNode.j0 (k + 1) y0 y1 y2 y3 y4))
 | 0 => fun _ _ _ _ _ r h => by simp [laws_FnExactFreeNode.j0] at h
 | k + 1 => by
  have ih0 := laws_FnExactFreeNode.mono_l k
  ·intro y0 y1 y2 y3 y4
   unfold laws_FnExactFreeNode.j0
   have m0 := @impl_FreeNode.mono
   have m1 := @laws_eqFs.mono
   have m2 := @laws_szFs.mono
   have m3 := @laws_toFs.mono
   have m4 := @spec_FreeNode.mono
   exact mo
theorem laws_FnExactFreeNode.mono : ∀ a0 a1 k, LeO (laws_FnExactFreeNode.f k a0 a1) (laws_FnExactFreeNode.f (k + 1) a0 a1) := by
 intro a0 a1 k
 have ih0 := laws_FnExactFreeNode.mono_l k
 unfold laws_FnExactFreeNode.f
 have m0 := @impl_FreeNode.mono
 have m1 := @laws_eqFs.mono
 have m2 := @laws_szFs.mono
 have m3 := @laws_toFs.mono
 have m4 := @spec_FreeNode.mono
 exact mo
set_option maxHeartbeats 8000000 in
set_option maxRecDepth 100000 in
theorem laws_FnExactFreeNode.calls (k : Nat) (A0_0 : Option Addr) (c0_0 : Nat) (l0_0 : List (S82)) (a0_1 : Int) (r : Bool) (w : World) (hr0_0 : Kd.C k82 w A0_0 l0_0.length l0_0) (hc0_0 : l0_0.length ≤ c0_0) (h : laws_FnExactFreeNode.f k l0_0 a0_1 = some r) :
  Calls Tryd.prog 6 #[.agg #[.slice A0_0 l0_0.length c0_0, .int .i64 a0_1]] w fun e w' => e = .returned (.bool r) ∧ Below w.heap.size w w' := by
 have hu24 := Tryd.underlying24
 have hu29 := Tryd.underlying29
 have HR0_0 := Aside0.mk hr0_0
 have HC0_0 := Aside0.mk hc0_0
 clear hr0_0 hc0_0
 have HB := Aside0.mk (Below.refl w.heap.size w)
 have H : ((laws_szFs.f k l0_0 a0_1 1048576).bind fun t468 => (if t468 < 0 then (some true) else ((laws_toFs.f k l0_0 a0_1).bind fun bt469 => ((spec_FreeNode.f k bt469.1 bt469.2).bind fun bt473 => ((laws_toFs.f k l0_0 a0_1).bind fun bt475 => ((impl_FreeNode.f k bt475.1 bt475.2).bind fun bt480 => (if bt480.1 = bt473.1 then (laws_FnExactFreeNode.j0 k (bt480.2 != bt473.2) l0_0 a0_1 bt475.1 bt475.2) else (laws_FnExactFreeNode.j0 k true l0_0 a0_1 bt475.1 bt475.2)))))))) = some r := h
 clear h
 obtain ⟨t468, A20, H⟩ := Option.bind_eq_some_iff.mp H
 try dsimp only at H
 replace A20 := Aside0.mk A20; have A2 := A20; clear A20
 by_cases c3 : t468 < 0
 ·rw [if_pos c3] at H
  have c3b0 := decide_eq_true c3
  clear c3
  obtain rfl := Option.some.inj H
  go_enter Tryd.func6, Tryd.ntmps6
  go_wp2_with (first | ((with_reducible refine gd 1 rfl ?_); refine bxE 1 #[.slice A0_0 l0_0.length c0_0, .int .i64 a0_1] 24 ?_; intro gb467 hg w4 hbox hb; have BK467 := Aside0.mk hbox; have GW467 := nGB hg; have GE467 := nGB hg; replace HB := nSB hb; clear hb hbox hg; have hcz5 := cb2 BK467) | ((with_reducible refine gt 13 rfl ?_); refine gL 13 11 Tryd.func13 #[.agg #[.slice A0_0 l0_0.length c0_0, .int .i64 a0_1], .int .i64 1048576] ?_; (with_reducible refine (laws_szFs.calls k _ _ l0_0 a0_1 1048576 t468 _ ?side1 ?side2 A2.out).mono ?_); (case side1 => exact sD (Kd.C_below HR0_0.out HB.out)); (case side2 => exact HC0_0.out); rintro e w6 ⟨rfl, hb⟩; refine ⟨_, rfl, ?_⟩; replace BK467 := nK BK467 hb; replace HB := nSC hb; try clear hb))
  go_ret
  exact ⟨sE, sC⟩
 ·rw [if_neg c3] at H
  have c3b0 := decide_eq_false c3
  clear c3
  obtain ⟨⟨t469, t472⟩, A70, H⟩ := Option.bind_eq_some_iff.mp H
  try dsimp only at H
  replace A70 := Aside0.mk A70; have A7 := A70; clear A70
  obtain ⟨⟨t473, t474⟩, A80, H⟩ := Option.bind_eq_some_iff.mp H
  try dsimp only at H
  replace A80 := Aside0.mk A80; have A8 := A80; clear A80
  obtain ⟨⟨t475, t478⟩, A90, H⟩ := Option.bind_eq_some_iff.mp H
  try dsimp only at H
  replace A90 := Aside0.mk A90; have A9 := A90; clear A90
  obtain ⟨⟨t480, t481⟩, A100, H⟩ := Option.bind_eq_some_iff.mp H
  try dsimp only at H
  replace A100 := Aside0.mk A100; have A10 := A100; clear A100
  have HC11 := Aside0.mk H
  clear H
  go_enter Tryd.func6, Tryd.ntmps6
  go_upto_region 8 with (first | ((with_reducible refine gd 1 rfl ?_); refine bxE 1 #[.slice A0_0 l0_0.length c0_0, .int .i64 a0_1] 24 ?_; intro gb467 hg w12 hbox hb; have BK467 := Aside0.mk hbox; have GW467 := nGB hg; have GE467 := nGB hg; replace HB := nSB hb; clear hb hbox hg; have hcz13 := cb2 BK467) | ((with_reducible refine gt 13 rfl ?_); refine gL 13 11 Tryd.func13 #[.agg #[.slice A0_0 l0_0.length c0_0, .int .i64 a0_1], .int .i64 1048576] ?_; (with_reducible refine (laws_szFs.calls k _ _ l0_0 a0_1 1048576 t468 _ ?side1 ?side2 A2.out).mono ?_); (case side1 => exact sD (Kd.C_below HR0_0.out HB.out)); (case side2 => exact HC0_0.out); rintro e w14 ⟨rfl, hb⟩; refine ⟨_, rfl, ?_⟩; replace BK467 := nK BK467 hb; replace HB := nSC hb; try clear hb; have hcz15 := cb2 BK467) | ((with_reducible refine gt 15 rfl ?_); refine gL 15 16 Tryd.func15 #[.agg #[.slice A0_0 l0_0.length c0_0, .int .i64 a0_1]] ?_; (with_reducible refine (laws_toFs.calls k _ _ l0_0 a0_1 t469 t472 _ ?side1 ?side2 A7.out).mono ?_); (case side1 => exact sD (Kd.C_below HR0_0.out HB.out)); (case side2 => exact HC0_0.out); rintro e w16 ⟨v470, rfl, ho0, hb⟩; refine ⟨_, rfl, ?_⟩; have HO471 := Aside0.mk (Kd.S_lower ho0 (below_size sC)); replace BK467 := nK BK467 hb; replace HB := nSC hb; try clear hb; (try clear ho0); obtain ⟨Ao17, co17, eo17⟩ := Kd.S_slice HO471.out; subst eo17) | ((with_reducible refine gt 22 rfl ?_); refine gL 22 17 Tryd.func22 #[.agg #[.slice Ao17 t469.length co17, .int .i64 t472]] ?_; (with_reducible refine (spec_FreeNode.calls k _ _ t469 t472 t473 t474 _ ?side1 ?side2 A8.out).mono ?_); (case side1 => exact sD (Kd.S_reads' HO471.out).2.2); (case side2 => exact (Kd.S_reads' HO471.out).2.1); rintro e w18 ⟨rfl, hb⟩; refine ⟨_, rfl, ?_⟩; replace HO471 := nS HO471 hb; replace BK467 := nK BK467 hb; replace HB := nSC hb; try clear hb; have hcz19 := cb2 BK467) | ((with_reducible refine gt 15 rfl ?_); refine gL 15 21 Tryd.func15 #[.agg #[.slice A0_0 l0_0.length c0_0, .int .i64 a0_1]] ?_; (with_reducible refine (laws_toFs.calls k _ _ l0_0 a0_1 t475 t478 _ ?side1 ?side2 A9.out).mono ?_); (case side1 => exact sD (Kd.C_below HR0_0.out HB.out)); (case side2 => exact HC0_0.out); rintro e w20 ⟨v476, rfl, ho0, hb⟩; refine ⟨_, rfl, ?_⟩; have HO477 := Aside0.mk (Kd.S_lower (Kd.S_new' ho0 (Kd.S_lt (by (with_reducible repeat (first | apply Kd.S_alloc | apply Kd.S_drewN | apply Kd.S_drew)); exact HO471.out))) (below_size sC)); replace HO471 := Aside0.mk (Kd.S_elder' (by (with_reducible repeat (first | apply Kd.S_alloc | apply Kd.S_drewN | apply Kd.S_drew)); exact HO471.out) (Kd.S_base ho0) hb); replace BK467 := nK BK467 hb; replace HB := nSC hb; try clear hb; (try clear ho0)) | ((with_reducible refine gd 6 rfl ?_); refine bxE 6 #[.slice none 0 0, .int .i64 0] 29 ?_; intro gb479 hg w21 hbox hb; replace HO471 := nS HO471 hb; replace HO477 := nS HO477 hb; have BK479 := Aside0.mk hbox; have GW479 := nGC hg; have GE479 := nGC hg; replace HB := nSC hb; have NB467_479 := nL BK467 hg; have NB479_467 := nH BK467 hg; replace BK467 := nK BK467 hb; clear hb hbox hg; obtain ⟨Ao22, co22, eo22⟩ := Kd.S_slice HO477.out; subst eo22; have hnb23 := NB479_467.out; have hnc23 := NB467_479.out; have hcz24 := cb2 BK479) | ((with_reducible refine gt 23 rfl ?_); refine gL 23 24 Tryd.func23 #[.agg #[.slice Ao22 t475.length co22, .int .i64 t478]] ?_; (with_reducible refine (impl_FreeNode.calls k _ _ t475 t478 t480 t481 _ ?side1 ?side2 A10.out).mono ?_); (case side1 => refine (Kd.S_reads' (e := 53) (base := w.heap.size) (ok := fun k_ => (True ∧ some k_ ≠ (.slice Ao17 t469.length co17 : Value).ownBlock)) (n := t475.length) (c := co22) ?_).2.2; exact (by (with_reducible repeat (first | apply Kd.S_alloc | apply Kd.S_drewN | apply Kd.S_drew)); exact (Kd.S_mono (Kd.S_far (p := ⟨gb479, 1, none⟩) (Kd.S_far (p := ⟨gb479, 0, none⟩) (Kd.S_types HO477.out BK479.out (by decide)) (fun _ hk => hk.2) (.slice Ao22 t475.length co22)) (fun _ hk => hk.2) (.int .i64 t478)) (fun _ h_ => h_.1)))); (case side2 => exact (Kd.S_reads' HO477.out).2.1); rintro e w25 ⟨rfl, hb⟩; refine ⟨_, rfl, ?_⟩; replace HO471 := nSf HO471 BK479 hb; replace HO477 := nSf HO477 BK479 hb; replace BK467 := nF BK467 hb; replace BK479 := nX #[.slice Ao22 t475.length co22, .int .i64 t478] BK479 hb; replace HB := nSC hb; try clear hb))
  (try simp only [Act.put, List.setIfInBounds_toArray, List.set_cons_zero, List.set_cons_succ])
  go_cut [34] (fun v34 wc => ∃ (kq : Nat) (x34_10 : Bool), v34 = .bool x34_10 ∧ Aside0 (laws_FnExactFreeNode.j0 kq x34_10 l0_0 a0_1 t475 t478 = some r) ∧ Aside0 (kq ≤ k) ∧ Aside0 (Kd.S k53 53 wc w.heap.size (fun _ => True) (.slice Ao22 t475.length co22) t475) ∧ Aside0 (wc.heap[gb467]? = some (.cells #[(.slice A0_0 l0_0.length c0_0), .int .i64 a0_1] 24 (0, 0))) ∧ Aside0 (wc.heap[gb479]? = some (.cells #[(.slice Ao22 t475.length co22), .int .i64 t478] 29 (0, 0))) ∧ Aside0 (Below w.heap.size w wc))
  case first =>
   have H := HC11.out
   clear HC11
   by_cases c26 : t480 = t473
   ·rw [if_pos c26] at H
    have c26b0 := beq_iff_eq.mpr c26
    have c26b1 := bne_eq_false_iff_eq.mpr c26
    clear c26
    (first | rw [c26b0] | (simp only [i64_w, i32_w]; rw [c26b0]) | skip)
    have H' := Aside0.mk H
    clear H
    go_wp2
    go_meet
    case rel => exact ⟨_, ((t481 != t474)), sR, H', ⟨by first | omega | exact Nat.le_refl _⟩, ⟨by (with_reducible repeat (first | apply Kd.S_alloc | apply Kd.S_drewN | apply Kd.S_drew)); exact Kd.S_mono HO477.out (fun _ hk => trivial)⟩, ⟨sK BK467⟩, ⟨sK BK479⟩, ⟨sC⟩⟩
   ·rw [if_neg c26] at H
    have c26b0 := beq_eq_false_iff_ne.mpr c26
    have c26b1 := bne_iff_ne.mpr c26
    (first | rw [c26b0] | (simp only [i64_w, i32_w]; rw [c26b0]) | skip)
    have H' := Aside0.mk H
    clear H
    go_wp2
    go_meet
    case rel => exact ⟨_, (true), sR, H', ⟨by first | omega | exact Nat.le_refl _⟩, ⟨by (with_reducible repeat (first | apply Kd.S_alloc | apply Kd.S_drewN | apply Kd.S_drew)); exact Kd.S_mono HO477.out (fun _ hk => trivial)⟩, ⟨sK BK467⟩, ⟨sK BK479⟩, ⟨sC⟩⟩
  case rest =>
   clear HC11
   try clear c1
   try clear c2
   try clear p2
   try clear c3
   try clear c3b0
   try clear c6
   try clear c13
   try clear c15
   try clear c22
   try clear c23
   try clear c26
   try clear c26b0
   try clear c26b1
   try clear hcz13
   try clear hcz15
   try clear hcz19
   try clear hcz24
   try clear hcz5
   obtain ⟨kq, x34_10, rfl, HA, HJ10, HO_480000, BK467, BK479, HB⟩ := hcut
   cases kq with
   | zero => exact absurd HA.out (by simp [laws_FnExactFreeNode.j0])
   | succ kj10 =>
    have H := HA.out
    clear HA
    simp only [laws_FnExactFreeNode.j0] at H
    by_cases c27 : x34_10 = true
    ·subst c27
     rw [if_pos rfl] at H
     obtain rfl := Option.some.inj H
     go_wp2
     go_ret
     exact ⟨sE, sC⟩
    ·replace c27 := Bool.eq_false_iff.mpr c27
     subst c27
     rw [if_neg (show ¬ (false = true) by decide)] at H
     obtain ⟨⟨t482, t485⟩, A280, H⟩ := Option.bind_eq_some_iff.mp H
     try dsimp only at H
     replace A280 := Aside0.mk A280; have A28 := A280; clear A280
     obtain ⟨t486, A290, H⟩ := Option.bind_eq_some_iff.mp H
     try dsimp only at H
     replace A290 := Aside0.mk A290; have A29 := A290; clear A290
     by_cases c30 : t486 = true
     ·subst c30
      rw [if_pos rfl] at H
      obtain rfl := Option.some.inj H
      try go_wp2
      have n0_ := Aside0.mk (Kd.S_drew HO_480000.out)
      have n1_ := Aside0.mk (blk_drew BK467.out)
      have n2_ := Aside0.mk (blk_drew BK479.out)
      have n3_ := Aside0.mk (below_drew1 HB.out)
      clear HO_480000
      clear BK467
      clear BK479
      clear HB
      have HO_480000 := n0_
      have BK467 := n1_
      have BK479 := n2_
      have HB := n3_
      clear n0_ n1_ n2_ n3_
      refine st4 5 [] (cz0 BK479) (cz1 BK479) (cz0 BK467) (cz1 BK467) (fun hHeld => ?_)
      generalize wc.drew = w31 at HO_480000 BK467 BK479 HB hHeld ⊢
      refine tk4 0 35 ?_
      refine tk4 1 36 ?_
      refine on 2 37 (fun K hK => ?_)
      refine gC Tryd.func15 #[.agg #[.slice A0_0 l0_0.length c0_0, .int .i64 a0_1]] ?_
      with_reducible refine (laws_toFs.calls kj10 _ _ l0_0 a0_1 t482 t485 _ ?side1 ?side2 A28.out).mono ?_
      (case side1 => exact sD (Kd.C_below HR0_0.out HB.out))
      (case side2 => exact HC0_0.out)
      rintro e w32 ⟨v483, rfl, ho0, hb⟩
      refine ⟨_, rfl, ?_⟩
      have n0_ := Aside0.mk (Kd.S_elder' (by (with_reducible repeat (first | apply Kd.S_alloc | apply Kd.S_drewN | apply Kd.S_drew)); exact HO_480000.out) (Kd.S_base ho0) hb)
      have n1_ := Aside0.mk (Kd.S_lower (Kd.S_new' ho0 (Kd.S_lt (by (with_reducible repeat (first | apply Kd.S_alloc | apply Kd.S_drewN | apply Kd.S_drew)); exact HO_480000.out))) (below_size sC))
      have n2_ := nK BK467 hb
      have n3_ := nK BK479 hb
      have n4_ := nSC hb
      clear HO_480000
      clear BK467
      clear BK479
      clear HB
      have HO_480000 := n0_
      have HO484 := n1_
      have BK467 := n2_
      have BK479 := n3_
      have HB := n4_
      clear n0_ n1_ n2_ n3_ n4_
      (try clear hb)
      (try clear hb2)
      (try clear hk)
      (try clear hi)
      (try clear ho0)
      obtain ⟨Ao33, co33, eo33⟩ := Kd.S_slice HO484.out
      (first | subst eo33 | (injection eo33 with f1_ f2_ f3_; have f4_ := f1_.symm; have f5_ := f3_.symm; clear f1_ f2_ f3_; subst f4_; subst f5_))
      refine hK.out _ _ ⟨cz0 BK479, cz1 BK479, cz0 BK467, cz1 BK467⟩ (fun hHeld => ?_)
      clear hK K
      refine nm ?_
      refine on 3 38 (fun K hK => ?_)
      refine gC Tryd.func17 #[.agg #[.slice Ao22 t475.length co22, .int .i64 t478], .agg #[.slice Ao33 t482.length co33, .int .i64 t485]] ?_
      with_reducible refine (laws_eqFs.calls kj10 _ _ t475 t478 _ _ t482 t485 true _ ?side1 ?side2 ?side3 ?side4 A29.out).mono ?_
      (case side1 => exact sD (Kd.S_reads' HO_480000.out).2.2)
      (case side2 => exact (Kd.S_reads' HO_480000.out).2.1)
      (case side3 => exact sD (Kd.S_reads' HO484.out).2.2)
      (case side4 => exact (Kd.S_reads' HO484.out).2.1)
      rintro e w34 ⟨rfl, hb⟩
      refine ⟨_, rfl, ?_⟩
      have n0_ := nS HO_480000 hb
      have n1_ := nS HO484 hb
      have n2_ := nK BK467 hb
      have n3_ := nK BK479 hb
      have n4_ := nSC hb
      clear HO_480000
      clear HO484
      clear BK467
      clear BK479
      clear HB
      have HO_480000 := n0_
      have HO484 := n1_
      have BK467 := n2_
      have BK479 := n3_
      have HB := n4_
      clear n0_ n1_ n2_ n3_ n4_
      (try clear hb)
      (try clear hb2)
      (try clear hk)
      (try clear hi)
      refine hK.out _ _ ⟨cz0 BK479, cz1 BK479, cz0 BK467, cz1 BK467⟩ (fun hHeld => ?_)
      clear hK K
      refine nm ?_
      refine pu 4 39 ?_
      refine dn ?_
      try go_wp2
      go_ret
      exact ⟨sE, sC⟩
     ·replace c30 := Bool.eq_false_iff.mpr c30
      subst c30
      rw [if_neg (show ¬ (false = true) by decide)] at H
      obtain rfl := Option.some.inj H
      try go_wp2
      have n0_ := Aside0.mk (Kd.S_drew HO_480000.out)
      have n1_ := Aside0.mk (blk_drew BK467.out)
      have n2_ := Aside0.mk (blk_drew BK479.out)
      have n3_ := Aside0.mk (below_drew1 HB.out)
      clear HO_480000
      clear BK467
      clear BK479
      clear HB
      have HO_480000 := n0_
      have BK467 := n1_
      have BK479 := n2_
      have HB := n3_
      clear n0_ n1_ n2_ n3_
      refine st4 5 [] (cz0 BK479) (cz1 BK479) (cz0 BK467) (cz1 BK467) (fun hHeld => ?_)
      generalize wc.drew = w35 at HO_480000 BK467 BK479 HB hHeld ⊢
      refine tk4 0 35 ?_
      refine tk4 1 36 ?_
      refine on 2 37 (fun K hK => ?_)
      refine gC Tryd.func15 #[.agg #[.slice A0_0 l0_0.length c0_0, .int .i64 a0_1]] ?_
      with_reducible refine (laws_toFs.calls kj10 _ _ l0_0 a0_1 t482 t485 _ ?side1 ?side2 A28.out).mono ?_
      (case side1 => exact sD (Kd.C_below HR0_0.out HB.out))
      (case side2 => exact HC0_0.out)
      rintro e w36 ⟨v483, rfl, ho0, hb⟩
      refine ⟨_, rfl, ?_⟩
      have n0_ := Aside0.mk (Kd.S_elder' (by (with_reducible repeat (first | apply Kd.S_alloc | apply Kd.S_drewN | apply Kd.S_drew)); exact HO_480000.out) (Kd.S_base ho0) hb)
      have n1_ := Aside0.mk (Kd.S_lower (Kd.S_new' ho0 (Kd.S_lt (by (with_reducible repeat (first | apply Kd.S_alloc | apply Kd.S_drewN | apply Kd.S_drew)); exact HO_480000.out))) (below_size sC))
      have n2_ := nK BK467 hb
      have n3_ := nK BK479 hb
      have n4_ := nSC hb
      clear HO_480000
      clear BK467
      clear BK479
      clear HB
      have HO_480000 := n0_
      have HO484 := n1_
      have BK467 := n2_
      have BK479 := n3_
      have HB := n4_
      clear n0_ n1_ n2_ n3_ n4_
      (try clear hb)
      (try clear hb2)
      (try clear hk)
      (try clear hi)
      (try clear ho0)
      obtain ⟨Ao37, co37, eo37⟩ := Kd.S_slice HO484.out
      (first | subst eo37 | (injection eo37 with f1_ f2_ f3_; have f4_ := f1_.symm; have f5_ := f3_.symm; clear f1_ f2_ f3_; subst f4_; subst f5_))
      refine hK.out _ _ ⟨cz0 BK479, cz1 BK479, cz0 BK467, cz1 BK467⟩ (fun hHeld => ?_)
      clear hK K
      refine nm ?_
      refine on 3 38 (fun K hK => ?_)
      refine gC Tryd.func17 #[.agg #[.slice Ao22 t475.length co22, .int .i64 t478], .agg #[.slice Ao37 t482.length co37, .int .i64 t485]] ?_
      with_reducible refine (laws_eqFs.calls kj10 _ _ t475 t478 _ _ t482 t485 false _ ?side1 ?side2 ?side3 ?side4 A29.out).mono ?_
      (case side1 => exact sD (Kd.S_reads' HO_480000.out).2.2)
      (case side2 => exact (Kd.S_reads' HO_480000.out).2.1)
      (case side3 => exact sD (Kd.S_reads' HO484.out).2.2)
      (case side4 => exact (Kd.S_reads' HO484.out).2.1)
      rintro e w38 ⟨rfl, hb⟩
      refine ⟨_, rfl, ?_⟩
      have n0_ := nS HO_480000 hb
      have n1_ := nS HO484 hb
      have n2_ := nK BK467 hb
      have n3_ := nK BK479 hb
      have n4_ := nSC hb
      clear HO_480000
      clear HO484
      clear BK467
      clear BK479
      clear HB
      have HO_480000 := n0_
      have HO484 := n1_
      have BK467 := n2_
      have BK479 := n3_
      have HB := n4_
      clear n0_ n1_ n2_ n3_ n4_
      (try clear hb)
      (try clear hb2)
      (try clear hk)
      (try clear hi)
      refine hK.out _ _ ⟨cz0 BK479, cz1 BK479, cz0 BK467, cz1 BK467⟩ (fun hHeld => ?_)
      clear hK K
      refine nm ?_
      refine pu 4 39 ?_
      refine dn ?_
      try go_wp2
      go_ret
      exact ⟨sE, sC⟩

/-- The one pure statement of laws_FnExactFreeNode. -/
def laws_FnExactFreeNode.Pure : Prop := ∀ (l0_0 : List (S82)) (a0_1 : Int), (l0_0.length ≤ 9223372036854775807 ∧ ∀ e7_ ∈ l0_0, ((Lit.int .i64 e7_.f0).wf = true ∧ ((Lit.int .i64 e7_.f1).wf = true ∧ ((Lit.int .i64 e7_.f2).wf = true ∧ ((Lit.int .i64 e7_.f3).wf = true ∧ ((Lit.int .i64 e7_.f4).wf = true ∧ (e7_.f5.size ≤ 9223372036854775807 ∧ (e7_.f6.length ≤ 9223372036854775807 ∧ ∀ e8_ ∈ e7_.f6, (e8_.f0.size ≤ 9223372036854775807 ∧ (Lit.int .i64 e8_.f1).wf = true))))))))) → (Lit.int .i64 a0_1).wf = true → ∃ k, laws_FnExactFreeNode.f k l0_0 a0_1 = some true

/-! ### spec_l3IsDir: function 55 -/
def spec_l3IsDir.f (l0_0 : List (S53)) (a0_1 : Int) (a1 : Int) : Option (Bool) := (spec_l3Is.f l0_0 a0_1 a1).bind fun t488 => (if t488 = true then (if 0 ≤ a1 then (if a1 < (l0_0.length : Int) then (some (((rd_T53 l0_0 a1).f0) == 2)) else (none)) else (none)) else (some false))
set_option maxHeartbeats 8000000 in
set_option maxRecDepth 100000 in
theorem spec_l3IsDir.calls (A0_0 : Option Addr) (c0_0 : Nat) (l0_0 : List (S53)) (a0_1 : Int) (a1 : Int) (r : Bool) (w : World) (hr0_0 : Kd.C k53 w A0_0 l0_0.length l0_0) (hc0_0 : l0_0.length ≤ c0_0) (h : spec_l3IsDir.f l0_0 a0_1 a1 = some r) :
  Calls Tryd.prog 55 #[.agg #[.slice A0_0 l0_0.length c0_0, .int .i64 a0_1], .int .i64 a1] w fun e w' => e = .returned (.bool r) ∧ Below w.heap.size w w' := by
 have hu29 := Tryd.underlying29
 have HR0_0 := Aside0.mk hr0_0
 have HC0_0 := Aside0.mk hc0_0
 clear hr0_0 hc0_0
 have HB := Aside0.mk (Below.refl w.heap.size w)
 have H : ((spec_l3Is.f l0_0 a0_1 a1).bind fun t488 => (if t488 = true then (if 0 ≤ a1 then (if a1 < (l0_0.length : Int) then (some (((rd_T53 l0_0 a1).f0) == 2)) else (none)) else (none)) else (some false))) = some r := h
 clear h
 obtain ⟨t488, A30, H⟩ := Option.bind_eq_some_iff.mp H
 try dsimp only at H
 replace A30 := Aside0.mk A30; have A3 := A30; clear A30
 by_cases c4 : t488 = true
 ·subst c4
  rw [if_pos rfl] at H
  by_cases c5 : 0 ≤ a1
  ·rw [if_pos c5] at H
   have c5b0 := decide_eq_true c5
   clear c5
   by_cases c6 : a1 < (l0_0.length : Int)
   ·rw [if_pos c6] at H
    have c6b0 := decide_eq_true c6
    clear c6
    obtain rfl := Option.some.inj H
    go_enter Tryd.func55, Tryd.ntmps55
    go_wp2_with (first | ((with_reducible refine gd 2 rfl ?_); refine bxE 2 #[.slice A0_0 l0_0.length c0_0, .int .i64 a0_1] 29 ?_; intro gb487 hg w7 hbox hb; have BK487 := Aside0.mk hbox; have GW487 := nGB hg; have GE487 := nGB hg; replace HB := nSB hb; clear hb hbox hg; have hcz8 := cb2 BK487) | ((with_reducible refine gt 50 rfl ?_); refine gL 50 7 Tryd.func50 #[.agg #[.slice A0_0 l0_0.length c0_0, .int .i64 a0_1], .int .i64 a1] ?_; (with_reducible refine (spec_l3Is.calls _ _ l0_0 a0_1 a1 true _ ?side1 ?side2 A3.out).mono ?_); (case side1 => exact sD (Kd.C_below HR0_0.out HB.out)); (case side2 => exact HC0_0.out); rintro e w9 ⟨rfl, hb⟩; refine ⟨_, rfl, ?_⟩; replace BK487 := nK BK487 hb; replace HB := nSC hb; try clear hb; have hcz10 := cb2 BK487; have p489 : 0 ≤ (a1 : Int) := sO; have q489 : a1 < (l0_0.length : Int) := sO; obtain ⟨ad489, A489_6, c489_6, e489, hx489_0, hx489_1, hx489_2, hx489_3, hx489_4, hx489_5, hx489_6, hl489_6, hi489_6⟩ := at_T53 HR0_0.out a1 p489 q489; cases e489; replace hx489_0 := hB HB hx489_0; replace hx489_1 := hB HB hx489_1; replace hx489_2 := hB HB hx489_2; replace hx489_3 := hB HB hx489_3; replace hx489_4 := hB HB hx489_4; replace hx489_5 := hB HB hx489_5; replace hx489_6 := hB HB hx489_6; have HR489_6 := Aside0.mk hi489_6; have HC489_6 := Aside0.mk hl489_6; clear hi489_6 hl489_6; replace p489 := eq_true p489; replace q489 := eq_true q489))
    go_ret
    exact ⟨sE, sC⟩
   ·rw [if_neg c6] at H
    exact absurd H (by simp)
  ·rw [if_neg c5] at H
   exact absurd H (by simp)
 ·replace c4 := Bool.eq_false_iff.mpr c4
  subst c4
  rw [if_neg (show ¬ (false = true) by decide)] at H
  obtain rfl := Option.some.inj H
  go_enter Tryd.func55, Tryd.ntmps55
  go_wp2_with (first | ((with_reducible refine gd 2 rfl ?_); refine bxE 2 #[.slice A0_0 l0_0.length c0_0, .int .i64 a0_1] 29 ?_; intro gb487 hg w11 hbox hb; have BK487 := Aside0.mk hbox; have GW487 := nGB hg; have GE487 := nGB hg; replace HB := nSB hb; clear hb hbox hg; have hcz12 := cb2 BK487) | ((with_reducible refine gt 50 rfl ?_); refine gL 50 7 Tryd.func50 #[.agg #[.slice A0_0 l0_0.length c0_0, .int .i64 a0_1], .int .i64 a1] ?_; (with_reducible refine (spec_l3Is.calls _ _ l0_0 a0_1 a1 false _ ?side1 ?side2 A3.out).mono ?_); (case side1 => exact sD (Kd.C_below HR0_0.out HB.out)); (case side2 => exact HC0_0.out); rintro e w13 ⟨rfl, hb⟩; refine ⟨_, rfl, ?_⟩; replace BK487 := nK BK487 hb; replace HB := nSC hb; try clear hb))
  go_ret
  exact ⟨sE, sC⟩

/-! ### spec_l3Parent: function 56 -/
mutual
def spec_l3Parent.l0 : Nat → Int → List (S53) → Int → Int → Option (Int)
 | 0, _, _, _, _ => none
 | k + 1, x1, x10, x11, x12 => if x12 < x11 then (if 0 ≤ x12 then (if x12 < (x10.length : Int) then (spec_l3Parent.l1 k x1 x12 x10 x11 x12 ((rd_T53 x10 x12).f6) (((rd_T53 x10 x12).f6).length : Int) 0) else (none)) else (none)) else (some 0)
def spec_l3Parent.l1 : Nat → Int → Int → List (S53) → Int → Int → List (S60) → Int → Int → Option (Int)
 | 0, _, _, _, _, _, _, _, _ => none
 | k + 1, x1, x5, x10, x11, x12, x18, x19, x20 => if x20 < x19 then (if 0 ≤ x20 then (if x20 < (x18.length : Int) then (if ((rd_T60 x18 x20).f1) = x1 then (some x5) else (spec_l3Parent.l1 k x1 x5 x10 x11 x12 x18 x19 (wrap64 (x20 + 1)))) else (none)) else (none)) else (spec_l3Parent.l0 k x1 x10 x11 (wrap64 (x12 + 1)))
end
def spec_l3Parent.f (k : Nat) (l0_0 : List (S53)) (a0_1 : Int) (a1 : Int) : Option (Int) := spec_l3Parent.l0 k a1 l0_0 (l0_0.length : Int) 0
theorem spec_l3Parent.mono_l : ∀ k, (∀ y0 y1 y2 y3, LeO (spec_l3Parent.l0 k y0 y1 y2 y3) (spec_l3Parent.l0 (k + 1) y0 y1 y2 y3)) ∧ (∀ y0 y1 y2 y3 y4 y5 y6 y7, LeO (spec_l3Parent.l1 k y0 y1 y2 y3 y4 y5 y6 y7) (spec_l3Parent.l1 (k + 1) y0 y1 y2 y3 y4 y5 y6 y7))
 | 0 => ⟨fun _ _ _ _ r h => by simp [spec_l3Parent.l0] at h, fun _ _ _ _ _ _ _ _ r h => by simp [spec_l3Parent.l1] at h⟩
 | k + 1 => by
  obtain ⟨ih0, ih1⟩ := spec_l3Parent.mono_l k
  refine ⟨?_, ?_⟩
  ·intro y0 y1 y2 y3
   unfold spec_l3Parent.l0
   exact mo
  ·intro y0 y1 y2 y3 y4 y5 y6 y7
   unfold spec_l3Parent.l1
   exact mo
theorem spec_l3Parent.mono : ∀ a0 a1 a2 k, LeO (spec_l3Parent.f k a0 a1 a2) (spec_l3Parent.f (k + 1) a0 a1 a2) := by
 intro a0 a1 a2 k
 obtain ⟨ih0, ih1⟩ := spec_l3Parent.mono_l k
 unfold spec_l3Parent.f
 exact mo
set_option maxHeartbeats 8000000 in
set_option maxRecDepth 100000 in
theorem spec_l3Parent.calls (k : Nat) (A0_0 : Option Addr) (c0_0 : Nat) (l0_0 : List (S53)) (a0_1 : Int) (a1 : Int) (r : Int) (w : World) (hr0_0 : Kd.C k53 w A0_0 l0_0.length l0_0) (hc0_0 : l0_0.length ≤ c0_0) (h : spec_l3Parent.f k l0_0 a0_1 a1 = some r) :
  Calls Tryd.prog 56 #[.agg #[.slice A0_0 l0_0.length c0_0, .int .i64 a0_1], .int .i64 a1] w fun e w' => e = .returned (.int .i64 r) ∧ Below w.heap.size w w' := by
 have hu29 := Tryd.underlying29
 have hu53 := Tryd.underlying53
 have hu60 := Tryd.underlying60
 have HR0_0 := Aside0.mk hr0_0
 have HC0_0 := Aside0.mk hc0_0
 clear hr0_0 hc0_0
 have HB := Aside0.mk (Below.refl w.heap.size w)
 have H : (spec_l3Parent.l0 k a1 l0_0 (l0_0.length : Int) 0) = some r := h
 clear h
 have H' := Aside0.mk H
 clear H
 go_enter Tryd.func56, Tryd.ntmps56
 go_wp2_with (first | ((with_reducible refine gd 2 rfl ?_); refine bxE 2 #[.slice A0_0 l0_0.length c0_0, .int .i64 a0_1] 29 ?_; intro gb490 hg w3 hbox hb; have BK490 := Aside0.mk hbox; have GW490 := nGB hg; have GE490 := nGB hg; replace HB := nSB hb; clear hb hbox hg; have hcz4 := cb2 BK490))
 go_loopg [12] k (fun kq v12 w' => ∃ (x12_1 : Int), v12 = .int .i64 x12_1 ∧ Aside0 (spec_l3Parent.l0 kq a1 l0_0 (l0_0.length : Int) x12_1 = some r) ∧ Aside0 (kq ≤ k) ∧ Aside0 (w'.heap[gb490]? = some (.cells #[(.slice A0_0 l0_0.length c0_0), .int .i64 a0_1] 29 (0, 0))) ∧ Aside0 (Below w.heap.size w w'))
 case atStart => exact ⟨(0), sR, H', ⟨Nat.le_refl _⟩, ⟨sK BK490⟩, ⟨sC⟩⟩
 case round =>
  clear H'
  try clear p2
  try clear hcz4
  obtain ⟨x12_1, rfl, HA, HK1, BK490, HB⟩ := hrel
  cases gk with
  | zero => exact absurd HA.out (by simp [spec_l3Parent.l0])
  | succ k1 =>
   have H := HA.out
   clear HA
   simp only [spec_l3Parent.l0] at H
   by_cases c5 : x12_1 < (l0_0.length : Int)
   ·rw [if_pos c5] at H
    have c5b0 := decide_eq_true c5
    clear c5
    by_cases c6 : 0 ≤ x12_1
    ·rw [if_pos c6] at H
     have c6b0 := decide_eq_true c6
     clear c6
     by_cases c7 : x12_1 < (l0_0.length : Int)
     ·rw [if_pos c7] at H
      have c7b0 := decide_eq_true c7
      clear c7
      have H' := Aside0.mk H
      clear H
      have p491 : 0 ≤ (x12_1 : Int) := sO
      have q491 : x12_1 < (l0_0.length : Int) := sO
      obtain ⟨ad491, A491_6, c491_6, e491, hx491_0, hx491_1, hx491_2, hx491_3, hx491_4, hx491_5, hx491_6, hl491_6, hi491_6⟩ := at_T53 HR0_0.out x12_1 p491 q491
      cases e491
      replace hx491_0 := hB HB hx491_0
      replace hx491_1 := hB HB hx491_1
      replace hx491_2 := hB HB hx491_2
      replace hx491_3 := hB HB hx491_3
      replace hx491_4 := hB HB hx491_4
      replace hx491_5 := hB HB hx491_5
      replace hx491_6 := hB HB hx491_6
      have HR491_6 := Aside0.mk hi491_6
      have HC491_6 := Aside0.mk hl491_6
      clear hi491_6 hl491_6
      replace p491 := eq_true p491
      replace q491 := eq_true q491
      go_wp2_with (first | ((with_reducible refine gd 6 rfl ?_); refine bxE 6 #[.int .i64 0, .int .i64 0, .int .i64 0, .int .i64 0, .int .i64 0, .string (⟨#[]⟩ : ByteArray), .slice none 0 0] 53 ?_; intro gb492 hg w8 hbox hb; have BK492 := Aside0.mk hbox; have GW492 := nGC hg; have GE492 := nGC hg; replace HB := nSC hb; have NB490_492 := nL BK490 hg; have NB492_490 := nH BK490 hg; replace BK490 := nK BK490 hb; clear hb hbox hg; have hnb9 := NB492_490.out; have hnc9 := NB490_492.out; have hcz10 := cb7 BK492))
      go_loopg [20] k1 (fun kq v20 w' => ∃ (x20_2 : Int), v20 = .int .i64 x20_2 ∧ Aside0 (spec_l3Parent.l1 kq a1 x12_1 l0_0 (l0_0.length : Int) x12_1 ((rd_T53 l0_0 x12_1).f6) (((rd_T53 l0_0 x12_1).f6).length : Int) x20_2 = some r) ∧ Aside0 (kq ≤ k1) ∧ Aside0 (w'.heap[gb490]? = some (.cells #[(.slice (some ad491) l0_0.length c0_0), .int .i64 a0_1] 29 (0, 0))) ∧ Aside0 (w'.heap[gb492]? = some (.cells #[.int .i64 ((rd_T53 l0_0 x12_1).f0), .int .i64 ((rd_T53 l0_0 x12_1).f1), .int .i64 ((rd_T53 l0_0 x12_1).f2), .int .i64 ((rd_T53 l0_0 x12_1).f3), .int .i64 ((rd_T53 l0_0 x12_1).f4), .string ((rd_T53 l0_0 x12_1).f5), (.slice A491_6 ((rd_T53 l0_0 x12_1).f6).length c491_6)] 53 (0, 0))) ∧ Aside0 (Below w.heap.size w w'))
      case atStart => exact ⟨(0), sR, H', ⟨Nat.le_refl _⟩, ⟨sX BK490⟩, ⟨sX BK492⟩, ⟨sC⟩⟩
      case round =>
       clear H'
       try clear p2
       try clear c4
       try clear p4
       try clear q4
       try clear hx4
       try clear c5
       try clear c5b0
       try clear c6
       try clear c6b0
       try clear c7
       try clear c7b0
       try clear c9
       try clear hcz10
       try clear hcz4
       try clear hx491_0
       try clear hx491_1
       try clear hx491_2
       try clear hx491_3
       try clear hx491_4
       try clear hx491_5
       try clear hx491_6
       try clear p2
       try clear p491
       try clear q491
       obtain ⟨x20_2, rfl, HA, HK2, BK490, BK492, HB⟩ := hrel
       cases gk with
       | zero => exact absurd HA.out (by simp [spec_l3Parent.l1])
       | succ k2 =>
        have H := HA.out
        clear HA
        simp only [spec_l3Parent.l1] at H
        by_cases c11 : x20_2 < (((rd_T53 l0_0 x12_1).f6).length : Int)
        ·rw [if_pos c11] at H
         have c11b0 := decide_eq_true c11
         clear c11
         by_cases c12 : 0 ≤ x20_2
         ·rw [if_pos c12] at H
          have c12b0 := decide_eq_true c12
          clear c12
          by_cases c13 : x20_2 < (((rd_T53 l0_0 x12_1).f6).length : Int)
          ·rw [if_pos c13] at H
           have c13b0 := decide_eq_true c13
           clear c13
           by_cases c14 : ((rd_T60 ((rd_T53 l0_0 x12_1).f6) x20_2).f1) = a1
           ·rw [if_pos c14] at H
            have c14b0 := beq_iff_eq.mpr c14
            have c14b1 := bne_eq_false_iff_eq.mpr c14
            clear c14
            obtain rfl := Option.some.inj H
            have p493 : 0 ≤ (x20_2 : Int) := sO
            have q493 : x20_2 < (((rd_T53 l0_0 x12_1).f6).length : Int) := sO
            obtain ⟨ad493, e493, hx493_0, hx493_1⟩ := at_T60 HR491_6.out x20_2 p493 q493
            cases e493
            replace hx493_0 := hB HB hx493_0
            replace hx493_1 := hB HB hx493_1
            replace p493 := eq_true p493
            replace q493 := eq_true q493
            go_wp2_with (first | ((with_reducible refine gd 8 rfl ?_); refine bxE 8 #[.string (⟨#[]⟩ : ByteArray), .int .i64 0] 60 ?_; intro gb494 hg w15 hbox hb; have BK494 := Aside0.mk hbox; have GW494 := nGC hg; have GE494 := nGC hg; replace HB := nSC hb; have NB490_494 := nL BK490 hg; have NB494_490 := nH BK490 hg; replace BK490 := nK BK490 hb; have NB492_494 := nL BK492 hg; have NB494_492 := nH BK492 hg; replace BK492 := nK BK492 hb; clear hb hbox hg; have hnb16 := NB494_490.out; have hnc16 := NB490_494.out; have hnb17 := NB494_492.out; have hnc17 := NB492_494.out; have hcz18 := cb2 BK494))
            go_ret
            exact ⟨sE, sC⟩
           ·rw [if_neg c14] at H
            have c14b0 := beq_eq_false_iff_ne.mpr c14
            have c14b1 := bne_iff_ne.mpr c14
            have H' := Aside0.mk H
            clear H
            have p493 : 0 ≤ (x20_2 : Int) := sO
            have q493 : x20_2 < (((rd_T53 l0_0 x12_1).f6).length : Int) := sO
            obtain ⟨ad493, e493, hx493_0, hx493_1⟩ := at_T60 HR491_6.out x20_2 p493 q493
            cases e493
            replace hx493_0 := hB HB hx493_0
            replace hx493_1 := hB HB hx493_1
            replace p493 := eq_true p493
            replace q493 := eq_true q493
            go_wp2_with (first | ((with_reducible refine gd 8 rfl ?_); refine bxE 8 #[.string (⟨#[]⟩ : ByteArray), .int .i64 0] 60 ?_; intro gb494 hg w19 hbox hb; have BK494 := Aside0.mk hbox; have GW494 := nGC hg; have GE494 := nGC hg; replace HB := nSC hb; have NB490_494 := nL BK490 hg; have NB494_490 := nH BK490 hg; replace BK490 := nK BK490 hb; have NB492_494 := nL BK492 hg; have NB494_492 := nH BK492 hg; replace BK492 := nK BK492 hb; clear hb hbox hg; have hnb20 := NB494_490.out; have hnc20 := NB490_494.out; have hnb21 := NB494_492.out; have hnc21 := NB492_494.out; have hcz22 := cb2 BK494))
            go_roundg k2
            case measure => have := HK1.out; have := HK2.out; omega
            case rel => exact ⟨(wrap64 (x20_2 + 1)), sR, H', ⟨by have := HK1.out; have := HK2.out; omega⟩, ⟨sX BK490⟩, ⟨sX BK492⟩, ⟨sC⟩⟩
          ·rw [if_neg c13] at H
           exact absurd H (by simp)
         ·rw [if_neg c12] at H
          exact absurd H (by simp)
        ·rw [if_neg c11] at H
         have c11b0 := decide_eq_false c11
         clear c11
         have H' := Aside0.mk H
         clear H
         go_wp2
         go_roundg k2
         case measure => have := HK1.out; have := HK2.out; omega
         case rel => exact ⟨(wrap64 (x12_1 + 1)), sR, H', ⟨by have := HK1.out; have := HK2.out; omega⟩, ⟨sK BK490⟩, ⟨sC⟩⟩
     ·rw [if_neg c7] at H
      exact absurd H (by simp)
    ·rw [if_neg c6] at H
     exact absurd H (by simp)
   ·rw [if_neg c5] at H
    have c5b0 := decide_eq_false c5
    clear c5
    obtain rfl := Option.some.inj H
    go_wp2
    go_ret
    exact ⟨sE, sC⟩

end Go.Proofs.YteffcglgdfhkmaaDoor.PFs
