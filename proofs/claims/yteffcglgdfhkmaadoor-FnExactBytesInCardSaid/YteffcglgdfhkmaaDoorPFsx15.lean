-- Written by a program of this session (wip/print2) out of the translation. Lean checks it.
import Derived.Test.YteffcglgdfhkmaaDoorPFsx0
import Derived.Test.YteffcglgdfhkmaaDoorPFsx1
import Derived.Test.YteffcglgdfhkmaaDoorPFsx7
import Derived.Test.YteffcglgdfhkmaaDoorPFsx8
import Derived.Test.YteffcglgdfhkmaaDoorPFsx9
import Derived.Test.YteffcglgdfhkmaaDoorPFsx11
import Derived.Test.YteffcglgdfhkmaaDoorPFsx12
import Derived.Test.YteffcglgdfhkmaaDoorPFsx14
namespace Go.Proofs.YteffcglgdfhkmaaDoor.PFs
open Go.RowKit Go.Proofs.YteffcglgdfhkmaaDoorW.PrintWords Go.Proofs.YteffcglgdfhkmaaDoorW.PrintLast Go.Proofs.YteffcglgdfhkmaaDoorW.PrintMore
attribute [local go_sem] max2_int min2_int max_two min_two max_three min_three max_four min_four   -- for this text's walks alone
set_option linter.unusedVariables false
set_option linter.unusedSimpArgs false

/-! ### spec_BytesIn: function 18 -/
def spec_BytesIn.f (k : Nat) (l0_0 : List (S53)) (a0_1 : Int) : Option (Int × Bool) := (spec_l3Good.f k l0_0 a0_1).bind fun t390 => (if t390 = true then ((spec_l3Bytes.f k l0_0 a0_1).bind fun t391 => (some (t391, true))) else (some (0, false)))
theorem spec_BytesIn.mono : ∀ a0 a1 k, LeO (spec_BytesIn.f k a0 a1) (spec_BytesIn.f (k + 1) a0 a1) := by
 intro a0 a1 k
 unfold spec_BytesIn.f
 have m0 := @spec_l3Bytes.mono
 have m1 := @spec_l3Good.mono
 exact mo
set_option maxHeartbeats 8000000 in
set_option maxRecDepth 100000 in
theorem spec_BytesIn.calls (k : Nat) (A0_0 : Option Addr) (c0_0 : Nat) (l0_0 : List (S53)) (a0_1 : Int) (r1 : Int) (r2 : Bool) (w : World) (hr0_0 : Kd.C k53 w A0_0 l0_0.length l0_0) (hc0_0 : l0_0.length ≤ c0_0) (h : spec_BytesIn.f k l0_0 a0_1 = some (r1, r2)) :
  Calls Tryd.prog 18 #[.agg #[.slice A0_0 l0_0.length c0_0, .int .i64 a0_1]] w fun e w' => e = .returned (.tuple #[.int .i64 r1, .bool r2]) ∧ Below w.heap.size w w' := by
 have hu29 := Tryd.underlying29
 have HR0_0 := Aside0.mk hr0_0
 have HC0_0 := Aside0.mk hc0_0
 clear hr0_0 hc0_0
 have HB := Aside0.mk (Below.refl w.heap.size w)
 have H : ((spec_l3Good.f k l0_0 a0_1).bind fun t390 => (if t390 = true then ((spec_l3Bytes.f k l0_0 a0_1).bind fun t391 => (some (t391, true))) else (some (0, false)))) = some (r1, r2) := h
 clear h
 obtain ⟨t390, A20, H⟩ := Option.bind_eq_some_iff.mp H
 try dsimp only at H
 replace A20 := Aside0.mk A20; have A2 := A20; clear A20
 by_cases c3 : t390 = true
 ·subst c3
  rw [if_pos rfl] at H
  obtain ⟨t391, A40, H⟩ := Option.bind_eq_some_iff.mp H
  try dsimp only at H
  replace A40 := Aside0.mk A40; have A4 := A40; clear A40
  simp only [Option.some.injEq, Prod.mk.injEq] at H
  obtain ⟨rfl, rfl⟩ := H
  go_enter Tryd.func18, Tryd.ntmps18
  go_wp2_with (first | ((with_reducible refine gd 1 rfl ?_); refine bxE 1 #[.slice A0_0 l0_0.length c0_0, .int .i64 a0_1] 29 ?_; intro gb389 hg w5 hbox hb; have BK389 := Aside0.mk hbox; have GW389 := nGB hg; have GE389 := nGB hg; replace HB := nSB hb; clear hb hbox hg; have hcz6 := cb2 BK389) | ((with_reducible refine gt 41 rfl ?_); refine gL 41 5 Tryd.func41 #[.agg #[.slice A0_0 l0_0.length c0_0, .int .i64 a0_1]] ?_; (with_reducible refine (spec_l3Good.calls k _ _ l0_0 a0_1 true _ ?side1 ?side2 A2.out).mono ?_); (case side1 => exact sD (Kd.C_below HR0_0.out HB.out)); (case side2 => exact HC0_0.out); rintro e w7 ⟨rfl, hb⟩; refine ⟨_, rfl, ?_⟩; replace BK389 := nK BK389 hb; replace HB := nSC hb; try clear hb; have hcz8 := cb2 BK389) | ((with_reducible refine gt 49 rfl ?_); refine gL 49 8 Tryd.func49 #[.agg #[.slice A0_0 l0_0.length c0_0, .int .i64 a0_1]] ?_; (with_reducible refine (spec_l3Bytes.calls k _ _ l0_0 a0_1 t391 _ ?side1 ?side2 A4.out).mono ?_); (case side1 => exact sD (Kd.C_below HR0_0.out HB.out)); (case side2 => exact HC0_0.out); rintro e w9 ⟨rfl, hb⟩; refine ⟨_, rfl, ?_⟩; replace BK389 := nK BK389 hb; replace HB := nSC hb; try clear hb))
  go_ret2
  exact ⟨sE, sC⟩
 ·replace c3 := Bool.eq_false_iff.mpr c3
  subst c3
  rw [if_neg (show ¬ (false = true) by decide)] at H
  simp only [Option.some.injEq, Prod.mk.injEq] at H
  obtain ⟨rfl, rfl⟩ := H
  go_enter Tryd.func18, Tryd.ntmps18
  go_wp2_with (first | ((with_reducible refine gd 1 rfl ?_); refine bxE 1 #[.slice A0_0 l0_0.length c0_0, .int .i64 a0_1] 29 ?_; intro gb389 hg w10 hbox hb; have BK389 := Aside0.mk hbox; have GW389 := nGB hg; have GE389 := nGB hg; replace HB := nSB hb; clear hb hbox hg; have hcz11 := cb2 BK389) | ((with_reducible refine gt 41 rfl ?_); refine gL 41 5 Tryd.func41 #[.agg #[.slice A0_0 l0_0.length c0_0, .int .i64 a0_1]] ?_; (with_reducible refine (spec_l3Good.calls k _ _ l0_0 a0_1 false _ ?side1 ?side2 A2.out).mono ?_); (case side1 => exact sD (Kd.C_below HR0_0.out HB.out)); (case side2 => exact HC0_0.out); rintro e w12 ⟨rfl, hb⟩; refine ⟨_, rfl, ?_⟩; replace BK389 := nK BK389 hb; replace HB := nSC hb; try clear hb))
  go_ret2
  exact ⟨sE, sC⟩

/-! ### impl_BytesIn: function 19 -/
def impl_BytesIn.f (k : Nat) (l0_0 : List (S53)) (a0_1 : Int) : Option (Int × Bool) := (impl_GoodFs.f k l0_0 a0_1).bind fun t393 => (if t393 = true then ((impl_Fs_bytesIn.f k l0_0 a0_1).bind fun t394 => (some (t394, true))) else (some (0, false)))
theorem impl_BytesIn.mono : ∀ a0 a1 k, LeO (impl_BytesIn.f k a0 a1) (impl_BytesIn.f (k + 1) a0 a1) := by
 intro a0 a1 k
 unfold impl_BytesIn.f
 have m0 := @impl_Fs_bytesIn.mono
 have m1 := @impl_GoodFs.mono
 exact mo
set_option maxHeartbeats 8000000 in
set_option maxRecDepth 100000 in
theorem impl_BytesIn.calls (k : Nat) (A0_0 : Option Addr) (c0_0 : Nat) (l0_0 : List (S53)) (a0_1 : Int) (r1 : Int) (r2 : Bool) (w : World) (hr0_0 : Kd.C k53 w A0_0 l0_0.length l0_0) (hc0_0 : l0_0.length ≤ c0_0) (h : impl_BytesIn.f k l0_0 a0_1 = some (r1, r2)) :
  Calls Tryd.prog 19 #[.agg #[.slice A0_0 l0_0.length c0_0, .int .i64 a0_1]] w fun e w' => e = .returned (.tuple #[.int .i64 r1, .bool r2]) ∧ Below w.heap.size w w' := by
 have hu29 := Tryd.underlying29
 have HR0_0 := Aside0.mk hr0_0
 have HC0_0 := Aside0.mk hc0_0
 clear hr0_0 hc0_0
 have HB := Aside0.mk (Below.refl w.heap.size w)
 have H : ((impl_GoodFs.f k l0_0 a0_1).bind fun t393 => (if t393 = true then ((impl_Fs_bytesIn.f k l0_0 a0_1).bind fun t394 => (some (t394, true))) else (some (0, false)))) = some (r1, r2) := h
 clear h
 obtain ⟨t393, A20, H⟩ := Option.bind_eq_some_iff.mp H
 try dsimp only at H
 replace A20 := Aside0.mk A20; have A2 := A20; clear A20
 by_cases c3 : t393 = true
 ·subst c3
  rw [if_pos rfl] at H
  obtain ⟨t394, A40, H⟩ := Option.bind_eq_some_iff.mp H
  try dsimp only at H
  replace A40 := Aside0.mk A40; have A4 := A40; clear A40
  simp only [Option.some.injEq, Prod.mk.injEq] at H
  obtain ⟨rfl, rfl⟩ := H
  go_enter Tryd.func19, Tryd.ntmps19
  go_wp2_with (first | ((with_reducible refine gd 1 rfl ?_); refine bxE 1 #[.slice A0_0 l0_0.length c0_0, .int .i64 a0_1] 29 ?_; intro gb392 hg w5 hbox hb; have BK392 := Aside0.mk hbox; have GW392 := nGB hg; have GE392 := nGB hg; replace HB := nSB hb; clear hb hbox hg; have hcz6 := cb2 BK392) | ((with_reducible refine gt 16 rfl ?_); refine gL 16 5 Tryd.func16 #[.agg #[.slice A0_0 l0_0.length c0_0, .int .i64 a0_1]] ?_; (with_reducible refine (impl_GoodFs.calls k _ _ l0_0 a0_1 true _ ?side1 ?side2 A2.out).mono ?_); (case side1 => exact sD (Kd.C_below HR0_0.out HB.out)); (case side2 => exact HC0_0.out); rintro e w7 ⟨rfl, hb⟩; refine ⟨_, rfl, ?_⟩; replace BK392 := nK BK392 hb; replace HB := nSC hb; try clear hb; have hcz8 := cb2 BK392) | ((with_reducible refine gt 46 rfl ?_); refine gL 46 8 Tryd.func46 #[.agg #[.slice A0_0 l0_0.length c0_0, .int .i64 a0_1]] ?_; (with_reducible refine (impl_Fs_bytesIn.calls k _ _ l0_0 a0_1 t394 _ ?side1 ?side2 A4.out).mono ?_); (case side1 => exact sD (Kd.C_below HR0_0.out HB.out)); (case side2 => exact HC0_0.out); rintro e w9 ⟨rfl, hb⟩; refine ⟨_, rfl, ?_⟩; replace BK392 := nK BK392 hb; replace HB := nSC hb; try clear hb))
  go_ret2
  exact ⟨sE, sC⟩
 ·replace c3 := Bool.eq_false_iff.mpr c3
  subst c3
  rw [if_neg (show ¬ (false = true) by decide)] at H
  simp only [Option.some.injEq, Prod.mk.injEq] at H
  obtain ⟨rfl, rfl⟩ := H
  go_enter Tryd.func19, Tryd.ntmps19
  go_wp2_with (first | ((with_reducible refine gd 1 rfl ?_); refine bxE 1 #[.slice A0_0 l0_0.length c0_0, .int .i64 a0_1] 29 ?_; intro gb392 hg w10 hbox hb; have BK392 := Aside0.mk hbox; have GW392 := nGB hg; have GE392 := nGB hg; replace HB := nSB hb; clear hb hbox hg; have hcz11 := cb2 BK392) | ((with_reducible refine gt 16 rfl ?_); refine gL 16 5 Tryd.func16 #[.agg #[.slice A0_0 l0_0.length c0_0, .int .i64 a0_1]] ?_; (with_reducible refine (impl_GoodFs.calls k _ _ l0_0 a0_1 false _ ?side1 ?side2 A2.out).mono ?_); (case side1 => exact sD (Kd.C_below HR0_0.out HB.out)); (case side2 => exact HC0_0.out); rintro e w12 ⟨rfl, hb⟩; refine ⟨_, rfl, ?_⟩; replace BK392 := nK BK392 hb; replace HB := nSC hb; try clear hb))
  go_ret2
  exact ⟨sE, sC⟩

/-! ### laws_FnExactBytesIn: function 4 -/
def laws_FnExactBytesIn.j0 : Nat → Bool → List (S82) → Int → List (S53) → Int → Option (Bool)
 | 0, _, _, _, _, _ => none
 | k + 1, x34, x396000, x396001, x408000, x408001 => if x34 = true then (some false) else ((laws_toFs.f k x396000 x396001).bind fun bt410 => ((laws_eqFs.f k x408000 x408001 bt410.1 bt410.2).bind fun t414 => (if t414 = true then (some true) else (some false))))
def laws_FnExactBytesIn.f (k : Nat) (l0_0 : List (S82)) (a0_1 : Int) : Option (Bool) := (laws_szFs.f k l0_0 a0_1 1048576).bind fun t396 => (if t396 < 0 then (some true) else ((laws_toFs.f k l0_0 a0_1).bind fun bt397 => ((spec_BytesIn.f k bt397.1 bt397.2).bind fun bt401 => ((laws_toFs.f k l0_0 a0_1).bind fun bt403 => ((impl_BytesIn.f k bt403.1 bt403.2).bind fun bt408 => (if bt408.1 = bt401.1 then (laws_FnExactBytesIn.j0 k (bt408.2 != bt401.2) l0_0 a0_1 bt403.1 bt403.2) else (laws_FnExactBytesIn.j0 k true l0_0 a0_1 bt403.1 bt403.2)))))))
theorem laws_FnExactBytesIn.mono_l : ∀ k, (∀ y0 y1 y2 y3 y4, LeO (laws_FnExactBytesIn.j0 k y0 y1 y2 y3 y4) (laws_FnExactBytesIn.j0 (k + 1) y0 y1 y2 y3 y4))
 | 0 => fun _ _ _ _ _ r h => by simp [laws_FnExactBytesIn.j0] at h
 | k + 1 => by
  have ih0 := laws_FnExactBytesIn.mono_l k
  ·intro y0 y1 y2 y3 y4
   unfold laws_FnExactBytesIn.j0
   have m0 := @impl_BytesIn.mono
   have m1 := @laws_eqFs.mono
   have m2 := @laws_szFs.mono
   have m3 := @laws_toFs.mono
   have m4 := @spec_BytesIn.mono
   exact mo
theorem laws_FnExactBytesIn.mono : ∀ a0 a1 k, LeO (laws_FnExactBytesIn.f k a0 a1) (laws_FnExactBytesIn.f (k + 1) a0 a1) := by
 intro a0 a1 k
 have ih0 := laws_FnExactBytesIn.mono_l k
 unfold laws_FnExactBytesIn.f
 have m0 := @impl_BytesIn.mono
 have m1 := @laws_eqFs.mono
 have m2 := @laws_szFs.mono
 have m3 := @laws_toFs.mono
 have m4 := @spec_BytesIn.mono
 exact mo
set_option maxHeartbeats 8000000 in
set_option maxRecDepth 100000 in
theorem laws_FnExactBytesIn.calls (k : Nat) (A0_0 : Option Addr) (c0_0 : Nat) (l0_0 : List (S82)) (a0_1 : Int) (r : Bool) (w : World) (hr0_0 : Kd.C k82 w A0_0 l0_0.length l0_0) (hc0_0 : l0_0.length ≤ c0_0) (h : laws_FnExactBytesIn.f k l0_0 a0_1 = some r) :
  Calls Tryd.prog 4 #[.agg #[.slice A0_0 l0_0.length c0_0, .int .i64 a0_1]] w fun e w' => e = .returned (.bool r) ∧ Below w.heap.size w w' := by
 have hu24 := Tryd.underlying24
 have hu29 := Tryd.underlying29
 have HR0_0 := Aside0.mk hr0_0
 have HC0_0 := Aside0.mk hc0_0
 clear hr0_0 hc0_0
 have HB := Aside0.mk (Below.refl w.heap.size w)
 have H : ((laws_szFs.f k l0_0 a0_1 1048576).bind fun t396 => (if t396 < 0 then (some true) else ((laws_toFs.f k l0_0 a0_1).bind fun bt397 => ((spec_BytesIn.f k bt397.1 bt397.2).bind fun bt401 => ((laws_toFs.f k l0_0 a0_1).bind fun bt403 => ((impl_BytesIn.f k bt403.1 bt403.2).bind fun bt408 => (if bt408.1 = bt401.1 then (laws_FnExactBytesIn.j0 k (bt408.2 != bt401.2) l0_0 a0_1 bt403.1 bt403.2) else (laws_FnExactBytesIn.j0 k true l0_0 a0_1 bt403.1 bt403.2)))))))) = some r := h
 clear h
 obtain ⟨t396, A20, H⟩ := Option.bind_eq_some_iff.mp H
 try dsimp only at H
 replace A20 := Aside0.mk A20; have A2 := A20; clear A20
 by_cases c3 : t396 < 0
 ·rw [if_pos c3] at H
  have c3b0 := decide_eq_true c3
  clear c3
  obtain rfl := Option.some.inj H
  go_enter Tryd.func4, Tryd.ntmps4
  go_wp2_with (first | ((with_reducible refine gd 1 rfl ?_); refine bxE 1 #[.slice A0_0 l0_0.length c0_0, .int .i64 a0_1] 24 ?_; intro gb395 hg w4 hbox hb; have BK395 := Aside0.mk hbox; have GW395 := nGB hg; have GE395 := nGB hg; replace HB := nSB hb; clear hb hbox hg; have hcz5 := cb2 BK395) | ((with_reducible refine gt 13 rfl ?_); refine gL 13 11 Tryd.func13 #[.agg #[.slice A0_0 l0_0.length c0_0, .int .i64 a0_1], .int .i64 1048576] ?_; (with_reducible refine (laws_szFs.calls k _ _ l0_0 a0_1 1048576 t396 _ ?side1 ?side2 A2.out).mono ?_); (case side1 => exact sD (Kd.C_below HR0_0.out HB.out)); (case side2 => exact HC0_0.out); rintro e w6 ⟨rfl, hb⟩; refine ⟨_, rfl, ?_⟩; replace BK395 := nK BK395 hb; replace HB := nSC hb; try clear hb))
  go_ret
  exact ⟨sE, sC⟩
 ·rw [if_neg c3] at H
  have c3b0 := decide_eq_false c3
  clear c3
  obtain ⟨⟨t397, t400⟩, A70, H⟩ := Option.bind_eq_some_iff.mp H
  try dsimp only at H
  replace A70 := Aside0.mk A70; have A7 := A70; clear A70
  obtain ⟨⟨t401, t402⟩, A80, H⟩ := Option.bind_eq_some_iff.mp H
  try dsimp only at H
  replace A80 := Aside0.mk A80; have A8 := A80; clear A80
  obtain ⟨⟨t403, t406⟩, A90, H⟩ := Option.bind_eq_some_iff.mp H
  try dsimp only at H
  replace A90 := Aside0.mk A90; have A9 := A90; clear A90
  obtain ⟨⟨t408, t409⟩, A100, H⟩ := Option.bind_eq_some_iff.mp H
  try dsimp only at H
  replace A100 := Aside0.mk A100; have A10 := A100; clear A100
  have HC11 := Aside0.mk H
  clear H
  go_enter Tryd.func4, Tryd.ntmps4
  go_upto_region 8 with (first | ((with_reducible refine gd 1 rfl ?_); refine bxE 1 #[.slice A0_0 l0_0.length c0_0, .int .i64 a0_1] 24 ?_; intro gb395 hg w12 hbox hb; have BK395 := Aside0.mk hbox; have GW395 := nGB hg; have GE395 := nGB hg; replace HB := nSB hb; clear hb hbox hg; have hcz13 := cb2 BK395) | ((with_reducible refine gt 13 rfl ?_); refine gL 13 11 Tryd.func13 #[.agg #[.slice A0_0 l0_0.length c0_0, .int .i64 a0_1], .int .i64 1048576] ?_; (with_reducible refine (laws_szFs.calls k _ _ l0_0 a0_1 1048576 t396 _ ?side1 ?side2 A2.out).mono ?_); (case side1 => exact sD (Kd.C_below HR0_0.out HB.out)); (case side2 => exact HC0_0.out); rintro e w14 ⟨rfl, hb⟩; refine ⟨_, rfl, ?_⟩; replace BK395 := nK BK395 hb; replace HB := nSC hb; try clear hb; have hcz15 := cb2 BK395) | ((with_reducible refine gt 15 rfl ?_); refine gL 15 16 Tryd.func15 #[.agg #[.slice A0_0 l0_0.length c0_0, .int .i64 a0_1]] ?_; (with_reducible refine (laws_toFs.calls k _ _ l0_0 a0_1 t397 t400 _ ?side1 ?side2 A7.out).mono ?_); (case side1 => exact sD (Kd.C_below HR0_0.out HB.out)); (case side2 => exact HC0_0.out); rintro e w16 ⟨v398, rfl, ho0, hb⟩; refine ⟨_, rfl, ?_⟩; have HO399 := Aside0.mk (Kd.S_lower ho0 (below_size sC)); replace BK395 := nK BK395 hb; replace HB := nSC hb; try clear hb; (try clear ho0); obtain ⟨Ao17, co17, eo17⟩ := Kd.S_slice HO399.out; subst eo17) | ((with_reducible refine gt 18 rfl ?_); refine gL 18 17 Tryd.func18 #[.agg #[.slice Ao17 t397.length co17, .int .i64 t400]] ?_; (with_reducible refine (spec_BytesIn.calls k _ _ t397 t400 t401 t402 _ ?side1 ?side2 A8.out).mono ?_); (case side1 => exact sD (Kd.S_reads' HO399.out).2.2); (case side2 => exact (Kd.S_reads' HO399.out).2.1); rintro e w18 ⟨rfl, hb⟩; refine ⟨_, rfl, ?_⟩; replace HO399 := nS HO399 hb; replace BK395 := nK BK395 hb; replace HB := nSC hb; try clear hb; have hcz19 := cb2 BK395) | ((with_reducible refine gt 15 rfl ?_); refine gL 15 21 Tryd.func15 #[.agg #[.slice A0_0 l0_0.length c0_0, .int .i64 a0_1]] ?_; (with_reducible refine (laws_toFs.calls k _ _ l0_0 a0_1 t403 t406 _ ?side1 ?side2 A9.out).mono ?_); (case side1 => exact sD (Kd.C_below HR0_0.out HB.out)); (case side2 => exact HC0_0.out); rintro e w20 ⟨v404, rfl, ho0, hb⟩; refine ⟨_, rfl, ?_⟩; have HO405 := Aside0.mk (Kd.S_lower (Kd.S_new' ho0 (Kd.S_lt (by (with_reducible repeat (first | apply Kd.S_alloc | apply Kd.S_drewN | apply Kd.S_drew)); exact HO399.out))) (below_size sC)); replace HO399 := Aside0.mk (Kd.S_elder' (by (with_reducible repeat (first | apply Kd.S_alloc | apply Kd.S_drewN | apply Kd.S_drew)); exact HO399.out) (Kd.S_base ho0) hb); replace BK395 := nK BK395 hb; replace HB := nSC hb; try clear hb; (try clear ho0)) | ((with_reducible refine gd 6 rfl ?_); refine bxE 6 #[.slice none 0 0, .int .i64 0] 29 ?_; intro gb407 hg w21 hbox hb; replace HO399 := nS HO399 hb; replace HO405 := nS HO405 hb; have BK407 := Aside0.mk hbox; have GW407 := nGC hg; have GE407 := nGC hg; replace HB := nSC hb; have NB395_407 := nL BK395 hg; have NB407_395 := nH BK395 hg; replace BK395 := nK BK395 hb; clear hb hbox hg; obtain ⟨Ao22, co22, eo22⟩ := Kd.S_slice HO405.out; subst eo22; have hnb23 := NB407_395.out; have hnc23 := NB395_407.out; have hcz24 := cb2 BK407) | ((with_reducible refine gt 19 rfl ?_); refine gL 19 24 Tryd.func19 #[.agg #[.slice Ao22 t403.length co22, .int .i64 t406]] ?_; (with_reducible refine (impl_BytesIn.calls k _ _ t403 t406 t408 t409 _ ?side1 ?side2 A10.out).mono ?_); (case side1 => refine (Kd.S_reads' (e := 53) (base := w.heap.size) (ok := fun k_ => (True ∧ some k_ ≠ (.slice Ao17 t397.length co17 : Value).ownBlock)) (n := t403.length) (c := co22) ?_).2.2; exact (by (with_reducible repeat (first | apply Kd.S_alloc | apply Kd.S_drewN | apply Kd.S_drew)); exact (Kd.S_mono (Kd.S_far (p := ⟨gb407, 1, none⟩) (Kd.S_far (p := ⟨gb407, 0, none⟩) (Kd.S_types HO405.out BK407.out (by decide)) (fun _ hk => hk.2) (.slice Ao22 t403.length co22)) (fun _ hk => hk.2) (.int .i64 t406)) (fun _ h_ => h_.1)))); (case side2 => exact (Kd.S_reads' HO405.out).2.1); rintro e w25 ⟨rfl, hb⟩; refine ⟨_, rfl, ?_⟩; replace HO399 := nSf HO399 BK407 hb; replace HO405 := nSf HO405 BK407 hb; replace BK395 := nF BK395 hb; replace BK407 := nX #[.slice Ao22 t403.length co22, .int .i64 t406] BK407 hb; replace HB := nSC hb; try clear hb))
  (try simp only [Act.put, List.setIfInBounds_toArray, List.set_cons_zero, List.set_cons_succ])
  go_cut [34] (fun v34 wc => ∃ (kq : Nat) (x34_10 : Bool), v34 = .bool x34_10 ∧ Aside0 (laws_FnExactBytesIn.j0 kq x34_10 l0_0 a0_1 t403 t406 = some r) ∧ Aside0 (kq ≤ k) ∧ Aside0 (Kd.S k53 53 wc w.heap.size (fun _ => True) (.slice Ao22 t403.length co22) t403) ∧ Aside0 (wc.heap[gb395]? = some (.cells #[(.slice A0_0 l0_0.length c0_0), .int .i64 a0_1] 24 (0, 0))) ∧ Aside0 (wc.heap[gb407]? = some (.cells #[(.slice Ao22 t403.length co22), .int .i64 t406] 29 (0, 0))) ∧ Aside0 (Below w.heap.size w wc))
  case first =>
   have H := HC11.out
   clear HC11
   by_cases c26 : t408 = t401
   ·rw [if_pos c26] at H
    have c26b0 := beq_iff_eq.mpr c26
    have c26b1 := bne_eq_false_iff_eq.mpr c26
    clear c26
    (first | rw [c26b0] | (simp only [i64_w, i32_w]; rw [c26b0]) | skip)
    have H' := Aside0.mk H
    clear H
    go_wp2
    go_meet
    case rel => exact ⟨_, ((t409 != t402)), sR, H', ⟨by first | omega | exact Nat.le_refl _⟩, ⟨by (with_reducible repeat (first | apply Kd.S_alloc | apply Kd.S_drewN | apply Kd.S_drew)); exact Kd.S_mono HO405.out (fun _ hk => trivial)⟩, ⟨sK BK395⟩, ⟨sK BK407⟩, ⟨sC⟩⟩
   ·rw [if_neg c26] at H
    have c26b0 := beq_eq_false_iff_ne.mpr c26
    have c26b1 := bne_iff_ne.mpr c26
    (first | rw [c26b0] | (simp only [i64_w, i32_w]; rw [c26b0]) | skip)
    have H' := Aside0.mk H
    clear H
    go_wp2
    go_meet
    case rel => exact ⟨_, (true), sR, H', ⟨by first | omega | exact Nat.le_refl _⟩, ⟨by (with_reducible repeat (first | apply Kd.S_alloc | apply Kd.S_drewN | apply Kd.S_drew)); exact Kd.S_mono HO405.out (fun _ hk => trivial)⟩, ⟨sK BK395⟩, ⟨sK BK407⟩, ⟨sC⟩⟩
  case rest =>
   clear HC11
   try clear c1
   try clear c2
   try clear p2
   try clear c3
   try clear c3b0
   try clear c4
   try clear c13
   try clear c15
   try clear c18
   try clear c19
   try clear c23
   try clear c26
   try clear c26b0
   try clear c26b1
   try clear hcz13
   try clear hcz15
   try clear hcz19
   try clear hcz24
   try clear hcz5
   obtain ⟨kq, x34_10, rfl, HA, HJ10, HO_408000, BK395, BK407, HB⟩ := hcut
   cases kq with
   | zero => exact absurd HA.out (by simp [laws_FnExactBytesIn.j0])
   | succ kj10 =>
    have H := HA.out
    clear HA
    simp only [laws_FnExactBytesIn.j0] at H
    by_cases c27 : x34_10 = true
    ·subst c27
     rw [if_pos rfl] at H
     obtain rfl := Option.some.inj H
     go_wp2
     go_ret
     exact ⟨sE, sC⟩
    ·replace c27 := Bool.eq_false_iff.mpr c27
     subst c27
     rw [if_neg (show ¬ (false = true) by decide)] at H
     obtain ⟨⟨t410, t413⟩, A280, H⟩ := Option.bind_eq_some_iff.mp H
     try dsimp only at H
     replace A280 := Aside0.mk A280; have A28 := A280; clear A280
     obtain ⟨t414, A290, H⟩ := Option.bind_eq_some_iff.mp H
     try dsimp only at H
     replace A290 := Aside0.mk A290; have A29 := A290; clear A290
     by_cases c30 : t414 = true
     ·subst c30
      rw [if_pos rfl] at H
      obtain rfl := Option.some.inj H
      try go_wp2
      have n0_ := Aside0.mk (Kd.S_drew HO_408000.out)
      have n1_ := Aside0.mk (blk_drew BK395.out)
      have n2_ := Aside0.mk (blk_drew BK407.out)
      have n3_ := Aside0.mk (below_drew1 HB.out)
      clear HO_408000
      clear BK395
      clear BK407
      clear HB
      have HO_408000 := n0_
      have BK395 := n1_
      have BK407 := n2_
      have HB := n3_
      clear n0_ n1_ n2_ n3_
      refine st4 5 [] (cz0 BK407) (cz1 BK407) (cz0 BK395) (cz1 BK395) (fun hHeld => ?_)
      generalize wc.drew = w31 at HO_408000 BK395 BK407 HB hHeld ⊢
      refine tk4 0 35 ?_
      refine tk4 1 36 ?_
      refine on 2 37 (fun K hK => ?_)
      refine gC Tryd.func15 #[.agg #[.slice A0_0 l0_0.length c0_0, .int .i64 a0_1]] ?_
      with_reducible refine (laws_toFs.calls kj10 _ _ l0_0 a0_1 t410 t413 _ ?side1 ?side2 A28.out).mono ?_
      (case side1 => exact sD (Kd.C_below HR0_0.out HB.out))
      (case side2 => exact HC0_0.out)
      rintro e w32 ⟨v411, rfl, ho0, hb⟩
      refine ⟨_, rfl, ?_⟩
      have n0_ := Aside0.mk (Kd.S_elder' (by (with_reducible repeat (first | apply Kd.S_alloc | apply Kd.S_drewN | apply Kd.S_drew)); exact HO_408000.out) (Kd.S_base ho0) hb)
      have n1_ := Aside0.mk (Kd.S_lower (Kd.S_new' ho0 (Kd.S_lt (by (with_reducible repeat (first | apply Kd.S_alloc | apply Kd.S_drewN | apply Kd.S_drew)); exact HO_408000.out))) (below_size sC))
      have n2_ := nK BK395 hb
      have n3_ := nK BK407 hb
      have n4_ := nSC hb
      clear HO_408000
      clear BK395
      clear BK407
      clear HB
      have HO_408000 := n0_
      have HO412 := n1_
      have BK395 := n2_
      have BK407 := n3_
      have HB := n4_
      clear n0_ n1_ n2_ n3_ n4_
      (try clear hb)
      (try clear hb2)
      (try clear hk)
      (try clear hi)
      (try clear ho0)
      obtain ⟨Ao33, co33, eo33⟩ := Kd.S_slice HO412.out
      (first | subst eo33 | (injection eo33 with f1_ f2_ f3_; have f4_ := f1_.symm; have f5_ := f3_.symm; clear f1_ f2_ f3_; subst f4_; subst f5_))
      refine hK.out _ _ ⟨cz0 BK407, cz1 BK407, cz0 BK395, cz1 BK395⟩ (fun hHeld => ?_)
      clear hK K
      refine nm ?_
      refine on 3 38 (fun K hK => ?_)
      refine gC Tryd.func17 #[.agg #[.slice Ao22 t403.length co22, .int .i64 t406], .agg #[.slice Ao33 t410.length co33, .int .i64 t413]] ?_
      with_reducible refine (laws_eqFs.calls kj10 _ _ t403 t406 _ _ t410 t413 true _ ?side1 ?side2 ?side3 ?side4 A29.out).mono ?_
      (case side1 => exact sD (Kd.S_reads' HO_408000.out).2.2)
      (case side2 => exact (Kd.S_reads' HO_408000.out).2.1)
      (case side3 => exact sD (Kd.S_reads' HO412.out).2.2)
      (case side4 => exact (Kd.S_reads' HO412.out).2.1)
      rintro e w34 ⟨rfl, hb⟩
      refine ⟨_, rfl, ?_⟩
      have n0_ := nS HO_408000 hb
      have n1_ := nS HO412 hb
      have n2_ := nK BK395 hb
      have n3_ := nK BK407 hb
      have n4_ := nSC hb
      clear HO_408000
      clear HO412
      clear BK395
      clear BK407
      clear HB
      have HO_408000 := n0_
      have HO412 := n1_
      have BK395 := n2_
      have BK407 := n3_
      have HB := n4_
      clear n0_ n1_ n2_ n3_ n4_
      (try clear hb)
      (try clear hb2)
      (try clear hk)
      (try clear hi)
      refine hK.out _ _ ⟨cz0 BK407, cz1 BK407, cz0 BK395, cz1 BK395⟩ (fun hHeld => ?_)
      clear hK K
      refine nm ?_
      refine pu 4 39 ?_
      refine dn ?_
      try go_wp2
      go_ret
      exact ⟨sE, sC⟩
     ·replace c30 := Bool.eq_false_iff.mpr c30
      subst c30
      rw [if_neg (show ¬ (false = true) by decide)] at H
      obtain rfl := Option.some.inj H
      try go_wp2
      have n0_ := Aside0.mk (Kd.S_drew HO_408000.out)
      have n1_ := Aside0.mk (blk_drew BK395.out)
      have n2_ := Aside0.mk (blk_drew BK407.out)
      have n3_ := Aside0.mk (below_drew1 HB.out)
      clear HO_408000
      clear BK395
      clear BK407
      clear HB
      have HO_408000 := n0_
      have BK395 := n1_
      have BK407 := n2_
      have HB := n3_
      clear n0_ n1_ n2_ n3_
      refine st4 5 [] (cz0 BK407) (cz1 BK407) (cz0 BK395) (cz1 BK395) (fun hHeld => ?_)
      generalize wc.drew = w35 at HO_408000 BK395 BK407 HB hHeld ⊢
      refine tk4 0 35 ?_
      refine tk4 1 36 ?_
      refine on 2 37 (fun K hK => ?_)
      refine gC Tryd.func15 #[.agg #[.slice A0_0 l0_0.length c0_0, .int .i64 a0_1]] ?_
      with_reducible refine (laws_toFs.calls kj10 _ _ l0_0 a0_1 t410 t413 _ ?side1 ?side2 A28.out).mono ?_
      (case side1 => exact sD (Kd.C_below HR0_0.out HB.out))
      (case side2 => exact HC0_0.out)
      rintro e w36 ⟨v411, rfl, ho0, hb⟩
      refine ⟨_, rfl, ?_⟩
      have n0_ := Aside0.mk (Kd.S_elder' (by (with_reducible repeat (first | apply Kd.S_alloc | apply Kd.S_drewN | apply Kd.S_drew)); exact HO_408000.out) (Kd.S_base ho0) hb)
      have n1_ := Aside0.mk (Kd.S_lower (Kd.S_new' ho0 (Kd.S_lt (by (with_reducible repeat (first | apply Kd.S_alloc | apply Kd.S_drewN | apply Kd.S_drew)); exact HO_408000.out))) (below_size sC))
      have n2_ := nK BK395 hb
      have n3_ := nK BK407 hb
      have n4_ := nSC hb
      clear HO_408000
      clear BK395
      clear BK407
      clear HB
      have HO_408000 := n0_
      have HO412 := n1_
      have BK395 := n2_
      have BK407 := n3_
      have HB := n4_
      clear n0_ n1_ n2_ n3_ n4_
      (try clear hb)
      (try clear hb2)
      (try clear hk)
      (try clear hi)
      (try clear ho0)
      obtain ⟨Ao37, co37, eo37⟩ := Kd.S_slice HO412.out
      (first | subst eo37 | (injection eo37 with f1_ f2_ f3_; have f4_ := f1_.symm; have f5_ := f3_.symm; clear f1_ f2_ f3_; subst f4_; subst f5_))
      refine hK.out _ _ ⟨cz0 BK407, cz1 BK407, cz0 BK395, cz1 BK395⟩ (fun hHeld => ?_)
      clear hK K
      refine nm ?_
      refine on 3 38 (fun K hK => ?_)
      refine gC Tryd.func17 #[.agg #[.slice Ao22 t403.length co22, .int .i64 t406], .agg #[.slice Ao37 t410.length co37, .int .i64 t413]] ?_
      with_reducible refine (laws_eqFs.calls kj10 _ _ t403 t406 _ _ t410 t413 false _ ?side1 ?side2 ?side3 ?side4 A29.out).mono ?_
      (case side1 => exact sD (Kd.S_reads' HO_408000.out).2.2)
      (case side2 => exact (Kd.S_reads' HO_408000.out).2.1)
      (case side3 => exact sD (Kd.S_reads' HO412.out).2.2)
      (case side4 => exact (Kd.S_reads' HO412.out).2.1)
      rintro e w38 ⟨rfl, hb⟩
      refine ⟨_, rfl, ?_⟩
      have n0_ := nS HO_408000 hb
      have n1_ := nS HO412 hb
      have n2_ := nK BK395 hb
      have n3_ := nK BK407 hb
      have n4_ := nSC hb
      clear HO_408000
      clear HO412
      clear BK395
      clear BK407
      clear HB
      have HO_408000 := n0_
      have HO412 := n1_
      have BK395 := n2_
      have BK407 := n3_
      have HB := n4_
      clear n0_ n1_ n2_ n3_ n4_
      (try clear hb)
      (try clear hb2)
      (try clear hk)
      (try clear hi)
      refine hK.out _ _ ⟨cz0 BK407, cz1 BK407, cz0 BK395, cz1 BK395⟩ (fun hHeld => ?_)
      clear hK K
      refine nm ?_
      refine pu 4 39 ?_
      refine dn ?_
      try go_wp2
      go_ret
      exact ⟨sE, sC⟩

/-- The one pure statement of laws_FnExactBytesIn. -/
def laws_FnExactBytesIn.Pure : Prop := ∀ (l0_0 : List (S82)) (a0_1 : Int), (l0_0.length ≤ 9223372036854775807 ∧ ∀ e3_ ∈ l0_0, ((Lit.int .i64 e3_.f0).wf = true ∧ ((Lit.int .i64 e3_.f1).wf = true ∧ ((Lit.int .i64 e3_.f2).wf = true ∧ ((Lit.int .i64 e3_.f3).wf = true ∧ ((Lit.int .i64 e3_.f4).wf = true ∧ (e3_.f5.size ≤ 9223372036854775807 ∧ (e3_.f6.length ≤ 9223372036854775807 ∧ ∀ e4_ ∈ e3_.f6, (e4_.f0.size ≤ 9223372036854775807 ∧ (Lit.int .i64 e4_.f1).wf = true))))))))) → (Lit.int .i64 a0_1).wf = true → ∃ k, laws_FnExactBytesIn.f k l0_0 a0_1 = some true

/-! ### spec_l3Is: function 50 -/
def spec_l3Is.f (l0_0 : List (S53)) (a0_1 : Int) (a1 : Int) : Option (Bool) := (spec_l1In.f a1 0 (wrap64 ((l0_0.length : Int) - 1))).bind fun t416 => (if t416 = true then (if 0 ≤ a1 then (if a1 < (l0_0.length : Int) then (some (((rd_T53 l0_0 a1).f0) != 0)) else (none)) else (none)) else (some false))
set_option maxHeartbeats 8000000 in
set_option maxRecDepth 100000 in
theorem spec_l3Is.calls (A0_0 : Option Addr) (c0_0 : Nat) (l0_0 : List (S53)) (a0_1 : Int) (a1 : Int) (r : Bool) (w : World) (hr0_0 : Kd.C k53 w A0_0 l0_0.length l0_0) (hc0_0 : l0_0.length ≤ c0_0) (h : spec_l3Is.f l0_0 a0_1 a1 = some r) :
  Calls Tryd.prog 50 #[.agg #[.slice A0_0 l0_0.length c0_0, .int .i64 a0_1], .int .i64 a1] w fun e w' => e = .returned (.bool r) ∧ Below w.heap.size w w' := by
 have hu29 := Tryd.underlying29
 have HR0_0 := Aside0.mk hr0_0
 have HC0_0 := Aside0.mk hc0_0
 clear hr0_0 hc0_0
 have HB := Aside0.mk (Below.refl w.heap.size w)
 have H : ((spec_l1In.f a1 0 (wrap64 ((l0_0.length : Int) - 1))).bind fun t416 => (if t416 = true then (if 0 ≤ a1 then (if a1 < (l0_0.length : Int) then (some (((rd_T53 l0_0 a1).f0) != 0)) else (none)) else (none)) else (some false))) = some r := h
 clear h
 obtain ⟨t416, A30, H⟩ := Option.bind_eq_some_iff.mp H
 try dsimp only at H
 replace A30 := Aside0.mk A30; have A3 := A30; clear A30
 by_cases c4 : t416 = true
 ·subst c4
  rw [if_pos rfl] at H
  by_cases c5 : 0 ≤ a1
  ·rw [if_pos c5] at H
   have c5b0 := decide_eq_true c5
   clear c5
   by_cases c6 : a1 < (l0_0.length : Int)
   ·rw [if_pos c6] at H
    have c6b0 := decide_eq_true c6
    clear c6
    obtain rfl := Option.some.inj H
    go_enter Tryd.func50, Tryd.ntmps50
    go_wp2_with (first | ((with_reducible refine gd 2 rfl ?_); refine bxE 2 #[.slice A0_0 l0_0.length c0_0, .int .i64 a0_1] 29 ?_; intro gb415 hg w7 hbox hb; have BK415 := Aside0.mk hbox; have GW415 := nGB hg; have GE415 := nGB hg; replace HB := nSB hb; clear hb hbox hg; have hcz8 := cb2 BK415) | ((with_reducible refine gt 72 rfl ?_); refine gL 72 10 Tryd.func72 #[.int .i64 a1, .int .i64 0, .int .i64 (wrap64 ((l0_0.length : Int) - 1))] ?_; (with_reducible refine (spec_l1In.calls a1 0 (wrap64 ((l0_0.length : Int) - 1)) true _ A3.out).mono ?_); rintro e w' ⟨rfl, ⟨nd, rfl⟩⟩; refine ⟨_, rfl, ?_⟩; have p417 : 0 ≤ (a1 : Int) := sO; have q417 : a1 < (l0_0.length : Int) := sO; obtain ⟨ad417, A417_6, c417_6, e417, hx417_0, hx417_1, hx417_2, hx417_3, hx417_4, hx417_5, hx417_6, hl417_6, hi417_6⟩ := at_T53 HR0_0.out a1 p417 q417; cases e417; replace hx417_0 := hB HB hx417_0; replace hx417_1 := hB HB hx417_1; replace hx417_2 := hB HB hx417_2; replace hx417_3 := hB HB hx417_3; replace hx417_4 := hB HB hx417_4; replace hx417_5 := hB HB hx417_5; replace hx417_6 := hB HB hx417_6; have HR417_6 := Aside0.mk hi417_6; have HC417_6 := Aside0.mk hl417_6; clear hi417_6 hl417_6; replace p417 := eq_true p417; replace q417 := eq_true q417))
    go_ret
    exact ⟨sE, sC⟩
   ·rw [if_neg c6] at H
    exact absurd H (by simp)
  ·rw [if_neg c5] at H
   exact absurd H (by simp)
 ·replace c4 := Bool.eq_false_iff.mpr c4
  subst c4
  rw [if_neg (show ¬ (false = true) by decide)] at H
  obtain rfl := Option.some.inj H
  go_enter Tryd.func50, Tryd.ntmps50
  go_wp2_with (first | ((with_reducible refine gd 2 rfl ?_); refine bxE 2 #[.slice A0_0 l0_0.length c0_0, .int .i64 a0_1] 29 ?_; intro gb415 hg w9 hbox hb; have BK415 := Aside0.mk hbox; have GW415 := nGB hg; have GE415 := nGB hg; replace HB := nSB hb; clear hb hbox hg; have hcz10 := cb2 BK415) | ((with_reducible refine gt 72 rfl ?_); refine gL 72 10 Tryd.func72 #[.int .i64 a1, .int .i64 0, .int .i64 (wrap64 ((l0_0.length : Int) - 1))] ?_; (with_reducible refine (spec_l1In.calls a1 0 (wrap64 ((l0_0.length : Int) - 1)) false _ A3.out).mono ?_); rintro e w' ⟨rfl, ⟨nd, rfl⟩⟩; refine ⟨_, rfl, ?_⟩))
  go_ret
  exact ⟨sE, sC⟩

/-! ### spec_LinksOf: function 20 -/
def spec_LinksOf.f (k : Nat) (l0_0 : List (S53)) (a0_1 : Int) (a1 : Int) : Option (Int × Bool) := (spec_l3Good.f k l0_0 a0_1).bind fun t419 => (if t419 = true then ((spec_l3Is.f l0_0 a0_1 a1).bind fun t420 => (if t420 = true then ((spec_l3Links.f k l0_0 a0_1 a1).bind fun t421 => (some (t421, true))) else (some (0, false)))) else (some (0, false)))
theorem spec_LinksOf.mono : ∀ a0 a1 a2 k, LeO (spec_LinksOf.f k a0 a1 a2) (spec_LinksOf.f (k + 1) a0 a1 a2) := by
 intro a0 a1 a2 k
 unfold spec_LinksOf.f
 have m0 := @spec_l3Good.mono
 have m1 := @spec_l3Links.mono
 exact mo
set_option maxHeartbeats 8000000 in
set_option maxRecDepth 100000 in
theorem spec_LinksOf.calls (k : Nat) (A0_0 : Option Addr) (c0_0 : Nat) (l0_0 : List (S53)) (a0_1 : Int) (a1 : Int) (r1 : Int) (r2 : Bool) (w : World) (hr0_0 : Kd.C k53 w A0_0 l0_0.length l0_0) (hc0_0 : l0_0.length ≤ c0_0) (h : spec_LinksOf.f k l0_0 a0_1 a1 = some (r1, r2)) :
  Calls Tryd.prog 20 #[.agg #[.slice A0_0 l0_0.length c0_0, .int .i64 a0_1], .int .i64 a1] w fun e w' => e = .returned (.tuple #[.int .i64 r1, .bool r2]) ∧ Below w.heap.size w w' := by
 have hu29 := Tryd.underlying29
 have HR0_0 := Aside0.mk hr0_0
 have HC0_0 := Aside0.mk hc0_0
 clear hr0_0 hc0_0
 have HB := Aside0.mk (Below.refl w.heap.size w)
 have H : ((spec_l3Good.f k l0_0 a0_1).bind fun t419 => (if t419 = true then ((spec_l3Is.f l0_0 a0_1 a1).bind fun t420 => (if t420 = true then ((spec_l3Links.f k l0_0 a0_1 a1).bind fun t421 => (some (t421, true))) else (some (0, false)))) else (some (0, false)))) = some (r1, r2) := h
 clear h
 obtain ⟨t419, A30, H⟩ := Option.bind_eq_some_iff.mp H
 try dsimp only at H
 replace A30 := Aside0.mk A30; have A3 := A30; clear A30
 by_cases c4 : t419 = true
 ·subst c4
  rw [if_pos rfl] at H
  obtain ⟨t420, A50, H⟩ := Option.bind_eq_some_iff.mp H
  try dsimp only at H
  replace A50 := Aside0.mk A50; have A5 := A50; clear A50
  by_cases c6 : t420 = true
  ·subst c6
   rw [if_pos rfl] at H
   obtain ⟨t421, A70, H⟩ := Option.bind_eq_some_iff.mp H
   try dsimp only at H
   replace A70 := Aside0.mk A70; have A7 := A70; clear A70
   simp only [Option.some.injEq, Prod.mk.injEq] at H
   obtain ⟨rfl, rfl⟩ := H
   go_enter Tryd.func20, Tryd.ntmps20
   go_wp2_with (first | ((with_reducible refine gd 2 rfl ?_); refine bxE 2 #[.slice A0_0 l0_0.length c0_0, .int .i64 a0_1] 29 ?_; intro gb418 hg w8 hbox hb; have BK418 := Aside0.mk hbox; have GW418 := nGB hg; have GE418 := nGB hg; replace HB := nSB hb; clear hb hbox hg; have hcz9 := cb2 BK418) | ((with_reducible refine gt 41 rfl ?_); refine gL 41 7 Tryd.func41 #[.agg #[.slice A0_0 l0_0.length c0_0, .int .i64 a0_1]] ?_; (with_reducible refine (spec_l3Good.calls k _ _ l0_0 a0_1 true _ ?side1 ?side2 A3.out).mono ?_); (case side1 => exact sD (Kd.C_below HR0_0.out HB.out)); (case side2 => exact HC0_0.out); rintro e w10 ⟨rfl, hb⟩; refine ⟨_, rfl, ?_⟩; replace BK418 := nK BK418 hb; replace HB := nSC hb; try clear hb; have hcz11 := cb2 BK418) | (go_at_call 50; (with_reducible refine (spec_l3Is.calls _ _ l0_0 a0_1 a1 true _ ?side1 ?side2 A5.out).mono ?_); (case side1 => exact sD (Kd.C_below HR0_0.out HB.out)); (case side2 => exact HC0_0.out); rintro e w12 ⟨rfl, hb⟩; replace BK418 := nK BK418 hb; replace HB := nSC hb; try clear hb; have hcz13 := cb2 BK418) | ((with_reducible refine gt 51 rfl ?_); refine gL 51 17 Tryd.func51 #[.agg #[.slice A0_0 l0_0.length c0_0, .int .i64 a0_1], .int .i64 a1] ?_; (with_reducible refine (spec_l3Links.calls k _ _ l0_0 a0_1 a1 t421 _ ?side1 ?side2 A7.out).mono ?_); (case side1 => exact sD (Kd.C_below HR0_0.out HB.out)); (case side2 => exact HC0_0.out); rintro e w14 ⟨rfl, hb⟩; refine ⟨_, rfl, ?_⟩; replace BK418 := nK BK418 hb; replace HB := nSC hb; try clear hb))
   go_ret2
   exact ⟨sE, sC⟩
  ·replace c6 := Bool.eq_false_iff.mpr c6
   subst c6
   rw [if_neg (show ¬ (false = true) by decide)] at H
   simp only [Option.some.injEq, Prod.mk.injEq] at H
   obtain ⟨rfl, rfl⟩ := H
   go_enter Tryd.func20, Tryd.ntmps20
   go_wp2_with (first | ((with_reducible refine gd 2 rfl ?_); refine bxE 2 #[.slice A0_0 l0_0.length c0_0, .int .i64 a0_1] 29 ?_; intro gb418 hg w15 hbox hb; have BK418 := Aside0.mk hbox; have GW418 := nGB hg; have GE418 := nGB hg; replace HB := nSB hb; clear hb hbox hg; have hcz16 := cb2 BK418) | ((with_reducible refine gt 41 rfl ?_); refine gL 41 7 Tryd.func41 #[.agg #[.slice A0_0 l0_0.length c0_0, .int .i64 a0_1]] ?_; (with_reducible refine (spec_l3Good.calls k _ _ l0_0 a0_1 true _ ?side1 ?side2 A3.out).mono ?_); (case side1 => exact sD (Kd.C_below HR0_0.out HB.out)); (case side2 => exact HC0_0.out); rintro e w17 ⟨rfl, hb⟩; refine ⟨_, rfl, ?_⟩; replace BK418 := nK BK418 hb; replace HB := nSC hb; try clear hb; have hcz18 := cb2 BK418) | (go_at_call 50; (with_reducible refine (spec_l3Is.calls _ _ l0_0 a0_1 a1 false _ ?side1 ?side2 A5.out).mono ?_); (case side1 => exact sD (Kd.C_below HR0_0.out HB.out)); (case side2 => exact HC0_0.out); rintro e w19 ⟨rfl, hb⟩; replace BK418 := nK BK418 hb; replace HB := nSC hb; try clear hb))
   go_ret2
   exact ⟨sE, sC⟩
 ·replace c4 := Bool.eq_false_iff.mpr c4
  subst c4
  rw [if_neg (show ¬ (false = true) by decide)] at H
  simp only [Option.some.injEq, Prod.mk.injEq] at H
  obtain ⟨rfl, rfl⟩ := H
  go_enter Tryd.func20, Tryd.ntmps20
  go_wp2_with (first | ((with_reducible refine gd 2 rfl ?_); refine bxE 2 #[.slice A0_0 l0_0.length c0_0, .int .i64 a0_1] 29 ?_; intro gb418 hg w20 hbox hb; have BK418 := Aside0.mk hbox; have GW418 := nGB hg; have GE418 := nGB hg; replace HB := nSB hb; clear hb hbox hg; have hcz21 := cb2 BK418) | ((with_reducible refine gt 41 rfl ?_); refine gL 41 7 Tryd.func41 #[.agg #[.slice A0_0 l0_0.length c0_0, .int .i64 a0_1]] ?_; (with_reducible refine (spec_l3Good.calls k _ _ l0_0 a0_1 false _ ?side1 ?side2 A3.out).mono ?_); (case side1 => exact sD (Kd.C_below HR0_0.out HB.out)); (case side2 => exact HC0_0.out); rintro e w22 ⟨rfl, hb⟩; refine ⟨_, rfl, ?_⟩; replace BK418 := nK BK418 hb; replace HB := nSC hb; try clear hb))
  go_ret2
  exact ⟨sE, sC⟩

/-! ### impl_isGoodAt: function 52 -/
def impl_isGoodAt.f (k : Nat) (l0_0 : List (S53)) (a0_1 : Int) (a1 : Int) : Option (Bool) := (impl_GoodFs.f k l0_0 a0_1).bind fun t423 => (if t423 = true then ((impl_Fs_isThere.f l0_0 a0_1 a1).bind fun t424 => (some t424)) else (some false))
theorem impl_isGoodAt.mono : ∀ a0 a1 a2 k, LeO (impl_isGoodAt.f k a0 a1 a2) (impl_isGoodAt.f (k + 1) a0 a1 a2) := by
 intro a0 a1 a2 k
 unfold impl_isGoodAt.f
 have m0 := @impl_GoodFs.mono
 exact mo
set_option maxHeartbeats 8000000 in
set_option maxRecDepth 100000 in
theorem impl_isGoodAt.calls (k : Nat) (A0_0 : Option Addr) (c0_0 : Nat) (l0_0 : List (S53)) (a0_1 : Int) (a1 : Int) (r : Bool) (w : World) (hr0_0 : Kd.C k53 w A0_0 l0_0.length l0_0) (hc0_0 : l0_0.length ≤ c0_0) (h : impl_isGoodAt.f k l0_0 a0_1 a1 = some r) :
  Calls Tryd.prog 52 #[.agg #[.slice A0_0 l0_0.length c0_0, .int .i64 a0_1], .int .i64 a1] w fun e w' => e = .returned (.bool r) ∧ Below w.heap.size w w' := by
 have hu29 := Tryd.underlying29
 have HR0_0 := Aside0.mk hr0_0
 have HC0_0 := Aside0.mk hc0_0
 clear hr0_0 hc0_0
 have HB := Aside0.mk (Below.refl w.heap.size w)
 have H : ((impl_GoodFs.f k l0_0 a0_1).bind fun t423 => (if t423 = true then ((impl_Fs_isThere.f l0_0 a0_1 a1).bind fun t424 => (some t424)) else (some false))) = some r := h
 clear h
 obtain ⟨t423, A30, H⟩ := Option.bind_eq_some_iff.mp H
 try dsimp only at H
 replace A30 := Aside0.mk A30; have A3 := A30; clear A30
 by_cases c4 : t423 = true
 ·subst c4
  rw [if_pos rfl] at H
  obtain ⟨t424, A50, H⟩ := Option.bind_eq_some_iff.mp H
  try dsimp only at H
  replace A50 := Aside0.mk A50; have A5 := A50; clear A50
  obtain rfl := Option.some.inj H
  go_enter Tryd.func52, Tryd.ntmps52
  go_wp2_with (first | ((with_reducible refine gd 2 rfl ?_); refine bxE 2 #[.slice A0_0 l0_0.length c0_0, .int .i64 a0_1] 29 ?_; intro gb422 hg w6 hbox hb; have BK422 := Aside0.mk hbox; have GW422 := nGB hg; have GE422 := nGB hg; replace HB := nSB hb; clear hb hbox hg; have hcz7 := cb2 BK422) | ((with_reducible refine gt 16 rfl ?_); refine gL 16 6 Tryd.func16 #[.agg #[.slice A0_0 l0_0.length c0_0, .int .i64 a0_1]] ?_; (with_reducible refine (impl_GoodFs.calls k _ _ l0_0 a0_1 true _ ?side1 ?side2 A3.out).mono ?_); (case side1 => exact sD (Kd.C_below HR0_0.out HB.out)); (case side2 => exact HC0_0.out); rintro e w8 ⟨rfl, hb⟩; refine ⟨_, rfl, ?_⟩; replace BK422 := nK BK422 hb; replace HB := nSC hb; try clear hb; have hcz9 := cb2 BK422) | (go_at_call 83; (with_reducible refine (impl_Fs_isThere.calls _ _ l0_0 a0_1 a1 t424 _ ?side1 ?side2 A5.out).mono ?_); (case side1 => exact sD (Kd.C_below HR0_0.out HB.out)); (case side2 => exact HC0_0.out); rintro e w10 ⟨rfl, hb⟩; replace BK422 := nK BK422 hb; replace HB := nSC hb; try clear hb))
  go_ret
  exact ⟨sE, sC⟩
 ·replace c4 := Bool.eq_false_iff.mpr c4
  subst c4
  rw [if_neg (show ¬ (false = true) by decide)] at H
  obtain rfl := Option.some.inj H
  go_enter Tryd.func52, Tryd.ntmps52
  go_wp2_with (first | ((with_reducible refine gd 2 rfl ?_); refine bxE 2 #[.slice A0_0 l0_0.length c0_0, .int .i64 a0_1] 29 ?_; intro gb422 hg w11 hbox hb; have BK422 := Aside0.mk hbox; have GW422 := nGB hg; have GE422 := nGB hg; replace HB := nSB hb; clear hb hbox hg; have hcz12 := cb2 BK422) | ((with_reducible refine gt 16 rfl ?_); refine gL 16 6 Tryd.func16 #[.agg #[.slice A0_0 l0_0.length c0_0, .int .i64 a0_1]] ?_; (with_reducible refine (impl_GoodFs.calls k _ _ l0_0 a0_1 false _ ?side1 ?side2 A3.out).mono ?_); (case side1 => exact sD (Kd.C_below HR0_0.out HB.out)); (case side2 => exact HC0_0.out); rintro e w13 ⟨rfl, hb⟩; refine ⟨_, rfl, ?_⟩; replace BK422 := nK BK422 hb; replace HB := nSC hb; try clear hb))
  go_ret
  exact ⟨sE, sC⟩

/-! ### impl_LinksOf: function 21 -/
def impl_LinksOf.f (k : Nat) (l0_0 : List (S53)) (a0_1 : Int) (a1 : Int) : Option (Int × Bool) := (impl_isGoodAt.f k l0_0 a0_1 a1).bind fun t426 => (if t426 = true then ((impl_Fs_links.f k l0_0 a0_1).bind fun t427 => (if 0 ≤ a1 then (if a1 < (t427.length : Int) then (some (rd t427 a1, true)) else (none)) else (none))) else (some (0, false)))
theorem impl_LinksOf.mono : ∀ a0 a1 a2 k, LeO (impl_LinksOf.f k a0 a1 a2) (impl_LinksOf.f (k + 1) a0 a1 a2) := by
 intro a0 a1 a2 k
 unfold impl_LinksOf.f
 have m0 := @impl_Fs_links.mono
 have m1 := @impl_isGoodAt.mono
 exact mo
set_option maxHeartbeats 8000000 in
set_option maxRecDepth 100000 in
theorem impl_LinksOf.calls (k : Nat) (A0_0 : Option Addr) (c0_0 : Nat) (l0_0 : List (S53)) (a0_1 : Int) (a1 : Int) (r1 : Int) (r2 : Bool) (w : World) (hr0_0 : Kd.C k53 w A0_0 l0_0.length l0_0) (hc0_0 : l0_0.length ≤ c0_0) (h : impl_LinksOf.f k l0_0 a0_1 a1 = some (r1, r2)) :
  Calls Tryd.prog 21 #[.agg #[.slice A0_0 l0_0.length c0_0, .int .i64 a0_1], .int .i64 a1] w fun e w' => e = .returned (.tuple #[.int .i64 r1, .bool r2]) ∧ Below w.heap.size w w' := by
 have hu29 := Tryd.underlying29
 have HR0_0 := Aside0.mk hr0_0
 have HC0_0 := Aside0.mk hc0_0
 clear hr0_0 hc0_0
 have HB := Aside0.mk (Below.refl w.heap.size w)
 have H : ((impl_isGoodAt.f k l0_0 a0_1 a1).bind fun t426 => (if t426 = true then ((impl_Fs_links.f k l0_0 a0_1).bind fun t427 => (if 0 ≤ a1 then (if a1 < (t427.length : Int) then (some (rd t427 a1, true)) else (none)) else (none))) else (some (0, false)))) = some (r1, r2) := h
 clear h
 obtain ⟨t426, A30, H⟩ := Option.bind_eq_some_iff.mp H
 try dsimp only at H
 replace A30 := Aside0.mk A30; have A3 := A30; clear A30
 by_cases c4 : t426 = true
 ·subst c4
  rw [if_pos rfl] at H
  obtain ⟨t427, A50, H⟩ := Option.bind_eq_some_iff.mp H
  try dsimp only at H
  replace A50 := Aside0.mk A50; have A5 := A50; clear A50
  by_cases c6 : 0 ≤ a1
  ·rw [if_pos c6] at H
   have c6b0 := decide_eq_true c6
   clear c6
   by_cases c7 : a1 < (t427.length : Int)
   ·rw [if_pos c7] at H
    have c7b0 := decide_eq_true c7
    clear c7
    simp only [Option.some.injEq, Prod.mk.injEq] at H
    obtain ⟨rfl, rfl⟩ := H
    go_enter Tryd.func21, Tryd.ntmps21
    go_wp2_with (first | ((with_reducible refine gd 2 rfl ?_); refine bxE 2 #[.slice A0_0 l0_0.length c0_0, .int .i64 a0_1] 29 ?_; intro gb425 hg w8 hbox hb; have BK425 := Aside0.mk hbox; have GW425 := nGB hg; have GE425 := nGB hg; replace HB := nSB hb; clear hb hbox hg; have hcz9 := cb2 BK425) | ((with_reducible refine gt 52 rfl ?_); refine gL 52 8 Tryd.func52 #[.agg #[.slice A0_0 l0_0.length c0_0, .int .i64 a0_1], .int .i64 a1] ?_; (with_reducible refine (impl_isGoodAt.calls k _ _ l0_0 a0_1 a1 true _ ?side1 ?side2 A3.out).mono ?_); (case side1 => exact sD (Kd.C_below HR0_0.out HB.out)); (case side2 => exact HC0_0.out); rintro e w10 ⟨rfl, hb⟩; refine ⟨_, rfl, ?_⟩; replace BK425 := nK BK425 hb; replace HB := nSC hb; try clear hb; have hcz11 := cb2 BK425) | ((with_reducible refine gt 47 rfl ?_); refine gL 47 11 Tryd.func47 #[.agg #[.slice A0_0 l0_0.length c0_0, .int .i64 a0_1]] ?_; (with_reducible refine (impl_Fs_links.calls k _ _ l0_0 a0_1 t427 _ ?side1 ?side2 A5.out).mono ?_); (case side1 => exact sD (Kd.C_below HR0_0.out HB.out)); (case side2 => exact HC0_0.out); rintro e w12 ⟨v428, rfl, ho0, hb⟩; refine ⟨_, rfl, ?_⟩; have HO429 := Aside0.mk (Kd.R_lower ho0 (below_size sC)); replace BK425 := nK BK425 hb; replace HB := nSC hb; try clear hb; (try clear ho0); obtain ⟨Ao13, co13, eo13⟩ := Kd.R_slice HO429.out; subst eo13; have p430 : 0 ≤ (a1 : Int) := sO; have q430 : a1 < (t427.length : Int) := sO; obtain ⟨ad430, e430, hx430_0⟩ := Kd.at_int (Kd.R_reads' HO429.out).2.2 a1 p430 q430; cases e430; replace p430 := eq_true p430; replace q430 := eq_true q430))
    go_ret2
    exact ⟨sE, sC⟩
   ·rw [if_neg c7] at H
    exact absurd H (by simp)
  ·rw [if_neg c6] at H
   exact absurd H (by simp)
 ·replace c4 := Bool.eq_false_iff.mpr c4
  subst c4
  rw [if_neg (show ¬ (false = true) by decide)] at H
  simp only [Option.some.injEq, Prod.mk.injEq] at H
  obtain ⟨rfl, rfl⟩ := H
  go_enter Tryd.func21, Tryd.ntmps21
  go_wp2_with (first | ((with_reducible refine gd 2 rfl ?_); refine bxE 2 #[.slice A0_0 l0_0.length c0_0, .int .i64 a0_1] 29 ?_; intro gb425 hg w14 hbox hb; have BK425 := Aside0.mk hbox; have GW425 := nGB hg; have GE425 := nGB hg; replace HB := nSB hb; clear hb hbox hg; have hcz15 := cb2 BK425) | ((with_reducible refine gt 52 rfl ?_); refine gL 52 8 Tryd.func52 #[.agg #[.slice A0_0 l0_0.length c0_0, .int .i64 a0_1], .int .i64 a1] ?_; (with_reducible refine (impl_isGoodAt.calls k _ _ l0_0 a0_1 a1 false _ ?side1 ?side2 A3.out).mono ?_); (case side1 => exact sD (Kd.C_below HR0_0.out HB.out)); (case side2 => exact HC0_0.out); rintro e w16 ⟨rfl, hb⟩; refine ⟨_, rfl, ?_⟩; replace BK425 := nK BK425 hb; replace HB := nSC hb; try clear hb))
  go_ret2
  exact ⟨sE, sC⟩

end Go.Proofs.YteffcglgdfhkmaaDoor.PFs
