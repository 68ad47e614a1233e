-- Written by a program of this session (wip/print2) out of the translation. Lean checks it.
import Derived.Test.YteffcglgdfhkmaaDoorPFsx0
import Derived.Test.YteffcglgdfhkmaaDoorPFsx7
import Derived.Test.YteffcglgdfhkmaaDoorPFsx1
import Derived.Test.YteffcglgdfhkmaaDoorPFsx8
import Derived.Test.YteffcglgdfhkmaaDoorPFsx14
import Derived.Test.YteffcglgdfhkmaaDoorPFsx15
import Derived.Test.YteffcglgdfhkmaaDoorPFsx16
namespace Go.Proofs.YteffcglgdfhkmaaDoor.PFs
open Go.RowKit Go.Proofs.YteffcglgdfhkmaaDoorW.PrintWords Go.Proofs.YteffcglgdfhkmaaDoorW.PrintLast Go.Proofs.YteffcglgdfhkmaaDoorW.PrintMore
attribute [local go_sem] max2_int min2_int max_two min_two max_three min_three max_four min_four   -- for this text's walks alone
set_option linter.unusedVariables false
set_option linter.unusedSimpArgs false

/-! ### impl_DeepOf: function 29 -/
def impl_DeepOf.l0 : Nat → Int → List ByteArray → Int → Int → Option (Int × Bool)
 | 0, _, _, _, _ => none
 | k + 1, x8, x20, x21, x22 => if x22 < x21 then (if 0 ≤ x22 then (if x22 < (x20.length : Int) then ((strings_Count.f (rdOf ByteArray.empty x20 x22) (⟨#[47]⟩ : ByteArray)).bind fun t437 => (impl_DeepOf.l0 k (mx x8 (wrap64 (1 + t437))) x20 x21 (wrap64 (x22 + 1)))) else (none)) else (none)) else (some (x8, true))
def impl_DeepOf.f (k : Nat) (l0_0 : List (S53)) (a0_1 : Int) (a1 : Int) : Option (Int × Bool) := (impl_WalkPre.f k l0_0 a0_1 a1).bind fun bt428 => (if bt428.2 = true then (if 1 ≤ (bt428.1.length : Int) then ((some (bt428.1.drop 1 : List ByteArray)).bind fun y432 => (impl_DeepOf.l0 k 0 y432 (y432.length : Int) 0)) else (none)) else (some (0, false)))
theorem impl_DeepOf.mono_l : ∀ k, (∀ y0 y1 y2 y3, LeO (impl_DeepOf.l0 k y0 y1 y2 y3) (impl_DeepOf.l0 (k + 1) y0 y1 y2 y3))
 | 0 => fun _ _ _ _ r h => by simp [impl_DeepOf.l0] at h
 | k + 1 => by
  have ih0 := impl_DeepOf.mono_l k
  ·intro y0 y1 y2 y3
   unfold impl_DeepOf.l0
   have m0 := @impl_WalkPre.mono
   exact mo
theorem impl_DeepOf.mono : ∀ a0 a1 a2 k, LeO (impl_DeepOf.f k a0 a1 a2) (impl_DeepOf.f (k + 1) a0 a1 a2) := by
 intro a0 a1 a2 k
 have ih0 := impl_DeepOf.mono_l k
 unfold impl_DeepOf.f
 have m0 := @impl_WalkPre.mono
 exact mo
set_option maxHeartbeats 8000000 in
set_option maxRecDepth 100000 in
theorem impl_DeepOf.calls (k : Nat) (A0_0 : Option Addr) (c0_0 : Nat) (l0_0 : List (S53)) (a0_1 : Int) (a1 : Int) (r1 : Int) (r2 : Bool) (w : World) (hr0_0 : Kd.C k53 w A0_0 l0_0.length l0_0) (hc0_0 : l0_0.length ≤ c0_0) (h : impl_DeepOf.f k l0_0 a0_1 a1 = some (r1, r2)) :
  Calls Tryd.prog 29 #[.agg #[.slice A0_0 l0_0.length c0_0, .int .i64 a0_1], .int .i64 a1] w fun e w' => e = .returned (.tuple #[.int .i64 r1, .bool r2]) ∧ Below w.heap.size w w' := by
 have hu29 := Tryd.underlying29
 have HR0_0 := Aside0.mk hr0_0
 have HC0_0 := Aside0.mk hc0_0
 clear hr0_0 hc0_0
 have HB := Aside0.mk (Below.refl w.heap.size w)
 have H : ((impl_WalkPre.f k l0_0 a0_1 a1).bind fun bt428 => (if bt428.2 = true then (if 1 ≤ (bt428.1.length : Int) then ((some (bt428.1.drop 1 : List ByteArray)).bind fun y432 => (impl_DeepOf.l0 k 0 y432 (y432.length : Int) 0)) else (none)) else (some (0, false)))) = some (r1, r2) := h
 clear h
 obtain ⟨⟨t428, t431⟩, A30, H⟩ := Option.bind_eq_some_iff.mp H
 try dsimp only at H
 replace A30 := Aside0.mk A30; have A3 := A30; clear A30
 by_cases c4 : t431 = true
 ·subst c4
  rw [if_pos rfl] at H
  by_cases c5 : 1 ≤ (t428.length : Int)
  ·rw [if_pos c5] at H
   have c5b0 := eq_true c5
   have c5b1 := decide_eq_true c5
   clear c5
   obtain ⟨y432, hy432⟩ : ∃ y_ : List ByteArray, y_ = (t428.drop 1) := ⟨_, rfl⟩
   replace H : (impl_DeepOf.l0 k 0 y432 (y432.length : Int) 0) = some (r1, r2) := by first | (rw [hy432]; with_reducible exact H) | (have H2_ := (Option.bind_some _ _).symm.trans H; rw [hy432]; with_reducible exact H2_) | (have H2_ := (Option.bind_some _ _).symm.trans H; with_reducible exact H2_) | with_reducible exact H | (rw [hy432]; exact H) | exact H
   have Ny432 := Aside0.mk hy432
   clear hy432
   have H' := Aside0.mk H
   clear H
   go_enter Tryd.func29, Tryd.ntmps29
   go_wp2_with (first | ((with_reducible refine gd 2 rfl ?_); refine bxE 2 #[.slice A0_0 l0_0.length c0_0, .int .i64 a0_1] 29 ?_; intro gb427 hg w6 hbox hb; have BK427 := Aside0.mk hbox; have GW427 := nGB hg; have GE427 := nGB hg; replace HB := nSB hb; clear hb hbox hg; have hcz7 := cb2 BK427) | ((with_reducible refine gt 37 rfl ?_); refine gL 37 14 Tryd.func37 #[.agg #[.slice A0_0 l0_0.length c0_0, .int .i64 a0_1], .int .i64 a1] ?_; (with_reducible refine (impl_WalkPre.calls k _ _ l0_0 a0_1 a1 t428 true _ ?side1 ?side2 A3.out).mono ?_); (case side1 => exact sD (Kd.C_below HR0_0.out HB.out)); (case side2 => exact HC0_0.out); rintro e w8 ⟨v429, rfl, ho0, hb⟩; refine ⟨_, rfl, ?_⟩; have HO430 := Aside0.mk (Kd.R_lower ho0 (below_size sC)); replace BK427 := nK BK427 hb; replace HB := nSC hb; try clear hb; (try clear ho0); obtain ⟨Ao10, co10, eo10⟩ := Kd.R_slice HO430.out; subst eo10; have q9 : (1 : Int) ≤ ((t428.length : Int) : Int) := sO; obtain ⟨i09, hi09, _, hsz9, _⟩ := info_parts info9; have hroom9 : t428.length ≤ co10 := (Kd.R_reads' HO430.out).2.1; have hC9 : Kd.C Kd.string _ Ao10 t428.length t428 := (Kd.R_reads' HO430.out).2.2; have hcut9 := cut_from (P := Tryd.prog) 39 9 .i64 Tryd.underlying39 hi09 1 hsz9 Ao10 t428.length co10 1 (by omega) q9; have hr9 := Kd.C_drop (m := (1 : Int).toNat) (c := co10) hC9 (by omega) hroom9; obtain ⟨A9, hA9⟩ : ∃ A1, A1 = (if co10 = (1 : Int).toNat then Ao10 else (Ao10 : Option Addr).map (·.add ((1 : Int).toNat * 1))) := ⟨_, rfl⟩; obtain ⟨c9, hc9⟩ : ∃ c1, c1 = co10 - (1 : Int).toNat := ⟨_, rfl⟩; have hy9 : y432.length = t428.length - (1 : Int).toNat := (by rw [Ny432.out, List.length_drop] <;> omega); rw [show (t428).drop (1 : Int).toNat = y432 from Ny432.out.symm] at hr9; replace hr9 : Kd.C Kd.string _ A9 y432.length y432 := (by rw [hA9]; exact hr9); rw [← hy9, ← hA9, ← hc9] at hcut9; have HR435 := Aside0.mk hr9; have HC435 := Aside0.mk (show y432.length ≤ c9 from by rw [hy9, hc9]; exact Nat.sub_le_sub_right hroom9 _); clear hr9 hC9 hroom9 hi09 hsz9 hc9; have KY9 := Aside0.mk hy9; have KA9 := Aside0.mk hA9; clear hy9 hA9; have KL9 := Aside0.mk (show 1 ≤ t428.length from by omega); replace q9 := eq_true q9))
   go_loopg [8, 22] k (fun kq v8 v22 w' => ∃ (x8_1 : Int) (x22_1 : Int), v8 = .int .i64 x8_1 ∧ v22 = .int .i64 x22_1 ∧ Aside0 (impl_DeepOf.l0 kq x8_1 y432 (y432.length : Int) x22_1 = some (r1, r2)) ∧ Aside0 (kq ≤ k) ∧ Aside0 (w'.heap[gb427]? = some (.cells #[(.slice A0_0 l0_0.length c0_0), .int .i64 a0_1] 29 (0, 0))) ∧ Aside0 (Kd.C Kd.string w' A9 y432.length y432) ∧ Aside0 (Below w.heap.size w w'))
   case atStart => exact ⟨(0), (0), sR, sR, H', ⟨Nat.le_refl _⟩, ⟨sK BK427⟩, ⟨by repeat (first | (with_reducible exact HR435.out) | (with_reducible refine Kd.C_alloc ?_ _) | (with_reducible refine Kd.C_drewN ?_ _) | (with_reducible refine Kd.C_drew ?_) | exact HR435.out)⟩, ⟨sC⟩⟩
   case round =>
    clear H'
    try clear c1
    try clear c2
    try clear p2
    try clear c3
    try clear c4
    try clear c5
    try clear c5b0
    try clear c5b1
    try clear c9
    try clear q9
    try clear hcz7
    try clear q9
    obtain ⟨x8_1, x22_1, rfl, rfl, HA, HK1, BK427, HR435, HB⟩ := hrel
    cases gk with
    | zero => exact absurd HA.out (by simp [impl_DeepOf.l0])
    | succ k1 =>
     have H := HA.out
     clear HA
     simp only [impl_DeepOf.l0] at H
     by_cases c11 : x22_1 < (y432.length : Int)
     ·rw [if_pos c11] at H
      have c11b0 := decide_eq_true c11
      clear c11
      by_cases c12 : 0 ≤ x22_1
      ·rw [if_pos c12] at H
       have c12b0 := decide_eq_true c12
       clear c12
       by_cases c13 : x22_1 < (y432.length : Int)
       ·rw [if_pos c13] at H
        have c13b0 := decide_eq_true c13
        clear c13
        obtain ⟨t437, A140, H⟩ := Option.bind_eq_some_iff.mp H
        try dsimp only at H
        replace A140 := Aside0.mk A140; have A14 := A140; clear A140
        obtain ⟨ji15, hji15⟩ : ∃ j_ : Int, (mx x8_1 (wrap64 (1 + t437))) = j_ := ⟨_, rfl⟩
        replace H : (impl_DeepOf.l0 k1 ji15 y432 (y432.length : Int) (wrap64 (x22_1 + 1))) = some (r1, r2) := by first | (rw [hji15] at H; exact H) | (simp only [hji15] at H ⊢; exact H)
        (try rw [hji15] at A14)
        have hji15_ : (if x8_1 < (wrap64 (1 + t437)) then (wrap64 (1 + t437)) else x8_1) = ji15 := hji15
        have H' := Aside0.mk H
        clear H
        have p436 : 0 ≤ (x22_1 : Int) := sO
        have q436 : x22_1 < (y432.length : Int) := sO
        obtain ⟨ad436, e436, hx436_0⟩ := Kd.at_string HR435.out x22_1 p436 q436
        cases e436
        replace p436 := eq_true p436
        replace q436 := eq_true q436
        go_wp2_with (first | ((with_reducible refine gt 64 rfl ?_); refine gL 64 28 Tryd.func64 #[.string (rdOf ByteArray.empty y432 x22_1), .string (⟨#[47]⟩ : ByteArray)] ?_; (with_reducible refine (strings_Count.calls (rdOf ByteArray.empty y432 x22_1) (⟨#[47]⟩ : ByteArray) t437 _ A14.out).mono ?_); rintro e w' ⟨rfl, ⟨nd, rfl⟩⟩; refine ⟨_, rfl, ?_⟩))
        go_roundg k1
        case measure => have := HK1.out; omega
        case rel => exact ⟨(ji15), (wrap64 (x22_1 + 1)), (by first | rfl | (simp; done) | (simp only [← hji15] <;> (first | rfl | simp)) | (simp [*]; done)), sR, (by first | exact H' | (simp only [hji15]; exact H') | (simp only [hji15]; exact H')), ⟨by have := HK1.out; omega⟩, ⟨sK BK427⟩, ⟨by repeat (first | (with_reducible exact HR435.out) | (with_reducible refine Kd.C_alloc ?_ _) | (with_reducible refine Kd.C_drewN ?_ _) | (with_reducible refine Kd.C_drew ?_) | exact HR435.out)⟩, ⟨sC⟩⟩
       ·rw [if_neg c13] at H
        exact absurd H (by simp)
      ·rw [if_neg c12] at H
       exact absurd H (by simp)
     ·rw [if_neg c11] at H
      have c11b0 := decide_eq_false c11
      clear c11
      simp only [Option.some.injEq, Prod.mk.injEq] at H
      obtain ⟨rfl, rfl⟩ := H
      go_wp2
      go_ret2
      exact ⟨sE, sC⟩
  ·rw [if_neg c5] at H
   exact absurd H (by simp)
 ·replace c4 := Bool.eq_false_iff.mpr c4
  subst c4
  rw [if_neg (show ¬ (false = true) by decide)] at H
  simp only [Option.some.injEq, Prod.mk.injEq] at H
  obtain ⟨rfl, rfl⟩ := H
  go_enter Tryd.func29, Tryd.ntmps29
  go_wp2_with (first | ((with_reducible refine gd 2 rfl ?_); refine bxE 2 #[.slice A0_0 l0_0.length c0_0, .int .i64 a0_1] 29 ?_; intro gb427 hg w16 hbox hb; have BK427 := Aside0.mk hbox; have GW427 := nGB hg; have GE427 := nGB hg; replace HB := nSB hb; clear hb hbox hg; have hcz17 := cb2 BK427) | ((with_reducible refine gt 37 rfl ?_); refine gL 37 14 Tryd.func37 #[.agg #[.slice A0_0 l0_0.length c0_0, .int .i64 a0_1], .int .i64 a1] ?_; (with_reducible refine (impl_WalkPre.calls k _ _ l0_0 a0_1 a1 t428 false _ ?side1 ?side2 A3.out).mono ?_); (case side1 => exact sD (Kd.C_below HR0_0.out HB.out)); (case side2 => exact HC0_0.out); rintro e w18 ⟨v429, rfl, ho0, hb⟩; refine ⟨_, rfl, ?_⟩; have HO430 := Aside0.mk (Kd.R_lower ho0 (below_size sC)); replace BK427 := nK BK427 hb; replace HB := nSC hb; try clear hb; (try clear ho0)))
  go_ret2
  exact ⟨sE, sC⟩

/-! ### laws_FnExactDeepOf: function 9 -/
def laws_FnExactDeepOf.j0 : Nat → Bool → List (S82) → Int → List (S53) → Int → Option (Bool)
 | 0, _, _, _, _, _ => none
 | k + 1, x38, x439000, x439001, x451000, x451001 => if x38 = true then (some false) else ((laws_toFs.f k x439000 x439001).bind fun bt453 => ((laws_eqFs.f k x451000 x451001 bt453.1 bt453.2).bind fun t457 => (if t457 = true then (some true) else (some false))))
def laws_FnExactDeepOf.f (k : Nat) (l0_0 : List (S82)) (a0_1 : Int) (a1 : Int) : Option (Bool) := (laws_szFs.f k l0_0 a0_1 1048576).bind fun t439 => (if t439 < 0 then (some true) else ((laws_toFs.f k l0_0 a0_1).bind fun bt440 => ((spec_DeepOf.f k bt440.1 bt440.2 a1).bind fun bt444 => ((laws_toFs.f k l0_0 a0_1).bind fun bt446 => ((impl_DeepOf.f k bt446.1 bt446.2 a1).bind fun bt451 => (if bt451.1 = bt444.1 then (laws_FnExactDeepOf.j0 k (bt451.2 != bt444.2) l0_0 a0_1 bt446.1 bt446.2) else (laws_FnExactDeepOf.j0 k true l0_0 a0_1 bt446.1 bt446.2)))))))
theorem laws_FnExactDeepOf.mono_l : ∀ k, (∀ y0 y1 y2 y3 y4, LeO (laws_FnExactDeepOf.j0 k y0 y1 y2 y3 y4) (laws_FnExactDeepOf.j0 (k + 1) y0 y1 y2 y3 y4))
 | 0 => fun _ _ _ _ _ r h => by simp [laws_FnExactDeepOf.j0] at h
 | k + 1 => by
  have ih0 := laws_FnExactDeepOf.mono_l k
  ·intro y0 y1 y2 y3 y4
   unfold laws_FnExactDeepOf.j0
   have m0 := @impl_DeepOf.mono
   have m1 := @laws_eqFs.mono
   have m2 := @laws_szFs.mono
   have m3 := @laws_toFs.mono
   have m4 := @spec_DeepOf.mono
   exact mo
theorem laws_FnExactDeepOf.mono : ∀ a0 a1 a2 k, LeO (laws_FnExactDeepOf.f k a0 a1 a2) (laws_FnExactDeepOf.f (k + 1) a0 a1 a2) := by
 intro a0 a1 a2 k
 have ih0 := laws_FnExactDeepOf.mono_l k
 unfold laws_FnExactDeepOf.f
 have m0 := @impl_DeepOf.mono
 have m1 := @laws_eqFs.mono
 have m2 := @laws_szFs.mono
 have m3 := @laws_toFs.mono
 have m4 := @spec_DeepOf.mono
 exact mo
set_option maxHeartbeats 8000000 in
set_option maxRecDepth 100000 in
theorem laws_FnExactDeepOf.calls (k : Nat) (A0_0 : Option Addr) (c0_0 : Nat) (l0_0 : List (S82)) (a0_1 : Int) (a1 : Int) (r : Bool) (w : World) (hr0_0 : Kd.C k82 w A0_0 l0_0.length l0_0) (hc0_0 : l0_0.length ≤ c0_0) (h : laws_FnExactDeepOf.f k l0_0 a0_1 a1 = some r) :
  Calls Tryd.prog 9 #[.agg #[.slice A0_0 l0_0.length c0_0, .int .i64 a0_1], .int .i64 a1] w fun e w' => e = .returned (.bool r) ∧ Below w.heap.size w w' := by
 have hu24 := Tryd.underlying24
 have hu29 := Tryd.underlying29
 have HR0_0 := Aside0.mk hr0_0
 have HC0_0 := Aside0.mk hc0_0
 clear hr0_0 hc0_0
 have HB := Aside0.mk (Below.refl w.heap.size w)
 have H : ((laws_szFs.f k l0_0 a0_1 1048576).bind fun t439 => (if t439 < 0 then (some true) else ((laws_toFs.f k l0_0 a0_1).bind fun bt440 => ((spec_DeepOf.f k bt440.1 bt440.2 a1).bind fun bt444 => ((laws_toFs.f k l0_0 a0_1).bind fun bt446 => ((impl_DeepOf.f k bt446.1 bt446.2 a1).bind fun bt451 => (if bt451.1 = bt444.1 then (laws_FnExactDeepOf.j0 k (bt451.2 != bt444.2) l0_0 a0_1 bt446.1 bt446.2) else (laws_FnExactDeepOf.j0 k true l0_0 a0_1 bt446.1 bt446.2)))))))) = some r := h
 clear h
 obtain ⟨t439, A30, H⟩ := Option.bind_eq_some_iff.mp H
 try dsimp only at H
 replace A30 := Aside0.mk A30; have A3 := A30; clear A30
 by_cases c4 : t439 < 0
 ·rw [if_pos c4] at H
  have c4b0 := decide_eq_true c4
  clear c4
  obtain rfl := Option.some.inj H
  go_enter Tryd.func9, Tryd.ntmps9
  go_wp2_with (first | ((with_reducible refine gd 2 rfl ?_); refine bxE 2 #[.slice A0_0 l0_0.length c0_0, .int .i64 a0_1] 24 ?_; intro gb438 hg w5 hbox hb; have BK438 := Aside0.mk hbox; have GW438 := nGB hg; have GE438 := nGB hg; replace HB := nSB hb; clear hb hbox hg; have hcz6 := cb2 BK438) | ((with_reducible refine gt 13 rfl ?_); refine gL 13 13 Tryd.func13 #[.agg #[.slice A0_0 l0_0.length c0_0, .int .i64 a0_1], .int .i64 1048576] ?_; (with_reducible refine (laws_szFs.calls k _ _ l0_0 a0_1 1048576 t439 _ ?side1 ?side2 A3.out).mono ?_); (case side1 => exact sD (Kd.C_below HR0_0.out HB.out)); (case side2 => exact HC0_0.out); rintro e w7 ⟨rfl, hb⟩; refine ⟨_, rfl, ?_⟩; replace BK438 := nK BK438 hb; replace HB := nSC hb; try clear hb))
  go_ret
  exact ⟨sE, sC⟩
 ·rw [if_neg c4] at H
  have c4b0 := decide_eq_false c4
  clear c4
  obtain ⟨⟨t440, t443⟩, A80, H⟩ := Option.bind_eq_some_iff.mp H
  try dsimp only at H
  replace A80 := Aside0.mk A80; have A8 := A80; clear A80
  obtain ⟨⟨t444, t445⟩, A90, H⟩ := Option.bind_eq_some_iff.mp H
  try dsimp only at H
  replace A90 := Aside0.mk A90; have A9 := A90; clear A90
  obtain ⟨⟨t446, t449⟩, A100, H⟩ := Option.bind_eq_some_iff.mp H
  try dsimp only at H
  replace A100 := Aside0.mk A100; have A10 := A100; clear A100
  obtain ⟨⟨t451, t452⟩, A110, H⟩ := Option.bind_eq_some_iff.mp H
  try dsimp only at H
  replace A110 := Aside0.mk A110; have A11 := A110; clear A110
  have HC12 := Aside0.mk H
  clear H
  go_enter Tryd.func9, Tryd.ntmps9
  go_upto_region 8 with (first | ((with_reducible refine gd 2 rfl ?_); refine bxE 2 #[.slice A0_0 l0_0.length c0_0, .int .i64 a0_1] 24 ?_; intro gb438 hg w13 hbox hb; have BK438 := Aside0.mk hbox; have GW438 := nGB hg; have GE438 := nGB hg; replace HB := nSB hb; clear hb hbox hg; have hcz14 := cb2 BK438) | ((with_reducible refine gt 13 rfl ?_); refine gL 13 13 Tryd.func13 #[.agg #[.slice A0_0 l0_0.length c0_0, .int .i64 a0_1], .int .i64 1048576] ?_; (with_reducible refine (laws_szFs.calls k _ _ l0_0 a0_1 1048576 t439 _ ?side1 ?side2 A3.out).mono ?_); (case side1 => exact sD (Kd.C_below HR0_0.out HB.out)); (case side2 => exact HC0_0.out); rintro e w15 ⟨rfl, hb⟩; refine ⟨_, rfl, ?_⟩; replace BK438 := nK BK438 hb; replace HB := nSC hb; try clear hb; have hcz16 := cb2 BK438) | ((with_reducible refine gt 15 rfl ?_); refine gL 15 18 Tryd.func15 #[.agg #[.slice A0_0 l0_0.length c0_0, .int .i64 a0_1]] ?_; (with_reducible refine (laws_toFs.calls k _ _ l0_0 a0_1 t440 t443 _ ?side1 ?side2 A8.out).mono ?_); (case side1 => exact sD (Kd.C_below HR0_0.out HB.out)); (case side2 => exact HC0_0.out); rintro e w17 ⟨v441, rfl, ho0, hb⟩; refine ⟨_, rfl, ?_⟩; have HO442 := Aside0.mk (Kd.S_lower ho0 (below_size sC)); replace BK438 := nK BK438 hb; replace HB := nSC hb; try clear hb; (try clear ho0); obtain ⟨Ao18, co18, eo18⟩ := Kd.S_slice HO442.out; subst eo18) | ((with_reducible refine gt 28 rfl ?_); refine gL 28 20 Tryd.func28 #[.agg #[.slice Ao18 t440.length co18, .int .i64 t443], .int .i64 a1] ?_; (with_reducible refine (spec_DeepOf.calls k _ _ t440 t443 a1 t444 t445 _ ?side1 ?side2 A9.out).mono ?_); (case side1 => exact sD (Kd.S_reads' HO442.out).2.2); (case side2 => exact (Kd.S_reads' HO442.out).2.1); rintro e w19 ⟨rfl, hb⟩; refine ⟨_, rfl, ?_⟩; replace HO442 := nS HO442 hb; replace BK438 := nK BK438 hb; replace HB := nSC hb; try clear hb; have hcz20 := cb2 BK438) | ((with_reducible refine gt 15 rfl ?_); refine gL 15 24 Tryd.func15 #[.agg #[.slice A0_0 l0_0.length c0_0, .int .i64 a0_1]] ?_; (with_reducible refine (laws_toFs.calls k _ _ l0_0 a0_1 t446 t449 _ ?side1 ?side2 A10.out).mono ?_); (case side1 => exact sD (Kd.C_below HR0_0.out HB.out)); (case side2 => exact HC0_0.out); rintro e w21 ⟨v447, rfl, ho0, hb⟩; refine ⟨_, rfl, ?_⟩; have HO448 := Aside0.mk (Kd.S_lower (Kd.S_new' ho0 (Kd.S_lt (by (with_reducible repeat (first | apply Kd.S_alloc | apply Kd.S_drewN | apply Kd.S_drew)); exact HO442.out))) (below_size sC)); replace HO442 := Aside0.mk (Kd.S_elder' (by (with_reducible repeat (first | apply Kd.S_alloc | apply Kd.S_drewN | apply Kd.S_drew)); exact HO442.out) (Kd.S_base ho0) hb); replace BK438 := nK BK438 hb; replace HB := nSC hb; try clear hb; (try clear ho0)) | ((with_reducible refine gd 8 rfl ?_); refine bxE 8 #[.slice none 0 0, .int .i64 0] 29 ?_; intro gb450 hg w22 hbox hb; replace HO442 := nS HO442 hb; replace HO448 := nS HO448 hb; have BK450 := Aside0.mk hbox; have GW450 := nGC hg; have GE450 := nGC hg; replace HB := nSC hb; have NB438_450 := nL BK438 hg; have NB450_438 := nH BK438 hg; replace BK438 := nK BK438 hb; clear hb hbox hg; obtain ⟨Ao23, co23, eo23⟩ := Kd.S_slice HO448.out; subst eo23; have hnb24 := NB450_438.out; have hnc24 := NB438_450.out; have hcz25 := cb2 BK450) | ((with_reducible refine gt 29 rfl ?_); refine gL 29 28 Tryd.func29 #[.agg #[.slice Ao23 t446.length co23, .int .i64 t449], .int .i64 a1] ?_; (with_reducible refine (impl_DeepOf.calls k _ _ t446 t449 a1 t451 t452 _ ?side1 ?side2 A11.out).mono ?_); (case side1 => refine (Kd.S_reads' (e := 53) (base := w.heap.size) (ok := fun k_ => (True ∧ some k_ ≠ (.slice Ao18 t440.length co18 : Value).ownBlock)) (n := t446.length) (c := co23) ?_).2.2; exact (by (with_reducible repeat (first | apply Kd.S_alloc | apply Kd.S_drewN | apply Kd.S_drew)); exact (Kd.S_mono (Kd.S_far (p := ⟨gb450, 1, none⟩) (Kd.S_far (p := ⟨gb450, 0, none⟩) (Kd.S_types HO448.out BK450.out (by decide)) (fun _ hk => hk.2) (.slice Ao23 t446.length co23)) (fun _ hk => hk.2) (.int .i64 t449)) (fun _ h_ => h_.1)))); (case side2 => exact (Kd.S_reads' HO448.out).2.1); rintro e w26 ⟨rfl, hb⟩; refine ⟨_, rfl, ?_⟩; replace HO442 := nSf HO442 BK450 hb; replace HO448 := nSf HO448 BK450 hb; replace BK438 := nF BK438 hb; replace BK450 := nX #[.slice Ao23 t446.length co23, .int .i64 t449] BK450 hb; replace HB := nSC hb; try clear hb))
  (try simp only [Act.put, List.setIfInBounds_toArray, List.set_cons_zero, List.set_cons_succ])
  go_cut [38] (fun v38 wc => ∃ (kq : Nat) (x38_11 : Bool), v38 = .bool x38_11 ∧ Aside0 (laws_FnExactDeepOf.j0 kq x38_11 l0_0 a0_1 t446 t449 = some r) ∧ Aside0 (kq ≤ k) ∧ Aside0 (Kd.S k53 53 wc w.heap.size (fun _ => True) (.slice Ao23 t446.length co23) t446) ∧ Aside0 (wc.heap[gb438]? = some (.cells #[(.slice A0_0 l0_0.length c0_0), .int .i64 a0_1] 24 (0, 0))) ∧ Aside0 (wc.heap[gb450]? = some (.cells #[(.slice Ao23 t446.length co23), .int .i64 t449] 29 (0, 0))) ∧ Aside0 (Below w.heap.size w wc))
  case first =>
   have H := HC12.out
   clear HC12
   by_cases c27 : t451 = t444
   ·rw [if_pos c27] at H
    have c27b0 := beq_iff_eq.mpr c27
    have c27b1 := bne_eq_false_iff_eq.mpr c27
    clear c27
    (first | rw [c27b0] | (simp only [i64_w, i32_w]; rw [c27b0]) | skip)
    have H' := Aside0.mk H
    clear H
    go_wp2
    go_meet
    case rel => exact ⟨_, ((t452 != t445)), sR, H', ⟨by first | omega | exact Nat.le_refl _⟩, ⟨by (with_reducible repeat (first | apply Kd.S_alloc | apply Kd.S_drewN | apply Kd.S_drew)); exact Kd.S_mono HO448.out (fun _ hk => trivial)⟩, ⟨sK BK438⟩, ⟨sK BK450⟩, ⟨sC⟩⟩
   ·rw [if_neg c27] at H
    have c27b0 := beq_eq_false_iff_ne.mpr c27
    have c27b1 := bne_iff_ne.mpr c27
    (first | rw [c27b0] | (simp only [i64_w, i32_w]; rw [c27b0]) | skip)
    have H' := Aside0.mk H
    clear H
    go_wp2
    go_meet
    case rel => exact ⟨_, (true), sR, H', ⟨by first | omega | exact Nat.le_refl _⟩, ⟨by (with_reducible repeat (first | apply Kd.S_alloc | apply Kd.S_drewN | apply Kd.S_drew)); exact Kd.S_mono HO448.out (fun _ hk => trivial)⟩, ⟨sK BK438⟩, ⟨sK BK450⟩, ⟨sC⟩⟩
  case rest =>
   clear HC12
   try clear c1
   try clear c2
   try clear p2
   try clear c4
   try clear c4b0
   try clear c9
   try clear c13
   try clear c15
   try clear c24
   try clear c27
   try clear c27b0
   try clear c27b1
   try clear hcz14
   try clear hcz16
   try clear hcz20
   try clear hcz25
   try clear hcz6
   obtain ⟨kq, x38_11, rfl, HA, HJ11, HO_451000, BK438, BK450, HB⟩ := hcut
   cases kq with
   | zero => exact absurd HA.out (by simp [laws_FnExactDeepOf.j0])
   | succ kj11 =>
    have H := HA.out
    clear HA
    simp only [laws_FnExactDeepOf.j0] at H
    by_cases c28 : x38_11 = true
    ·subst c28
     rw [if_pos rfl] at H
     obtain rfl := Option.some.inj H
     go_wp2
     go_ret
     exact ⟨sE, sC⟩
    ·replace c28 := Bool.eq_false_iff.mpr c28
     subst c28
     rw [if_neg (show ¬ (false = true) by decide)] at H
     obtain ⟨⟨t453, t456⟩, A290, H⟩ := Option.bind_eq_some_iff.mp H
     try dsimp only at H
     replace A290 := Aside0.mk A290; have A29 := A290; clear A290
     obtain ⟨t457, A300, H⟩ := Option.bind_eq_some_iff.mp H
     try dsimp only at H
     replace A300 := Aside0.mk A300; have A30 := A300; clear A300
     by_cases c31 : t457 = true
     ·subst c31
      rw [if_pos rfl] at H
      obtain rfl := Option.some.inj H
      try go_wp2
      have n0_ := Aside0.mk (Kd.S_drew HO_451000.out)
      have n1_ := Aside0.mk (blk_drew BK438.out)
      have n2_ := Aside0.mk (blk_drew BK450.out)
      have n3_ := Aside0.mk (below_drew1 HB.out)
      clear HO_451000
      clear BK438
      clear BK450
      clear HB
      have HO_451000 := n0_
      have BK438 := n1_
      have BK450 := n2_
      have HB := n3_
      clear n0_ n1_ n2_ n3_
      refine st4 5 [] (cz0 BK450) (cz1 BK450) (cz0 BK438) (cz1 BK438) (fun hHeld => ?_)
      generalize wc.drew = w32 at HO_451000 BK438 BK450 HB hHeld ⊢
      refine tk4 0 39 ?_
      refine tk4 1 40 ?_
      refine on 2 41 (fun K hK => ?_)
      refine gC Tryd.func15 #[.agg #[.slice A0_0 l0_0.length c0_0, .int .i64 a0_1]] ?_
      with_reducible refine (laws_toFs.calls kj11 _ _ l0_0 a0_1 t453 t456 _ ?side1 ?side2 A29.out).mono ?_
      (case side1 => exact sD (Kd.C_below HR0_0.out HB.out))
      (case side2 => exact HC0_0.out)
      rintro e w33 ⟨v454, rfl, ho0, hb⟩
      refine ⟨_, rfl, ?_⟩
      have n0_ := Aside0.mk (Kd.S_elder' (by (with_reducible repeat (first | apply Kd.S_alloc | apply Kd.S_drewN | apply Kd.S_drew)); exact HO_451000.out) (Kd.S_base ho0) hb)
      have n1_ := Aside0.mk (Kd.S_lower (Kd.S_new' ho0 (Kd.S_lt (by (with_reducible repeat (first | apply Kd.S_alloc | apply Kd.S_drewN | apply Kd.S_drew)); exact HO_451000.out))) (below_size sC))
      have n2_ := nK BK438 hb
      have n3_ := nK BK450 hb
      have n4_ := nSC hb
      clear HO_451000
      clear BK438
      clear BK450
      clear HB
      have HO_451000 := n0_
      have HO455 := n1_
      have BK438 := n2_
      have BK450 := n3_
      have HB := n4_
      clear n0_ n1_ n2_ n3_ n4_
      (try clear hb)
      (try clear hb2)
      (try clear hk)
      (try clear hi)
      (try clear ho0)
      obtain ⟨Ao34, co34, eo34⟩ := Kd.S_slice HO455.out
      (first | subst eo34 | (injection eo34 with f1_ f2_ f3_; have f4_ := f1_.symm; have f5_ := f3_.symm; clear f1_ f2_ f3_; subst f4_; subst f5_))
      refine hK.out _ _ ⟨cz0 BK450, cz1 BK450, cz0 BK438, cz1 BK438⟩ (fun hHeld => ?_)
      clear hK K
      refine nm ?_
      refine on 3 42 (fun K hK => ?_)
      refine gC Tryd.func17 #[.agg #[.slice Ao23 t446.length co23, .int .i64 t449], .agg #[.slice Ao34 t453.length co34, .int .i64 t456]] ?_
      with_reducible refine (laws_eqFs.calls kj11 _ _ t446 t449 _ _ t453 t456 true _ ?side1 ?side2 ?side3 ?side4 A30.out).mono ?_
      (case side1 => exact sD (Kd.S_reads' HO_451000.out).2.2)
      (case side2 => exact (Kd.S_reads' HO_451000.out).2.1)
      (case side3 => exact sD (Kd.S_reads' HO455.out).2.2)
      (case side4 => exact (Kd.S_reads' HO455.out).2.1)
      rintro e w35 ⟨rfl, hb⟩
      refine ⟨_, rfl, ?_⟩
      have n0_ := nS HO_451000 hb
      have n1_ := nS HO455 hb
      have n2_ := nK BK438 hb
      have n3_ := nK BK450 hb
      have n4_ := nSC hb
      clear HO_451000
      clear HO455
      clear BK438
      clear BK450
      clear HB
      have HO_451000 := n0_
      have HO455 := n1_
      have BK438 := n2_
      have BK450 := n3_
      have HB := n4_
      clear n0_ n1_ n2_ n3_ n4_
      (try clear hb)
      (try clear hb2)
      (try clear hk)
      (try clear hi)
      refine hK.out _ _ ⟨cz0 BK450, cz1 BK450, cz0 BK438, cz1 BK438⟩ (fun hHeld => ?_)
      clear hK K
      refine nm ?_
      refine pu 4 43 ?_
      refine dn ?_
      try go_wp2
      go_ret
      exact ⟨sE, sC⟩
     ·replace c31 := Bool.eq_false_iff.mpr c31
      subst c31
      rw [if_neg (show ¬ (false = true) by decide)] at H
      obtain rfl := Option.some.inj H
      try go_wp2
      have n0_ := Aside0.mk (Kd.S_drew HO_451000.out)
      have n1_ := Aside0.mk (blk_drew BK438.out)
      have n2_ := Aside0.mk (blk_drew BK450.out)
      have n3_ := Aside0.mk (below_drew1 HB.out)
      clear HO_451000
      clear BK438
      clear BK450
      clear HB
      have HO_451000 := n0_
      have BK438 := n1_
      have BK450 := n2_
      have HB := n3_
      clear n0_ n1_ n2_ n3_
      refine st4 5 [] (cz0 BK450) (cz1 BK450) (cz0 BK438) (cz1 BK438) (fun hHeld => ?_)
      generalize wc.drew = w36 at HO_451000 BK438 BK450 HB hHeld ⊢
      refine tk4 0 39 ?_
      refine tk4 1 40 ?_
      refine on 2 41 (fun K hK => ?_)
      refine gC Tryd.func15 #[.agg #[.slice A0_0 l0_0.length c0_0, .int .i64 a0_1]] ?_
      with_reducible refine (laws_toFs.calls kj11 _ _ l0_0 a0_1 t453 t456 _ ?side1 ?side2 A29.out).mono ?_
      (case side1 => exact sD (Kd.C_below HR0_0.out HB.out))
      (case side2 => exact HC0_0.out)
      rintro e w37 ⟨v454, rfl, ho0, hb⟩
      refine ⟨_, rfl, ?_⟩
      have n0_ := Aside0.mk (Kd.S_elder' (by (with_reducible repeat (first | apply Kd.S_alloc | apply Kd.S_drewN | apply Kd.S_drew)); exact HO_451000.out) (Kd.S_base ho0) hb)
      have n1_ := Aside0.mk (Kd.S_lower (Kd.S_new' ho0 (Kd.S_lt (by (with_reducible repeat (first | apply Kd.S_alloc | apply Kd.S_drewN | apply Kd.S_drew)); exact HO_451000.out))) (below_size sC))
      have n2_ := nK BK438 hb
      have n3_ := nK BK450 hb
      have n4_ := nSC hb
      clear HO_451000
      clear BK438
      clear BK450
      clear HB
      have HO_451000 := n0_
      have HO455 := n1_
      have BK438 := n2_
      have BK450 := n3_
      have HB := n4_
      clear n0_ n1_ n2_ n3_ n4_
      (try clear hb)
      (try clear hb2)
      (try clear hk)
      (try clear hi)
      (try clear ho0)
      obtain ⟨Ao38, co38, eo38⟩ := Kd.S_slice HO455.out
      (first | subst eo38 | (injection eo38 with f1_ f2_ f3_; have f4_ := f1_.symm; have f5_ := f3_.symm; clear f1_ f2_ f3_; subst f4_; subst f5_))
      refine hK.out _ _ ⟨cz0 BK450, cz1 BK450, cz0 BK438, cz1 BK438⟩ (fun hHeld => ?_)
      clear hK K
      refine nm ?_
      refine on 3 42 (fun K hK => ?_)
      refine gC Tryd.func17 #[.agg #[.slice Ao23 t446.length co23, .int .i64 t449], .agg #[.slice Ao38 t453.length co38, .int .i64 t456]] ?_
      with_reducible refine (laws_eqFs.calls kj11 _ _ t446 t449 _ _ t453 t456 false _ ?side1 ?side2 ?side3 ?side4 A30.out).mono ?_
      (case side1 => exact sD (Kd.S_reads' HO_451000.out).2.2)
      (case side2 => exact (Kd.S_reads' HO_451000.out).2.1)
      (case side3 => exact sD (Kd.S_reads' HO455.out).2.2)
      (case side4 => exact (Kd.S_reads' HO455.out).2.1)
      rintro e w39 ⟨rfl, hb⟩
      refine ⟨_, rfl, ?_⟩
      have n0_ := nS HO_451000 hb
      have n1_ := nS HO455 hb
      have n2_ := nK BK438 hb
      have n3_ := nK BK450 hb
      have n4_ := nSC hb
      clear HO_451000
      clear HO455
      clear BK438
      clear BK450
      clear HB
      have HO_451000 := n0_
      have HO455 := n1_
      have BK438 := n2_
      have BK450 := n3_
      have HB := n4_
      clear n0_ n1_ n2_ n3_ n4_
      (try clear hb)
      (try clear hb2)
      (try clear hk)
      (try clear hi)
      refine hK.out _ _ ⟨cz0 BK450, cz1 BK450, cz0 BK438, cz1 BK438⟩ (fun hHeld => ?_)
      clear hK K
      refine nm ?_
      refine pu 4 43 ?_
      refine dn ?_
      try go_wp2
      go_ret
      exact ⟨sE, sC⟩

/-- The one pure statement of laws_FnExactDeepOf. -/
def laws_FnExactDeepOf.Pure : Prop := ∀ (l0_0 : List (S82)) (a0_1 : Int) (a1 : Int), (l0_0.length ≤ 9223372036854775807 ∧ ∀ e3_ ∈ l0_0, ((Lit.int .i64 e3_.f0).wf = true ∧ ((Lit.int .i64 e3_.f1).wf = true ∧ ((Lit.int .i64 e3_.f2).wf = true ∧ ((Lit.int .i64 e3_.f3).wf = true ∧ ((Lit.int .i64 e3_.f4).wf = true ∧ (e3_.f5.size ≤ 9223372036854775807 ∧ (e3_.f6.length ≤ 9223372036854775807 ∧ ∀ e4_ ∈ e3_.f6, (e4_.f0.size ≤ 9223372036854775807 ∧ (Lit.int .i64 e4_.f1).wf = true))))))))) → (Lit.int .i64 a0_1).wf = true → (Lit.int .i64 a1).wf = true → ∃ k, laws_FnExactDeepOf.f k l0_0 a0_1 a1 = some true

end Go.Proofs.YteffcglgdfhkmaaDoor.PFs
