-- Written by a program of this session (wip/print2) out of the translation. Lean checks it.
import Derived.Test.YteffcglgdfhkmaaDoorPFsx0
import Derived.Test.YteffcglgdfhkmaaDoorPFsx1
import Derived.Test.YteffcglgdfhkmaaDoorPFsx7
import Derived.Test.YteffcglgdfhkmaaDoorPFsx8
import Derived.Test.YteffcglgdfhkmaaDoorPFsx14
import Derived.Test.YteffcglgdfhkmaaDoorPFsx15
namespace Go.Proofs.YteffcglgdfhkmaaDoor.PFs
open Go.RowKit Go.Proofs.YteffcglgdfhkmaaDoorW.PrintWords Go.Proofs.YteffcglgdfhkmaaDoorW.PrintLast Go.Proofs.YteffcglgdfhkmaaDoorW.PrintMore
attribute [local go_sem] max2_int min2_int max_two min_two max_three min_three max_four min_four   -- for this text's walks alone
set_option linter.unusedVariables false
set_option linter.unusedSimpArgs false

/-! ### laws_FnExactLinksOf: function 5 -/
def laws_FnExactLinksOf.j0 : Nat → Bool → List (S82) → Int → List (S53) → Int → Option (Bool)
 | 0, _, _, _, _, _ => none
 | k + 1, x38, x432000, x432001, x444000, x444001 => if x38 = true then (some false) else ((laws_toFs.f k x432000 x432001).bind fun bt446 => ((laws_eqFs.f k x444000 x444001 bt446.1 bt446.2).bind fun t450 => (if t450 = true then (some true) else (some false))))
def laws_FnExactLinksOf.f (k : Nat) (l0_0 : List (S82)) (a0_1 : Int) (a1 : Int) : Option (Bool) := (laws_szFs.f k l0_0 a0_1 1048576).bind fun t432 => (if t432 < 0 then (some true) else ((laws_toFs.f k l0_0 a0_1).bind fun bt433 => ((spec_LinksOf.f k bt433.1 bt433.2 a1).bind fun bt437 => ((laws_toFs.f k l0_0 a0_1).bind fun bt439 => ((impl_LinksOf.f k bt439.1 bt439.2 a1).bind fun bt444 => (if bt444.1 = bt437.1 then (laws_FnExactLinksOf.j0 k (bt444.2 != bt437.2) l0_0 a0_1 bt439.1 bt439.2) else (laws_FnExactLinksOf.j0 k true l0_0 a0_1 bt439.1 bt439.2)))))))
theorem laws_FnExactLinksOf.mono_l : ∀ k, (∀ y0 y1 y2 y3 y4, LeO (laws_FnExactLinksOf.j0 k y0 y1 y2 y3 y4) (laws_FnExactLinksOf.j0 (k + 1) y0 y1 y2 y3 y4))
 | 0 => fun _ _ _ _ _ r h => by simp [laws_FnExactLinksOf.j0] at h
 | k + 1 => by
  have ih0 := laws_FnExactLinksOf.mono_l k
  ·intro y0 y1 y2 y3 y4
   unfold laws_FnExactLinksOf.j0
   have m0 := @impl_LinksOf.mono
   have m1 := @laws_eqFs.mono
   have m2 := @laws_szFs.mono
   have m3 := @laws_toFs.mono
   have m4 := @spec_LinksOf.mono
   exact mo
theorem laws_FnExactLinksOf.mono : ∀ a0 a1 a2 k, LeO (laws_FnExactLinksOf.f k a0 a1 a2) (laws_FnExactLinksOf.f (k + 1) a0 a1 a2) := by
 intro a0 a1 a2 k
 have ih0 := laws_FnExactLinksOf.mono_l k
 unfold laws_FnExactLinksOf.f
 have m0 := @impl_LinksOf.mono
 have m1 := @laws_eqFs.mono
 have m2 := @laws_szFs.mono
 have m3 := @laws_toFs.mono
 have m4 := @spec_LinksOf.mono
 exact mo
set_option maxHeartbeats 8000000 in
set_option maxRecDepth 100000 in
theorem laws_FnExactLinksOf.calls (k : Nat) (A0_0 : Option Addr) (c0_0 : Nat) (l0_0 : List (S82)) (a0_1 : Int) (a1 : Int) (r : Bool) (w : World) (hr0_0 : Kd.C k82 w A0_0 l0_0.length l0_0) (hc0_0 : l0_0.length ≤ c0_0) (h : laws_FnExactLinksOf.f k l0_0 a0_1 a1 = some r) :
  Calls Tryd.prog 5 #[.agg #[.slice A0_0 l0_0.length c0_0, .int .i64 a0_1], .int .i64 a1] w fun e w' => e = .returned (.bool r) ∧ Below w.heap.size w w' := by
 have hu24 := Tryd.underlying24
 have hu29 := Tryd.underlying29
 have HR0_0 := Aside0.mk hr0_0
 have HC0_0 := Aside0.mk hc0_0
 clear hr0_0 hc0_0
 have HB := Aside0.mk (Below.refl w.heap.size w)
 have H : ((laws_szFs.f k l0_0 a0_1 1048576).bind fun t432 => (if t432 < 0 then (some true) else ((laws_toFs.f k l0_0 a0_1).bind fun bt433 => ((spec_LinksOf.f k bt433.1 bt433.2 a1).bind fun bt437 => ((laws_toFs.f k l0_0 a0_1).bind fun bt439 => ((impl_LinksOf.f k bt439.1 bt439.2 a1).bind fun bt444 => (if bt444.1 = bt437.1 then (laws_FnExactLinksOf.j0 k (bt444.2 != bt437.2) l0_0 a0_1 bt439.1 bt439.2) else (laws_FnExactLinksOf.j0 k true l0_0 a0_1 bt439.1 bt439.2)))))))) = some r := h
 clear h
 obtain ⟨t432, A30, H⟩ := Option.bind_eq_some_iff.mp H
 try dsimp only at H
 replace A30 := Aside0.mk A30; have A3 := A30; clear A30
 by_cases c4 : t432 < 0
 ·rw [if_pos c4] at H
  have c4b0 := decide_eq_true c4
  clear c4
  obtain rfl := Option.some.inj H
  go_enter Tryd.func5, Tryd.ntmps5
  go_wp2_with (first | ((with_reducible refine gd 2 rfl ?_); refine bxE 2 #[.slice A0_0 l0_0.length c0_0, .int .i64 a0_1] 24 ?_; intro gb431 hg w5 hbox hb; have BK431 := Aside0.mk hbox; have GW431 := nGB hg; have GE431 := nGB hg; replace HB := nSB hb; clear hb hbox hg; have hcz6 := cb2 BK431) | ((with_reducible refine gt 13 rfl ?_); refine gL 13 13 Tryd.func13 #[.agg #[.slice A0_0 l0_0.length c0_0, .int .i64 a0_1], .int .i64 1048576] ?_; (with_reducible refine (laws_szFs.calls k _ _ l0_0 a0_1 1048576 t432 _ ?side1 ?side2 A3.out).mono ?_); (case side1 => exact sD (Kd.C_below HR0_0.out HB.out)); (case side2 => exact HC0_0.out); rintro e w7 ⟨rfl, hb⟩; refine ⟨_, rfl, ?_⟩; replace BK431 := nK BK431 hb; replace HB := nSC hb; try clear hb))
  go_ret
  exact ⟨sE, sC⟩
 ·rw [if_neg c4] at H
  have c4b0 := decide_eq_false c4
  clear c4
  obtain ⟨⟨t433, t436⟩, A80, H⟩ := Option.bind_eq_some_iff.mp H
  try dsimp only at H
  replace A80 := Aside0.mk A80; have A8 := A80; clear A80
  obtain ⟨⟨t437, t438⟩, A90, H⟩ := Option.bind_eq_some_iff.mp H
  try dsimp only at H
  replace A90 := Aside0.mk A90; have A9 := A90; clear A90
  obtain ⟨⟨t439, t442⟩, A100, H⟩ := Option.bind_eq_some_iff.mp H
  try dsimp only at H
  replace A100 := Aside0.mk A100; have A10 := A100; clear A100
  obtain ⟨⟨t444, t445⟩, A110, H⟩ := Option.bind_eq_some_iff.mp H
  try dsimp only at H
  replace A110 := Aside0.mk A110; have A11 := A110; clear A110
  have HC12 := Aside0.mk H
  clear H
  go_enter Tryd.func5, Tryd.ntmps5
  go_upto_region 8 with (first | ((with_reducible refine gd 2 rfl ?_); refine bxE 2 #[.slice A0_0 l0_0.length c0_0, .int .i64 a0_1] 24 ?_; intro gb431 hg w13 hbox hb; have BK431 := Aside0.mk hbox; have GW431 := nGB hg; have GE431 := nGB hg; replace HB := nSB hb; clear hb hbox hg; have hcz14 := cb2 BK431) | ((with_reducible refine gt 13 rfl ?_); refine gL 13 13 Tryd.func13 #[.agg #[.slice A0_0 l0_0.length c0_0, .int .i64 a0_1], .int .i64 1048576] ?_; (with_reducible refine (laws_szFs.calls k _ _ l0_0 a0_1 1048576 t432 _ ?side1 ?side2 A3.out).mono ?_); (case side1 => exact sD (Kd.C_below HR0_0.out HB.out)); (case side2 => exact HC0_0.out); rintro e w15 ⟨rfl, hb⟩; refine ⟨_, rfl, ?_⟩; replace BK431 := nK BK431 hb; replace HB := nSC hb; try clear hb; have hcz16 := cb2 BK431) | ((with_reducible refine gt 15 rfl ?_); refine gL 15 18 Tryd.func15 #[.agg #[.slice A0_0 l0_0.length c0_0, .int .i64 a0_1]] ?_; (with_reducible refine (laws_toFs.calls k _ _ l0_0 a0_1 t433 t436 _ ?side1 ?side2 A8.out).mono ?_); (case side1 => exact sD (Kd.C_below HR0_0.out HB.out)); (case side2 => exact HC0_0.out); rintro e w17 ⟨v434, rfl, ho0, hb⟩; refine ⟨_, rfl, ?_⟩; have HO435 := Aside0.mk (Kd.S_lower ho0 (below_size sC)); replace BK431 := nK BK431 hb; replace HB := nSC hb; try clear hb; (try clear ho0); obtain ⟨Ao18, co18, eo18⟩ := Kd.S_slice HO435.out; subst eo18) | ((with_reducible refine gt 20 rfl ?_); refine gL 20 20 Tryd.func20 #[.agg #[.slice Ao18 t433.length co18, .int .i64 t436], .int .i64 a1] ?_; (with_reducible refine (spec_LinksOf.calls k _ _ t433 t436 a1 t437 t438 _ ?side1 ?side2 A9.out).mono ?_); (case side1 => exact sD (Kd.S_reads' HO435.out).2.2); (case side2 => exact (Kd.S_reads' HO435.out).2.1); rintro e w19 ⟨rfl, hb⟩; refine ⟨_, rfl, ?_⟩; replace HO435 := nS HO435 hb; replace BK431 := nK BK431 hb; replace HB := nSC hb; try clear hb; have hcz20 := cb2 BK431) | ((with_reducible refine gt 15 rfl ?_); refine gL 15 24 Tryd.func15 #[.agg #[.slice A0_0 l0_0.length c0_0, .int .i64 a0_1]] ?_; (with_reducible refine (laws_toFs.calls k _ _ l0_0 a0_1 t439 t442 _ ?side1 ?side2 A10.out).mono ?_); (case side1 => exact sD (Kd.C_below HR0_0.out HB.out)); (case side2 => exact HC0_0.out); rintro e w21 ⟨v440, rfl, ho0, hb⟩; refine ⟨_, rfl, ?_⟩; have HO441 := Aside0.mk (Kd.S_lower (Kd.S_new' ho0 (Kd.S_lt (by (with_reducible repeat (first | apply Kd.S_alloc | apply Kd.S_drewN | apply Kd.S_drew)); exact HO435.out))) (below_size sC)); replace HO435 := Aside0.mk (Kd.S_elder' (by (with_reducible repeat (first | apply Kd.S_alloc | apply Kd.S_drewN | apply Kd.S_drew)); exact HO435.out) (Kd.S_base ho0) hb); replace BK431 := nK BK431 hb; replace HB := nSC hb; try clear hb; (try clear ho0)) | ((with_reducible refine gd 8 rfl ?_); refine bxE 8 #[.slice none 0 0, .int .i64 0] 29 ?_; intro gb443 hg w22 hbox hb; replace HO435 := nS HO435 hb; replace HO441 := nS HO441 hb; have BK443 := Aside0.mk hbox; have GW443 := nGC hg; have GE443 := nGC hg; replace HB := nSC hb; have NB431_443 := nL BK431 hg; have NB443_431 := nH BK431 hg; replace BK431 := nK BK431 hb; clear hb hbox hg; obtain ⟨Ao23, co23, eo23⟩ := Kd.S_slice HO441.out; subst eo23; have hnb24 := NB443_431.out; have hnc24 := NB431_443.out; have hcz25 := cb2 BK443) | ((with_reducible refine gt 21 rfl ?_); refine gL 21 28 Tryd.func21 #[.agg #[.slice Ao23 t439.length co23, .int .i64 t442], .int .i64 a1] ?_; (with_reducible refine (impl_LinksOf.calls k _ _ t439 t442 a1 t444 t445 _ ?side1 ?side2 A11.out).mono ?_); (case side1 => refine (Kd.S_reads' (e := 53) (base := w.heap.size) (ok := fun k_ => (True ∧ some k_ ≠ (.slice Ao18 t433.length co18 : Value).ownBlock)) (n := t439.length) (c := co23) ?_).2.2; exact (by (with_reducible repeat (first | apply Kd.S_alloc | apply Kd.S_drewN | apply Kd.S_drew)); exact (Kd.S_mono (Kd.S_far (p := ⟨gb443, 1, none⟩) (Kd.S_far (p := ⟨gb443, 0, none⟩) (Kd.S_types HO441.out BK443.out (by decide)) (fun _ hk => hk.2) (.slice Ao23 t439.length co23)) (fun _ hk => hk.2) (.int .i64 t442)) (fun _ h_ => h_.1)))); (case side2 => exact (Kd.S_reads' HO441.out).2.1); rintro e w26 ⟨rfl, hb⟩; refine ⟨_, rfl, ?_⟩; replace HO435 := nSf HO435 BK443 hb; replace HO441 := nSf HO441 BK443 hb; replace BK431 := nF BK431 hb; replace BK443 := nX #[.slice Ao23 t439.length co23, .int .i64 t442] BK443 hb; replace HB := nSC hb; try clear hb))
  (try simp only [Act.put, List.setIfInBounds_toArray, List.set_cons_zero, List.set_cons_succ])
  go_cut [38] (fun v38 wc => ∃ (kq : Nat) (x38_11 : Bool), v38 = .bool x38_11 ∧ Aside0 (laws_FnExactLinksOf.j0 kq x38_11 l0_0 a0_1 t439 t442 = some r) ∧ Aside0 (kq ≤ k) ∧ Aside0 (Kd.S k53 53 wc w.heap.size (fun _ => True) (.slice Ao23 t439.length co23) t439) ∧ Aside0 (wc.heap[gb431]? = some (.cells #[(.slice A0_0 l0_0.length c0_0), .int .i64 a0_1] 24 (0, 0))) ∧ Aside0 (wc.heap[gb443]? = some (.cells #[(.slice Ao23 t439.length co23), .int .i64 t442] 29 (0, 0))) ∧ Aside0 (Below w.heap.size w wc))
  case first =>
   have H := HC12.out
   clear HC12
   by_cases c27 : t444 = t437
   ·rw [if_pos c27] at H
    have c27b0 := beq_iff_eq.mpr c27
    have c27b1 := bne_eq_false_iff_eq.mpr c27
    clear c27
    (first | rw [c27b0] | (simp only [i64_w, i32_w]; rw [c27b0]) | skip)
    have H' := Aside0.mk H
    clear H
    go_wp2
    go_meet
    case rel => exact ⟨_, ((t445 != t438)), sR, H', ⟨by first | omega | exact Nat.le_refl _⟩, ⟨by (with_reducible repeat (first | apply Kd.S_alloc | apply Kd.S_drewN | apply Kd.S_drew)); exact Kd.S_mono HO441.out (fun _ hk => trivial)⟩, ⟨sK BK431⟩, ⟨sK BK443⟩, ⟨sC⟩⟩
   ·rw [if_neg c27] at H
    have c27b0 := beq_eq_false_iff_ne.mpr c27
    have c27b1 := bne_iff_ne.mpr c27
    (first | rw [c27b0] | (simp only [i64_w, i32_w]; rw [c27b0]) | skip)
    have H' := Aside0.mk H
    clear H
    go_wp2
    go_meet
    case rel => exact ⟨_, (true), sR, H', ⟨by first | omega | exact Nat.le_refl _⟩, ⟨by (with_reducible repeat (first | apply Kd.S_alloc | apply Kd.S_drewN | apply Kd.S_drew)); exact Kd.S_mono HO441.out (fun _ hk => trivial)⟩, ⟨sK BK431⟩, ⟨sK BK443⟩, ⟨sC⟩⟩
  case rest =>
   clear HC12
   try clear c1
   try clear c2
   try clear p2
   try clear c4
   try clear c4b0
   try clear c5
   try clear c13
   try clear c15
   try clear c20
   try clear c21
   try clear c24
   try clear c27
   try clear c27b0
   try clear c27b1
   try clear hcz14
   try clear hcz16
   try clear hcz20
   try clear hcz25
   try clear hcz6
   obtain ⟨kq, x38_11, rfl, HA, HJ11, HO_444000, BK431, BK443, HB⟩ := hcut
   cases kq with
   | zero => exact absurd HA.out (by simp [laws_FnExactLinksOf.j0])
   | succ kj11 =>
    have H := HA.out
    clear HA
    simp only [laws_FnExactLinksOf.j0] at H
    by_cases c28 : x38_11 = true
    ·subst c28
     rw [if_pos rfl] at H
     obtain rfl := Option.some.inj H
     go_wp2
     go_ret
     exact ⟨sE, sC⟩
    ·replace c28 := Bool.eq_false_iff.mpr c28
     subst c28
     rw [if_neg (show ¬ (false = true) by decide)] at H
     obtain ⟨⟨t446, t449⟩, A290, H⟩ := Option.bind_eq_some_iff.mp H
     try dsimp only at H
     replace A290 := Aside0.mk A290; have A29 := A290; clear A290
     obtain ⟨t450, A300, H⟩ := Option.bind_eq_some_iff.mp H
     try dsimp only at H
     replace A300 := Aside0.mk A300; have A30 := A300; clear A300
     by_cases c31 : t450 = true
     ·subst c31
      rw [if_pos rfl] at H
      obtain rfl := Option.some.inj H
      try go_wp2
      have n0_ := Aside0.mk (Kd.S_drew HO_444000.out)
      have n1_ := Aside0.mk (blk_drew BK431.out)
      have n2_ := Aside0.mk (blk_drew BK443.out)
      have n3_ := Aside0.mk (below_drew1 HB.out)
      clear HO_444000
      clear BK431
      clear BK443
      clear HB
      have HO_444000 := n0_
      have BK431 := n1_
      have BK443 := n2_
      have HB := n3_
      clear n0_ n1_ n2_ n3_
      refine st4 5 [] (cz0 BK443) (cz1 BK443) (cz0 BK431) (cz1 BK431) (fun hHeld => ?_)
      generalize wc.drew = w32 at HO_444000 BK431 BK443 HB hHeld ⊢
      refine tk4 0 39 ?_
      refine tk4 1 40 ?_
      refine on 2 41 (fun K hK => ?_)
      refine gC Tryd.func15 #[.agg #[.slice A0_0 l0_0.length c0_0, .int .i64 a0_1]] ?_
      with_reducible refine (laws_toFs.calls kj11 _ _ l0_0 a0_1 t446 t449 _ ?side1 ?side2 A29.out).mono ?_
      (case side1 => exact sD (Kd.C_below HR0_0.out HB.out))
      (case side2 => exact HC0_0.out)
      rintro e w33 ⟨v447, rfl, ho0, hb⟩
      refine ⟨_, rfl, ?_⟩
      have n0_ := Aside0.mk (Kd.S_elder' (by (with_reducible repeat (first | apply Kd.S_alloc | apply Kd.S_drewN | apply Kd.S_drew)); exact HO_444000.out) (Kd.S_base ho0) hb)
      have n1_ := Aside0.mk (Kd.S_lower (Kd.S_new' ho0 (Kd.S_lt (by (with_reducible repeat (first | apply Kd.S_alloc | apply Kd.S_drewN | apply Kd.S_drew)); exact HO_444000.out))) (below_size sC))
      have n2_ := nK BK431 hb
      have n3_ := nK BK443 hb
      have n4_ := nSC hb
      clear HO_444000
      clear BK431
      clear BK443
      clear HB
      have HO_444000 := n0_
      have HO448 := n1_
      have BK431 := n2_
      have BK443 := n3_
      have HB := n4_
      clear n0_ n1_ n2_ n3_ n4_
      (try clear hb)
      (try clear hb2)
      (try clear hk)
      (try clear hi)
      (try clear ho0)
      obtain ⟨Ao34, co34, eo34⟩ := Kd.S_slice HO448.out
      (first | subst eo34 | (injection eo34 with f1_ f2_ f3_; have f4_ := f1_.symm; have f5_ := f3_.symm; clear f1_ f2_ f3_; subst f4_; subst f5_))
      refine hK.out _ _ ⟨cz0 BK443, cz1 BK443, cz0 BK431, cz1 BK431⟩ (fun hHeld => ?_)
      clear hK K
      refine nm ?_
      refine on 3 42 (fun K hK => ?_)
      refine gC Tryd.func17 #[.agg #[.slice Ao23 t439.length co23, .int .i64 t442], .agg #[.slice Ao34 t446.length co34, .int .i64 t449]] ?_
      with_reducible refine (laws_eqFs.calls kj11 _ _ t439 t442 _ _ t446 t449 true _ ?side1 ?side2 ?side3 ?side4 A30.out).mono ?_
      (case side1 => exact sD (Kd.S_reads' HO_444000.out).2.2)
      (case side2 => exact (Kd.S_reads' HO_444000.out).2.1)
      (case side3 => exact sD (Kd.S_reads' HO448.out).2.2)
      (case side4 => exact (Kd.S_reads' HO448.out).2.1)
      rintro e w35 ⟨rfl, hb⟩
      refine ⟨_, rfl, ?_⟩
      have n0_ := nS HO_444000 hb
      have n1_ := nS HO448 hb
      have n2_ := nK BK431 hb
      have n3_ := nK BK443 hb
      have n4_ := nSC hb
      clear HO_444000
      clear HO448
      clear BK431
      clear BK443
      clear HB
      have HO_444000 := n0_
      have HO448 := n1_
      have BK431 := n2_
      have BK443 := n3_
      have HB := n4_
      clear n0_ n1_ n2_ n3_ n4_
      (try clear hb)
      (try clear hb2)
      (try clear hk)
      (try clear hi)
      refine hK.out _ _ ⟨cz0 BK443, cz1 BK443, cz0 BK431, cz1 BK431⟩ (fun hHeld => ?_)
      clear hK K
      refine nm ?_
      refine pu 4 43 ?_
      refine dn ?_
      try go_wp2
      go_ret
      exact ⟨sE, sC⟩
     ·replace c31 := Bool.eq_false_iff.mpr c31
      subst c31
      rw [if_neg (show ¬ (false = true) by decide)] at H
      obtain rfl := Option.some.inj H
      try go_wp2
      have n0_ := Aside0.mk (Kd.S_drew HO_444000.out)
      have n1_ := Aside0.mk (blk_drew BK431.out)
      have n2_ := Aside0.mk (blk_drew BK443.out)
      have n3_ := Aside0.mk (below_drew1 HB.out)
      clear HO_444000
      clear BK431
      clear BK443
      clear HB
      have HO_444000 := n0_
      have BK431 := n1_
      have BK443 := n2_
      have HB := n3_
      clear n0_ n1_ n2_ n3_
      refine st4 5 [] (cz0 BK443) (cz1 BK443) (cz0 BK431) (cz1 BK431) (fun hHeld => ?_)
      generalize wc.drew = w36 at HO_444000 BK431 BK443 HB hHeld ⊢
      refine tk4 0 39 ?_
      refine tk4 1 40 ?_
      refine on 2 41 (fun K hK => ?_)
      refine gC Tryd.func15 #[.agg #[.slice A0_0 l0_0.length c0_0, .int .i64 a0_1]] ?_
      with_reducible refine (laws_toFs.calls kj11 _ _ l0_0 a0_1 t446 t449 _ ?side1 ?side2 A29.out).mono ?_
      (case side1 => exact sD (Kd.C_below HR0_0.out HB.out))
      (case side2 => exact HC0_0.out)
      rintro e w37 ⟨v447, rfl, ho0, hb⟩
      refine ⟨_, rfl, ?_⟩
      have n0_ := Aside0.mk (Kd.S_elder' (by (with_reducible repeat (first | apply Kd.S_alloc | apply Kd.S_drewN | apply Kd.S_drew)); exact HO_444000.out) (Kd.S_base ho0) hb)
      have n1_ := Aside0.mk (Kd.S_lower (Kd.S_new' ho0 (Kd.S_lt (by (with_reducible repeat (first | apply Kd.S_alloc | apply Kd.S_drewN | apply Kd.S_drew)); exact HO_444000.out))) (below_size sC))
      have n2_ := nK BK431 hb
      have n3_ := nK BK443 hb
      have n4_ := nSC hb
      clear HO_444000
      clear BK431
      clear BK443
      clear HB
      have HO_444000 := n0_
      have HO448 := n1_
      have BK431 := n2_
      have BK443 := n3_
      have HB := n4_
      clear n0_ n1_ n2_ n3_ n4_
      (try clear hb)
      (try clear hb2)
      (try clear hk)
      (try clear hi)
      (try clear ho0)
      obtain ⟨Ao38, co38, eo38⟩ := Kd.S_slice HO448.out
      (first | subst eo38 | (injection eo38 with f1_ f2_ f3_; have f4_ := f1_.symm; have f5_ := f3_.symm; clear f1_ f2_ f3_; subst f4_; subst f5_))
      refine hK.out _ _ ⟨cz0 BK443, cz1 BK443, cz0 BK431, cz1 BK431⟩ (fun hHeld => ?_)
      clear hK K
      refine nm ?_
      refine on 3 42 (fun K hK => ?_)
      refine gC Tryd.func17 #[.agg #[.slice Ao23 t439.length co23, .int .i64 t442], .agg #[.slice Ao38 t446.length co38, .int .i64 t449]] ?_
      with_reducible refine (laws_eqFs.calls kj11 _ _ t439 t442 _ _ t446 t449 false _ ?side1 ?side2 ?side3 ?side4 A30.out).mono ?_
      (case side1 => exact sD (Kd.S_reads' HO_444000.out).2.2)
      (case side2 => exact (Kd.S_reads' HO_444000.out).2.1)
      (case side3 => exact sD (Kd.S_reads' HO448.out).2.2)
      (case side4 => exact (Kd.S_reads' HO448.out).2.1)
      rintro e w39 ⟨rfl, hb⟩
      refine ⟨_, rfl, ?_⟩
      have n0_ := nS HO_444000 hb
      have n1_ := nS HO448 hb
      have n2_ := nK BK431 hb
      have n3_ := nK BK443 hb
      have n4_ := nSC hb
      clear HO_444000
      clear HO448
      clear BK431
      clear BK443
      clear HB
      have HO_444000 := n0_
      have HO448 := n1_
      have BK431 := n2_
      have BK443 := n3_
      have HB := n4_
      clear n0_ n1_ n2_ n3_ n4_
      (try clear hb)
      (try clear hb2)
      (try clear hk)
      (try clear hi)
      refine hK.out _ _ ⟨cz0 BK443, cz1 BK443, cz0 BK431, cz1 BK431⟩ (fun hHeld => ?_)
      clear hK K
      refine nm ?_
      refine pu 4 43 ?_
      refine dn ?_
      try go_wp2
      go_ret
      exact ⟨sE, sC⟩

/-- The one pure statement of laws_FnExactLinksOf. -/
def laws_FnExactLinksOf.Pure : Prop := ∀ (l0_0 : List (S82)) (a0_1 : Int) (a1 : Int), (l0_0.length ≤ 9223372036854775807 ∧ ∀ e5_ ∈ l0_0, ((Lit.int .i64 e5_.f0).wf = true ∧ ((Lit.int .i64 e5_.f1).wf = true ∧ ((Lit.int .i64 e5_.f2).wf = true ∧ ((Lit.int .i64 e5_.f3).wf = true ∧ ((Lit.int .i64 e5_.f4).wf = true ∧ (e5_.f5.size ≤ 9223372036854775807 ∧ (e5_.f6.length ≤ 9223372036854775807 ∧ ∀ e6_ ∈ e5_.f6, (e6_.f0.size ≤ 9223372036854775807 ∧ (Lit.int .i64 e6_.f1).wf = true))))))))) → (Lit.int .i64 a0_1).wf = true → (Lit.int .i64 a1).wf = true → ∃ k, laws_FnExactLinksOf.f k l0_0 a0_1 a1 = some true

/-! ### spec_l3Free: function 53 -/
def spec_l3Free.l0 : Nat → List (S53) → Int → Int → List (S53) → Int → Option (Int)
 | 0, _, _, _, _, _ => none
 | k + 1, x6, x7, x8, x452000, x452001 => if x8 < x7 then (if 0 ≤ x8 then (if x8 < (x6.length : Int) then (if ((rd_T53 x6 x8).f0) = 0 then (some x8) else (spec_l3Free.l0 k x6 x7 (wrap64 (x8 + 1)) x452000 x452001)) else (none)) else (none)) else (if (x452000.length : Int) = 40 then (some (-1)) else (some (x452000.length : Int)))
def spec_l3Free.f (k : Nat) (l0_0 : List (S53)) (a0_1 : Int) : Option (Int) := spec_l3Free.l0 k l0_0 (l0_0.length : Int) 0 l0_0 a0_1
theorem spec_l3Free.mono_l : ∀ k, (∀ y0 y1 y2 y3 y4, LeO (spec_l3Free.l0 k y0 y1 y2 y3 y4) (spec_l3Free.l0 (k + 1) y0 y1 y2 y3 y4))
 | 0 => fun _ _ _ _ _ r h => by simp [spec_l3Free.l0] at h
 | k + 1 => by
  have ih0 := spec_l3Free.mono_l k
  ·intro y0 y1 y2 y3 y4
   unfold spec_l3Free.l0
   exact mo
theorem spec_l3Free.mono : ∀ a0 a1 k, LeO (spec_l3Free.f k a0 a1) (spec_l3Free.f (k + 1) a0 a1) := by
 intro a0 a1 k
 have ih0 := spec_l3Free.mono_l k
 unfold spec_l3Free.f
 exact mo
set_option maxHeartbeats 8000000 in
set_option maxRecDepth 100000 in
theorem spec_l3Free.calls (k : Nat) (A0_0 : Option Addr) (c0_0 : Nat) (l0_0 : List (S53)) (a0_1 : Int) (r : Int) (w : World) (hr0_0 : Kd.C k53 w A0_0 l0_0.length l0_0) (hc0_0 : l0_0.length ≤ c0_0) (h : spec_l3Free.f k l0_0 a0_1 = some r) :
  Calls Tryd.prog 53 #[.agg #[.slice A0_0 l0_0.length c0_0, .int .i64 a0_1]] w fun e w' => e = .returned (.int .i64 r) ∧ Below w.heap.size w w' := by
 have hu29 := Tryd.underlying29
 have hu53 := Tryd.underlying53
 have HR0_0 := Aside0.mk hr0_0
 have HC0_0 := Aside0.mk hc0_0
 clear hr0_0 hc0_0
 have HB := Aside0.mk (Below.refl w.heap.size w)
 have H : (spec_l3Free.l0 k l0_0 (l0_0.length : Int) 0 l0_0 a0_1) = some r := h
 clear h
 have H' := Aside0.mk H
 clear H
 go_enter Tryd.func53, Tryd.ntmps53
 go_wp2_with (first | ((with_reducible refine gd 1 rfl ?_); refine bxE 1 #[.slice A0_0 l0_0.length c0_0, .int .i64 a0_1] 29 ?_; intro gb451 hg w2 hbox hb; have BK451 := Aside0.mk hbox; have GW451 := nGB hg; have GE451 := nGB hg; replace HB := nSB hb; clear hb hbox hg; have hcz3 := cb2 BK451))
 go_loopg [8] k (fun kq v8 w' => ∃ (x8_1 : Int), v8 = .int .i64 x8_1 ∧ Aside0 (spec_l3Free.l0 kq l0_0 (l0_0.length : Int) x8_1 l0_0 a0_1 = some r) ∧ Aside0 (kq ≤ k) ∧ Aside0 (w'.heap[gb451]? = some (.cells #[(.slice A0_0 l0_0.length c0_0), .int .i64 a0_1] 29 (0, 0))) ∧ Aside0 (Below w.heap.size w w'))
 case atStart => exact ⟨(0), sR, H', ⟨Nat.le_refl _⟩, ⟨sK BK451⟩, ⟨sC⟩⟩
 case round =>
  clear H'
  try clear p2
  try clear hcz3
  obtain ⟨x8_1, rfl, HA, HK1, BK451, HB⟩ := hrel
  cases gk with
  | zero => exact absurd HA.out (by simp [spec_l3Free.l0])
  | succ k1 =>
   have H := HA.out
   clear HA
   simp only [spec_l3Free.l0] at H
   by_cases c4 : x8_1 < (l0_0.length : Int)
   ·rw [if_pos c4] at H
    have c4b0 := decide_eq_true c4
    clear c4
    by_cases c5 : 0 ≤ x8_1
    ·rw [if_pos c5] at H
     have c5b0 := decide_eq_true c5
     clear c5
     by_cases c6 : x8_1 < (l0_0.length : Int)
     ·rw [if_pos c6] at H
      have c6b0 := decide_eq_true c6
      clear c6
      by_cases c7 : ((rd_T53 l0_0 x8_1).f0) = 0
      ·rw [if_pos c7] at H
       have c7b0 := beq_iff_eq.mpr c7
       have c7b1 := bne_eq_false_iff_eq.mpr c7
       clear c7
       obtain rfl := Option.some.inj H
       have p452 : 0 ≤ (x8_1 : Int) := sO
       have q452 : x8_1 < (l0_0.length : Int) := sO
       obtain ⟨ad452, A452_6, c452_6, e452, hx452_0, hx452_1, hx452_2, hx452_3, hx452_4, hx452_5, hx452_6, hl452_6, hi452_6⟩ := at_T53 HR0_0.out x8_1 p452 q452
       cases e452
       replace hx452_0 := hB HB hx452_0
       replace hx452_1 := hB HB hx452_1
       replace hx452_2 := hB HB hx452_2
       replace hx452_3 := hB HB hx452_3
       replace hx452_4 := hB HB hx452_4
       replace hx452_5 := hB HB hx452_5
       replace hx452_6 := hB HB hx452_6
       have HR452_6 := Aside0.mk hi452_6
       have HC452_6 := Aside0.mk hl452_6
       clear hi452_6 hl452_6
       replace p452 := eq_true p452
       replace q452 := eq_true q452
       go_wp2_with (first | ((with_reducible refine gd 4 rfl ?_); refine bxE 4 #[.int .i64 0, .int .i64 0, .int .i64 0, .int .i64 0, .int .i64 0, .string (⟨#[]⟩ : ByteArray), .slice none 0 0] 53 ?_; intro gb453 hg w8 hbox hb; have BK453 := Aside0.mk hbox; have GW453 := nGC hg; have GE453 := nGC hg; replace HB := nSC hb; have NB451_453 := nL BK451 hg; have NB453_451 := nH BK451 hg; replace BK451 := nK BK451 hb; clear hb hbox hg; have hnb9 := NB453_451.out; have hnc9 := NB451_453.out; have hcz10 := cb7 BK453))
       go_ret
       exact ⟨sE, sC⟩
      ·rw [if_neg c7] at H
       have c7b0 := beq_eq_false_iff_ne.mpr c7
       have c7b1 := bne_iff_ne.mpr c7
       have H' := Aside0.mk H
       clear H
       have p452 : 0 ≤ (x8_1 : Int) := sO
       have q452 : x8_1 < (l0_0.length : Int) := sO
       obtain ⟨ad452, A452_6, c452_6, e452, hx452_0, hx452_1, hx452_2, hx452_3, hx452_4, hx452_5, hx452_6, hl452_6, hi452_6⟩ := at_T53 HR0_0.out x8_1 p452 q452
       cases e452
       replace hx452_0 := hB HB hx452_0
       replace hx452_1 := hB HB hx452_1
       replace hx452_2 := hB HB hx452_2
       replace hx452_3 := hB HB hx452_3
       replace hx452_4 := hB HB hx452_4
       replace hx452_5 := hB HB hx452_5
       replace hx452_6 := hB HB hx452_6
       have HR452_6 := Aside0.mk hi452_6
       have HC452_6 := Aside0.mk hl452_6
       clear hi452_6 hl452_6
       replace p452 := eq_true p452
       replace q452 := eq_true q452
       go_wp2_with (first | ((with_reducible refine gd 4 rfl ?_); refine bxE 4 #[.int .i64 0, .int .i64 0, .int .i64 0, .int .i64 0, .int .i64 0, .string (⟨#[]⟩ : ByteArray), .slice none 0 0] 53 ?_; intro gb453 hg w11 hbox hb; have BK453 := Aside0.mk hbox; have GW453 := nGC hg; have GE453 := nGC hg; replace HB := nSC hb; have NB451_453 := nL BK451 hg; have NB453_451 := nH BK451 hg; replace BK451 := nK BK451 hb; clear hb hbox hg; have hnb12 := NB453_451.out; have hnc12 := NB451_453.out; have hcz13 := cb7 BK453))
       go_roundg k1
       case measure => have := HK1.out; omega
       case rel => exact ⟨(wrap64 (x8_1 + 1)), sR, H', ⟨by have := HK1.out; omega⟩, ⟨sX BK451⟩, ⟨sC⟩⟩
     ·rw [if_neg c6] at H
      exact absurd H (by simp)
    ·rw [if_neg c5] at H
     exact absurd H (by simp)
   ·rw [if_neg c4] at H
    have c4b0 := decide_eq_false c4
    clear c4
    by_cases c14 : (l0_0.length : Int) = 40
    ·rw [if_pos c14] at H
     have c14b0 := beq_iff_eq.mpr c14
     have c14b1 := bne_eq_false_iff_eq.mpr c14
     clear c14
     obtain rfl := Option.some.inj H
     have hcz15 := cb2 BK451
     go_wp2
     go_ret
     exact ⟨sE, sC⟩
    ·rw [if_neg c14] at H
     have c14b0 := beq_eq_false_iff_ne.mpr c14
     have c14b1 := bne_iff_ne.mpr c14
     obtain rfl := Option.some.inj H
     have hcz16 := cb2 BK451
     go_wp2
     go_ret
     exact ⟨sE, sC⟩

/-! ### spec_FreeNode: function 22 -/
def spec_FreeNode.f (k : Nat) (l0_0 : List (S53)) (a0_1 : Int) : Option (Int × Bool) := (spec_l3Good.f k l0_0 a0_1).bind fun t455 => (if t455 = true then ((spec_l3Free.f k l0_0 a0_1).bind fun t456 => (if t456 < 0 then (some (0, false)) else ((spec_l3Free.f k l0_0 a0_1).bind fun t457 => (some (t457, true))))) else (some (0, false)))
theorem spec_FreeNode.mono : ∀ a0 a1 k, LeO (spec_FreeNode.f k a0 a1) (spec_FreeNode.f (k + 1) a0 a1) := by
 intro a0 a1 k
 unfold spec_FreeNode.f
 have m0 := @spec_l3Free.mono
 have m1 := @spec_l3Good.mono
 exact mo
set_option maxHeartbeats 8000000 in
set_option maxRecDepth 100000 in
theorem spec_FreeNode.calls (k : Nat) (A0_0 : Option Addr) (c0_0 : Nat) (l0_0 : List (S53)) (a0_1 : Int) (r1 : Int) (r2 : Bool) (w : World) (hr0_0 : Kd.C k53 w A0_0 l0_0.length l0_0) (hc0_0 : l0_0.length ≤ c0_0) (h : spec_FreeNode.f k l0_0 a0_1 = some (r1, r2)) :
  Calls Tryd.prog 22 #[.agg #[.slice A0_0 l0_0.length c0_0, .int .i64 a0_1]] w fun e w' => e = .returned (.tuple #[.int .i64 r1, .bool r2]) ∧ Below w.heap.size w w' := by
 have hu29 := Tryd.underlying29
 have HR0_0 := Aside0.mk hr0_0
 have HC0_0 := Aside0.mk hc0_0
 clear hr0_0 hc0_0
 have HB := Aside0.mk (Below.refl w.heap.size w)
 have H : ((spec_l3Good.f k l0_0 a0_1).bind fun t455 => (if t455 = true then ((spec_l3Free.f k l0_0 a0_1).bind fun t456 => (if t456 < 0 then (some (0, false)) else ((spec_l3Free.f k l0_0 a0_1).bind fun t457 => (some (t457, true))))) else (some (0, false)))) = some (r1, r2) := h
 clear h
 obtain ⟨t455, A20, H⟩ := Option.bind_eq_some_iff.mp H
 try dsimp only at H
 replace A20 := Aside0.mk A20; have A2 := A20; clear A20
 by_cases c3 : t455 = true
 ·subst c3
  rw [if_pos rfl] at H
  obtain ⟨t456, A40, H⟩ := Option.bind_eq_some_iff.mp H
  try dsimp only at H
  replace A40 := Aside0.mk A40; have A4 := A40; clear A40
  by_cases c5 : t456 < 0
  ·rw [if_pos c5] at H
   have c5b0 := decide_eq_true c5
   clear c5
   simp only [Option.some.injEq, Prod.mk.injEq] at H
   obtain ⟨rfl, rfl⟩ := H
   go_enter Tryd.func22, Tryd.ntmps22
   go_wp2_with (first | ((with_reducible refine gd 1 rfl ?_); refine bxE 1 #[.slice A0_0 l0_0.length c0_0, .int .i64 a0_1] 29 ?_; intro gb454 hg w6 hbox hb; have BK454 := Aside0.mk hbox; have GW454 := nGB hg; have GE454 := nGB hg; replace HB := nSB hb; clear hb hbox hg; have hcz7 := cb2 BK454) | ((with_reducible refine gt 41 rfl ?_); refine gL 41 5 Tryd.func41 #[.agg #[.slice A0_0 l0_0.length c0_0, .int .i64 a0_1]] ?_; (with_reducible refine (spec_l3Good.calls k _ _ l0_0 a0_1 true _ ?side1 ?side2 A2.out).mono ?_); (case side1 => exact sD (Kd.C_below HR0_0.out HB.out)); (case side2 => exact HC0_0.out); rintro e w8 ⟨rfl, hb⟩; refine ⟨_, rfl, ?_⟩; replace BK454 := nK BK454 hb; replace HB := nSC hb; try clear hb; have hcz9 := cb2 BK454) | (go_at_call 53; (with_reducible refine (spec_l3Free.calls k _ _ l0_0 a0_1 t456 _ ?side1 ?side2 A4.out).mono ?_); (case side1 => exact sD (Kd.C_below HR0_0.out HB.out)); (case side2 => exact HC0_0.out); rintro e w10 ⟨rfl, hb⟩; replace BK454 := nK BK454 hb; replace HB := nSC hb; try clear hb))
   go_ret2
   exact ⟨sE, sC⟩
  ·rw [if_neg c5] at H
   have c5b0 := decide_eq_false c5
   clear c5
   obtain ⟨t457, A110, H⟩ := Option.bind_eq_some_iff.mp H
   try dsimp only at H
   replace A110 := Aside0.mk A110; have A11 := A110; clear A110
   simp only [Option.some.injEq, Prod.mk.injEq] at H
   obtain ⟨rfl, rfl⟩ := H
   go_enter Tryd.func22, Tryd.ntmps22
   go_wp2_with (first | ((with_reducible refine gd 1 rfl ?_); refine bxE 1 #[.slice A0_0 l0_0.length c0_0, .int .i64 a0_1] 29 ?_; intro gb454 hg w12 hbox hb; have BK454 := Aside0.mk hbox; have GW454 := nGB hg; have GE454 := nGB hg; replace HB := nSB hb; clear hb hbox hg; have hcz13 := cb2 BK454) | ((with_reducible refine gt 41 rfl ?_); refine gL 41 5 Tryd.func41 #[.agg #[.slice A0_0 l0_0.length c0_0, .int .i64 a0_1]] ?_; (with_reducible refine (spec_l3Good.calls k _ _ l0_0 a0_1 true _ ?side1 ?side2 A2.out).mono ?_); (case side1 => exact sD (Kd.C_below HR0_0.out HB.out)); (case side2 => exact HC0_0.out); rintro e w14 ⟨rfl, hb⟩; refine ⟨_, rfl, ?_⟩; replace BK454 := nK BK454 hb; replace HB := nSC hb; try clear hb; have hcz15 := cb2 BK454) | (go_at_call 53; (with_reducible refine (spec_l3Free.calls k _ _ l0_0 a0_1 t456 _ ?side1 ?side2 A4.out).mono ?_); (case side1 => exact sD (Kd.C_below HR0_0.out HB.out)); (case side2 => exact HC0_0.out); rintro e w16 ⟨rfl, hb⟩; replace BK454 := nK BK454 hb; replace HB := nSC hb; try clear hb; have hcz17 := cb2 BK454) | ((with_reducible refine gt 53 rfl ?_); refine gL 53 13 Tryd.func53 #[.agg #[.slice A0_0 l0_0.length c0_0, .int .i64 a0_1]] ?_; (with_reducible refine (spec_l3Free.calls k _ _ l0_0 a0_1 t457 _ ?side1 ?side2 A11.out).mono ?_); (case side1 => exact sD (Kd.C_below HR0_0.out HB.out)); (case side2 => exact HC0_0.out); rintro e w18 ⟨rfl, hb⟩; refine ⟨_, rfl, ?_⟩; replace BK454 := nK BK454 hb; replace HB := nSC hb; try clear hb))
   go_ret2
   exact ⟨sE, sC⟩
 ·replace c3 := Bool.eq_false_iff.mpr c3
  subst c3
  rw [if_neg (show ¬ (false = true) by decide)] at H
  simp only [Option.some.injEq, Prod.mk.injEq] at H
  obtain ⟨rfl, rfl⟩ := H
  go_enter Tryd.func22, Tryd.ntmps22
  go_wp2_with (first | ((with_reducible refine gd 1 rfl ?_); refine bxE 1 #[.slice A0_0 l0_0.length c0_0, .int .i64 a0_1] 29 ?_; intro gb454 hg w19 hbox hb; have BK454 := Aside0.mk hbox; have GW454 := nGB hg; have GE454 := nGB hg; replace HB := nSB hb; clear hb hbox hg; have hcz20 := cb2 BK454) | ((with_reducible refine gt 41 rfl ?_); refine gL 41 5 Tryd.func41 #[.agg #[.slice A0_0 l0_0.length c0_0, .int .i64 a0_1]] ?_; (with_reducible refine (spec_l3Good.calls k _ _ l0_0 a0_1 false _ ?side1 ?side2 A2.out).mono ?_); (case side1 => exact sD (Kd.C_below HR0_0.out HB.out)); (case side2 => exact HC0_0.out); rintro e w21 ⟨rfl, hb⟩; refine ⟨_, rfl, ?_⟩; replace BK454 := nK BK454 hb; replace HB := nSC hb; try clear hb))
  go_ret2
  exact ⟨sE, sC⟩

-- NOT PRINTED: function 85 (impl_Node)

/-! ### impl_Fs_free_1: function 86 -/
def impl_Fs_free_1.f (a0_0 : Int) (a0_1 : Int) (a0_2 : Int) (a0_3 : Int) (a0_4 : Int) (a0_5 : ByteArray) (l0_6 : List (S60)) : Option (Bool) := some (a0_0 == 0)
set_option maxHeartbeats 8000000 in
set_option maxRecDepth 100000 in
theorem impl_Fs_free_1.calls (a0_0 : Int) (a0_1 : Int) (a0_2 : Int) (a0_3 : Int) (a0_4 : Int) (a0_5 : ByteArray) (A0_6 : Option Addr) (c0_6 : Nat) (l0_6 : List (S60)) (r : Bool) (w : World) (hr0_6 : Kd.C k60 w A0_6 l0_6.length l0_6) (hc0_6 : l0_6.length ≤ c0_6) (h : impl_Fs_free_1.f a0_0 a0_1 a0_2 a0_3 a0_4 a0_5 l0_6 = some r) :
  Calls Tryd.prog 86 #[.agg #[.int .i64 a0_0, .int .i64 a0_1, .int .i64 a0_2, .int .i64 a0_3, .int .i64 a0_4, .string a0_5, .slice A0_6 l0_6.length c0_6]] w fun e w' => e = .returned (.bool r) ∧ Below w.heap.size w w' := by
 have hu53 := Tryd.underlying53
 have HR0_6 := Aside0.mk hr0_6
 have HC0_6 := Aside0.mk hc0_6
 clear hr0_6 hc0_6
 have HB := Aside0.mk (Below.refl w.heap.size w)
 have H : (some (a0_0 == 0)) = some r := h
 clear h
 obtain rfl := Option.some.inj H
 go_enter Tryd.func86, Tryd.ntmps86
 go_wp2_with (first | ((with_reducible refine gd 1 rfl ?_); refine bxE 1 #[.int .i64 a0_0, .int .i64 a0_1, .int .i64 a0_2, .int .i64 a0_3, .int .i64 a0_4, .string a0_5, .slice A0_6 l0_6.length c0_6] 53 ?_; intro gb458 hg w2 hbox hb; have BK458 := Aside0.mk hbox; have GW458 := nGB hg; have GE458 := nGB hg; replace HB := nSB hb; clear hb hbox hg; have hcz3 := cb7 BK458))
 go_ret
 exact ⟨sE, sC⟩

/-! ### impl_Node__impl_Fs_free_1: function 85 -/
def impl_Node__impl_Fs_free_1.l0 : Nat → List (S53) → Int → Int → Option (Int)
 | 0, _, _, _ => none
 | k + 1, x0, x7, x8 => if x8 < x7 then (if 0 ≤ x8 then (if x8 < (x0.length : Int) then ((impl_Fs_free_1.f ((rd_T53 x0 x8).f0) ((rd_T53 x0 x8).f1) ((rd_T53 x0 x8).f2) ((rd_T53 x0 x8).f3) ((rd_T53 x0 x8).f4) ((rd_T53 x0 x8).f5) ((rd_T53 x0 x8).f6)).bind fun t460 => (if t460 = true then (some x8) else (impl_Node__impl_Fs_free_1.l0 k x0 x7 (wrap64 (x8 + 1))))) else (none)) else (none)) else (some (-1))
def impl_Node__impl_Fs_free_1.f (k : Nat) (l0 : List (S53))  : Option (Int) := impl_Node__impl_Fs_free_1.l0 k l0 (l0.length : Int) 0
theorem impl_Node__impl_Fs_free_1.mono_l : ∀ k, (∀ y0 y1 y2, LeO (impl_Node__impl_Fs_free_1.l0 k y0 y1 y2) (impl_Node__impl_Fs_free_1.l0 (k + 1) y0 y1 y2))
 | 0 => fun _ _ _ r h => by simp [impl_Node__impl_Fs_free_1.l0] at h
 | k + 1 => by
  have ih0 := impl_Node__impl_Fs_free_1.mono_l k
  ·intro y0 y1 y2
   unfold impl_Node__impl_Fs_free_1.l0
   exact mo
theorem impl_Node__impl_Fs_free_1.mono : ∀ a0 k, LeO (impl_Node__impl_Fs_free_1.f k a0) (impl_Node__impl_Fs_free_1.f (k + 1) a0) := by
 intro a0 k
 have ih0 := impl_Node__impl_Fs_free_1.mono_l k
 unfold impl_Node__impl_Fs_free_1.f
 exact mo
set_option maxHeartbeats 8000000 in
set_option maxRecDepth 100000 in
theorem impl_Node__impl_Fs_free_1.calls (k : Nat) (A0 : Option Addr) (c0 : Nat) (l0 : List (S53))  (r : Int) (w : World) (hr0 : Kd.C k53 w A0 l0.length l0) (hc0 : l0.length ≤ c0) (h : impl_Node__impl_Fs_free_1.f k l0 = some r) :
  Calls Tryd.prog 85 #[.slice A0 l0.length c0, .func (.func 86) #[] #[]] w fun e w' => e = .returned (.int .i64 r) ∧ Below w.heap.size w w' := by
 have hu53 := Tryd.underlying53
 have HR0 := Aside0.mk hr0
 have HC0 := Aside0.mk hc0
 clear hr0 hc0
 have HB := Aside0.mk (Below.refl w.heap.size w)
 have H : (impl_Node__impl_Fs_free_1.l0 k l0 (l0.length : Int) 0) = some r := h
 clear h
 have H' := Aside0.mk H
 clear H
 go_enter Tryd.func85, Tryd.ntmps85
 go_wp2
 go_loopg [8] k (fun kq v8 w' => ∃ (x8_1 : Int), v8 = .int .i64 x8_1 ∧ Aside0 (impl_Node__impl_Fs_free_1.l0 kq l0 (l0.length : Int) x8_1 = some r) ∧ Aside0 (kq ≤ k) ∧ Aside0 (Below w.heap.size w w'))
 case atStart => exact ⟨(0), sR, H', ⟨Nat.le_refl _⟩, ⟨sB⟩⟩
 case round =>
  clear H'
  try clear p2
  obtain ⟨x8_1, rfl, HA, HK1, HB⟩ := hrel
  cases gk with
  | zero => exact absurd HA.out (by simp [impl_Node__impl_Fs_free_1.l0])
  | succ k1 =>
   have H := HA.out
   clear HA
   simp only [impl_Node__impl_Fs_free_1.l0] at H
   by_cases c3 : x8_1 < (l0.length : Int)
   ·rw [if_pos c3] at H
    have c3b0 := decide_eq_true c3
    clear c3
    by_cases c4 : 0 ≤ x8_1
    ·rw [if_pos c4] at H
     have c4b0 := decide_eq_true c4
     clear c4
     by_cases c5 : x8_1 < (l0.length : Int)
     ·rw [if_pos c5] at H
      have c5b0 := decide_eq_true c5
      clear c5
      obtain ⟨t460, A60, H⟩ := Option.bind_eq_some_iff.mp H
      try dsimp only at H
      replace A60 := Aside0.mk A60; have A6 := A60; clear A60
      by_cases c7 : t460 = true
      ·subst c7
       rw [if_pos rfl] at H
       obtain rfl := Option.some.inj H
       have p459 : 0 ≤ (x8_1 : Int) := sO
       have q459 : x8_1 < (l0.length : Int) := sO
       obtain ⟨ad459, A459_6, c459_6, e459, hx459_0, hx459_1, hx459_2, hx459_3, hx459_4, hx459_5, hx459_6, hl459_6, hi459_6⟩ := at_T53 HR0.out x8_1 p459 q459
       cases e459
       replace hx459_0 := hB HB hx459_0
       replace hx459_1 := hB HB hx459_1
       replace hx459_2 := hB HB hx459_2
       replace hx459_3 := hB HB hx459_3
       replace hx459_4 := hB HB hx459_4
       replace hx459_5 := hB HB hx459_5
       replace hx459_6 := hB HB hx459_6
       have HR459_6 := Aside0.mk hi459_6
       have HC459_6 := Aside0.mk hl459_6
       clear hi459_6 hl459_6
       replace p459 := eq_true p459
       replace q459 := eq_true q459
       go_wp2_with (first | (go_at_call 86; (with_reducible refine (impl_Fs_free_1.calls ((rd_T53 l0 x8_1).f0) ((rd_T53 l0 x8_1).f1) ((rd_T53 l0 x8_1).f2) ((rd_T53 l0 x8_1).f3) ((rd_T53 l0 x8_1).f4) ((rd_T53 l0 x8_1).f5) _ _ ((rd_T53 l0 x8_1).f6) true _ ?side1 ?side2 A6.out).mono ?_); (case side1 => exact sD (Kd.C_below HR459_6.out HB.out)); (case side2 => exact HC459_6.out); rintro e w8 ⟨rfl, hb⟩; replace HB := nSB hb; try clear hb))
       go_ret
       exact ⟨sE, sB⟩
      ·replace c7 := Bool.eq_false_iff.mpr c7
       subst c7
       rw [if_neg (show ¬ (false = true) by decide)] at H
       have H' := Aside0.mk H
       clear H
       have p459 : 0 ≤ (x8_1 : Int) := sO
       have q459 : x8_1 < (l0.length : Int) := sO
       obtain ⟨ad459, A459_6, c459_6, e459, hx459_0, hx459_1, hx459_2, hx459_3, hx459_4, hx459_5, hx459_6, hl459_6, hi459_6⟩ := at_T53 HR0.out x8_1 p459 q459
       cases e459
       replace hx459_0 := hB HB hx459_0
       replace hx459_1 := hB HB hx459_1
       replace hx459_2 := hB HB hx459_2
       replace hx459_3 := hB HB hx459_3
       replace hx459_4 := hB HB hx459_4
       replace hx459_5 := hB HB hx459_5
       replace hx459_6 := hB HB hx459_6
       have HR459_6 := Aside0.mk hi459_6
       have HC459_6 := Aside0.mk hl459_6
       clear hi459_6 hl459_6
       replace p459 := eq_true p459
       replace q459 := eq_true q459
       go_wp2_with (first | (go_at_call 86; (with_reducible refine (impl_Fs_free_1.calls ((rd_T53 l0 x8_1).f0) ((rd_T53 l0 x8_1).f1) ((rd_T53 l0 x8_1).f2) ((rd_T53 l0 x8_1).f3) ((rd_T53 l0 x8_1).f4) ((rd_T53 l0 x8_1).f5) _ _ ((rd_T53 l0 x8_1).f6) false _ ?side1 ?side2 A6.out).mono ?_); (case side1 => exact sD (Kd.C_below HR459_6.out HB.out)); (case side2 => exact HC459_6.out); rintro e w9 ⟨rfl, hb⟩; replace HB := nSB hb; try clear hb))
       go_roundg k1
       case measure => have := HK1.out; omega
       case rel => exact ⟨(wrap64 (x8_1 + 1)), sR, H', ⟨by have := HK1.out; omega⟩, ⟨sB⟩⟩
     ·rw [if_neg c5] at H
      exact absurd H (by simp)
    ·rw [if_neg c4] at H
     exact absurd H (by simp)
   ·rw [if_neg c3] at H
    have c3b0 := decide_eq_false c3
    clear c3
    obtain rfl := Option.some.inj H
    go_wp2
    go_ret
    exact ⟨sE, sB⟩

end Go.Proofs.YteffcglgdfhkmaaDoor.PFs
