-- Written by a program of this session (wip/print2) out of the translation. Lean checks it.
import Derived.Test.YtnmiglfmainhiaaGreatDoorPNbx0
import Derived.Test.YtnmiglfmainhiaaGreatDoorPNbx1
import Derived.Test.YtnmiglfmainhiaaGreatDoorPNbx3
import Derived.Test.YtnmiglfmainhiaaGreatDoorPNbx4
import Derived.Test.YtnmiglfmainhiaaGreatDoorPNbx10
import Derived.Test.YtnmiglfmainhiaaGreatDoorPNbx15
namespace Go.Proofs.YtnmiglfmainhiaaGreatDoor.PNb
open Go.RowKit Go.Proofs.YtnmiglfmainhiaaGreatDoorW.PrintWords Go.Proofs.YtnmiglfmainhiaaGreatDoorW.PrintLast Go.Proofs.YtnmiglfmainhiaaGreatDoorW.PrintMore
attribute [local go_sem] max2_int min2_int max_two min_two max_three min_three max_four min_four   -- for this text's walks alone
set_option linter.unusedVariables false
set_option linter.unusedSimpArgs false
set_option maxHeartbeats 8000000
set_option maxRecDepth 100000

/-! ### laws_FnExactSizeBelow: function 5 -/
def laws_FnExactSizeBelow.j0 : Nat → Bool → List (S101) → Int → List (S74) → Int → Option (Bool)
 | 0, _, _, _, _, _ => none
 | k + 1, x38, x413000, x413001, x425000, x425001 => if x38 = true then (some false) else ((laws_toFs.f k x413000 x413001).bind fun bt427 => ((laws_eqFs.f k x425000 x425001 bt427.1 bt427.2).bind fun t431 => (if t431 = true then (some true) else (some false))))
def laws_FnExactSizeBelow.f (k : Nat) (l0_0 : List (S101)) (a0_1 : Int) (a1 : Int) : Option (Bool) := (laws_szFs.f k l0_0 a0_1 1048576).bind fun t413 => (if t413 < 0 then (some true) else ((laws_toFs.f k l0_0 a0_1).bind fun bt414 => ((spec_SizeBelow.f k bt414.1 bt414.2 a1).bind fun bt418 => ((laws_toFs.f k l0_0 a0_1).bind fun bt420 => ((impl_SizeBelow.f k bt420.1 bt420.2 a1).bind fun bt425 => (if bt425.1 = bt418.1 then (laws_FnExactSizeBelow.j0 k (bt425.2 != bt418.2) l0_0 a0_1 bt420.1 bt420.2) else (laws_FnExactSizeBelow.j0 k true l0_0 a0_1 bt420.1 bt420.2)))))))
theorem laws_FnExactSizeBelow.mono_l : ∀ k, (∀ y0 y1 y2 y3 y4, LeO (laws_FnExactSizeBelow.j0 k y0 y1 y2 y3 y4) (laws_FnExactSizeBelow.j0 (k + 1) y0 y1 y2 y3 y4))
 | 0 => fun _ _ _ _ _ r h => by simp [laws_FnExactSizeBelow.j0] at h
 | k + 1 => by
  have ih0 := laws_FnExactSizeBelow.mono_l k
  ·intro y0 y1 y2 y3 y4
   unfold laws_FnExactSizeBelow.j0
   have m0 := @impl_SizeBelow.mono
   have m1 := @laws_eqFs.mono
   have m2 := @laws_szFs.mono
   have m3 := @laws_toFs.mono
   have m4 := @spec_SizeBelow.mono
   exact mo
theorem laws_FnExactSizeBelow.mono : ∀ a0 a1 a2 k, LeO (laws_FnExactSizeBelow.f k a0 a1 a2) (laws_FnExactSizeBelow.f (k + 1) a0 a1 a2) := by
 intro a0 a1 a2 k
 have ih0 := laws_FnExactSizeBelow.mono_l k
 unfold laws_FnExactSizeBelow.f
 have m0 := @impl_SizeBelow.mono
 have m1 := @laws_eqFs.mono
 have m2 := @laws_szFs.mono
 have m3 := @laws_toFs.mono
 have m4 := @spec_SizeBelow.mono
 exact mo
theorem laws_FnExactSizeBelow.calls (k : Nat) (A0_0 : Option Addr) (c0_0 : Nat) (l0_0 : List (S101)) (a0_1 : Int) (a1 : Int) (r : Bool) (w : World) (hr0_0 : Kd.C k101 w A0_0 l0_0.length l0_0) (hc0_0 : l0_0.length ≤ c0_0) (h : laws_FnExactSizeBelow.f k l0_0 a0_1 a1 = some r) :
  Calls Tryz.prog 5 #[.agg #[.slice A0_0 l0_0.length c0_0, .int .i64 a0_1], .int .i64 a1] w fun e w' => e = .returned (.bool r) ∧ Below w.heap.size w w' := by
 have hu24 := Tryz.underlying24
 have hu31 := Tryz.underlying31
 have HR0_0 := Aside0.mk hr0_0
 have HC0_0 := Aside0.mk hc0_0
 clear hr0_0 hc0_0
 have HB := Aside0.mk (Below.refl w.heap.size w)
 have H : ((laws_szFs.f k l0_0 a0_1 1048576).bind fun t413 => (if t413 < 0 then (some true) else ((laws_toFs.f k l0_0 a0_1).bind fun bt414 => ((spec_SizeBelow.f k bt414.1 bt414.2 a1).bind fun bt418 => ((laws_toFs.f k l0_0 a0_1).bind fun bt420 => ((impl_SizeBelow.f k bt420.1 bt420.2 a1).bind fun bt425 => (if bt425.1 = bt418.1 then (laws_FnExactSizeBelow.j0 k (bt425.2 != bt418.2) l0_0 a0_1 bt420.1 bt420.2) else (laws_FnExactSizeBelow.j0 k true l0_0 a0_1 bt420.1 bt420.2)))))))) = some r := h
 clear h
 obtain ⟨t413, A3, H⟩ := bS H
 try dsimp only at H
 by_cases c4 : t413 < 0
 ·rw [if_pos c4] at H
  have c4b0 := decide_eq_true c4
  clear c4
  obtain rfl := Option.some.inj H
  go_enter Tryz.func5, Tryz.ntmps5
  go_wp2_with (first | ((with_reducible refine gd 2 rfl ?_); refine bxE 2 #[.slice A0_0 l0_0.length c0_0, .int .i64 a0_1] 24 ?_; intro gb412 hg w5 hbox hb; have BK412 := Aside0.mk hbox; have GW412 := nGB hg; have GE412 := nGB hg; replace HB := nSB hb; clear hb hbox hg; have hcz6 := cb2 BK412) | ((with_reducible refine gt 10 rfl ?_); refine gL 10 13 Tryz.func10 #[.agg #[.slice A0_0 l0_0.length c0_0, .int .i64 a0_1], .int .i64 1048576] ?_; (with_reducible refine (laws_szFs.calls k _ _ l0_0 a0_1 1048576 t413 _ ?side1 ?side2 A3.out).mono ?_); (case side1 => exact sD (Kd.C_below HR0_0.out HB.out)); (case side2 => exact HC0_0.out); rintro e w7 ⟨rfl, hb⟩; refine ⟨_, rfl, ?_⟩; replace BK412 := nK BK412 hb; replace HB := nSC hb; try clear hb))
  go_ret
  exact ⟨sE, sC⟩
 ·rw [if_neg c4] at H
  have c4b0 := decide_eq_false c4
  clear c4
  obtain ⟨⟨t414, t417⟩, A8, H⟩ := bS H
  try dsimp only at H
  obtain ⟨⟨t418, t419⟩, A9, H⟩ := bS H
  try dsimp only at H
  obtain ⟨⟨t420, t423⟩, A10, H⟩ := bS H
  try dsimp only at H
  obtain ⟨⟨t425, t426⟩, A11, H⟩ := bS H
  try dsimp only at H
  have HC12 := Aside0.mk H
  clear H
  go_enter Tryz.func5, Tryz.ntmps5
  go_upto_region 8 with (first | ((with_reducible refine gd 2 rfl ?_); refine bxE 2 #[.slice A0_0 l0_0.length c0_0, .int .i64 a0_1] 24 ?_; intro gb412 hg w13 hbox hb; have BK412 := Aside0.mk hbox; have GW412 := nGB hg; have GE412 := nGB hg; replace HB := nSB hb; clear hb hbox hg; have hcz14 := cb2 BK412) | ((with_reducible refine gt 10 rfl ?_); refine gL 10 13 Tryz.func10 #[.agg #[.slice A0_0 l0_0.length c0_0, .int .i64 a0_1], .int .i64 1048576] ?_; (with_reducible refine (laws_szFs.calls k _ _ l0_0 a0_1 1048576 t413 _ ?side1 ?side2 A3.out).mono ?_); (case side1 => exact sD (Kd.C_below HR0_0.out HB.out)); (case side2 => exact HC0_0.out); rintro e w15 ⟨rfl, hb⟩; refine ⟨_, rfl, ?_⟩; replace BK412 := nK BK412 hb; replace HB := nSC hb; try clear hb; have hcz16 := cb2 BK412) | ((with_reducible refine gt 12 rfl ?_); refine gL 12 18 Tryz.func12 #[.agg #[.slice A0_0 l0_0.length c0_0, .int .i64 a0_1]] ?_; (with_reducible refine (laws_toFs.calls k _ _ l0_0 a0_1 t414 t417 _ ?side1 ?side2 A8.out).mono ?_); (case side1 => exact sD (Kd.C_below HR0_0.out HB.out)); (case side2 => exact HC0_0.out); rintro e w17 ⟨v415, rfl, ho0, hb⟩; refine ⟨_, rfl, ?_⟩; have HO416 := Aside0.mk (Kd.S_lower ho0 (below_size sC)); replace BK412 := nK BK412 hb; replace HB := nSC hb; try clear hb; (try clear ho0); obtain ⟨Ao18, co18, eo18⟩ := Kd.S_slice HO416.out; subst eo18) | ((with_reducible refine gt 21 rfl ?_); refine gL 21 20 Tryz.func21 #[.agg #[.slice Ao18 t414.length co18, .int .i64 t417], .int .i64 a1] ?_; (with_reducible refine (spec_SizeBelow.calls k _ _ t414 t417 a1 t418 t419 _ ?side1 ?side2 A9.out).mono ?_); (case side1 => exact sD (Kd.S_reads' HO416.out).2.2); (case side2 => exact (Kd.S_reads' HO416.out).2.1); rintro e w19 ⟨rfl, hb⟩; refine ⟨_, rfl, ?_⟩; replace HO416 := nS HO416 hb; replace BK412 := nK BK412 hb; replace HB := nSC hb; try clear hb; have hcz20 := cb2 BK412) | ((with_reducible refine gt 12 rfl ?_); refine gL 12 24 Tryz.func12 #[.agg #[.slice A0_0 l0_0.length c0_0, .int .i64 a0_1]] ?_; (with_reducible refine (laws_toFs.calls k _ _ l0_0 a0_1 t420 t423 _ ?side1 ?side2 A10.out).mono ?_); (case side1 => exact sD (Kd.C_below HR0_0.out HB.out)); (case side2 => exact HC0_0.out); rintro e w21 ⟨v421, rfl, ho0, hb⟩; refine ⟨_, rfl, ?_⟩; have HO422 := Aside0.mk (Kd.S_lower (Kd.S_new' ho0 (Kd.S_lt (by (with_reducible repeat (first | apply Kd.S_alloc | apply Kd.S_drewN | apply Kd.S_drew)); exact HO416.out))) (below_size sC)); replace HO416 := Aside0.mk (Kd.S_elder' (by (with_reducible repeat (first | apply Kd.S_alloc | apply Kd.S_drewN | apply Kd.S_drew)); exact HO416.out) (Kd.S_base ho0) hb); replace BK412 := nK BK412 hb; replace HB := nSC hb; try clear hb; (try clear ho0)) | ((with_reducible refine gd 8 rfl ?_); refine bxE 8 #[.slice none 0 0, .int .i64 0] 31 ?_; intro gb424 hg w22 hbox hb; replace HO416 := nS HO416 hb; replace HO422 := nS HO422 hb; have BK424 := Aside0.mk hbox; have GW424 := nGC hg; have GE424 := nGC hg; replace HB := nSC hb; have NB412_424 := nL BK412 hg; have NB424_412 := nH BK412 hg; replace BK412 := nK BK412 hb; clear hb hbox hg; obtain ⟨Ao23, co23, eo23⟩ := Kd.S_slice HO422.out; subst eo23; have hnb24 := NB424_412.out; have hnc24 := NB412_424.out; have hcz25 := cb2 BK424) | ((with_reducible refine gt 22 rfl ?_); refine gL 22 28 Tryz.func22 #[.agg #[.slice Ao23 t420.length co23, .int .i64 t423], .int .i64 a1] ?_; (with_reducible refine (impl_SizeBelow.calls k _ _ t420 t423 a1 t425 t426 _ ?side1 ?side2 A11.out).mono ?_); (case side1 => refine (Kd.S_reads' (e := 74) (base := w.heap.size) (ok := fun k_ => (True ∧ some k_ ≠ (.slice Ao18 t414.length co18 : Value).ownBlock)) (n := t420.length) (c := co23) ?_).2.2; exact (by (with_reducible repeat (first | apply Kd.S_alloc | apply Kd.S_drewN | apply Kd.S_drew)); exact (Kd.S_mono (Kd.S_far (p := ⟨gb424, 1, none⟩) (Kd.S_far (p := ⟨gb424, 0, none⟩) (Kd.S_types HO422.out BK424.out (by decide)) (fun _ hk => hk.2) (.slice Ao23 t420.length co23)) (fun _ hk => hk.2) (.int .i64 t423)) (fun _ h_ => h_.1)))); (case side2 => exact (Kd.S_reads' HO422.out).2.1); rintro e w26 ⟨rfl, hb⟩; refine ⟨_, rfl, ?_⟩; replace HO416 := nSf HO416 BK424 hb; replace HO422 := nSf HO422 BK424 hb; replace BK412 := nF BK412 hb; replace BK424 := nX #[.slice Ao23 t420.length co23, .int .i64 t423] BK424 hb; replace HB := nSC hb; try clear hb))
  (try simp only [Act.put, List.setIfInBounds_toArray, List.set_cons_zero, List.set_cons_succ])
  go_cut [38] (fun v38 wc => ∃ (kq : Nat) (x38_11 : Bool), v38 = .bool x38_11 ∧ Aside0 (laws_FnExactSizeBelow.j0 kq x38_11 l0_0 a0_1 t420 t423 = some r) ∧ Aside0 (kq ≤ k) ∧ Aside0 (Kd.S k74 74 wc w.heap.size (fun _ => True) (.slice Ao23 t420.length co23) t420) ∧ Aside0 (wc.heap[gb412]? = some (.cells #[(.slice A0_0 l0_0.length c0_0), .int .i64 a0_1] 24 (0, 0))) ∧ Aside0 (wc.heap[gb424]? = some (.cells #[(.slice Ao23 t420.length co23), .int .i64 t423] 31 (0, 0))) ∧ Aside0 (Below w.heap.size w wc))
  case first =>
   have H := HC12.out
   clear HC12
   by_cases c27 : t425 = t418
   ·rw [if_pos c27] at H
    have c27b0 := beq_iff_eq.mpr c27
    have c27b1 := bne_eq_false_iff_eq.mpr c27
    clear c27
    (first | rw [c27b0] | (simp only [i64_w, i32_w]; rw [c27b0]) | skip)
    have H' := Aside0.mk H
    clear H
    go_wp2
    go_meet
    case rel => exact ⟨_, ((t426 != t419)), sR, H', ⟨by first | omega | exact Nat.le_refl _⟩, ⟨by (with_reducible repeat (first | apply Kd.S_alloc | apply Kd.S_drewN | apply Kd.S_drew)); exact Kd.S_mono HO422.out (fun _ hk => trivial)⟩, ⟨sK BK412⟩, ⟨sK BK424⟩, ⟨sC⟩⟩
   ·rw [if_neg c27] at H
    have c27b0 := beq_eq_false_iff_ne.mpr c27
    have c27b1 := bne_iff_ne.mpr c27
    (first | rw [c27b0] | (simp only [i64_w, i32_w]; rw [c27b0]) | skip)
    have H' := Aside0.mk H
    clear H
    go_wp2
    go_meet
    case rel => exact ⟨_, (true), sR, H', ⟨by first | omega | exact Nat.le_refl _⟩, ⟨by (with_reducible repeat (first | apply Kd.S_alloc | apply Kd.S_drewN | apply Kd.S_drew)); exact Kd.S_mono HO422.out (fun _ hk => trivial)⟩, ⟨sK BK412⟩, ⟨sK BK424⟩, ⟨sC⟩⟩
  case rest =>
   clear HC12
   try clear c1
   try clear c2
   try clear p2
   try clear c4
   try clear c4b0
   try clear c5
   try clear c10
   try clear c12
   try clear c21
   try clear c22
   try clear c24
   try clear c27
   try clear c27b0
   try clear c27b1
   try clear hcz14
   try clear hcz16
   try clear hcz20
   try clear hcz25
   try clear hcz6
   obtain ⟨kq, x38_11, rfl, HA, HJ11, HO_425000, BK412, BK424, HB⟩ := hcut
   cases kq with
   | zero => exact absurd HA.out (by simp [laws_FnExactSizeBelow.j0])
   | succ kj11 =>
    have H := HA.out
    clear HA
    simp only [laws_FnExactSizeBelow.j0] at H
    by_cases c28 : x38_11 = true
    ·subst c28
     rw [if_pos rfl] at H
     obtain rfl := Option.some.inj H
     go_wp2
     go_ret
     exact ⟨sE, sC⟩
    ·replace c28 := Bool.eq_false_iff.mpr c28
     subst c28
     rw [if_neg (show ¬ (false = true) by decide)] at H
     obtain ⟨⟨t427, t430⟩, A29, H⟩ := bS H
     try dsimp only at H
     obtain ⟨t431, A30, H⟩ := bS H
     try dsimp only at H
     by_cases c31 : t431 = true
     ·subst c31
      rw [if_pos rfl] at H
      obtain rfl := Option.some.inj H
      try go_wp2
      have n0_ := Aside0.mk (Kd.S_drew HO_425000.out)
      have n1_ := Aside0.mk (blk_drew BK412.out)
      have n2_ := Aside0.mk (blk_drew BK424.out)
      have n3_ := Aside0.mk (below_drew1 HB.out)
      clear HO_425000
      clear BK412
      clear BK424
      clear HB
      have HO_425000 := n0_
      have BK412 := n1_
      have BK424 := n2_
      have HB := n3_
      clear n0_ n1_ n2_ n3_
      refine st4 5 [] (cz0 BK424) (cz1 BK424) (cz0 BK412) (cz1 BK412) (fun hHeld => ?_)
      generalize wc.drew = w32 at HO_425000 BK412 BK424 HB hHeld ⊢
      refine tk4 0 39 ?_
      refine tk4 1 40 ?_
      refine on 2 41 (fun K hK => ?_)
      refine gC Tryz.func12 #[.agg #[.slice A0_0 l0_0.length c0_0, .int .i64 a0_1]] ?_
      with_reducible refine (laws_toFs.calls kj11 _ _ l0_0 a0_1 t427 t430 _ ?side1 ?side2 A29.out).mono ?_
      (case side1 => exact sD (Kd.C_below HR0_0.out HB.out))
      (case side2 => exact HC0_0.out)
      rintro e w33 ⟨v428, rfl, ho0, hb⟩
      refine ⟨_, rfl, ?_⟩
      have n0_ := Aside0.mk (Kd.S_elder' (by (with_reducible repeat (first | apply Kd.S_alloc | apply Kd.S_drewN | apply Kd.S_drew)); exact HO_425000.out) (Kd.S_base ho0) hb)
      have n1_ := Aside0.mk (Kd.S_lower (Kd.S_new' ho0 (Kd.S_lt (by (with_reducible repeat (first | apply Kd.S_alloc | apply Kd.S_drewN | apply Kd.S_drew)); exact HO_425000.out))) (below_size sC))
      have n2_ := nK BK412 hb
      have n3_ := nK BK424 hb
      have n4_ := nSC hb
      clear HO_425000
      clear BK412
      clear BK424
      clear HB
      have HO_425000 := n0_
      have HO429 := n1_
      have BK412 := n2_
      have BK424 := n3_
      have HB := n4_
      clear n0_ n1_ n2_ n3_ n4_
      (try clear hb)
      (try clear hb2)
      (try clear hk)
      (try clear hi)
      (try clear ho0)
      obtain ⟨Ao34, co34, eo34⟩ := Kd.S_slice HO429.out
      (first | subst eo34 | (injection eo34 with f1_ f2_ f3_; have f4_ := f1_.symm; have f5_ := f3_.symm; clear f1_ f2_ f3_; subst f4_; subst f5_))
      refine hK.out _ _ ⟨cz0 BK424, cz1 BK424, cz0 BK412, cz1 BK412⟩ (fun hHeld => ?_)
      clear hK K
      refine nm ?_
      refine on 3 42 (fun K hK => ?_)
      refine gC Tryz.func15 #[.agg #[.slice Ao23 t420.length co23, .int .i64 t423], .agg #[.slice Ao34 t427.length co34, .int .i64 t430]] ?_
      with_reducible refine (laws_eqFs.calls kj11 _ _ t420 t423 _ _ t427 t430 true _ ?side1 ?side2 ?side3 ?side4 A30.out).mono ?_
      (case side1 => exact sD (Kd.S_reads' HO_425000.out).2.2)
      (case side2 => exact (Kd.S_reads' HO_425000.out).2.1)
      (case side3 => exact sD (Kd.S_reads' HO429.out).2.2)
      (case side4 => exact (Kd.S_reads' HO429.out).2.1)
      rintro e w35 ⟨rfl, hb⟩
      refine ⟨_, rfl, ?_⟩
      have n0_ := nS HO_425000 hb
      have n1_ := nS HO429 hb
      have n2_ := nK BK412 hb
      have n3_ := nK BK424 hb
      have n4_ := nSC hb
      clear HO_425000
      clear HO429
      clear BK412
      clear BK424
      clear HB
      have HO_425000 := n0_
      have HO429 := n1_
      have BK412 := n2_
      have BK424 := n3_
      have HB := n4_
      clear n0_ n1_ n2_ n3_ n4_
      (try clear hb)
      (try clear hb2)
      (try clear hk)
      (try clear hi)
      refine hK.out _ _ ⟨cz0 BK424, cz1 BK424, cz0 BK412, cz1 BK412⟩ (fun hHeld => ?_)
      clear hK K
      refine nm ?_
      refine pu 4 43 ?_
      refine dn ?_
      try go_wp2
      go_ret
      exact ⟨sE, sC⟩
     ·replace c31 := Bool.eq_false_iff.mpr c31
      subst c31
      rw [if_neg (show ¬ (false = true) by decide)] at H
      obtain rfl := Option.some.inj H
      try go_wp2
      have n0_ := Aside0.mk (Kd.S_drew HO_425000.out)
      have n1_ := Aside0.mk (blk_drew BK412.out)
      have n2_ := Aside0.mk (blk_drew BK424.out)
      have n3_ := Aside0.mk (below_drew1 HB.out)
      clear HO_425000
      clear BK412
      clear BK424
      clear HB
      have HO_425000 := n0_
      have BK412 := n1_
      have BK424 := n2_
      have HB := n3_
      clear n0_ n1_ n2_ n3_
      refine st4 5 [] (cz0 BK424) (cz1 BK424) (cz0 BK412) (cz1 BK412) (fun hHeld => ?_)
      generalize wc.drew = w36 at HO_425000 BK412 BK424 HB hHeld ⊢
      refine tk4 0 39 ?_
      refine tk4 1 40 ?_
      refine on 2 41 (fun K hK => ?_)
      refine gC Tryz.func12 #[.agg #[.slice A0_0 l0_0.length c0_0, .int .i64 a0_1]] ?_
      with_reducible refine (laws_toFs.calls kj11 _ _ l0_0 a0_1 t427 t430 _ ?side1 ?side2 A29.out).mono ?_
      (case side1 => exact sD (Kd.C_below HR0_0.out HB.out))
      (case side2 => exact HC0_0.out)
      rintro e w37 ⟨v428, rfl, ho0, hb⟩
      refine ⟨_, rfl, ?_⟩
      have n0_ := Aside0.mk (Kd.S_elder' (by (with_reducible repeat (first | apply Kd.S_alloc | apply Kd.S_drewN | apply Kd.S_drew)); exact HO_425000.out) (Kd.S_base ho0) hb)
      have n1_ := Aside0.mk (Kd.S_lower (Kd.S_new' ho0 (Kd.S_lt (by (with_reducible repeat (first | apply Kd.S_alloc | apply Kd.S_drewN | apply Kd.S_drew)); exact HO_425000.out))) (below_size sC))
      have n2_ := nK BK412 hb
      have n3_ := nK BK424 hb
      have n4_ := nSC hb
      clear HO_425000
      clear BK412
      clear BK424
      clear HB
      have HO_425000 := n0_
      have HO429 := n1_
      have BK412 := n2_
      have BK424 := n3_
      have HB := n4_
      clear n0_ n1_ n2_ n3_ n4_
      (try clear hb)
      (try clear hb2)
      (try clear hk)
      (try clear hi)
      (try clear ho0)
      obtain ⟨Ao38, co38, eo38⟩ := Kd.S_slice HO429.out
      (first | subst eo38 | (injection eo38 with f1_ f2_ f3_; have f4_ := f1_.symm; have f5_ := f3_.symm; clear f1_ f2_ f3_; subst f4_; subst f5_))
      refine hK.out _ _ ⟨cz0 BK424, cz1 BK424, cz0 BK412, cz1 BK412⟩ (fun hHeld => ?_)
      clear hK K
      refine nm ?_
      refine on 3 42 (fun K hK => ?_)
      refine gC Tryz.func15 #[.agg #[.slice Ao23 t420.length co23, .int .i64 t423], .agg #[.slice Ao38 t427.length co38, .int .i64 t430]] ?_
      with_reducible refine (laws_eqFs.calls kj11 _ _ t420 t423 _ _ t427 t430 false _ ?side1 ?side2 ?side3 ?side4 A30.out).mono ?_
      (case side1 => exact sD (Kd.S_reads' HO_425000.out).2.2)
      (case side2 => exact (Kd.S_reads' HO_425000.out).2.1)
      (case side3 => exact sD (Kd.S_reads' HO429.out).2.2)
      (case side4 => exact (Kd.S_reads' HO429.out).2.1)
      rintro e w39 ⟨rfl, hb⟩
      refine ⟨_, rfl, ?_⟩
      have n0_ := nS HO_425000 hb
      have n1_ := nS HO429 hb
      have n2_ := nK BK412 hb
      have n3_ := nK BK424 hb
      have n4_ := nSC hb
      clear HO_425000
      clear HO429
      clear BK412
      clear BK424
      clear HB
      have HO_425000 := n0_
      have HO429 := n1_
      have BK412 := n2_
      have BK424 := n3_
      have HB := n4_
      clear n0_ n1_ n2_ n3_ n4_
      (try clear hb)
      (try clear hb2)
      (try clear hk)
      (try clear hi)
      refine hK.out _ _ ⟨cz0 BK424, cz1 BK424, cz0 BK412, cz1 BK412⟩ (fun hHeld => ?_)
      clear hK K
      refine nm ?_
      refine pu 4 43 ?_
      refine dn ?_
      try go_wp2
      go_ret
      exact ⟨sE, sC⟩

/-- The one pure statement of laws_FnExactSizeBelow. -/
def laws_FnExactSizeBelow.Pure : Prop := ∀ (l0_0 : List (S101)) (a0_1 : Int) (a1 : Int), (l0_0.length ≤ 9223372036854775807 ∧ ∀ e1_ ∈ l0_0, ((Lit.int .i64 e1_.f0).wf = true ∧ ((Lit.int .i64 e1_.f1).wf = true ∧ ((Lit.int .i64 e1_.f2).wf = true ∧ ((Lit.int .i64 e1_.f3).wf = true ∧ ((Lit.int .i64 e1_.f4).wf = true ∧ (e1_.f5.size ≤ 9223372036854775807 ∧ (e1_.f6.length ≤ 9223372036854775807 ∧ ∀ e2_ ∈ e1_.f6, (e2_.f0.size ≤ 9223372036854775807 ∧ (Lit.int .i64 e2_.f1).wf = true))))))))) → (Lit.int .i64 a0_1).wf = true → (Lit.int .i64 a1).wf = true → ∃ k, laws_FnExactSizeBelow.f k l0_0 a0_1 a1 = some true

/-! ### spec_l10Needs: function 48 -/
def spec_l10Needs.l0 : Nat → Int → Int → List Int → Int → Int → List (S74) → Int → Option (Int × Int)
 | 0, _, _, _, _, _, _, _ => none
 | k + 1, x6, x7, x12, x13, x14, x433000, x433001 => if x14 < x13 then (if 0 ≤ x14 then (if x14 < (x12.length : Int) then (if 0 ≤ (rd x12 x14) then (if (rd x12 x14) < (x433000.length : Int) then (spec_l10Needs.l0 k (wrap64 (x6 + 1)) (wrap64 (x7 + (((rd_T74 x433000 (rd x12 x14)).f5).size : Int))) x12 x13 (wrap64 (x14 + 1)) x433000 x433001) else (none)) else (none)) else (none)) else (none)) else (some (x6, x7))
def spec_l10Needs.f (k : Nat) (l0_0 : List (S74)) (a0_1 : Int) (a1 : Int) : Option (Int × Int) := (spec_l3Met.f k l0_0 a0_1 a1 ([] : List Int)).bind fun t433 => (spec_l10Needs.l0 k 0 0 t433 (t433.length : Int) 0 l0_0 a0_1)
theorem spec_l10Needs.mono_l : ∀ k, (∀ y0 y1 y2 y3 y4 y5 y6, LeO (spec_l10Needs.l0 k y0 y1 y2 y3 y4 y5 y6) (spec_l10Needs.l0 (k + 1) y0 y1 y2 y3 y4 y5 y6))
 | 0 => fun _ _ _ _ _ _ _ r h => by simp [spec_l10Needs.l0] at h
 | k + 1 => by
  have ih0 := spec_l10Needs.mono_l k
  ·intro y0 y1 y2 y3 y4 y5 y6
   unfold spec_l10Needs.l0
   have m0 := @spec_l3Met.mono
   exact mo
theorem spec_l10Needs.mono : ∀ a0 a1 a2 k, LeO (spec_l10Needs.f k a0 a1 a2) (spec_l10Needs.f (k + 1) a0 a1 a2) := by
 intro a0 a1 a2 k
 have ih0 := spec_l10Needs.mono_l k
 unfold spec_l10Needs.f
 have m0 := @spec_l3Met.mono
 exact mo
theorem spec_l10Needs.calls (k : Nat) (A0_0 : Option Addr) (c0_0 : Nat) (l0_0 : List (S74)) (a0_1 : Int) (a1 : Int) (r1 : Int) (r2 : Int) (w : World) (hr0_0 : Kd.C k74 w A0_0 l0_0.length l0_0) (hc0_0 : l0_0.length ≤ c0_0) (h : spec_l10Needs.f k l0_0 a0_1 a1 = some (r1, r2)) :
  Calls Tryz.prog 48 #[.agg #[.slice A0_0 l0_0.length c0_0, .int .i64 a0_1], .int .i64 a1] w fun e w' => e = .returned (.tuple #[.int .i64 r1, .int .i64 r2]) ∧ Below w.heap.size w w' := by
 have hu31 := Tryz.underlying31
 have HR0_0 := Aside0.mk hr0_0
 have HC0_0 := Aside0.mk hc0_0
 clear hr0_0 hc0_0
 have HB := Aside0.mk (Below.refl w.heap.size w)
 have H : ((spec_l3Met.f k l0_0 a0_1 a1 ([] : List Int)).bind fun t433 => (spec_l10Needs.l0 k 0 0 t433 (t433.length : Int) 0 l0_0 a0_1)) = some (r1, r2) := h
 clear h
 obtain ⟨t433, A3, H⟩ := bS H
 try dsimp only at H
 have H' := Aside0.mk H
 clear H
 go_enter Tryz.func48, Tryz.ntmps48
 go_wp2_with (first | ((with_reducible refine gd 2 rfl ?_); refine bxE 2 #[.slice A0_0 l0_0.length c0_0, .int .i64 a0_1] 31 ?_; intro gb432 hg w4 hbox hb; have BK432 := Aside0.mk hbox; have GW432 := nGB hg; have GE432 := nGB hg; replace HB := nSB hb; clear hb hbox hg; have hcz5 := cb2 BK432) | ((with_reducible refine gt 37 rfl ?_); refine gL 37 12 Tryz.func37 #[.agg #[.slice A0_0 l0_0.length c0_0, .int .i64 a0_1], .int .i64 a1, .slice none 0 0] ?_; (refine (spec_l3Met.calls k _ _ l0_0 a0_1 a1 (fun k_ => some k_ = (.slice none 0 0 : Value).ownBlock) (.slice none 0 0) ([] : List Int) t433 w _ ?side1 ?side2 ?side3 ?side4 A3.out).mono ?_); (case side1 => repeat (first | (with_reducible first | exact HB.out | apply below_alloc | apply pw_below_drewN | apply below_drew1 | refine below_set ?_ GE432.out) | exact HB.out)); (case side2 => exact Kd.C_kept_came k74_heap HR0_0.out sC (fun k_ hs_ => (fun e_ => by simp [Value.ownBlock] at e_) hs_)); (case side3 => exact HC0_0.out); (case side4 => exact Kd.R_nil _ _ _ _ _); rintro e w6 ⟨v434, rfl, ho0, hb, hkp⟩; refine ⟨_, rfl, ?_⟩; replace BK432 := Aside0.mk (blk_kept (sK BK432) hkp (fun hs_ => (fun e_ => by simp [Value.ownBlock] at e_) hs_)); have HO435 := Aside0.mk (Kd.R_mono (ok' := fun k_ => True) ho0 (fun k_ hk_ => trivial)); replace HB := Aside0.mk (hb); (try clear hb); (try clear hkp); (try clear ho0); obtain ⟨Ao7, co7, eo7⟩ := Kd.R_slice HO435.out; subst eo7))
 go_loopg [6, 7, 14] k (fun kq v6 v7 v14 w' => ∃ (x6_1 : Int) (x7_1 : Int) (x14_1 : Int), v6 = .int .i64 x6_1 ∧ v7 = .int .i64 x7_1 ∧ v14 = .int .i64 x14_1 ∧ Aside0 (spec_l10Needs.l0 kq x6_1 x7_1 t433 (t433.length : Int) x14_1 l0_0 a0_1 = some (r1, r2)) ∧ Aside0 (kq ≤ k) ∧ Aside0 (Kd.R (Kd.int .i64) 3 w' w.heap.size (fun _ => True) (.slice Ao7 t433.length co7) t433) ∧ Aside0 (w'.heap[gb432]? = some (.cells #[(.slice A0_0 l0_0.length c0_0), .int .i64 a0_1] 31 (0, 0))) ∧ Aside0 (Below w.heap.size w w'))
 case atStart => exact ⟨(0), (0), (0), sR, sR, sR, H', ⟨Nat.le_refl _⟩, ⟨rR HO435⟩, ⟨sK BK432⟩, ⟨sC⟩⟩
 case round =>
  clear H'
  try clear p2
  try clear c3
  try clear c4
  try clear hcz5
  obtain ⟨x6_1, x7_1, x14_1, rfl, rfl, rfl, HA, HK1, HO_12, BK432, HB⟩ := hrel
  cases gk with
  | zero => exact absurd HA.out (by simp [spec_l10Needs.l0])
  | succ k1 =>
   have H := HA.out
   clear HA
   simp only [spec_l10Needs.l0] at H
   by_cases c8 : x14_1 < (t433.length : Int)
   ·rw [if_pos c8] at H
    have c8b0 := decide_eq_true c8
    clear c8
    obtain ⟨c9, H⟩ := iN H
    have c9b0 := decide_eq_true c9
    clear c9
    obtain ⟨c10, H⟩ := iN H
    have c10b0 := decide_eq_true c10
    clear c10
    obtain ⟨c11, H⟩ := iN H
    have c11b0 := decide_eq_true c11
    clear c11
    obtain ⟨c12, H⟩ := iN H
    have c12b0 := decide_eq_true c12
    clear c12
    have H' := Aside0.mk H
    clear H
    have p436 : 0 ≤ (x14_1 : Int) := sO
    have q436 : x14_1 < (t433.length : Int) := sO
    obtain ⟨ad436, e436, hx436_0⟩ := Kd.at_int (Kd.R_reads' HO_12.out).2.2 x14_1 p436 q436
    cases e436
    replace p436 := eq_true p436
    replace q436 := eq_true q436
    have hcz13 := cb2 BK432
    have p437 : 0 ≤ ((rd t433 x14_1) : Int) := sO
    have q437 : (rd t433 x14_1) < (l0_0.length : Int) := sO
    obtain ⟨ad437, A437_6, c437_6, e437, hx437_0, hx437_1, hx437_2, hx437_3, hx437_4, hx437_5, hx437_6, hl437_6, hi437_6⟩ := ab74 HR0_0.out HB (rd t433 x14_1) p437 q437
    cases e437
    have HR437_6 := Aside0.mk hi437_6
    have HC437_6 := Aside0.mk hl437_6
    clear hi437_6 hl437_6
    replace p437 := eq_true p437
    replace q437 := eq_true q437
    go_wp2
    go_roundg k1
    case measure => have := HK1.out; omega
    case rel => exact ⟨(wrap64 (x6_1 + 1)), (wrap64 (x7_1 + (((rd_T74 l0_0 (rd t433 x14_1)).f5).size : Int))), (wrap64 (x14_1 + 1)), sR, sR, sR, H', ⟨by have := HK1.out; omega⟩, ⟨rR HO_12⟩, ⟨sK BK432⟩, ⟨sC⟩⟩
   ·rw [if_neg c8] at H
    have c8b0 := decide_eq_false c8
    clear c8
    simp only [Option.some.injEq, Prod.mk.injEq] at H
    obtain ⟨rfl, rfl⟩ := H
    go_wp2
    go_ret2
    exact ⟨sE, sC⟩

/-! ### spec_CopyNeeds: function 23 -/
def spec_CopyNeeds.f (k : Nat) (l0_0 : List (S74)) (a0_1 : Int) (a1 : Int) : Option (Int × Int × Bool) := (spec_l7Asked.f k l0_0 a0_1 a1).bind fun t439 => (if t439 = true then ((spec_l10Needs.f k l0_0 a0_1 a1).bind fun bt440 => (some (bt440.1, bt440.2, true))) else (some (0, 0, false)))
theorem spec_CopyNeeds.mono : ∀ a0 a1 a2 k, LeO (spec_CopyNeeds.f k a0 a1 a2) (spec_CopyNeeds.f (k + 1) a0 a1 a2) := by
 intro a0 a1 a2 k
 unfold spec_CopyNeeds.f
 have m0 := @spec_l10Needs.mono
 have m1 := @spec_l7Asked.mono
 exact mo
theorem spec_CopyNeeds.calls (k : Nat) (A0_0 : Option Addr) (c0_0 : Nat) (l0_0 : List (S74)) (a0_1 : Int) (a1 : Int) (r1 : Int) (r2 : Int) (r3 : Bool) (w : World) (hr0_0 : Kd.C k74 w A0_0 l0_0.length l0_0) (hc0_0 : l0_0.length ≤ c0_0) (h : spec_CopyNeeds.f k l0_0 a0_1 a1 = some (r1, r2, r3)) :
  Calls Tryz.prog 23 #[.agg #[.slice A0_0 l0_0.length c0_0, .int .i64 a0_1], .int .i64 a1] w fun e w' => e = .returned (.tuple #[.int .i64 r1, .int .i64 r2, .bool r3]) ∧ Below w.heap.size w w' := by
 have hu31 := Tryz.underlying31
 have HR0_0 := Aside0.mk hr0_0
 have HC0_0 := Aside0.mk hc0_0
 clear hr0_0 hc0_0
 have HB := Aside0.mk (Below.refl w.heap.size w)
 have H : ((spec_l7Asked.f k l0_0 a0_1 a1).bind fun t439 => (if t439 = true then ((spec_l10Needs.f k l0_0 a0_1 a1).bind fun bt440 => (some (bt440.1, bt440.2, true))) else (some (0, 0, false)))) = some (r1, r2, r3) := h
 clear h
 obtain ⟨t439, A3, H⟩ := bS H
 try dsimp only at H
 by_cases c4 : t439 = true
 ·subst c4
  rw [if_pos rfl] at H
  obtain ⟨⟨t440, t441⟩, A5, H⟩ := bS H
  try dsimp only at H
  simp only [Option.some.injEq, Prod.mk.injEq] at H
  obtain ⟨rfl, rfl, rfl⟩ := H
  go_enter Tryz.func23, Tryz.ntmps23
  go_wp2_with (first | ((with_reducible refine gd 2 rfl ?_); refine bxE 2 #[.slice A0_0 l0_0.length c0_0, .int .i64 a0_1] 31 ?_; intro gb438 hg w6 hbox hb; have BK438 := Aside0.mk hbox; have GW438 := nGB hg; have GE438 := nGB hg; replace HB := nSB hb; clear hb hbox hg; have hcz7 := cb2 BK438) | ((with_reducible refine gt 36 rfl ?_); refine gL 36 11 Tryz.func36 #[.agg #[.slice A0_0 l0_0.length c0_0, .int .i64 a0_1], .int .i64 a1] ?_; (with_reducible refine (spec_l7Asked.calls k _ _ l0_0 a0_1 a1 true _ ?side1 ?side2 A3.out).mono ?_); (case side1 => exact sD (Kd.C_below HR0_0.out HB.out)); (case side2 => exact HC0_0.out); rintro e w8 ⟨rfl, hb⟩; refine ⟨_, rfl, ?_⟩; replace BK438 := nK BK438 hb; replace HB := nSC hb; try clear hb; have hcz9 := cb2 BK438) | ((with_reducible refine gt 48 rfl ?_); refine gL 48 16 Tryz.func48 #[.agg #[.slice A0_0 l0_0.length c0_0, .int .i64 a0_1], .int .i64 a1] ?_; (with_reducible refine (spec_l10Needs.calls k _ _ l0_0 a0_1 a1 t440 t441 _ ?side1 ?side2 A5.out).mono ?_); (case side1 => exact sD (Kd.C_below HR0_0.out HB.out)); (case side2 => exact HC0_0.out); rintro e w10 ⟨rfl, hb⟩; refine ⟨_, rfl, ?_⟩; replace BK438 := nK BK438 hb; replace HB := nSC hb; try clear hb))
  go_ret3
  exact ⟨sE, sC⟩
 ·replace c4 := Bool.eq_false_iff.mpr c4
  subst c4
  rw [if_neg (show ¬ (false = true) by decide)] at H
  simp only [Option.some.injEq, Prod.mk.injEq] at H
  obtain ⟨rfl, rfl, rfl⟩ := H
  go_enter Tryz.func23, Tryz.ntmps23
  go_wp2_with (first | ((with_reducible refine gd 2 rfl ?_); refine bxE 2 #[.slice A0_0 l0_0.length c0_0, .int .i64 a0_1] 31 ?_; intro gb438 hg w11 hbox hb; have BK438 := Aside0.mk hbox; have GW438 := nGB hg; have GE438 := nGB hg; replace HB := nSB hb; clear hb hbox hg; have hcz12 := cb2 BK438) | ((with_reducible refine gt 36 rfl ?_); refine gL 36 11 Tryz.func36 #[.agg #[.slice A0_0 l0_0.length c0_0, .int .i64 a0_1], .int .i64 a1] ?_; (with_reducible refine (spec_l7Asked.calls k _ _ l0_0 a0_1 a1 false _ ?side1 ?side2 A3.out).mono ?_); (case side1 => exact sD (Kd.C_below HR0_0.out HB.out)); (case side2 => exact HC0_0.out); rintro e w13 ⟨rfl, hb⟩; refine ⟨_, rfl, ?_⟩; replace BK438 := nK BK438 hb; replace HB := nSC hb; try clear hb))
  go_ret3
  exact ⟨sE, sC⟩

/-! ### impl_CopyNeeds: function 24 -/
def impl_CopyNeeds.l0 : Nat → List Int → Int → List Int → Int → Int → List (S74) → Int → Option (Int × Int × Bool)
 | 0, _, _, _, _, _, _, _ => none
 | k + 1, x7, x8, x18, x19, x20, x443000, x443001 => if x20 < x19 then (if 0 ≤ x20 then (if x20 < (x18.length : Int) then (if 0 ≤ (rd x18 x20) then (if (rd x18 x20) < (x443000.length : Int) then (impl_CopyNeeds.l0 k x7 (wrap64 (x8 + (((rd_T74 x443000 (rd x18 x20)).f5).size : Int))) x18 x19 (wrap64 (x20 + 1)) x443000 x443001) else (none)) else (none)) else (none)) else (none)) else (some ((x7.length : Int), x8, true))
def impl_CopyNeeds.f (k : Nat) (l0_0 : List (S74)) (a0_1 : Int) (a1 : Int) : Option (Int × Int × Bool) := (impl_isGoodAt.f k l0_0 a0_1 a1).bind fun t443 => (if t443 = true then ((impl_Fs_nodesBelow.f k l0_0 a0_1 a1).bind fun t444 => (impl_CopyNeeds.l0 k t444 0 t444 (t444.length : Int) 0 l0_0 a0_1)) else (some (0, 0, false)))
theorem impl_CopyNeeds.mono_l : ∀ k, (∀ y0 y1 y2 y3 y4 y5 y6, LeO (impl_CopyNeeds.l0 k y0 y1 y2 y3 y4 y5 y6) (impl_CopyNeeds.l0 (k + 1) y0 y1 y2 y3 y4 y5 y6))
 | 0 => fun _ _ _ _ _ _ _ r h => by simp [impl_CopyNeeds.l0] at h
 | k + 1 => by
  have ih0 := impl_CopyNeeds.mono_l k
  ·intro y0 y1 y2 y3 y4 y5 y6
   unfold impl_CopyNeeds.l0
   have m0 := @impl_Fs_nodesBelow.mono
   have m1 := @impl_isGoodAt.mono
   exact mo
theorem impl_CopyNeeds.mono : ∀ a0 a1 a2 k, LeO (impl_CopyNeeds.f k a0 a1 a2) (impl_CopyNeeds.f (k + 1) a0 a1 a2) := by
 intro a0 a1 a2 k
 have ih0 := impl_CopyNeeds.mono_l k
 unfold impl_CopyNeeds.f
 have m0 := @impl_Fs_nodesBelow.mono
 have m1 := @impl_isGoodAt.mono
 exact mo
theorem impl_CopyNeeds.calls (k : Nat) (A0_0 : Option Addr) (c0_0 : Nat) (l0_0 : List (S74)) (a0_1 : Int) (a1 : Int) (r1 : Int) (r2 : Int) (r3 : Bool) (w : World) (hr0_0 : Kd.C k74 w A0_0 l0_0.length l0_0) (hc0_0 : l0_0.length ≤ c0_0) (h : impl_CopyNeeds.f k l0_0 a0_1 a1 = some (r1, r2, r3)) :
  Calls Tryz.prog 24 #[.agg #[.slice A0_0 l0_0.length c0_0, .int .i64 a0_1], .int .i64 a1] w fun e w' => e = .returned (.tuple #[.int .i64 r1, .int .i64 r2, .bool r3]) ∧ Below w.heap.size w w' := by
 have hu31 := Tryz.underlying31
 have HR0_0 := Aside0.mk hr0_0
 have HC0_0 := Aside0.mk hc0_0
 clear hr0_0 hc0_0
 have HB := Aside0.mk (Below.refl w.heap.size w)
 have H : ((impl_isGoodAt.f k l0_0 a0_1 a1).bind fun t443 => (if t443 = true then ((impl_Fs_nodesBelow.f k l0_0 a0_1 a1).bind fun t444 => (impl_CopyNeeds.l0 k t444 0 t444 (t444.length : Int) 0 l0_0 a0_1)) else (some (0, 0, false)))) = some (r1, r2, r3) := h
 clear h
 obtain ⟨t443, A3, H⟩ := bS H
 try dsimp only at H
 by_cases c4 : t443 = true
 ·subst c4
  rw [if_pos rfl] at H
  obtain ⟨t444, A5, H⟩ := bS H
  try dsimp only at H
  have H' := Aside0.mk H
  clear H
  go_enter Tryz.func24, Tryz.ntmps24
  go_wp2_with (first | ((with_reducible refine gd 2 rfl ?_); refine bxE 2 #[.slice A0_0 l0_0.length c0_0, .int .i64 a0_1] 31 ?_; intro gb442 hg w6 hbox hb; have BK442 := Aside0.mk hbox; have GW442 := nGB hg; have GE442 := nGB hg; replace HB := nSB hb; clear hb hbox hg; have hcz7 := cb2 BK442) | ((with_reducible refine gt 39 rfl ?_); refine gL 39 13 Tryz.func39 #[.agg #[.slice A0_0 l0_0.length c0_0, .int .i64 a0_1], .int .i64 a1] ?_; (with_reducible refine (impl_isGoodAt.calls k _ _ l0_0 a0_1 a1 true _ ?side1 ?side2 A3.out).mono ?_); (case side1 => exact sD (Kd.C_below HR0_0.out HB.out)); (case side2 => exact HC0_0.out); rintro e w8 ⟨rfl, hb⟩; refine ⟨_, rfl, ?_⟩; replace BK442 := nK BK442 hb; replace HB := nSC hb; try clear hb; have hcz9 := cb2 BK442) | ((with_reducible refine gt 41 rfl ?_); refine gL 41 17 Tryz.func41 #[.agg #[.slice A0_0 l0_0.length c0_0, .int .i64 a0_1], .int .i64 a1] ?_; (with_reducible refine (impl_Fs_nodesBelow.calls k _ _ l0_0 a0_1 a1 t444 _ ?side1 ?side2 A5.out).mono ?_); (case side1 => exact sD (Kd.C_below HR0_0.out HB.out)); (case side2 => exact HC0_0.out); rintro e w10 ⟨v445, rfl, ho0, hb⟩; refine ⟨_, rfl, ?_⟩; have HO446 := Aside0.mk (Kd.R_lower ho0 (below_size sC)); replace BK442 := nK BK442 hb; replace HB := nSC hb; try clear hb; (try clear ho0); obtain ⟨Ao11, co11, eo11⟩ := Kd.R_slice HO446.out; subst eo11))
  go_loopg [8, 20] k (fun kq v8 v20 w' => ∃ (x8_1 : Int) (x20_1 : Int), v8 = .int .i64 x8_1 ∧ v20 = .int .i64 x20_1 ∧ Aside0 (impl_CopyNeeds.l0 kq t444 x8_1 t444 (t444.length : Int) x20_1 l0_0 a0_1 = some (r1, r2, r3)) ∧ Aside0 (kq ≤ k) ∧ Aside0 (Kd.R (Kd.int .i64) 3 w' w.heap.size (fun _ => True) (.slice Ao11 t444.length co11) t444) ∧ Aside0 (Kd.R (Kd.int .i64) 3 w' w.heap.size (fun _ => True) (.slice Ao11 t444.length co11) t444) ∧ Aside0 (w'.heap[gb442]? = some (.cells #[(.slice A0_0 l0_0.length c0_0), .int .i64 a0_1] 31 (0, 0))) ∧ Aside0 (Below w.heap.size w w'))
  case atStart => exact ⟨(0), (0), sR, sR, H', ⟨Nat.le_refl _⟩, ⟨rR HO446⟩, ⟨rR HO446⟩, ⟨sK BK442⟩, ⟨sC⟩⟩
  case round =>
   clear H'
   try clear c2
   try clear p2
   try clear c3
   try clear c4
   try clear hcz7
   try clear hcz9
   obtain ⟨x8_1, x20_1, rfl, rfl, HA, HK1, HO_7, HO_18, BK442, HB⟩ := hrel
   cases gk with
   | zero => exact absurd HA.out (by simp [impl_CopyNeeds.l0])
   | succ k1 =>
    have H := HA.out
    clear HA
    simp only [impl_CopyNeeds.l0] at H
    by_cases c12 : x20_1 < (t444.length : Int)
    ·rw [if_pos c12] at H
     have c12b0 := decide_eq_true c12
     clear c12
     obtain ⟨c13, H⟩ := iN H
     have c13b0 := decide_eq_true c13
     clear c13
     obtain ⟨c14, H⟩ := iN H
     have c14b0 := decide_eq_true c14
     clear c14
     obtain ⟨c15, H⟩ := iN H
     have c15b0 := decide_eq_true c15
     clear c15
     obtain ⟨c16, H⟩ := iN H
     have c16b0 := decide_eq_true c16
     clear c16
     have H' := Aside0.mk H
     clear H
     have p447 : 0 ≤ (x20_1 : Int) := sO
     have q447 : x20_1 < (t444.length : Int) := sO
     obtain ⟨ad447, e447, hx447_0⟩ := Kd.at_int (Kd.R_reads' HO_18.out).2.2 x20_1 p447 q447
     cases e447
     replace p447 := eq_true p447
     replace q447 := eq_true q447
     have hcz17 := cb2 BK442
     have p448 : 0 ≤ ((rd t444 x20_1) : Int) := sO
     have q448 : (rd t444 x20_1) < (l0_0.length : Int) := sO
     obtain ⟨ad448, A448_6, c448_6, e448, hx448_0, hx448_1, hx448_2, hx448_3, hx448_4, hx448_5, hx448_6, hl448_6, hi448_6⟩ := ab74 HR0_0.out HB (rd t444 x20_1) p448 q448
     cases e448
     have HR448_6 := Aside0.mk hi448_6
     have HC448_6 := Aside0.mk hl448_6
     clear hi448_6 hl448_6
     replace p448 := eq_true p448
     replace q448 := eq_true q448
     go_wp2
     go_roundg k1
     case measure => have := HK1.out; omega
     case rel => exact ⟨(wrap64 (x8_1 + (((rd_T74 l0_0 (rd t444 x20_1)).f5).size : Int))), (wrap64 (x20_1 + 1)), sR, sR, H', ⟨by have := HK1.out; omega⟩, ⟨rR HO_7⟩, ⟨rR HO_18⟩, ⟨sK BK442⟩, ⟨sC⟩⟩
    ·rw [if_neg c12] at H
     have c12b0 := decide_eq_false c12
     clear c12
     simp only [Option.some.injEq, Prod.mk.injEq] at H
     obtain ⟨rfl, rfl, rfl⟩ := H
     go_wp2
     go_ret3
     exact ⟨sE, sC⟩
 ·replace c4 := Bool.eq_false_iff.mpr c4
  subst c4
  rw [if_neg (show ¬ (false = true) by decide)] at H
  simp only [Option.some.injEq, Prod.mk.injEq] at H
  obtain ⟨rfl, rfl, rfl⟩ := H
  go_enter Tryz.func24, Tryz.ntmps24
  go_wp2_with (first | ((with_reducible refine gd 2 rfl ?_); refine bxE 2 #[.slice A0_0 l0_0.length c0_0, .int .i64 a0_1] 31 ?_; intro gb442 hg w18 hbox hb; have BK442 := Aside0.mk hbox; have GW442 := nGB hg; have GE442 := nGB hg; replace HB := nSB hb; clear hb hbox hg; have hcz19 := cb2 BK442) | ((with_reducible refine gt 39 rfl ?_); refine gL 39 13 Tryz.func39 #[.agg #[.slice A0_0 l0_0.length c0_0, .int .i64 a0_1], .int .i64 a1] ?_; (with_reducible refine (impl_isGoodAt.calls k _ _ l0_0 a0_1 a1 false _ ?side1 ?side2 A3.out).mono ?_); (case side1 => exact sD (Kd.C_below HR0_0.out HB.out)); (case side2 => exact HC0_0.out); rintro e w20 ⟨rfl, hb⟩; refine ⟨_, rfl, ?_⟩; replace BK442 := nK BK442 hb; replace HB := nSC hb; try clear hb))
  go_ret3
  exact ⟨sE, sC⟩

end Go.Proofs.YtnmiglfmainhiaaGreatDoor.PNb
