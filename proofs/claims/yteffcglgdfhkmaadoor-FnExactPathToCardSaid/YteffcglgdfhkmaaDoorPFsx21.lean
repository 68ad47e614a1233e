-- Written by a program of this session (wip/print2) out of the translation. Lean checks it.
import Derived.Test.YteffcglgdfhkmaaDoorPFsx0
import Derived.Test.YteffcglgdfhkmaaDoorPFsx7
import Derived.Test.YteffcglgdfhkmaaDoorPFsx1
import Derived.Test.YteffcglgdfhkmaaDoorPFsx8
import Derived.Test.YteffcglgdfhkmaaDoorPFsx14
import Derived.Test.YteffcglgdfhkmaaDoorPFsx20
namespace Go.Proofs.YteffcglgdfhkmaaDoor.PFs
open Go.RowKit Go.Proofs.YteffcglgdfhkmaaDoorW.PrintWords Go.Proofs.YteffcglgdfhkmaaDoorW.PrintLast Go.Proofs.YteffcglgdfhkmaaDoorW.PrintMore
attribute [local go_sem] max2_int min2_int max_two min_two max_three min_three max_four min_four   -- for this text's walks alone
set_option linter.unusedVariables false
set_option linter.unusedSimpArgs false

/-! ### laws_FnExactPathTo: function 8 -/
def laws_FnExactPathTo.j0 : Nat → Bool → List (S82) → Int → List (S53) → Int → Option (Bool)
 | 0, _, _, _, _, _ => none
 | k + 1, x38, x571000, x571001, x583000, x583001 => if x38 = true then (some false) else ((laws_toFs.f k x571000 x571001).bind fun bt585 => ((laws_eqFs.f k x583000 x583001 bt585.1 bt585.2).bind fun t589 => (if t589 = true then (some true) else (some false))))
def laws_FnExactPathTo.f (k : Nat) (l0_0 : List (S82)) (a0_1 : Int) (a1 : Int) : Option (Bool) := (laws_szFs.f k l0_0 a0_1 1048576).bind fun t571 => (if t571 < 0 then (some true) else ((laws_toFs.f k l0_0 a0_1).bind fun bt572 => ((spec_PathTo.f k bt572.1 bt572.2 a1).bind fun bt576 => ((laws_toFs.f k l0_0 a0_1).bind fun bt578 => ((impl_PathTo.f k bt578.1 bt578.2 a1).bind fun bt583 => (if bt583.1.toList = bt576.1.toList then (laws_FnExactPathTo.j0 k (bt583.2 != bt576.2) l0_0 a0_1 bt578.1 bt578.2) else (laws_FnExactPathTo.j0 k true l0_0 a0_1 bt578.1 bt578.2)))))))
theorem laws_FnExactPathTo.mono_l : ∀ k, (∀ y0 y1 y2 y3 y4, LeO (laws_FnExactPathTo.j0 k y0 y1 y2 y3 y4) (laws_FnExactPathTo.j0 (k + 1) y0 y1 y2 y3 y4))
 | 0 => fun _ _ _ _ _ r h => by simp [laws_FnExactPathTo.j0] at h
 | k + 1 => by
  have ih0 := laws_FnExactPathTo.mono_l k
  ·intro y0 y1 y2 y3 y4
   unfold laws_FnExactPathTo.j0
   have m0 := @impl_PathTo.mono
   have m1 := @laws_eqFs.mono
   have m2 := @laws_szFs.mono
   have m3 := @laws_toFs.mono
   have m4 := @spec_PathTo.mono
   exact mo
theorem laws_FnExactPathTo.mono : ∀ a0 a1 a2 k, LeO (laws_FnExactPathTo.f k a0 a1 a2) (laws_FnExactPathTo.f (k + 1) a0 a1 a2) := by
 intro a0 a1 a2 k
 have ih0 := laws_FnExactPathTo.mono_l k
 unfold laws_FnExactPathTo.f
 have m0 := @impl_PathTo.mono
 have m1 := @laws_eqFs.mono
 have m2 := @laws_szFs.mono
 have m3 := @laws_toFs.mono
 have m4 := @spec_PathTo.mono
 exact mo
set_option maxHeartbeats 8000000 in
set_option maxRecDepth 100000 in
theorem laws_FnExactPathTo.calls (k : Nat) (A0_0 : Option Addr) (c0_0 : Nat) (l0_0 : List (S82)) (a0_1 : Int) (a1 : Int) (r : Bool) (w : World) (hr0_0 : Kd.C k82 w A0_0 l0_0.length l0_0) (hc0_0 : l0_0.length ≤ c0_0) (h : laws_FnExactPathTo.f k l0_0 a0_1 a1 = some r) :
  Calls Tryd.prog 8 #[.agg #[.slice A0_0 l0_0.length c0_0, .int .i64 a0_1], .int .i64 a1] w fun e w' => e = .returned (.bool r) ∧ Below w.heap.size w w' := by
 have hu24 := Tryd.underlying24
 have hu29 := Tryd.underlying29
 have HR0_0 := Aside0.mk hr0_0
 have HC0_0 := Aside0.mk hc0_0
 clear hr0_0 hc0_0
 have HB := Aside0.mk (Below.refl w.heap.size w)
 have H : ((laws_szFs.f k l0_0 a0_1 1048576).bind fun t571 => (if t571 < 0 then (some true) else ((laws_toFs.f k l0_0 a0_1).bind fun bt572 => ((spec_PathTo.f k bt572.1 bt572.2 a1).bind fun bt576 => ((laws_toFs.f k l0_0 a0_1).bind fun bt578 => ((impl_PathTo.f k bt578.1 bt578.2 a1).bind fun bt583 => (if bt583.1.toList = bt576.1.toList then (laws_FnExactPathTo.j0 k (bt583.2 != bt576.2) l0_0 a0_1 bt578.1 bt578.2) else (laws_FnExactPathTo.j0 k true l0_0 a0_1 bt578.1 bt578.2)))))))) = some r := h
 clear h
 obtain ⟨t571, A30, H⟩ := Option.bind_eq_some_iff.mp H
 try dsimp only at H
 replace A30 := Aside0.mk A30; have A3 := A30; clear A30
 by_cases c4 : t571 < 0
 ·rw [if_pos c4] at H
  have c4b0 := decide_eq_true c4
  clear c4
  obtain rfl := Option.some.inj H
  go_enter Tryd.func8, Tryd.ntmps8
  go_wp2_with (first | ((with_reducible refine gd 2 rfl ?_); refine bxE 2 #[.slice A0_0 l0_0.length c0_0, .int .i64 a0_1] 24 ?_; intro gb570 hg w5 hbox hb; have BK570 := Aside0.mk hbox; have GW570 := nGB hg; have GE570 := nGB hg; replace HB := nSB hb; clear hb hbox hg; have hcz6 := cb2 BK570) | ((with_reducible refine gt 13 rfl ?_); refine gL 13 13 Tryd.func13 #[.agg #[.slice A0_0 l0_0.length c0_0, .int .i64 a0_1], .int .i64 1048576] ?_; (with_reducible refine (laws_szFs.calls k _ _ l0_0 a0_1 1048576 t571 _ ?side1 ?side2 A3.out).mono ?_); (case side1 => exact sD (Kd.C_below HR0_0.out HB.out)); (case side2 => exact HC0_0.out); rintro e w7 ⟨rfl, hb⟩; refine ⟨_, rfl, ?_⟩; replace BK570 := nK BK570 hb; replace HB := nSC hb; try clear hb))
  go_ret
  exact ⟨sE, sC⟩
 ·rw [if_neg c4] at H
  have c4b0 := decide_eq_false c4
  clear c4
  obtain ⟨⟨t572, t575⟩, A80, H⟩ := Option.bind_eq_some_iff.mp H
  try dsimp only at H
  replace A80 := Aside0.mk A80; have A8 := A80; clear A80
  obtain ⟨⟨t576, t577⟩, A90, H⟩ := Option.bind_eq_some_iff.mp H
  try dsimp only at H
  replace A90 := Aside0.mk A90; have A9 := A90; clear A90
  obtain ⟨⟨t578, t581⟩, A100, H⟩ := Option.bind_eq_some_iff.mp H
  try dsimp only at H
  replace A100 := Aside0.mk A100; have A10 := A100; clear A100
  obtain ⟨⟨t583, t584⟩, A110, H⟩ := Option.bind_eq_some_iff.mp H
  try dsimp only at H
  replace A110 := Aside0.mk A110; have A11 := A110; clear A110
  have HC12 := Aside0.mk H
  clear H
  go_enter Tryd.func8, Tryd.ntmps8
  go_upto_region 8 with (first | ((with_reducible refine gd 2 rfl ?_); refine bxE 2 #[.slice A0_0 l0_0.length c0_0, .int .i64 a0_1] 24 ?_; intro gb570 hg w13 hbox hb; have BK570 := Aside0.mk hbox; have GW570 := nGB hg; have GE570 := nGB hg; replace HB := nSB hb; clear hb hbox hg; have hcz14 := cb2 BK570) | ((with_reducible refine gt 13 rfl ?_); refine gL 13 13 Tryd.func13 #[.agg #[.slice A0_0 l0_0.length c0_0, .int .i64 a0_1], .int .i64 1048576] ?_; (with_reducible refine (laws_szFs.calls k _ _ l0_0 a0_1 1048576 t571 _ ?side1 ?side2 A3.out).mono ?_); (case side1 => exact sD (Kd.C_below HR0_0.out HB.out)); (case side2 => exact HC0_0.out); rintro e w15 ⟨rfl, hb⟩; refine ⟨_, rfl, ?_⟩; replace BK570 := nK BK570 hb; replace HB := nSC hb; try clear hb; have hcz16 := cb2 BK570) | ((with_reducible refine gt 15 rfl ?_); refine gL 15 18 Tryd.func15 #[.agg #[.slice A0_0 l0_0.length c0_0, .int .i64 a0_1]] ?_; (with_reducible refine (laws_toFs.calls k _ _ l0_0 a0_1 t572 t575 _ ?side1 ?side2 A8.out).mono ?_); (case side1 => exact sD (Kd.C_below HR0_0.out HB.out)); (case side2 => exact HC0_0.out); rintro e w17 ⟨v573, rfl, ho0, hb⟩; refine ⟨_, rfl, ?_⟩; have HO574 := Aside0.mk (Kd.S_lower ho0 (below_size sC)); replace BK570 := nK BK570 hb; replace HB := nSC hb; try clear hb; (try clear ho0); obtain ⟨Ao18, co18, eo18⟩ := Kd.S_slice HO574.out; subst eo18) | ((with_reducible refine gt 26 rfl ?_); refine gL 26 20 Tryd.func26 #[.agg #[.slice Ao18 t572.length co18, .int .i64 t575], .int .i64 a1] ?_; (with_reducible refine (spec_PathTo.calls k _ _ t572 t575 a1 t576 t577 _ ?side1 ?side2 A9.out).mono ?_); (case side1 => exact sD (Kd.S_reads' HO574.out).2.2); (case side2 => exact (Kd.S_reads' HO574.out).2.1); rintro e w19 ⟨rfl, hb⟩; refine ⟨_, rfl, ?_⟩; replace HO574 := nS HO574 hb; replace BK570 := nK BK570 hb; replace HB := nSC hb; try clear hb; have hcz20 := cb2 BK570) | ((with_reducible refine gt 15 rfl ?_); refine gL 15 24 Tryd.func15 #[.agg #[.slice A0_0 l0_0.length c0_0, .int .i64 a0_1]] ?_; (with_reducible refine (laws_toFs.calls k _ _ l0_0 a0_1 t578 t581 _ ?side1 ?side2 A10.out).mono ?_); (case side1 => exact sD (Kd.C_below HR0_0.out HB.out)); (case side2 => exact HC0_0.out); rintro e w21 ⟨v579, rfl, ho0, hb⟩; refine ⟨_, rfl, ?_⟩; have HO580 := Aside0.mk (Kd.S_lower (Kd.S_new' ho0 (Kd.S_lt (by (with_reducible repeat (first | apply Kd.S_alloc | apply Kd.S_drewN | apply Kd.S_drew)); exact HO574.out))) (below_size sC)); replace HO574 := Aside0.mk (Kd.S_elder' (by (with_reducible repeat (first | apply Kd.S_alloc | apply Kd.S_drewN | apply Kd.S_drew)); exact HO574.out) (Kd.S_base ho0) hb); replace BK570 := nK BK570 hb; replace HB := nSC hb; try clear hb; (try clear ho0)) | ((with_reducible refine gd 8 rfl ?_); refine bxE 8 #[.slice none 0 0, .int .i64 0] 29 ?_; intro gb582 hg w22 hbox hb; replace HO574 := nS HO574 hb; replace HO580 := nS HO580 hb; have BK582 := Aside0.mk hbox; have GW582 := nGC hg; have GE582 := nGC hg; replace HB := nSC hb; have NB570_582 := nL BK570 hg; have NB582_570 := nH BK570 hg; replace BK570 := nK BK570 hb; clear hb hbox hg; obtain ⟨Ao23, co23, eo23⟩ := Kd.S_slice HO580.out; subst eo23; have hnb24 := NB582_570.out; have hnc24 := NB570_582.out; have hcz25 := cb2 BK582) | ((with_reducible refine gt 27 rfl ?_); refine gL 27 28 Tryd.func27 #[.agg #[.slice Ao23 t578.length co23, .int .i64 t581], .int .i64 a1] ?_; (with_reducible refine (impl_PathTo.calls k _ _ t578 t581 a1 t583 t584 _ ?side1 ?side2 A11.out).mono ?_); (case side1 => refine (Kd.S_reads' (e := 53) (base := w.heap.size) (ok := fun k_ => (True ∧ some k_ ≠ (.slice Ao18 t572.length co18 : Value).ownBlock)) (n := t578.length) (c := co23) ?_).2.2; exact (by (with_reducible repeat (first | apply Kd.S_alloc | apply Kd.S_drewN | apply Kd.S_drew)); exact (Kd.S_mono (Kd.S_far (p := ⟨gb582, 1, none⟩) (Kd.S_far (p := ⟨gb582, 0, none⟩) (Kd.S_types HO580.out BK582.out (by decide)) (fun _ hk => hk.2) (.slice Ao23 t578.length co23)) (fun _ hk => hk.2) (.int .i64 t581)) (fun _ h_ => h_.1)))); (case side2 => exact (Kd.S_reads' HO580.out).2.1); rintro e w26 ⟨rfl, hb⟩; refine ⟨_, rfl, ?_⟩; replace HO574 := nSf HO574 BK582 hb; replace HO580 := nSf HO580 BK582 hb; replace BK570 := nF BK570 hb; replace BK582 := nX #[.slice Ao23 t578.length co23, .int .i64 t581] BK582 hb; replace HB := nSC hb; try clear hb))
  (try simp only [Act.put, List.setIfInBounds_toArray, List.set_cons_zero, List.set_cons_succ])
  go_cut [38] (fun v38 wc => ∃ (kq : Nat) (x38_11 : Bool), v38 = .bool x38_11 ∧ Aside0 (laws_FnExactPathTo.j0 kq x38_11 l0_0 a0_1 t578 t581 = some r) ∧ Aside0 (kq ≤ k) ∧ Aside0 (Kd.S k53 53 wc w.heap.size (fun _ => True) (.slice Ao23 t578.length co23) t578) ∧ Aside0 (wc.heap[gb570]? = some (.cells #[(.slice A0_0 l0_0.length c0_0), .int .i64 a0_1] 24 (0, 0))) ∧ Aside0 (wc.heap[gb582]? = some (.cells #[(.slice Ao23 t578.length co23), .int .i64 t581] 29 (0, 0))) ∧ Aside0 (Below w.heap.size w wc))
  case first =>
   have H := HC12.out
   clear HC12
   by_cases c27 : t583.toList = t576.toList
   ·rw [if_pos c27] at H
    have c27b0 := beq_iff_eq.mpr c27
    have c27b1 := bne_eq_false_iff_eq.mpr c27
    clear c27
    (first | rw [c27b0] | (simp only [i64_w, i32_w]; rw [c27b0]) | skip)
    have H' := Aside0.mk H
    clear H
    go_wp2
    go_meet
    case rel => exact ⟨_, ((t584 != t577)), sR, H', ⟨by first | omega | exact Nat.le_refl _⟩, ⟨by (with_reducible repeat (first | apply Kd.S_alloc | apply Kd.S_drewN | apply Kd.S_drew)); exact Kd.S_mono HO580.out (fun _ hk => trivial)⟩, ⟨sK BK570⟩, ⟨sK BK582⟩, ⟨sC⟩⟩
   ·rw [if_neg c27] at H
    have c27b0 := beq_eq_false_iff_ne.mpr c27
    have c27b1 := bne_iff_ne.mpr c27
    (first | rw [c27b0] | (simp only [i64_w, i32_w]; rw [c27b0]) | skip)
    have H' := Aside0.mk H
    clear H
    go_wp2
    go_meet
    case rel => exact ⟨_, (true), sR, H', ⟨by first | omega | exact Nat.le_refl _⟩, ⟨by (with_reducible repeat (first | apply Kd.S_alloc | apply Kd.S_drewN | apply Kd.S_drew)); exact Kd.S_mono HO580.out (fun _ hk => trivial)⟩, ⟨sK BK570⟩, ⟨sK BK582⟩, ⟨sC⟩⟩
  case rest =>
   clear HC12
   try clear c1
   try clear c2
   try clear p2
   try clear c4
   try clear c4b0
   try clear c8
   try clear c13
   try clear c15
   try clear c24
   try clear c26
   try clear c27
   try clear c27b0
   try clear c27b1
   try clear hcz14
   try clear hcz16
   try clear hcz20
   try clear hcz25
   try clear hcz6
   obtain ⟨kq, x38_11, rfl, HA, HJ11, HO_583000, BK570, BK582, HB⟩ := hcut
   cases kq with
   | zero => exact absurd HA.out (by simp [laws_FnExactPathTo.j0])
   | succ kj11 =>
    have H := HA.out
    clear HA
    simp only [laws_FnExactPathTo.j0] at H
    by_cases c28 : x38_11 = true
    ·subst c28
     rw [if_pos rfl] at H
     obtain rfl := Option.some.inj H
     go_wp2
     go_ret
     exact ⟨sE, sC⟩
    ·replace c28 := Bool.eq_false_iff.mpr c28
     subst c28
     rw [if_neg (show ¬ (false = true) by decide)] at H
     obtain ⟨⟨t585, t588⟩, A290, H⟩ := Option.bind_eq_some_iff.mp H
     try dsimp only at H
     replace A290 := Aside0.mk A290; have A29 := A290; clear A290
     obtain ⟨t589, A300, H⟩ := Option.bind_eq_some_iff.mp H
     try dsimp only at H
     replace A300 := Aside0.mk A300; have A30 := A300; clear A300
     by_cases c31 : t589 = true
     ·subst c31
      rw [if_pos rfl] at H
      obtain rfl := Option.some.inj H
      try go_wp2
      have n0_ := Aside0.mk (Kd.S_drew HO_583000.out)
      have n1_ := Aside0.mk (blk_drew BK570.out)
      have n2_ := Aside0.mk (blk_drew BK582.out)
      have n3_ := Aside0.mk (below_drew1 HB.out)
      clear HO_583000
      clear BK570
      clear BK582
      clear HB
      have HO_583000 := n0_
      have BK570 := n1_
      have BK582 := n2_
      have HB := n3_
      clear n0_ n1_ n2_ n3_
      refine st4 5 [] (cz0 BK582) (cz1 BK582) (cz0 BK570) (cz1 BK570) (fun hHeld => ?_)
      generalize wc.drew = w32 at HO_583000 BK570 BK582 HB hHeld ⊢
      refine tk4 0 39 ?_
      refine tk4 1 40 ?_
      refine on 2 41 (fun K hK => ?_)
      refine gC Tryd.func15 #[.agg #[.slice A0_0 l0_0.length c0_0, .int .i64 a0_1]] ?_
      with_reducible refine (laws_toFs.calls kj11 _ _ l0_0 a0_1 t585 t588 _ ?side1 ?side2 A29.out).mono ?_
      (case side1 => exact sD (Kd.C_below HR0_0.out HB.out))
      (case side2 => exact HC0_0.out)
      rintro e w33 ⟨v586, rfl, ho0, hb⟩
      refine ⟨_, rfl, ?_⟩
      have n0_ := Aside0.mk (Kd.S_elder' (by (with_reducible repeat (first | apply Kd.S_alloc | apply Kd.S_drewN | apply Kd.S_drew)); exact HO_583000.out) (Kd.S_base ho0) hb)
      have n1_ := Aside0.mk (Kd.S_lower (Kd.S_new' ho0 (Kd.S_lt (by (with_reducible repeat (first | apply Kd.S_alloc | apply Kd.S_drewN | apply Kd.S_drew)); exact HO_583000.out))) (below_size sC))
      have n2_ := nK BK570 hb
      have n3_ := nK BK582 hb
      have n4_ := nSC hb
      clear HO_583000
      clear BK570
      clear BK582
      clear HB
      have HO_583000 := n0_
      have HO587 := n1_
      have BK570 := n2_
      have BK582 := n3_
      have HB := n4_
      clear n0_ n1_ n2_ n3_ n4_
      (try clear hb)
      (try clear hb2)
      (try clear hk)
      (try clear hi)
      (try clear ho0)
      obtain ⟨Ao34, co34, eo34⟩ := Kd.S_slice HO587.out
      (first | subst eo34 | (injection eo34 with f1_ f2_ f3_; have f4_ := f1_.symm; have f5_ := f3_.symm; clear f1_ f2_ f3_; subst f4_; subst f5_))
      refine hK.out _ _ ⟨cz0 BK582, cz1 BK582, cz0 BK570, cz1 BK570⟩ (fun hHeld => ?_)
      clear hK K
      refine nm ?_
      refine on 3 42 (fun K hK => ?_)
      refine gC Tryd.func17 #[.agg #[.slice Ao23 t578.length co23, .int .i64 t581], .agg #[.slice Ao34 t585.length co34, .int .i64 t588]] ?_
      with_reducible refine (laws_eqFs.calls kj11 _ _ t578 t581 _ _ t585 t588 true _ ?side1 ?side2 ?side3 ?side4 A30.out).mono ?_
      (case side1 => exact sD (Kd.S_reads' HO_583000.out).2.2)
      (case side2 => exact (Kd.S_reads' HO_583000.out).2.1)
      (case side3 => exact sD (Kd.S_reads' HO587.out).2.2)
      (case side4 => exact (Kd.S_reads' HO587.out).2.1)
      rintro e w35 ⟨rfl, hb⟩
      refine ⟨_, rfl, ?_⟩
      have n0_ := nS HO_583000 hb
      have n1_ := nS HO587 hb
      have n2_ := nK BK570 hb
      have n3_ := nK BK582 hb
      have n4_ := nSC hb
      clear HO_583000
      clear HO587
      clear BK570
      clear BK582
      clear HB
      have HO_583000 := n0_
      have HO587 := n1_
      have BK570 := n2_
      have BK582 := n3_
      have HB := n4_
      clear n0_ n1_ n2_ n3_ n4_
      (try clear hb)
      (try clear hb2)
      (try clear hk)
      (try clear hi)
      refine hK.out _ _ ⟨cz0 BK582, cz1 BK582, cz0 BK570, cz1 BK570⟩ (fun hHeld => ?_)
      clear hK K
      refine nm ?_
      refine pu 4 43 ?_
      refine dn ?_
      try go_wp2
      go_ret
      exact ⟨sE, sC⟩
     ·replace c31 := Bool.eq_false_iff.mpr c31
      subst c31
      rw [if_neg (show ¬ (false = true) by decide)] at H
      obtain rfl := Option.some.inj H
      try go_wp2
      have n0_ := Aside0.mk (Kd.S_drew HO_583000.out)
      have n1_ := Aside0.mk (blk_drew BK570.out)
      have n2_ := Aside0.mk (blk_drew BK582.out)
      have n3_ := Aside0.mk (below_drew1 HB.out)
      clear HO_583000
      clear BK570
      clear BK582
      clear HB
      have HO_583000 := n0_
      have BK570 := n1_
      have BK582 := n2_
      have HB := n3_
      clear n0_ n1_ n2_ n3_
      refine st4 5 [] (cz0 BK582) (cz1 BK582) (cz0 BK570) (cz1 BK570) (fun hHeld => ?_)
      generalize wc.drew = w36 at HO_583000 BK570 BK582 HB hHeld ⊢
      refine tk4 0 39 ?_
      refine tk4 1 40 ?_
      refine on 2 41 (fun K hK => ?_)
      refine gC Tryd.func15 #[.agg #[.slice A0_0 l0_0.length c0_0, .int .i64 a0_1]] ?_
      with_reducible refine (laws_toFs.calls kj11 _ _ l0_0 a0_1 t585 t588 _ ?side1 ?side2 A29.out).mono ?_
      (case side1 => exact sD (Kd.C_below HR0_0.out HB.out))
      (case side2 => exact HC0_0.out)
      rintro e w37 ⟨v586, rfl, ho0, hb⟩
      refine ⟨_, rfl, ?_⟩
      have n0_ := Aside0.mk (Kd.S_elder' (by (with_reducible repeat (first | apply Kd.S_alloc | apply Kd.S_drewN | apply Kd.S_drew)); exact HO_583000.out) (Kd.S_base ho0) hb)
      have n1_ := Aside0.mk (Kd.S_lower (Kd.S_new' ho0 (Kd.S_lt (by (with_reducible repeat (first | apply Kd.S_alloc | apply Kd.S_drewN | apply Kd.S_drew)); exact HO_583000.out))) (below_size sC))
      have n2_ := nK BK570 hb
      have n3_ := nK BK582 hb
      have n4_ := nSC hb
      clear HO_583000
      clear BK570
      clear BK582
      clear HB
      have HO_583000 := n0_
      have HO587 := n1_
      have BK570 := n2_
      have BK582 := n3_
      have HB := n4_
      clear n0_ n1_ n2_ n3_ n4_
      (try clear hb)
      (try clear hb2)
      (try clear hk)
      (try clear hi)
      (try clear ho0)
      obtain ⟨Ao38, co38, eo38⟩ := Kd.S_slice HO587.out
      (first | subst eo38 | (injection eo38 with f1_ f2_ f3_; have f4_ := f1_.symm; have f5_ := f3_.symm; clear f1_ f2_ f3_; subst f4_; subst f5_))
      refine hK.out _ _ ⟨cz0 BK582, cz1 BK582, cz0 BK570, cz1 BK570⟩ (fun hHeld => ?_)
      clear hK K
      refine nm ?_
      refine on 3 42 (fun K hK => ?_)
      refine gC Tryd.func17 #[.agg #[.slice Ao23 t578.length co23, .int .i64 t581], .agg #[.slice Ao38 t585.length co38, .int .i64 t588]] ?_
      with_reducible refine (laws_eqFs.calls kj11 _ _ t578 t581 _ _ t585 t588 false _ ?side1 ?side2 ?side3 ?side4 A30.out).mono ?_
      (case side1 => exact sD (Kd.S_reads' HO_583000.out).2.2)
      (case side2 => exact (Kd.S_reads' HO_583000.out).2.1)
      (case side3 => exact sD (Kd.S_reads' HO587.out).2.2)
      (case side4 => exact (Kd.S_reads' HO587.out).2.1)
      rintro e w39 ⟨rfl, hb⟩
      refine ⟨_, rfl, ?_⟩
      have n0_ := nS HO_583000 hb
      have n1_ := nS HO587 hb
      have n2_ := nK BK570 hb
      have n3_ := nK BK582 hb
      have n4_ := nSC hb
      clear HO_583000
      clear HO587
      clear BK570
      clear BK582
      clear HB
      have HO_583000 := n0_
      have HO587 := n1_
      have BK570 := n2_
      have BK582 := n3_
      have HB := n4_
      clear n0_ n1_ n2_ n3_ n4_
      (try clear hb)
      (try clear hb2)
      (try clear hk)
      (try clear hi)
      refine hK.out _ _ ⟨cz0 BK582, cz1 BK582, cz0 BK570, cz1 BK570⟩ (fun hHeld => ?_)
      clear hK K
      refine nm ?_
      refine pu 4 43 ?_
      refine dn ?_
      try go_wp2
      go_ret
      exact ⟨sE, sC⟩

/-- The one pure statement of laws_FnExactPathTo. -/
def laws_FnExactPathTo.Pure : Prop := ∀ (l0_0 : List (S82)) (a0_1 : Int) (a1 : Int), (l0_0.length ≤ 9223372036854775807 ∧ ∀ e11_ ∈ l0_0, ((Lit.int .i64 e11_.f0).wf = true ∧ ((Lit.int .i64 e11_.f1).wf = true ∧ ((Lit.int .i64 e11_.f2).wf = true ∧ ((Lit.int .i64 e11_.f3).wf = true ∧ ((Lit.int .i64 e11_.f4).wf = true ∧ (e11_.f5.size ≤ 9223372036854775807 ∧ (e11_.f6.length ≤ 9223372036854775807 ∧ ∀ e12_ ∈ e11_.f6, (e12_.f0.size ≤ 9223372036854775807 ∧ (Lit.int .i64 e12_.f1).wf = true))))))))) → (Lit.int .i64 a0_1).wf = true → (Lit.int .i64 a1).wf = true → ∃ k, laws_FnExactPathTo.f k l0_0 a0_1 a1 = some true

end Go.Proofs.YteffcglgdfhkmaaDoor.PFs
