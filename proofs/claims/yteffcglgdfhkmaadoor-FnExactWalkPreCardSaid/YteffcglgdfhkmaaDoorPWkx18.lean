-- Written by a program of this session (wip/print2) out of the translation. Lean checks it.
import Derived.Test.YteffcglgdfhkmaaDoorPWkx0
import Derived.Test.YteffcglgdfhkmaaDoorPWkx7
import Derived.Test.YteffcglgdfhkmaaDoorPWkx1
import Derived.Test.YteffcglgdfhkmaaDoorPWkx8
import Derived.Test.YteffcglgdfhkmaaDoorPWkx14
import Derived.Test.YteffcglgdfhkmaaDoorPWkx15
import Derived.Test.YteffcglgdfhkmaaDoorPWkx16
import Derived.Test.YteffcglgdfhkmaaDoorPWkx17
namespace Go.Proofs.YteffcglgdfhkmaaDoor.PWk
open Go.RowKit Go.Proofs.YteffcglgdfhkmaaDoorW.PrintWords Go.Proofs.YteffcglgdfhkmaaDoorW.PrintLast Go.Proofs.YteffcglgdfhkmaaDoorW.PrintMore
attribute [local go_sem] max2_int min2_int max_two min_two max_three min_three max_four min_four   -- for this text's walks alone
set_option linter.unusedVariables false
set_option linter.unusedSimpArgs false
set_option maxHeartbeats 8000000
set_option maxRecDepth 100000

/-! ### laws_FnExactWalkPre: function 11 -/
mutual
def laws_FnExactWalkPre.j0 : Nat → Int → List ByteArray → Bool → List ByteArray → Bool → Bool → List (S82) → Int → List (S53) → Int → Option (Bool)
 | 0, _, _, _, _, _, _, _, _, _, _ => none
 | k + 1, x1, x6, x7, x9, x10, x44, x456000, x456001, x470000, x470001 => if x44 = true then (some false) else ((laws_toFs.f k x456000 x456001).bind fun bt475 => ((laws_eqFs.f k x470000 x470001 bt475.1 bt475.2).bind fun t479 => (if t479 = true then ((laws_markFs.f k x470000 x470001 1).bind fun t480 => (if t480 < 0 then (laws_FnExactWalkPre.j1 k x1 x6 x7 x9 true x456000 x456001) else ((laws_eqStringS.f k x9 x6).bind fun t481 => (if t481 = true then (laws_FnExactWalkPre.j1 k x1 x6 x7 x9 (x10 != x7) x456000 x456001) else (laws_FnExactWalkPre.j1 k x1 x6 x7 x9 true x456000 x456001))))) else (some false))))
def laws_FnExactWalkPre.j1 : Nat → Int → List ByteArray → Bool → List ByteArray → Bool → List (S82) → Int → Option (Bool)
 | 0, _, _, _, _, _, _, _ => none
 | k + 1, x1, x6, x7, x9, x65, x456000, x456001 => if x65 = true then (some false) else ((laws_markStringS.f k x9 1).bind fun bt482 => ((laws_heldStringS.f k bt482.2 1).bind fun t484 => (if t484 < 0 then (some false) else (if t484 = bt482.1 then ((laws_toFs.f k x456000 x456001).bind fun bt485 => ((impl_WalkPre.f k bt485.1 bt485.2 x1).bind fun bt489 => ((laws_eqStringS.f k bt489.1 x6).bind fun t493 => (if t493 = true then (laws_FnExactWalkPre.j2 k bt482.2 bt482.1 (bt489.2 != x7)) else (laws_FnExactWalkPre.j2 k bt482.2 bt482.1 true))))) else (some false)))))
def laws_FnExactWalkPre.j2 : Nat → List ByteArray → Int → Bool → Option (Bool)
 | 0, _, _, _ => none
 | k + 1, x9, x12, x92 => if x92 = true then (some false) else ((laws_heldStringS.f k x9 1).bind fun t494 => (if t494 < 0 then (some false) else (if t494 = x12 then (some true) else (some false))))
end
def laws_FnExactWalkPre.f (k : Nat) (l0_0 : List (S82)) (a0_1 : Int) (a1 : Int) : Option (Bool) := (laws_szFs.f k l0_0 a0_1 1048576).bind fun t456 => (if t456 < 0 then (some true) else ((laws_toFs.f k l0_0 a0_1).bind fun bt457 => ((spec_WalkPre.f k bt457.1 bt457.2 a1).bind fun bt461 => ((laws_toFs.f k l0_0 a0_1).bind fun bt465 => ((impl_WalkPre.f k bt465.1 bt465.2 a1).bind fun bt470 => ((laws_eqStringS.f k bt470.1 bt461.1).bind fun t474 => (if t474 = true then (laws_FnExactWalkPre.j0 k a1 bt461.1 bt461.2 bt470.1 bt470.2 (bt470.2 != bt461.2) l0_0 a0_1 bt465.1 bt465.2) else (laws_FnExactWalkPre.j0 k a1 bt461.1 bt461.2 bt470.1 bt470.2 true l0_0 a0_1 bt465.1 bt465.2))))))))
theorem laws_FnExactWalkPre.calls (k : Nat) (A0_0 : Option Addr) (c0_0 : Nat) (l0_0 : List (S82)) (a0_1 : Int) (a1 : Int) (r : Bool) (w : World) (hr0_0 : Kd.C k82 w A0_0 l0_0.length l0_0) (hc0_0 : l0_0.length ≤ c0_0) (h : laws_FnExactWalkPre.f k l0_0 a0_1 a1 = some r) :
  Calls Tryd.prog 11 #[.agg #[.slice A0_0 l0_0.length c0_0, .int .i64 a0_1], .int .i64 a1] w fun e w' => e = .returned (.bool r) ∧ Below w.heap.size w w' := by
 have hu24 := Tryd.underlying24
 have hu29 := Tryd.underlying29
 have HR0_0 := Aside0.mk hr0_0
 have HC0_0 := Aside0.mk hc0_0
 clear hr0_0 hc0_0
 have HB := Aside0.mk (Below.refl w.heap.size w)
 have H : ((laws_szFs.f k l0_0 a0_1 1048576).bind fun t456 => (if t456 < 0 then (some true) else ((laws_toFs.f k l0_0 a0_1).bind fun bt457 => ((spec_WalkPre.f k bt457.1 bt457.2 a1).bind fun bt461 => ((laws_toFs.f k l0_0 a0_1).bind fun bt465 => ((impl_WalkPre.f k bt465.1 bt465.2 a1).bind fun bt470 => ((laws_eqStringS.f k bt470.1 bt461.1).bind fun t474 => (if t474 = true then (laws_FnExactWalkPre.j0 k a1 bt461.1 bt461.2 bt470.1 bt470.2 (bt470.2 != bt461.2) l0_0 a0_1 bt465.1 bt465.2) else (laws_FnExactWalkPre.j0 k a1 bt461.1 bt461.2 bt470.1 bt470.2 true l0_0 a0_1 bt465.1 bt465.2))))))))) = some r := h
 clear h
 obtain ⟨t456, A3, H⟩ := bS H
 try dsimp only at H
 by_cases c4 : t456 < 0
 ·rw [if_pos c4] at H
  have c4b0 := decide_eq_true c4
  clear c4
  obtain rfl := Option.some.inj H
  go_enter Tryd.func11, Tryd.ntmps11
  go_wp2_with (first | ((with_reducible refine gd 2 rfl ?_); refine bxE 2 #[.slice A0_0 l0_0.length c0_0, .int .i64 a0_1] 24 ?_; intro gb455 hg w5 hbox hb; have BK455 := Aside0.mk hbox; have GW455 := nGB hg; have GE455 := nGB hg; replace HB := nSB hb; clear hb hbox hg; have hcz6 := cb2 BK455) | ((with_reducible refine gt 13 rfl ?_); refine gL 13 18 Tryd.func13 #[.agg #[.slice A0_0 l0_0.length c0_0, .int .i64 a0_1], .int .i64 1048576] ?_; (with_reducible refine (laws_szFs.calls k _ _ l0_0 a0_1 1048576 t456 _ ?side1 ?side2 A3.out).mono ?_); (case side1 => exact sD (Kd.C_below HR0_0.out HB.out)); (case side2 => exact HC0_0.out); rintro e w7 ⟨rfl, hb⟩; refine ⟨_, rfl, ?_⟩; replace BK455 := nK BK455 hb; replace HB := nSC hb; try clear hb))
  go_ret
  exact ⟨sE, sC⟩
 ·rw [if_neg c4] at H
  have c4b0 := decide_eq_false c4
  clear c4
  obtain ⟨⟨t457, t460⟩, A8, H⟩ := bS H
  try dsimp only at H
  obtain ⟨⟨t461, t464⟩, A9, H⟩ := bS H
  try dsimp only at H
  obtain ⟨⟨t465, t468⟩, A10, H⟩ := bS H
  try dsimp only at H
  obtain ⟨⟨t470, t473⟩, A11, H⟩ := bS H
  try dsimp only at H
  have HC12 := Aside0.mk H
  clear H
  go_enter Tryd.func11, Tryd.ntmps11
  go_upto_region 8 with (first | ((with_reducible refine gd 2 rfl ?_); refine bxE 2 #[.slice A0_0 l0_0.length c0_0, .int .i64 a0_1] 24 ?_; intro gb455 hg w13 hbox hb; have BK455 := Aside0.mk hbox; have GW455 := nGB hg; have GE455 := nGB hg; replace HB := nSB hb; clear hb hbox hg; have hcz14 := cb2 BK455) | ((with_reducible refine gt 13 rfl ?_); refine gL 13 18 Tryd.func13 #[.agg #[.slice A0_0 l0_0.length c0_0, .int .i64 a0_1], .int .i64 1048576] ?_; (with_reducible refine (laws_szFs.calls k _ _ l0_0 a0_1 1048576 t456 _ ?side1 ?side2 A3.out).mono ?_); (case side1 => exact sD (Kd.C_below HR0_0.out HB.out)); (case side2 => exact HC0_0.out); rintro e w15 ⟨rfl, hb⟩; refine ⟨_, rfl, ?_⟩; replace BK455 := nK BK455 hb; replace HB := nSC hb; try clear hb; have hcz16 := cb2 BK455) | ((with_reducible refine gt 15 rfl ?_); refine gL 15 23 Tryd.func15 #[.agg #[.slice A0_0 l0_0.length c0_0, .int .i64 a0_1]] ?_; (with_reducible refine (laws_toFs.calls k _ _ l0_0 a0_1 t457 t460 _ ?side1 ?side2 A8.out).mono ?_); (case side1 => exact sD (Kd.C_below HR0_0.out HB.out)); (case side2 => exact HC0_0.out); rintro e w17 ⟨v458, rfl, ho0, hb⟩; refine ⟨_, rfl, ?_⟩; have HO459 := Aside0.mk (Kd.S_lower ho0 (below_size sC)); replace BK455 := nK BK455 hb; replace HB := nSC hb; try clear hb; (try clear ho0); obtain ⟨Ao18, co18, eo18⟩ := Kd.S_slice HO459.out; subst eo18) | ((with_reducible refine gt 36 rfl ?_); refine gL 36 25 Tryd.func36 #[.agg #[.slice Ao18 t457.length co18, .int .i64 t460], .int .i64 a1] ?_; (with_reducible refine (spec_WalkPre.calls k _ _ t457 t460 a1 t461 t464 _ ?side1 ?side2 A9.out).mono ?_); (case side1 => exact sD (Kd.S_reads' HO459.out).2.2); (case side2 => exact (Kd.S_reads' HO459.out).2.1); rintro e w19 ⟨v462, rfl, ho0, hb⟩; refine ⟨_, rfl, ?_⟩; replace HO459 := nS HO459 hb; have HO463 := Aside0.mk (Kd.R_lower ho0 (below_size sC)); replace BK455 := nK BK455 hb; replace HB := nSC hb; try clear hb; (try clear ho0); have hcz20 := cb2 BK455) | ((with_reducible refine gt 15 rfl ?_); refine gL 15 29 Tryd.func15 #[.agg #[.slice A0_0 l0_0.length c0_0, .int .i64 a0_1]] ?_; (with_reducible refine (laws_toFs.calls k _ _ l0_0 a0_1 t465 t468 _ ?side1 ?side2 A10.out).mono ?_); (case side1 => exact sD (Kd.C_below HR0_0.out HB.out)); (case side2 => exact HC0_0.out); rintro e w21 ⟨v466, rfl, ho0, hb⟩; refine ⟨_, rfl, ?_⟩; replace HO463 := nR HO463 hb; have HO467 := Aside0.mk (Kd.S_lower (Kd.S_new' ho0 (Kd.S_lt (by (with_reducible repeat (first | apply Kd.S_alloc | apply Kd.S_drewN | apply Kd.S_drew)); exact HO459.out))) (below_size sC)); replace HO459 := Aside0.mk (Kd.S_elder' (by (with_reducible repeat (first | apply Kd.S_alloc | apply Kd.S_drewN | apply Kd.S_drew)); exact HO459.out) (Kd.S_base ho0) hb); replace BK455 := nK BK455 hb; replace HB := nSC hb; try clear hb; (try clear ho0)) | ((with_reducible refine gd 8 rfl ?_); refine bxE 8 #[.slice none 0 0, .int .i64 0] 29 ?_; intro gb469 hg w22 hbox hb; replace HO459 := nS HO459 hb; replace HO463 := nR HO463 hb; replace HO467 := nS HO467 hb; have BK469 := Aside0.mk hbox; have GW469 := nGC hg; have GE469 := nGC hg; replace HB := nSC hb; have NB455_469 := nL BK455 hg; have NB469_455 := nH BK455 hg; replace BK455 := nK BK455 hb; clear hb hbox hg; obtain ⟨Ao23, co23, eo23⟩ := Kd.S_slice HO467.out; subst eo23; have hnb24 := NB469_455.out; have hnc24 := NB455_469.out; have hcz25 := cb2 BK469) | ((with_reducible refine gt 37 rfl ?_); refine gL 37 33 Tryd.func37 #[.agg #[.slice Ao23 t465.length co23, .int .i64 t468], .int .i64 a1] ?_; (with_reducible refine (impl_WalkPre.calls k _ _ t465 t468 a1 t470 t473 _ ?side1 ?side2 A11.out).mono ?_); (case side1 => refine (Kd.S_reads' (e := 53) (base := w.heap.size) (ok := fun k_ => (True ∧ some k_ ≠ (.slice Ao18 t457.length co18 : Value).ownBlock)) (n := t465.length) (c := co23) ?_).2.2; exact (by (with_reducible repeat (first | apply Kd.S_alloc | apply Kd.S_drewN | apply Kd.S_drew)); exact (Kd.S_mono (Kd.S_far (p := ⟨gb469, 1, none⟩) (Kd.S_far (p := ⟨gb469, 0, none⟩) (Kd.S_types HO467.out BK469.out (by decide)) (fun _ hk => hk.2) (.slice Ao23 t465.length co23)) (fun _ hk => hk.2) (.int .i64 t468)) (fun _ h_ => h_.1)))); (case side2 => exact (Kd.S_reads' HO467.out).2.1); rintro e w26 ⟨v471, rfl, ho0, hb⟩; refine ⟨_, rfl, ?_⟩; replace HO459 := nSf HO459 BK469 hb; replace HO467 := nSf HO467 BK469 hb; have HO472 := Aside0.mk (Kd.R_lower (Kd.R_new' ho0 (Kd.R_lt (by (with_reducible repeat (first | apply Kd.R_alloc | apply Kd.R_drewN | apply Kd.R_drew)); exact (Kd.R_mono (Kd.R_far (p := ⟨gb469, 1, none⟩) (Kd.R_far (p := ⟨gb469, 0, none⟩) (Kd.R_types HO463.out BK469.out (by decide)) (fun _ hk => hk.2) (.slice Ao23 t465.length co23)) (fun _ hk => hk.2) (.int .i64 t468)) (fun _ h_ => h_.1))))) (below_size sC)); replace HO463 := Aside0.mk (Kd.R_elder' (by (with_reducible repeat (first | apply Kd.R_alloc | apply Kd.R_drewN | apply Kd.R_drew)); exact (Kd.R_mono (Kd.R_far (p := ⟨gb469, 1, none⟩) (Kd.R_far (p := ⟨gb469, 0, none⟩) (Kd.R_types HO463.out BK469.out (by decide)) (fun _ hk => hk.2) (.slice Ao23 t465.length co23)) (fun _ hk => hk.2) (.int .i64 t468)) (fun _ h_ => h_.1))) (Kd.R_base ho0) hb); replace BK455 := nF BK455 hb; replace BK469 := nX #[.slice Ao23 t465.length co23, .int .i64 t468] BK469 hb; replace HB := nSC hb; try clear hb; (try clear ho0)))
  (try simp only [Act.put, List.setIfInBounds_toArray, List.set_cons_zero, List.set_cons_succ])
  go_cut [44] (fun v44 wc => ∃ (kq : Nat) (x44_11 : Bool), v44 = .bool x44_11 ∧ Aside0 (laws_FnExactWalkPre.j0 kq a1 t461 t464 t470 t473 x44_11 l0_0 a0_1 t465 t468 = some r) ∧ Aside0 (kq ≤ k) ∧ Aside0 (Kd.R Kd.string 9 wc w.heap.size (fun k_ => some k_ ≠ (v471 : Value).ownBlock) v462 t461) ∧ Aside0 (Kd.R Kd.string 9 wc w.heap.size (fun k_ => some k_ ≠ (v462 : Value).ownBlock) v471 t470) ∧ Aside0 (Kd.S k53 53 wc w.heap.size (fun _ => True) (.slice Ao23 t465.length co23) t465) ∧ Aside0 (wc.heap[gb455]? = some (.cells #[(.slice A0_0 l0_0.length c0_0), .int .i64 a0_1] 24 (0, 0))) ∧ Aside0 (wc.heap[gb469]? = some (.cells #[(.slice Ao23 t465.length co23), .int .i64 t468] 29 (0, 0))) ∧ Aside0 (Below w.heap.size w wc))
  case first =>
   have H := HC12.out
   clear HC12
   obtain ⟨t474, A27, H⟩ := bS H
   try dsimp only at H
   by_cases c28 : t474 = true
   ·subst c28
    rw [if_pos rfl] at H
    have H' := Aside0.mk H
    clear H
    obtain ⟨Ao29, co29, eo29⟩ := Kd.R_slice HO472.out
    subst eo29
    obtain ⟨Ao30, co30, eo30⟩ := Kd.R_slice HO463.out
    subst eo30
    go_wp2_with (first | ((with_reducible refine gt 32 rfl ?_); refine gL 32 38 Tryd.func32 #[.slice Ao29 t470.length co29, .slice Ao30 t461.length co30] ?_; (with_reducible refine (laws_eqStringS.calls k _ _ t470 _ _ t461 true _ ?side1 ?side2 ?side3 ?side4 A27.out).mono ?_); (case side1 => exact sD (Kd.R_reads' HO472.out).2.2); (case side2 => exact (Kd.R_reads' HO472.out).2.1); (case side3 => exact sD (Kd.R_reads' HO463.out).2.2); (case side4 => exact (Kd.R_reads' HO463.out).2.1); rintro e w' ⟨rfl, ⟨nd, rfl⟩⟩; refine ⟨_, rfl, ?_⟩))
    go_meet
    case rel => exact ⟨_, ((t473 != t464)), sR, H', ⟨by first | omega | exact Nat.le_refl _⟩, ⟨by (with_reducible repeat (first | apply Kd.R_alloc | apply Kd.R_drewN | apply Kd.R_drew)); exact Kd.R_mono HO463.out (fun _ hk => hk.2)⟩, ⟨by (with_reducible repeat (first | apply Kd.R_alloc | apply Kd.R_drewN | apply Kd.R_drew)); exact Kd.R_mono HO472.out (fun _ hk => hk.2)⟩, ⟨by (with_reducible repeat (first | apply Kd.S_alloc | apply Kd.S_drewN | apply Kd.S_drew)); exact Kd.S_mono HO467.out (fun _ hk => trivial)⟩, ⟨sK BK455⟩, ⟨sK BK469⟩, ⟨sC⟩⟩
   ·replace c28 := Bool.eq_false_iff.mpr c28
    subst c28
    rw [if_neg (show ¬ (false = true) by decide)] at H
    have H' := Aside0.mk H
    clear H
    obtain ⟨Ao31, co31, eo31⟩ := Kd.R_slice HO472.out
    subst eo31
    obtain ⟨Ao32, co32, eo32⟩ := Kd.R_slice HO463.out
    subst eo32
    go_wp2_with (first | ((with_reducible refine gt 32 rfl ?_); refine gL 32 38 Tryd.func32 #[.slice Ao31 t470.length co31, .slice Ao32 t461.length co32] ?_; (with_reducible refine (laws_eqStringS.calls k _ _ t470 _ _ t461 false _ ?side1 ?side2 ?side3 ?side4 A27.out).mono ?_); (case side1 => exact sD (Kd.R_reads' HO472.out).2.2); (case side2 => exact (Kd.R_reads' HO472.out).2.1); (case side3 => exact sD (Kd.R_reads' HO463.out).2.2); (case side4 => exact (Kd.R_reads' HO463.out).2.1); rintro e w' ⟨rfl, ⟨nd, rfl⟩⟩; refine ⟨_, rfl, ?_⟩))
    go_meet
    case rel => exact ⟨_, (true), sR, H', ⟨by first | omega | exact Nat.le_refl _⟩, ⟨by (with_reducible repeat (first | apply Kd.R_alloc | apply Kd.R_drewN | apply Kd.R_drew)); exact Kd.R_mono HO463.out (fun _ hk => hk.2)⟩, ⟨by (with_reducible repeat (first | apply Kd.R_alloc | apply Kd.R_drewN | apply Kd.R_drew)); exact Kd.R_mono HO472.out (fun _ hk => hk.2)⟩, ⟨by (with_reducible repeat (first | apply Kd.S_alloc | apply Kd.S_drewN | apply Kd.S_drew)); exact Kd.S_mono HO467.out (fun _ hk => trivial)⟩, ⟨sK BK455⟩, ⟨sK BK469⟩, ⟨sC⟩⟩
  case rest =>
   clear HC12
   try clear c1
   try clear c2
   try clear p2
   try clear c3
   try clear c4
   try clear c4b0
   try clear c11
   try clear c13
   try clear c15
   try clear c24
   try clear c28
   try clear c32
   try clear hcz14
   try clear hcz16
   try clear hcz20
   try clear hcz25
   try clear hcz6
   obtain ⟨kq, x44_11, rfl, HA, HJ11, HO_6, HO_9, HO_470000, BK455, BK469, HB⟩ := hcut
   cases kq with
   | zero => exact absurd HA.out (by simp [laws_FnExactWalkPre.j0])
   | succ kj11 =>
    have H := HA.out
    clear HA
    simp only [laws_FnExactWalkPre.j0] at H
    by_cases c33 : x44_11 = true
    ·subst c33
     rw [if_pos rfl] at H
     obtain rfl := Option.some.inj H
     go_wp2
     go_ret
     exact ⟨sE, sC⟩
    ·replace c33 := Bool.eq_false_iff.mpr c33
     subst c33
     rw [if_neg (show ¬ (false = true) by decide)] at H
     obtain ⟨⟨t475, t478⟩, A34, H⟩ := bS H
     try dsimp only at H
     obtain ⟨t479, A35, H⟩ := bS H
     try dsimp only at H
     by_cases c36 : t479 = true
     ·subst c36
      rw [if_pos rfl] at H
      obtain ⟨t480, A37, H⟩ := bS H
      try dsimp only at H
      have HC38 := Aside0.mk H
      clear H
      try go_wp2
      have n0_ := Aside0.mk (Kd.R_drew HO_6.out)
      have n1_ := Aside0.mk (Kd.R_drew HO_9.out)
      have n2_ := Aside0.mk (Kd.S_drew HO_470000.out)
      have n3_ := Aside0.mk (blk_drew BK455.out)
      have n4_ := Aside0.mk (blk_drew BK469.out)
      have n5_ := Aside0.mk (below_drew1 HB.out)
      clear HO_6
      clear HO_9
      clear HO_470000
      clear BK455
      clear BK469
      clear HB
      have HO_6 := n0_
      have HO_9 := n1_
      have HO_470000 := n2_
      have BK455 := n3_
      have BK469 := n4_
      have HB := n5_
      clear n0_ n1_ n2_ n3_ n4_ n5_
      refine st4 5 [] (cz0 BK469) (cz1 BK469) (cz0 BK455) (cz1 BK455) (fun hHeld => ?_)
      generalize wc.drew = w39 at HO_6 HO_9 HO_470000 BK455 BK469 HB hHeld ⊢
      refine tk4 0 45 ?_
      refine tk4 1 46 ?_
      refine on 2 47 (fun K hK => ?_)
      refine gC Tryd.func15 #[.agg #[.slice A0_0 l0_0.length c0_0, .int .i64 a0_1]] ?_
      with_reducible refine (laws_toFs.calls kj11 _ _ l0_0 a0_1 t475 t478 _ ?side1 ?side2 A34.out).mono ?_
      (case side1 => exact sD (Kd.C_below HR0_0.out HB.out))
      (case side2 => exact HC0_0.out)
      rintro e w40 ⟨v476, rfl, ho0, hb⟩
      refine ⟨_, rfl, ?_⟩
      have n0_ := nR HO_6 hb
      have n1_ := nR HO_9 hb
      have n2_ := Aside0.mk (Kd.S_elder' (by (with_reducible repeat (first | apply Kd.S_alloc | apply Kd.S_drewN | apply Kd.S_drew)); exact HO_470000.out) (Kd.S_base ho0) hb)
      have n3_ := Aside0.mk (Kd.S_lower (Kd.S_new' ho0 (Kd.S_lt (by (with_reducible repeat (first | apply Kd.S_alloc | apply Kd.S_drewN | apply Kd.S_drew)); exact HO_470000.out))) (below_size sC))
      have n4_ := nK BK455 hb
      have n5_ := nK BK469 hb
      have n6_ := nSC hb
      clear HO_6
      clear HO_9
      clear HO_470000
      clear BK455
      clear BK469
      clear HB
      have HO_6 := n0_
      have HO_9 := n1_
      have HO_470000 := n2_
      have HO477 := n3_
      have BK455 := n4_
      have BK469 := n5_
      have HB := n6_
      clear n0_ n1_ n2_ n3_ n4_ n5_ n6_
      (try clear hb)
      (try clear hb2)
      (try clear hk)
      (try clear hi)
      (try clear ho0)
      obtain ⟨Ao41, co41, eo41⟩ := Kd.S_slice HO477.out
      (first | subst eo41 | (injection eo41 with f1_ f2_ f3_; have f4_ := f1_.symm; have f5_ := f3_.symm; clear f1_ f2_ f3_; subst f4_; subst f5_))
      refine hK.out _ _ ⟨cz0 BK469, cz1 BK469, cz0 BK455, cz1 BK455⟩ (fun hHeld => ?_)
      clear hK K
      refine nm ?_
      refine on 3 48 (fun K hK => ?_)
      refine gC Tryd.func17 #[.agg #[.slice Ao23 t465.length co23, .int .i64 t468], .agg #[.slice Ao41 t475.length co41, .int .i64 t478]] ?_
      with_reducible refine (laws_eqFs.calls kj11 _ _ t465 t468 _ _ t475 t478 true _ ?side1 ?side2 ?side3 ?side4 A35.out).mono ?_
      (case side1 => exact sD (Kd.S_reads' HO_470000.out).2.2)
      (case side2 => exact (Kd.S_reads' HO_470000.out).2.1)
      (case side3 => exact sD (Kd.S_reads' HO477.out).2.2)
      (case side4 => exact (Kd.S_reads' HO477.out).2.1)
      rintro e w42 ⟨rfl, hb⟩
      refine ⟨_, rfl, ?_⟩
      have n0_ := nR HO_6 hb
      have n1_ := nR HO_9 hb
      have n2_ := nS HO_470000 hb
      have n3_ := nS HO477 hb
      have n4_ := nK BK455 hb
      have n5_ := nK BK469 hb
      have n6_ := nSC hb
      clear HO_6
      clear HO_9
      clear HO_470000
      clear HO477
      clear BK455
      clear BK469
      clear HB
      have HO_6 := n0_
      have HO_9 := n1_
      have HO_470000 := n2_
      have HO477 := n3_
      have BK455 := n4_
      have BK469 := n5_
      have HB := n6_
      clear n0_ n1_ n2_ n3_ n4_ n5_ n6_
      (try clear hb)
      (try clear hb2)
      (try clear hk)
      (try clear hi)
      refine hK.out _ _ ⟨cz0 BK469, cz1 BK469, cz0 BK455, cz1 BK455⟩ (fun hHeld => ?_)
      clear hK K
      refine nm ?_
      refine pu 4 49 ?_
      refine dn ?_
      have hnb43 := NB469_455.out
      have hnc43 := NB455_469.out
      have hcz44 := cb2 BK469
      go_upto_region 14 with (first | ((with_reducible refine gt 33 rfl ?_); refine gL 33 52 Tryd.func33 #[.agg #[.slice Ao23 t465.length co23, .int .i64 t468], .int .i64 1] ?_; have hz_ : w.heap.size ≤ _ := below_size sC; (with_reducible refine (laws_markFs.marks kj11 _ _ t465 t468 1 t480 w.heap.size _ ?side1 ?side2 A37.out).mono ?_); (case side1 => exact hz_); (case side2 => exact Nod.of_S (by (with_reducible repeat (first | apply Kd.S_alloc | apply Kd.S_drewN | apply Kd.S_drew)); exact HO_470000.out)); rintro e w45 ⟨rfl, hm⟩; refine ⟨_, rfl, ?_⟩; clear hz_; replace HO_6 := Aside0.mk (hm.R (by (with_reducible repeat (first | apply Kd.R_alloc | apply Kd.R_drewN | apply Kd.R_drew)); exact HO_6.out)); replace HO_9 := Aside0.mk (hm.R (by (with_reducible repeat (first | apply Kd.R_alloc | apply Kd.R_drewN | apply Kd.R_drew)); exact HO_9.out)); replace BK455 := Aside0.mk (hm.blk (sK BK455)); replace BK469 := Aside0.mk (hm.blk (sK BK469)); replace HB := Aside0.mk (Below.trans sC hm.below); clear HO_470000; clear HO477; clear hm; try clear hb))
      (try simp only [Act.put, List.setIfInBounds_toArray, List.set_cons_zero, List.set_cons_succ])
      go_cut [65] (fun v65 wc => ∃ (kq : Nat) (x65_37 : Bool), v65 = .bool x65_37 ∧ Aside0 (laws_FnExactWalkPre.j1 kq a1 t461 t464 t470 x65_37 l0_0 a0_1 = some r) ∧ Aside0 (kq ≤ kj11) ∧ Aside0 (Kd.R Kd.string 9 wc w.heap.size (fun k_ => some k_ ≠ (v471 : Value).ownBlock) v462 t461) ∧ Aside0 (Kd.R Kd.string 9 wc w.heap.size (fun k_ => some k_ ≠ (v462 : Value).ownBlock) v471 t470) ∧ Aside0 (wc.heap[gb455]? = some (.cells #[(.slice A0_0 l0_0.length c0_0), .int .i64 a0_1] 24 (0, 0))) ∧ Aside0 (wc.heap[gb469]? = some (.cells #[(.slice Ao23 t465.length co23), .int .i64 t468] 29 (0, 0))) ∧ Aside0 (Below w.heap.size w wc))
      case first =>
       have H := HC38.out
       clear HC38
       by_cases c46 : t480 < 0
       ·rw [if_pos c46] at H
        have c46b0 := decide_eq_true c46
        clear c46
        (first | rw [c46b0] | (simp only [i64_w, i32_w]; rw [c46b0]) | skip)
        have H' := Aside0.mk H
        clear H
        go_wp2
        go_meet
        case rel => exact ⟨_, (true), sR, H', ⟨by have := HJ11.out; first | omega | exact Nat.le_refl _⟩, ⟨rR HO_6⟩, ⟨rR HO_9⟩, ⟨sK BK455⟩, ⟨sK BK469⟩, ⟨sC⟩⟩
       ·rw [if_neg c46] at H
        have c46b0 := decide_eq_false c46
        clear c46
        (first | rw [c46b0] | (simp only [i64_w, i32_w]; rw [c46b0]) | skip)
        obtain ⟨t481, A47, H⟩ := bS H
        try dsimp only at H
        by_cases c48 : t481 = true
        ·subst c48
         rw [if_pos rfl] at H
         have H' := Aside0.mk H
         clear H
         obtain ⟨Ao49, co49, eo49⟩ := Kd.R_slice HO_9.out
         subst eo49
         obtain ⟨Ao50, co50, eo50⟩ := Kd.R_slice HO_6.out
         subst eo50
         go_wp2_with (first | (go_at_call 32; (with_reducible refine (laws_eqStringS.calls kj11 _ _ t470 _ _ t461 true _ ?side1 ?side2 ?side3 ?side4 A47.out).mono ?_); (case side1 => exact sD (Kd.R_reads' HO_9.out).2.2); (case side2 => exact (Kd.R_reads' HO_9.out).2.1); (case side3 => exact sD (Kd.R_reads' HO_6.out).2.2); (case side4 => exact (Kd.R_reads' HO_6.out).2.1); rintro e w' ⟨rfl, ⟨nd, rfl⟩⟩))
         go_meet
         case rel => exact ⟨_, ((t473 != t464)), sR, H', ⟨by have := HJ11.out; first | omega | exact Nat.le_refl _⟩, ⟨rR HO_6⟩, ⟨rR HO_9⟩, ⟨sK BK455⟩, ⟨sK BK469⟩, ⟨sC⟩⟩
        ·replace c48 := Bool.eq_false_iff.mpr c48
         subst c48
         rw [if_neg (show ¬ (false = true) by decide)] at H
         have H' := Aside0.mk H
         clear H
         obtain ⟨Ao51, co51, eo51⟩ := Kd.R_slice HO_9.out
         subst eo51
         obtain ⟨Ao52, co52, eo52⟩ := Kd.R_slice HO_6.out
         subst eo52
         go_wp2_with (first | (go_at_call 32; (with_reducible refine (laws_eqStringS.calls kj11 _ _ t470 _ _ t461 false _ ?side1 ?side2 ?side3 ?side4 A47.out).mono ?_); (case side1 => exact sD (Kd.R_reads' HO_9.out).2.2); (case side2 => exact (Kd.R_reads' HO_9.out).2.1); (case side3 => exact sD (Kd.R_reads' HO_6.out).2.2); (case side4 => exact (Kd.R_reads' HO_6.out).2.1); rintro e w' ⟨rfl, ⟨nd, rfl⟩⟩))
         go_meet
         case rel => exact ⟨_, (true), sR, H', ⟨by have := HJ11.out; first | omega | exact Nat.le_refl _⟩, ⟨rR HO_6⟩, ⟨rR HO_9⟩, ⟨sK BK455⟩, ⟨sK BK469⟩, ⟨sC⟩⟩
      case rest =>
       clear HC38
       try clear c1
       try clear c2
       try clear p2
       try clear c3
       try clear c4
       try clear c4b0
       try clear c11
       try clear c13
       try clear c15
       try clear c17
       try clear c24
       try clear c28
       try clear c32
       try clear c33
       try clear c36
       try clear c37
       try clear c43
       try clear c46
       try clear c46b0
       try clear c48
       try clear hcz14
       try clear hcz16
       try clear hcz20
       try clear hcz25
       try clear hcz44
       try clear hcz6
       try clear p2
       obtain ⟨kq, x65_37, rfl, HA, HJ37, HO_6, HO_9, BK455, BK469, HB⟩ := hcut
       cases kq with
       | zero => exact absurd HA.out (by simp [laws_FnExactWalkPre.j1])
       | succ kj37 =>
        have H := HA.out
        clear HA
        simp only [laws_FnExactWalkPre.j1] at H
        by_cases c53 : x65_37 = true
        ·subst c53
         rw [if_pos rfl] at H
         obtain rfl := Option.some.inj H
         go_wp2
         go_ret
         exact ⟨sE, sC⟩
        ·replace c53 := Bool.eq_false_iff.mpr c53
         subst c53
         rw [if_neg (show ¬ (false = true) by decide)] at H
         obtain ⟨⟨t482, t483⟩, A54, H⟩ := bS H
         try dsimp only at H
         obtain ⟨t484, A55, H⟩ := bS H
         try dsimp only at H
         by_cases c56 : t484 < 0
         ·rw [if_pos c56] at H
          have c56b0 := decide_eq_true c56
          clear c56
          obtain rfl := Option.some.inj H
          obtain ⟨Ao57, co57, eo57⟩ := Kd.R_slice HO_9.out
          subst eo57
          go_wp2_with (first | ((with_reducible refine gt 34 rfl ?_); refine gL 34 68 Tryd.func34 #[.slice Ao57 t470.length co57, .int .i64 1] ?_; (with_reducible refine (laws_markStringS.calls kj37 (fun k_ => some k_ = (.slice Ao57 t470.length co57 : Value).ownBlock) (.slice Ao57 t470.length co57) t470 1 t482 t483 w _ ?side1 ?side2 A54.out).mono ?_); (case side1 => repeat (first | (with_reducible first | exact HB.out | apply below_alloc | apply pw_below_drewN | apply below_drew1 | refine below_set ?_ GE455.out | refine below_set ?_ GE469.out) | exact HB.out)); (case side2 => exact Kd.R_tight rfl HO_9.out); rintro e w58 ⟨rfl, hy0, hb, hkp⟩; refine ⟨_, rfl, ?_⟩; replace HO_6 := Aside0.mk (Kd.R_mono (ok' := fun k_ => some k_ ≠ (.slice Ao57 t470.length co57 : Value).ownBlock) (Kd.R_keptB (HO_6.out) hkp (fun k_ hk_ hs_ => (hk_) hs_)) (fun k_ hk_ => hk_.1)); replace BK455 := Aside0.mk (blk_kept (sK BK455) hkp (fun hs_ => (fun e_ => (Kd.R_ne HO_9.out BK455.out (by decide)) e_) hs_)); replace BK469 := Aside0.mk (blk_kept (sK BK469) hkp (fun hs_ => (fun e_ => (Kd.R_ne HO_9.out BK469.out (by decide)) e_) hs_)); replace HO_9 := Aside0.mk (Kd.R_reok rfl hy0 (fun k_ e_ => HO_9.out.1 k_ e_)); replace HB := Aside0.mk (hb); (try clear hb); (try clear hkp); (try clear hy0)) | ((with_reducible refine gt 35 rfl ?_); refine goesL_ (some 71) rfl rfl Tryd.func35 (by kernel_rfl) rfl #[.slice Ao57 t483.length co57, .int .i64 1] rfl (by (try simp only [List.map_toArray, List.map_cons, List.map_nil]); first | done | (rw [show t483.length = t470.length from (Kd.R_reads' HO_9.out).1.symm] <;> rfl) | rfl | (simp only [List.length_drop, List.length_take]; rfl)) ?_; (with_reducible refine (laws_heldStringS.calls kj37 _ _ t483 1 t484 _ ?side1 ?side2 A55.out).mono ?_); (case side1 => exact sD (Kd.R_reads' HO_9.out).2.2); (case side2 => rw [show t483.length = t470.length from (Kd.R_reads' HO_9.out).1.symm]; exact (Kd.R_reads' HO_9.out).2.1); rintro e w59 ⟨rfl, hb⟩; refine ⟨_, rfl, ?_⟩; replace HO_6 := nR HO_6 hb; replace HO_9 := nR HO_9 hb; replace BK455 := nK BK455 hb; replace BK469 := nK BK469 hb; replace HB := nSC hb; try clear hb))
          go_ret
          exact ⟨sE, sC⟩
         ·rw [if_neg c56] at H
          have c56b0 := decide_eq_false c56
          clear c56
          by_cases c60 : t484 = t482
          ·rw [if_pos c60] at H
           have c60b0 := beq_iff_eq.mpr c60
           have c60b1 := bne_eq_false_iff_eq.mpr c60
           clear c60
           obtain ⟨⟨t485, t488⟩, A61, H⟩ := bS H
           try dsimp only at H
           obtain ⟨⟨t489, t492⟩, A62, H⟩ := bS H
           try dsimp only at H
           have HC63 := Aside0.mk H
           clear H
           obtain ⟨Ao64, co64, eo64⟩ := Kd.R_slice HO_9.out
           subst eo64
           go_upto_region 25 with (first | ((with_reducible refine gt 34 rfl ?_); refine gL 34 68 Tryd.func34 #[.slice Ao64 t470.length co64, .int .i64 1] ?_; (with_reducible refine (laws_markStringS.calls kj37 (fun k_ => some k_ = (.slice Ao64 t470.length co64 : Value).ownBlock) (.slice Ao64 t470.length co64) t470 1 t482 t483 w _ ?side1 ?side2 A54.out).mono ?_); (case side1 => repeat (first | (with_reducible first | exact HB.out | apply below_alloc | apply pw_below_drewN | apply below_drew1 | refine below_set ?_ GE455.out | refine below_set ?_ GE469.out) | exact HB.out)); (case side2 => exact Kd.R_tight rfl HO_9.out); rintro e w65 ⟨rfl, hy0, hb, hkp⟩; refine ⟨_, rfl, ?_⟩; replace HO_6 := Aside0.mk (Kd.R_mono (ok' := fun k_ => some k_ ≠ (.slice Ao64 t470.length co64 : Value).ownBlock) (Kd.R_keptB (HO_6.out) hkp (fun k_ hk_ hs_ => (hk_) hs_)) (fun k_ hk_ => hk_.1)); replace BK455 := Aside0.mk (blk_kept (sK BK455) hkp (fun hs_ => (fun e_ => (Kd.R_ne HO_9.out BK455.out (by decide)) e_) hs_)); replace BK469 := Aside0.mk (blk_kept (sK BK469) hkp (fun hs_ => (fun e_ => (Kd.R_ne HO_9.out BK469.out (by decide)) e_) hs_)); replace HO_9 := Aside0.mk (Kd.R_reok rfl hy0 (fun k_ e_ => HO_9.out.1 k_ e_)); replace HB := Aside0.mk (hb); (try clear hb); (try clear hkp); (try clear hy0)) | ((with_reducible refine gt 35 rfl ?_); refine goesL_ (some 71) rfl rfl Tryd.func35 (by kernel_rfl) rfl #[.slice Ao64 t483.length co64, .int .i64 1] rfl (by (try simp only [List.map_toArray, List.map_cons, List.map_nil]); first | done | (rw [show t483.length = t470.length from (Kd.R_reads' HO_9.out).1.symm] <;> rfl) | rfl | (simp only [List.length_drop, List.length_take]; rfl)) ?_; (with_reducible refine (laws_heldStringS.calls kj37 _ _ t483 1 t484 _ ?side1 ?side2 A55.out).mono ?_); (case side1 => exact sD (Kd.R_reads' HO_9.out).2.2); (case side2 => rw [show t483.length = t470.length from (Kd.R_reads' HO_9.out).1.symm]; exact (Kd.R_reads' HO_9.out).2.1); rintro e w66 ⟨rfl, hb⟩; refine ⟨_, rfl, ?_⟩; replace HO_6 := nR HO_6 hb; replace HO_9 := nR HO_9 hb; replace BK455 := nK BK455 hb; replace BK469 := nK BK469 hb; replace HB := nSC hb; try clear hb; have hnb67 := NB455_469.out; have hnc67 := NB469_455.out; have hcz68 := cb2 BK455) | ((with_reducible refine gt 15 rfl ?_); refine gL 15 79 Tryd.func15 #[.agg #[.slice A0_0 l0_0.length c0_0, .int .i64 a0_1]] ?_; (with_reducible refine (laws_toFs.calls kj37 _ _ l0_0 a0_1 t485 t488 _ ?side1 ?side2 A61.out).mono ?_); (case side1 => exact sD (Kd.C_below HR0_0.out HB.out)); (case side2 => exact HC0_0.out); rintro e w69 ⟨v486, rfl, ho0, hb⟩; refine ⟨_, rfl, ?_⟩; replace HO_6 := nR HO_6 hb; replace HO_9 := nR HO_9 hb; have HO487 := Aside0.mk (Kd.S_lower ho0 (below_size sC)); replace BK455 := nK BK455 hb; replace BK469 := nK BK469 hb; replace HB := nSC hb; try clear hb; (try clear ho0); obtain ⟨Ao70, co70, eo70⟩ := Kd.S_slice HO487.out; subst eo70) | ((with_reducible refine gt 37 rfl ?_); refine gL 37 81 Tryd.func37 #[.agg #[.slice Ao70 t485.length co70, .int .i64 t488], .int .i64 a1] ?_; (with_reducible refine (impl_WalkPre.calls kj37 _ _ t485 t488 a1 t489 t492 _ ?side1 ?side2 A62.out).mono ?_); (case side1 => exact sD (Kd.S_reads' HO487.out).2.2); (case side2 => exact (Kd.S_reads' HO487.out).2.1); rintro e w71 ⟨v490, rfl, ho0, hb⟩; refine ⟨_, rfl, ?_⟩; replace HO487 := nS HO487 hb; have HO491 := Aside0.mk (Kd.R_lower (Kd.R_new' (Kd.R_new' ho0 (Kd.R_lt (by (with_reducible repeat (first | apply Kd.R_alloc | apply Kd.R_drewN | apply Kd.R_drew)); exact HO_6.out))) (Kd.R_lt (by (with_reducible repeat (first | apply Kd.R_alloc | apply Kd.R_drewN | apply Kd.R_drew)); exact HO_9.out))) (below_size sC)); replace HO_6 := Aside0.mk (Kd.R_elder' (by (with_reducible repeat (first | apply Kd.R_alloc | apply Kd.R_drewN | apply Kd.R_drew)); exact HO_6.out) (Kd.R_base ho0) hb); replace HO_9 := Aside0.mk (Kd.R_elder' (by (with_reducible repeat (first | apply Kd.R_alloc | apply Kd.R_drewN | apply Kd.R_drew)); exact HO_9.out) (Kd.R_base ho0) hb); replace BK455 := nK BK455 hb; replace BK469 := nK BK469 hb; replace HB := nSC hb; try clear hb; (try clear ho0)))
           (try simp only [Act.put, List.setIfInBounds_toArray, List.set_cons_zero, List.set_cons_succ])
           go_cut [92] (fun v92 wc => ∃ (kq : Nat) (x92_62 : Bool), v92 = .bool x92_62 ∧ Aside0 (laws_FnExactWalkPre.j2 kq t483 t482 x92_62 = some r) ∧ Aside0 (kq ≤ kj37) ∧ Aside0 (Kd.R Kd.string 9 wc w.heap.size (fun _ => True) (.slice Ao64 t470.length co64) t483) ∧ Aside0 (wc.heap[gb455]? = some (.cells #[(.slice A0_0 l0_0.length c0_0), .int .i64 a0_1] 24 (0, 0))) ∧ Aside0 (wc.heap[gb469]? = some (.cells #[(.slice Ao23 t465.length co23), .int .i64 t468] 29 (0, 0))) ∧ Aside0 (Below w.heap.size w wc))
           case first =>
            have H := HC63.out
            clear HC63
            obtain ⟨t493, A72, H⟩ := bS H
            try dsimp only at H
            by_cases c73 : t493 = true
            ·subst c73
             rw [if_pos rfl] at H
             have H' := Aside0.mk H
             clear H
             obtain ⟨Ao74, co74, eo74⟩ := Kd.R_slice HO491.out
             subst eo74
             obtain ⟨Ao75, co75, eo75⟩ := Kd.R_slice HO_6.out
             subst eo75
             go_wp2_with (first | ((with_reducible refine gt 32 rfl ?_); refine gL 32 86 Tryd.func32 #[.slice Ao74 t489.length co74, .slice Ao75 t461.length co75] ?_; (with_reducible refine (laws_eqStringS.calls kj37 _ _ t489 _ _ t461 true _ ?side1 ?side2 ?side3 ?side4 A72.out).mono ?_); (case side1 => exact sD (Kd.R_reads' HO491.out).2.2); (case side2 => exact (Kd.R_reads' HO491.out).2.1); (case side3 => exact sD (Kd.R_reads' HO_6.out).2.2); (case side4 => exact (Kd.R_reads' HO_6.out).2.1); rintro e w' ⟨rfl, ⟨nd, rfl⟩⟩; refine ⟨_, rfl, ?_⟩))
             go_meet
             case rel => exact ⟨_, ((t492 != t464)), sR, H', ⟨by have := HJ11.out; have := HJ37.out; first | omega | exact Nat.le_refl _⟩, ⟨by (with_reducible repeat (first | apply Kd.R_alloc | apply Kd.R_drewN | apply Kd.R_drew)); exact Kd.R_mono HO_9.out (fun _ hk => trivial)⟩, ⟨sK BK455⟩, ⟨sK BK469⟩, ⟨sC⟩⟩
            ·replace c73 := Bool.eq_false_iff.mpr c73
             subst c73
             rw [if_neg (show ¬ (false = true) by decide)] at H
             have H' := Aside0.mk H
             clear H
             obtain ⟨Ao76, co76, eo76⟩ := Kd.R_slice HO491.out
             subst eo76
             obtain ⟨Ao77, co77, eo77⟩ := Kd.R_slice HO_6.out
             subst eo77
             go_wp2_with (first | ((with_reducible refine gt 32 rfl ?_); refine gL 32 86 Tryd.func32 #[.slice Ao76 t489.length co76, .slice Ao77 t461.length co77] ?_; (with_reducible refine (laws_eqStringS.calls kj37 _ _ t489 _ _ t461 false _ ?side1 ?side2 ?side3 ?side4 A72.out).mono ?_); (case side1 => exact sD (Kd.R_reads' HO491.out).2.2); (case side2 => exact (Kd.R_reads' HO491.out).2.1); (case side3 => exact sD (Kd.R_reads' HO_6.out).2.2); (case side4 => exact (Kd.R_reads' HO_6.out).2.1); rintro e w' ⟨rfl, ⟨nd, rfl⟩⟩; refine ⟨_, rfl, ?_⟩))
             go_meet
             case rel => exact ⟨_, (true), sR, H', ⟨by have := HJ11.out; have := HJ37.out; first | omega | exact Nat.le_refl _⟩, ⟨by (with_reducible repeat (first | apply Kd.R_alloc | apply Kd.R_drewN | apply Kd.R_drew)); exact Kd.R_mono HO_9.out (fun _ hk => trivial)⟩, ⟨sK BK455⟩, ⟨sK BK469⟩, ⟨sC⟩⟩
           case rest =>
            clear HC63
            try clear c1
            try clear c2
            try clear p2
            try clear c3
            try clear c4
            try clear c4b0
            try clear c5
            try clear c6
            try clear c7
            try clear c11
            try clear c13
            try clear c15
            try clear c17
            try clear c24
            try clear c28
            try clear c32
            try clear c33
            try clear c34
            try clear c35
            try clear c36
            try clear c37
            try clear c43
            try clear c46
            try clear c46b0
            try clear c48
            try clear c53
            try clear c56
            try clear c56b0
            try clear c60
            try clear c60b0
            try clear c60b1
            try clear c67
            try clear c73
            try clear hcz14
            try clear hcz16
            try clear hcz20
            try clear hcz25
            try clear hcz44
            try clear hcz68
            try clear hcz6
            try clear p2
            obtain ⟨kq, x92_62, rfl, HA, HJ62, HO_9, BK455, BK469, HB⟩ := hcut
            have hl9_62 := (Kd.R_reads' HO_9.out).1
            rw [hl9_62] at HO_9
            (try simp only [hl9_62])
            (try simp only [hl9_62] at BK455)
            (try simp only [hl9_62] at BK469)
            cases kq with
            | zero => exact absurd HA.out (by simp [laws_FnExactWalkPre.j2])
            | succ kj62 =>
             have H := HA.out
             clear HA
             simp only [laws_FnExactWalkPre.j2] at H
             by_cases c78 : x92_62 = true
             ·subst c78
              rw [if_pos rfl] at H
              obtain rfl := Option.some.inj H
              go_wp2
              go_ret
              exact ⟨sE, sC⟩
             ·replace c78 := Bool.eq_false_iff.mpr c78
              subst c78
              rw [if_neg (show ¬ (false = true) by decide)] at H
              obtain ⟨t494, A79, H⟩ := bS H
              try dsimp only at H
              by_cases c80 : t494 < 0
              ·rw [if_pos c80] at H
               have c80b0 := decide_eq_true c80
               clear c80
               obtain rfl := Option.some.inj H
               go_wp2_with (first | ((with_reducible refine gt 35 rfl ?_); refine gL 35 95 Tryd.func35 #[.slice Ao64 t483.length co64, .int .i64 1] ?_; (with_reducible refine (laws_heldStringS.calls kj62 _ _ t483 1 t494 _ ?side1 ?side2 A79.out).mono ?_); (case side1 => exact sD (Kd.R_reads' HO_9.out).2.2); (case side2 => exact (Kd.R_reads' HO_9.out).2.1); rintro e w81 ⟨rfl, hb⟩; refine ⟨_, rfl, ?_⟩; replace HO_9 := nR HO_9 hb; replace BK455 := nK BK455 hb; replace BK469 := nK BK469 hb; replace HB := nSC hb; try clear hb))
               go_ret
               exact ⟨sE, sC⟩
              ·rw [if_neg c80] at H
               have c80b0 := decide_eq_false c80
               clear c80
               by_cases c82 : t494 = t482
               ·rw [if_pos c82] at H
                have c82b0 := beq_iff_eq.mpr c82
                have c82b1 := bne_eq_false_iff_eq.mpr c82
                clear c82
                obtain rfl := Option.some.inj H
                go_wp2_with (first | ((with_reducible refine gt 35 rfl ?_); refine gL 35 95 Tryd.func35 #[.slice Ao64 t483.length co64, .int .i64 1] ?_; (with_reducible refine (laws_heldStringS.calls kj62 _ _ t483 1 t494 _ ?side1 ?side2 A79.out).mono ?_); (case side1 => exact sD (Kd.R_reads' HO_9.out).2.2); (case side2 => exact (Kd.R_reads' HO_9.out).2.1); rintro e w83 ⟨rfl, hb⟩; refine ⟨_, rfl, ?_⟩; replace HO_9 := nR HO_9 hb; replace BK455 := nK BK455 hb; replace BK469 := nK BK469 hb; replace HB := nSC hb; try clear hb))
                go_ret
                exact ⟨sE, sC⟩
               ·rw [if_neg c82] at H
                have c82b0 := beq_eq_false_iff_ne.mpr c82
                have c82b1 := bne_iff_ne.mpr c82
                obtain rfl := Option.some.inj H
                go_wp2_with (first | ((with_reducible refine gt 35 rfl ?_); refine gL 35 95 Tryd.func35 #[.slice Ao64 t483.length co64, .int .i64 1] ?_; (with_reducible refine (laws_heldStringS.calls kj62 _ _ t483 1 t494 _ ?side1 ?side2 A79.out).mono ?_); (case side1 => exact sD (Kd.R_reads' HO_9.out).2.2); (case side2 => exact (Kd.R_reads' HO_9.out).2.1); rintro e w84 ⟨rfl, hb⟩; refine ⟨_, rfl, ?_⟩; replace HO_9 := nR HO_9 hb; replace BK455 := nK BK455 hb; replace BK469 := nK BK469 hb; replace HB := nSC hb; try clear hb))
                go_ret
                exact ⟨sE, sC⟩
          ·rw [if_neg c60] at H
           have c60b0 := beq_eq_false_iff_ne.mpr c60
           have c60b1 := bne_iff_ne.mpr c60
           obtain rfl := Option.some.inj H
           obtain ⟨Ao85, co85, eo85⟩ := Kd.R_slice HO_9.out
           subst eo85
           go_wp2_with (first | ((with_reducible refine gt 34 rfl ?_); refine gL 34 68 Tryd.func34 #[.slice Ao85 t470.length co85, .int .i64 1] ?_; (with_reducible refine (laws_markStringS.calls kj37 (fun k_ => some k_ = (.slice Ao85 t470.length co85 : Value).ownBlock) (.slice Ao85 t470.length co85) t470 1 t482 t483 w _ ?side1 ?side2 A54.out).mono ?_); (case side1 => repeat (first | (with_reducible first | exact HB.out | apply below_alloc | apply pw_below_drewN | apply below_drew1 | refine below_set ?_ GE455.out | refine below_set ?_ GE469.out) | exact HB.out)); (case side2 => exact Kd.R_tight rfl HO_9.out); rintro e w86 ⟨rfl, hy0, hb, hkp⟩; refine ⟨_, rfl, ?_⟩; replace HO_6 := Aside0.mk (Kd.R_mono (ok' := fun k_ => some k_ ≠ (.slice Ao85 t470.length co85 : Value).ownBlock) (Kd.R_keptB (HO_6.out) hkp (fun k_ hk_ hs_ => (hk_) hs_)) (fun k_ hk_ => hk_.1)); replace BK455 := Aside0.mk (blk_kept (sK BK455) hkp (fun hs_ => (fun e_ => (Kd.R_ne HO_9.out BK455.out (by decide)) e_) hs_)); replace BK469 := Aside0.mk (blk_kept (sK BK469) hkp (fun hs_ => (fun e_ => (Kd.R_ne HO_9.out BK469.out (by decide)) e_) hs_)); replace HO_9 := Aside0.mk (Kd.R_reok rfl hy0 (fun k_ e_ => HO_9.out.1 k_ e_)); replace HB := Aside0.mk (hb); (try clear hb); (try clear hkp); (try clear hy0)) | ((with_reducible refine gt 35 rfl ?_); refine goesL_ (some 71) rfl rfl Tryd.func35 (by kernel_rfl) rfl #[.slice Ao85 t483.length co85, .int .i64 1] rfl (by (try simp only [List.map_toArray, List.map_cons, List.map_nil]); first | done | (rw [show t483.length = t470.length from (Kd.R_reads' HO_9.out).1.symm] <;> rfl) | rfl | (simp only [List.length_drop, List.length_take]; rfl)) ?_; (with_reducible refine (laws_heldStringS.calls kj37 _ _ t483 1 t484 _ ?side1 ?side2 A55.out).mono ?_); (case side1 => exact sD (Kd.R_reads' HO_9.out).2.2); (case side2 => rw [show t483.length = t470.length from (Kd.R_reads' HO_9.out).1.symm]; exact (Kd.R_reads' HO_9.out).2.1); rintro e w87 ⟨rfl, hb⟩; refine ⟨_, rfl, ?_⟩; replace HO_6 := nR HO_6 hb; replace HO_9 := nR HO_9 hb; replace BK455 := nK BK455 hb; replace BK469 := nK BK469 hb; replace HB := nSC hb; try clear hb))
           go_ret
           exact ⟨sE, sC⟩
     ·replace c36 := Bool.eq_false_iff.mpr c36
      subst c36
      rw [if_neg (show ¬ (false = true) by decide)] at H
      obtain rfl := Option.some.inj H
      try go_wp2
      have n0_ := Aside0.mk (Kd.R_drew HO_6.out)
      have n1_ := Aside0.mk (Kd.R_drew HO_9.out)
      have n2_ := Aside0.mk (Kd.S_drew HO_470000.out)
      have n3_ := Aside0.mk (blk_drew BK455.out)
      have n4_ := Aside0.mk (blk_drew BK469.out)
      have n5_ := Aside0.mk (below_drew1 HB.out)
      clear HO_6
      clear HO_9
      clear HO_470000
      clear BK455
      clear BK469
      clear HB
      have HO_6 := n0_
      have HO_9 := n1_
      have HO_470000 := n2_
      have BK455 := n3_
      have BK469 := n4_
      have HB := n5_
      clear n0_ n1_ n2_ n3_ n4_ n5_
      refine st4 5 [] (cz0 BK469) (cz1 BK469) (cz0 BK455) (cz1 BK455) (fun hHeld => ?_)
      generalize wc.drew = w88 at HO_6 HO_9 HO_470000 BK455 BK469 HB hHeld ⊢
      refine tk4 0 45 ?_
      refine tk4 1 46 ?_
      refine on 2 47 (fun K hK => ?_)
      refine gC Tryd.func15 #[.agg #[.slice A0_0 l0_0.length c0_0, .int .i64 a0_1]] ?_
      with_reducible refine (laws_toFs.calls kj11 _ _ l0_0 a0_1 t475 t478 _ ?side1 ?side2 A34.out).mono ?_
      (case side1 => exact sD (Kd.C_below HR0_0.out HB.out))
      (case side2 => exact HC0_0.out)
      rintro e w89 ⟨v476, rfl, ho0, hb⟩
      refine ⟨_, rfl, ?_⟩
      have n0_ := nR HO_6 hb
      have n1_ := nR HO_9 hb
      have n2_ := Aside0.mk (Kd.S_elder' (by (with_reducible repeat (first | apply Kd.S_alloc | apply Kd.S_drewN | apply Kd.S_drew)); exact HO_470000.out) (Kd.S_base ho0) hb)
      have n3_ := Aside0.mk (Kd.S_lower (Kd.S_new' ho0 (Kd.S_lt (by (with_reducible repeat (first | apply Kd.S_alloc | apply Kd.S_drewN | apply Kd.S_drew)); exact HO_470000.out))) (below_size sC))
      have n4_ := nK BK455 hb
      have n5_ := nK BK469 hb
      have n6_ := nSC hb
      clear HO_6
      clear HO_9
      clear HO_470000
      clear BK455
      clear BK469
      clear HB
      have HO_6 := n0_
      have HO_9 := n1_
      have HO_470000 := n2_
      have HO477 := n3_
      have BK455 := n4_
      have BK469 := n5_
      have HB := n6_
      clear n0_ n1_ n2_ n3_ n4_ n5_ n6_
      (try clear hb)
      (try clear hb2)
      (try clear hk)
      (try clear hi)
      (try clear ho0)
      obtain ⟨Ao90, co90, eo90⟩ := Kd.S_slice HO477.out
      (first | subst eo90 | (injection eo90 with f1_ f2_ f3_; have f4_ := f1_.symm; have f5_ := f3_.symm; clear f1_ f2_ f3_; subst f4_; subst f5_))
      refine hK.out _ _ ⟨cz0 BK469, cz1 BK469, cz0 BK455, cz1 BK455⟩ (fun hHeld => ?_)
      clear hK K
      refine nm ?_
      refine on 3 48 (fun K hK => ?_)
      refine gC Tryd.func17 #[.agg #[.slice Ao23 t465.length co23, .int .i64 t468], .agg #[.slice Ao90 t475.length co90, .int .i64 t478]] ?_
      with_reducible refine (laws_eqFs.calls kj11 _ _ t465 t468 _ _ t475 t478 false _ ?side1 ?side2 ?side3 ?side4 A35.out).mono ?_
      (case side1 => exact sD (Kd.S_reads' HO_470000.out).2.2)
      (case side2 => exact (Kd.S_reads' HO_470000.out).2.1)
      (case side3 => exact sD (Kd.S_reads' HO477.out).2.2)
      (case side4 => exact (Kd.S_reads' HO477.out).2.1)
      rintro e w91 ⟨rfl, hb⟩
      refine ⟨_, rfl, ?_⟩
      have n0_ := nR HO_6 hb
      have n1_ := nR HO_9 hb
      have n2_ := nS HO_470000 hb
      have n3_ := nS HO477 hb
      have n4_ := nK BK455 hb
      have n5_ := nK BK469 hb
      have n6_ := nSC hb
      clear HO_6
      clear HO_9
      clear HO_470000
      clear HO477
      clear BK455
      clear BK469
      clear HB
      have HO_6 := n0_
      have HO_9 := n1_
      have HO_470000 := n2_
      have HO477 := n3_
      have BK455 := n4_
      have BK469 := n5_
      have HB := n6_
      clear n0_ n1_ n2_ n3_ n4_ n5_ n6_
      (try clear hb)
      (try clear hb2)
      (try clear hk)
      (try clear hi)
      refine hK.out _ _ ⟨cz0 BK469, cz1 BK469, cz0 BK455, cz1 BK455⟩ (fun hHeld => ?_)
      clear hK K
      refine nm ?_
      refine pu 4 49 ?_
      refine dn ?_
      try go_wp2
      go_ret
      exact ⟨sE, sC⟩

/-- The one pure statement of laws_FnExactWalkPre. -/
def laws_FnExactWalkPre.Pure : Prop := ∀ (l0_0 : List (S82)) (a0_1 : Int) (a1 : Int), (l0_0.length ≤ 9223372036854775807 ∧ ∀ e3_ ∈ l0_0, ((Lit.int .i64 e3_.f0).wf = true ∧ ((Lit.int .i64 e3_.f1).wf = true ∧ ((Lit.int .i64 e3_.f2).wf = true ∧ ((Lit.int .i64 e3_.f3).wf = true ∧ ((Lit.int .i64 e3_.f4).wf = true ∧ (e3_.f5.size ≤ 9223372036854775807 ∧ (e3_.f6.length ≤ 9223372036854775807 ∧ ∀ e4_ ∈ e3_.f6, (e4_.f0.size ≤ 9223372036854775807 ∧ (Lit.int .i64 e4_.f1).wf = true))))))))) → (Lit.int .i64 a0_1).wf = true → (Lit.int .i64 a1).wf = true → ∃ k, laws_FnExactWalkPre.f k l0_0 a0_1 a1 = some true

end Go.Proofs.YteffcglgdfhkmaaDoor.PWk
