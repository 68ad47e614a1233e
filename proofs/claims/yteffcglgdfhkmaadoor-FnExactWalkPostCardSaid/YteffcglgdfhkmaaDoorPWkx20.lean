-- Written by a program of this session (wip/print2) out of the translation. Lean checks it.
import Derived.Test.YteffcglgdfhkmaaDoorPWkx0
import Derived.Test.YteffcglgdfhkmaaDoorPWkx7
import Derived.Test.YteffcglgdfhkmaaDoorPWkx1
import Derived.Test.YteffcglgdfhkmaaDoorPWkx8
import Derived.Test.YteffcglgdfhkmaaDoorPWkx14
import Derived.Test.YteffcglgdfhkmaaDoorPWkx15
import Derived.Test.YteffcglgdfhkmaaDoorPWkx16
import Derived.Test.YteffcglgdfhkmaaDoorPWkx19
namespace Go.Proofs.YteffcglgdfhkmaaDoor.PWk
open Go.RowKit Go.Proofs.YteffcglgdfhkmaaDoorW.PrintWords Go.Proofs.YteffcglgdfhkmaaDoorW.PrintLast Go.Proofs.YteffcglgdfhkmaaDoorW.PrintMore
attribute [local go_sem] max2_int min2_int max_two min_two max_three min_three max_four min_four   -- for this text's walks alone
set_option linter.unusedVariables false
set_option linter.unusedSimpArgs false
set_option maxHeartbeats 8000000
set_option maxRecDepth 100000

/-! ### laws_FnExactWalkPost: function 10 -/
mutual
def laws_FnExactWalkPost.j0 : Nat → Int → List ByteArray → Bool → List ByteArray → Bool → Bool → List (S82) → Int → List (S53) → Int → Option (Bool)
 | 0, _, _, _, _, _, _, _, _, _, _ => none
 | k + 1, x1, x6, x7, x9, x10, x44, x506000, x506001, x520000, x520001 => if x44 = true then (some false) else ((laws_toFs.f k x506000 x506001).bind fun bt525 => ((laws_eqFs.f k x520000 x520001 bt525.1 bt525.2).bind fun t529 => (if t529 = true then ((laws_markFs.f k x520000 x520001 1).bind fun t530 => (if t530 < 0 then (laws_FnExactWalkPost.j1 k x1 x6 x7 x9 true x506000 x506001) else ((laws_eqStringS.f k x9 x6).bind fun t531 => (if t531 = true then (laws_FnExactWalkPost.j1 k x1 x6 x7 x9 (x10 != x7) x506000 x506001) else (laws_FnExactWalkPost.j1 k x1 x6 x7 x9 true x506000 x506001))))) else (some false))))
def laws_FnExactWalkPost.j1 : Nat → Int → List ByteArray → Bool → List ByteArray → Bool → List (S82) → Int → Option (Bool)
 | 0, _, _, _, _, _, _, _ => none
 | k + 1, x1, x6, x7, x9, x65, x506000, x506001 => if x65 = true then (some false) else ((laws_markStringS.f k x9 1).bind fun bt532 => ((laws_heldStringS.f k bt532.2 1).bind fun t534 => (if t534 < 0 then (some false) else (if t534 = bt532.1 then ((laws_toFs.f k x506000 x506001).bind fun bt535 => ((impl_WalkPost.f k bt535.1 bt535.2 x1).bind fun bt539 => ((laws_eqStringS.f k bt539.1 x6).bind fun t543 => (if t543 = true then (laws_FnExactWalkPost.j2 k bt532.2 bt532.1 (bt539.2 != x7)) else (laws_FnExactWalkPost.j2 k bt532.2 bt532.1 true))))) else (some false)))))
def laws_FnExactWalkPost.j2 : Nat → List ByteArray → Int → Bool → Option (Bool)
 | 0, _, _, _ => none
 | k + 1, x9, x12, x92 => if x92 = true then (some false) else ((laws_heldStringS.f k x9 1).bind fun t544 => (if t544 < 0 then (some false) else (if t544 = x12 then (some true) else (some false))))
end
def laws_FnExactWalkPost.f (k : Nat) (l0_0 : List (S82)) (a0_1 : Int) (a1 : Int) : Option (Bool) := (laws_szFs.f k l0_0 a0_1 1048576).bind fun t506 => (if t506 < 0 then (some true) else ((laws_toFs.f k l0_0 a0_1).bind fun bt507 => ((spec_WalkPost.f k bt507.1 bt507.2 a1).bind fun bt511 => ((laws_toFs.f k l0_0 a0_1).bind fun bt515 => ((impl_WalkPost.f k bt515.1 bt515.2 a1).bind fun bt520 => ((laws_eqStringS.f k bt520.1 bt511.1).bind fun t524 => (if t524 = true then (laws_FnExactWalkPost.j0 k a1 bt511.1 bt511.2 bt520.1 bt520.2 (bt520.2 != bt511.2) l0_0 a0_1 bt515.1 bt515.2) else (laws_FnExactWalkPost.j0 k a1 bt511.1 bt511.2 bt520.1 bt520.2 true l0_0 a0_1 bt515.1 bt515.2))))))))
theorem laws_FnExactWalkPost.calls (k : Nat) (A0_0 : Option Addr) (c0_0 : Nat) (l0_0 : List (S82)) (a0_1 : Int) (a1 : Int) (r : Bool) (w : World) (hr0_0 : Kd.C k82 w A0_0 l0_0.length l0_0) (hc0_0 : l0_0.length ≤ c0_0) (h : laws_FnExactWalkPost.f k l0_0 a0_1 a1 = some r) :
  Calls Tryd.prog 10 #[.agg #[.slice A0_0 l0_0.length c0_0, .int .i64 a0_1], .int .i64 a1] w fun e w' => e = .returned (.bool r) ∧ Below w.heap.size w w' := by
 have hu24 := Tryd.underlying24
 have hu29 := Tryd.underlying29
 have HR0_0 := Aside0.mk hr0_0
 have HC0_0 := Aside0.mk hc0_0
 clear hr0_0 hc0_0
 have HB := Aside0.mk (Below.refl w.heap.size w)
 have H : ((laws_szFs.f k l0_0 a0_1 1048576).bind fun t506 => (if t506 < 0 then (some true) else ((laws_toFs.f k l0_0 a0_1).bind fun bt507 => ((spec_WalkPost.f k bt507.1 bt507.2 a1).bind fun bt511 => ((laws_toFs.f k l0_0 a0_1).bind fun bt515 => ((impl_WalkPost.f k bt515.1 bt515.2 a1).bind fun bt520 => ((laws_eqStringS.f k bt520.1 bt511.1).bind fun t524 => (if t524 = true then (laws_FnExactWalkPost.j0 k a1 bt511.1 bt511.2 bt520.1 bt520.2 (bt520.2 != bt511.2) l0_0 a0_1 bt515.1 bt515.2) else (laws_FnExactWalkPost.j0 k a1 bt511.1 bt511.2 bt520.1 bt520.2 true l0_0 a0_1 bt515.1 bt515.2))))))))) = some r := h
 clear h
 obtain ⟨t506, A3, H⟩ := bS H
 try dsimp only at H
 by_cases c4 : t506 < 0
 ·rw [if_pos c4] at H
  have c4b0 := decide_eq_true c4
  clear c4
  obtain rfl := Option.some.inj H
  go_enter Tryd.func10, Tryd.ntmps10
  go_wp2_with (first | ((with_reducible refine gd 2 rfl ?_); refine bxE 2 #[.slice A0_0 l0_0.length c0_0, .int .i64 a0_1] 24 ?_; intro gb505 hg w5 hbox hb; have BK505 := Aside0.mk hbox; have GW505 := nGB hg; have GE505 := nGB hg; replace HB := nSB hb; clear hb hbox hg; have hcz6 := cb2 BK505) | ((with_reducible refine gt 13 rfl ?_); refine gL 13 18 Tryd.func13 #[.agg #[.slice A0_0 l0_0.length c0_0, .int .i64 a0_1], .int .i64 1048576] ?_; (with_reducible refine (laws_szFs.calls k _ _ l0_0 a0_1 1048576 t506 _ ?side1 ?side2 A3.out).mono ?_); (case side1 => exact sD (Kd.C_below HR0_0.out HB.out)); (case side2 => exact HC0_0.out); rintro e w7 ⟨rfl, hb⟩; refine ⟨_, rfl, ?_⟩; replace BK505 := nK BK505 hb; replace HB := nSC hb; try clear hb))
  go_ret
  exact ⟨sE, sC⟩
 ·rw [if_neg c4] at H
  have c4b0 := decide_eq_false c4
  clear c4
  obtain ⟨⟨t507, t510⟩, A8, H⟩ := bS H
  try dsimp only at H
  obtain ⟨⟨t511, t514⟩, A9, H⟩ := bS H
  try dsimp only at H
  obtain ⟨⟨t515, t518⟩, A10, H⟩ := bS H
  try dsimp only at H
  obtain ⟨⟨t520, t523⟩, A11, H⟩ := bS H
  try dsimp only at H
  have HC12 := Aside0.mk H
  clear H
  go_enter Tryd.func10, Tryd.ntmps10
  go_upto_region 8 with (first | ((with_reducible refine gd 2 rfl ?_); refine bxE 2 #[.slice A0_0 l0_0.length c0_0, .int .i64 a0_1] 24 ?_; intro gb505 hg w13 hbox hb; have BK505 := Aside0.mk hbox; have GW505 := nGB hg; have GE505 := nGB hg; replace HB := nSB hb; clear hb hbox hg; have hcz14 := cb2 BK505) | ((with_reducible refine gt 13 rfl ?_); refine gL 13 18 Tryd.func13 #[.agg #[.slice A0_0 l0_0.length c0_0, .int .i64 a0_1], .int .i64 1048576] ?_; (with_reducible refine (laws_szFs.calls k _ _ l0_0 a0_1 1048576 t506 _ ?side1 ?side2 A3.out).mono ?_); (case side1 => exact sD (Kd.C_below HR0_0.out HB.out)); (case side2 => exact HC0_0.out); rintro e w15 ⟨rfl, hb⟩; refine ⟨_, rfl, ?_⟩; replace BK505 := nK BK505 hb; replace HB := nSC hb; try clear hb; have hcz16 := cb2 BK505) | ((with_reducible refine gt 15 rfl ?_); refine gL 15 23 Tryd.func15 #[.agg #[.slice A0_0 l0_0.length c0_0, .int .i64 a0_1]] ?_; (with_reducible refine (laws_toFs.calls k _ _ l0_0 a0_1 t507 t510 _ ?side1 ?side2 A8.out).mono ?_); (case side1 => exact sD (Kd.C_below HR0_0.out HB.out)); (case side2 => exact HC0_0.out); rintro e w17 ⟨v508, rfl, ho0, hb⟩; refine ⟨_, rfl, ?_⟩; have HO509 := Aside0.mk (Kd.S_lower ho0 (below_size sC)); replace BK505 := nK BK505 hb; replace HB := nSC hb; try clear hb; (try clear ho0); obtain ⟨Ao18, co18, eo18⟩ := Kd.S_slice HO509.out; subst eo18) | ((with_reducible refine gt 30 rfl ?_); refine gL 30 25 Tryd.func30 #[.agg #[.slice Ao18 t507.length co18, .int .i64 t510], .int .i64 a1] ?_; (with_reducible refine (spec_WalkPost.calls k _ _ t507 t510 a1 t511 t514 _ ?side1 ?side2 A9.out).mono ?_); (case side1 => exact sD (Kd.S_reads' HO509.out).2.2); (case side2 => exact (Kd.S_reads' HO509.out).2.1); rintro e w19 ⟨v512, rfl, ho0, hb⟩; refine ⟨_, rfl, ?_⟩; replace HO509 := nS HO509 hb; have HO513 := Aside0.mk (Kd.R_lower ho0 (below_size sC)); replace BK505 := nK BK505 hb; replace HB := nSC hb; try clear hb; (try clear ho0); have hcz20 := cb2 BK505) | ((with_reducible refine gt 15 rfl ?_); refine gL 15 29 Tryd.func15 #[.agg #[.slice A0_0 l0_0.length c0_0, .int .i64 a0_1]] ?_; (with_reducible refine (laws_toFs.calls k _ _ l0_0 a0_1 t515 t518 _ ?side1 ?side2 A10.out).mono ?_); (case side1 => exact sD (Kd.C_below HR0_0.out HB.out)); (case side2 => exact HC0_0.out); rintro e w21 ⟨v516, rfl, ho0, hb⟩; refine ⟨_, rfl, ?_⟩; replace HO513 := nR HO513 hb; have HO517 := Aside0.mk (Kd.S_lower (Kd.S_new' ho0 (Kd.S_lt (by (with_reducible repeat (first | apply Kd.S_alloc | apply Kd.S_drewN | apply Kd.S_drew)); exact HO509.out))) (below_size sC)); replace HO509 := Aside0.mk (Kd.S_elder' (by (with_reducible repeat (first | apply Kd.S_alloc | apply Kd.S_drewN | apply Kd.S_drew)); exact HO509.out) (Kd.S_base ho0) hb); replace BK505 := nK BK505 hb; replace HB := nSC hb; try clear hb; (try clear ho0)) | ((with_reducible refine gd 8 rfl ?_); refine bxE 8 #[.slice none 0 0, .int .i64 0] 29 ?_; intro gb519 hg w22 hbox hb; replace HO509 := nS HO509 hb; replace HO513 := nR HO513 hb; replace HO517 := nS HO517 hb; have BK519 := Aside0.mk hbox; have GW519 := nGC hg; have GE519 := nGC hg; replace HB := nSC hb; have NB505_519 := nL BK505 hg; have NB519_505 := nH BK505 hg; replace BK505 := nK BK505 hb; clear hb hbox hg; obtain ⟨Ao23, co23, eo23⟩ := Kd.S_slice HO517.out; subst eo23; have hnb24 := NB519_505.out; have hnc24 := NB505_519.out; have hcz25 := cb2 BK519) | ((with_reducible refine gt 31 rfl ?_); refine gL 31 33 Tryd.func31 #[.agg #[.slice Ao23 t515.length co23, .int .i64 t518], .int .i64 a1] ?_; (with_reducible refine (impl_WalkPost.calls k _ _ t515 t518 a1 t520 t523 _ ?side1 ?side2 A11.out).mono ?_); (case side1 => refine (Kd.S_reads' (e := 53) (base := w.heap.size) (ok := fun k_ => (True ∧ some k_ ≠ (.slice Ao18 t507.length co18 : Value).ownBlock)) (n := t515.length) (c := co23) ?_).2.2; exact (by (with_reducible repeat (first | apply Kd.S_alloc | apply Kd.S_drewN | apply Kd.S_drew)); exact (Kd.S_mono (Kd.S_far (p := ⟨gb519, 1, none⟩) (Kd.S_far (p := ⟨gb519, 0, none⟩) (Kd.S_types HO517.out BK519.out (by decide)) (fun _ hk => hk.2) (.slice Ao23 t515.length co23)) (fun _ hk => hk.2) (.int .i64 t518)) (fun _ h_ => h_.1)))); (case side2 => exact (Kd.S_reads' HO517.out).2.1); rintro e w26 ⟨v521, rfl, ho0, hb⟩; refine ⟨_, rfl, ?_⟩; replace HO509 := nSf HO509 BK519 hb; replace HO517 := nSf HO517 BK519 hb; have HO522 := Aside0.mk (Kd.R_lower (Kd.R_new' ho0 (Kd.R_lt (by (with_reducible repeat (first | apply Kd.R_alloc | apply Kd.R_drewN | apply Kd.R_drew)); exact (Kd.R_mono (Kd.R_far (p := ⟨gb519, 1, none⟩) (Kd.R_far (p := ⟨gb519, 0, none⟩) (Kd.R_types HO513.out BK519.out (by decide)) (fun _ hk => hk.2) (.slice Ao23 t515.length co23)) (fun _ hk => hk.2) (.int .i64 t518)) (fun _ h_ => h_.1))))) (below_size sC)); replace HO513 := Aside0.mk (Kd.R_elder' (by (with_reducible repeat (first | apply Kd.R_alloc | apply Kd.R_drewN | apply Kd.R_drew)); exact (Kd.R_mono (Kd.R_far (p := ⟨gb519, 1, none⟩) (Kd.R_far (p := ⟨gb519, 0, none⟩) (Kd.R_types HO513.out BK519.out (by decide)) (fun _ hk => hk.2) (.slice Ao23 t515.length co23)) (fun _ hk => hk.2) (.int .i64 t518)) (fun _ h_ => h_.1))) (Kd.R_base ho0) hb); replace BK505 := nF BK505 hb; replace BK519 := nX #[.slice Ao23 t515.length co23, .int .i64 t518] BK519 hb; replace HB := nSC hb; try clear hb; (try clear ho0)))
  (try simp only [Act.put, List.setIfInBounds_toArray, List.set_cons_zero, List.set_cons_succ])
  go_cut [44] (fun v44 wc => ∃ (kq : Nat) (x44_11 : Bool), v44 = .bool x44_11 ∧ Aside0 (laws_FnExactWalkPost.j0 kq a1 t511 t514 t520 t523 x44_11 l0_0 a0_1 t515 t518 = some r) ∧ Aside0 (kq ≤ k) ∧ Aside0 (Kd.R Kd.string 9 wc w.heap.size (fun k_ => some k_ ≠ (v521 : Value).ownBlock) v512 t511) ∧ Aside0 (Kd.R Kd.string 9 wc w.heap.size (fun k_ => some k_ ≠ (v512 : Value).ownBlock) v521 t520) ∧ Aside0 (Kd.S k53 53 wc w.heap.size (fun _ => True) (.slice Ao23 t515.length co23) t515) ∧ Aside0 (wc.heap[gb505]? = some (.cells #[(.slice A0_0 l0_0.length c0_0), .int .i64 a0_1] 24 (0, 0))) ∧ Aside0 (wc.heap[gb519]? = some (.cells #[(.slice Ao23 t515.length co23), .int .i64 t518] 29 (0, 0))) ∧ Aside0 (Below w.heap.size w wc))
  case first =>
   have H := HC12.out
   clear HC12
   obtain ⟨t524, A27, H⟩ := bS H
   try dsimp only at H
   by_cases c28 : t524 = true
   ·subst c28
    rw [if_pos rfl] at H
    have H' := Aside0.mk H
    clear H
    obtain ⟨Ao29, co29, eo29⟩ := Kd.R_slice HO522.out
    subst eo29
    obtain ⟨Ao30, co30, eo30⟩ := Kd.R_slice HO513.out
    subst eo30
    go_wp2_with (first | ((with_reducible refine gt 32 rfl ?_); refine gL 32 38 Tryd.func32 #[.slice Ao29 t520.length co29, .slice Ao30 t511.length co30] ?_; (with_reducible refine (laws_eqStringS.calls k _ _ t520 _ _ t511 true _ ?side1 ?side2 ?side3 ?side4 A27.out).mono ?_); (case side1 => exact sD (Kd.R_reads' HO522.out).2.2); (case side2 => exact (Kd.R_reads' HO522.out).2.1); (case side3 => exact sD (Kd.R_reads' HO513.out).2.2); (case side4 => exact (Kd.R_reads' HO513.out).2.1); rintro e w' ⟨rfl, ⟨nd, rfl⟩⟩; refine ⟨_, rfl, ?_⟩))
    go_meet
    case rel => exact ⟨_, ((t523 != t514)), sR, H', ⟨by first | omega | exact Nat.le_refl _⟩, ⟨by (with_reducible repeat (first | apply Kd.R_alloc | apply Kd.R_drewN | apply Kd.R_drew)); exact Kd.R_mono HO513.out (fun _ hk => hk.2)⟩, ⟨by (with_reducible repeat (first | apply Kd.R_alloc | apply Kd.R_drewN | apply Kd.R_drew)); exact Kd.R_mono HO522.out (fun _ hk => hk.2)⟩, ⟨by (with_reducible repeat (first | apply Kd.S_alloc | apply Kd.S_drewN | apply Kd.S_drew)); exact Kd.S_mono HO517.out (fun _ hk => trivial)⟩, ⟨sK BK505⟩, ⟨sK BK519⟩, ⟨sC⟩⟩
   ·replace c28 := Bool.eq_false_iff.mpr c28
    subst c28
    rw [if_neg (show ¬ (false = true) by decide)] at H
    have H' := Aside0.mk H
    clear H
    obtain ⟨Ao31, co31, eo31⟩ := Kd.R_slice HO522.out
    subst eo31
    obtain ⟨Ao32, co32, eo32⟩ := Kd.R_slice HO513.out
    subst eo32
    go_wp2_with (first | ((with_reducible refine gt 32 rfl ?_); refine gL 32 38 Tryd.func32 #[.slice Ao31 t520.length co31, .slice Ao32 t511.length co32] ?_; (with_reducible refine (laws_eqStringS.calls k _ _ t520 _ _ t511 false _ ?side1 ?side2 ?side3 ?side4 A27.out).mono ?_); (case side1 => exact sD (Kd.R_reads' HO522.out).2.2); (case side2 => exact (Kd.R_reads' HO522.out).2.1); (case side3 => exact sD (Kd.R_reads' HO513.out).2.2); (case side4 => exact (Kd.R_reads' HO513.out).2.1); rintro e w' ⟨rfl, ⟨nd, rfl⟩⟩; refine ⟨_, rfl, ?_⟩))
    go_meet
    case rel => exact ⟨_, (true), sR, H', ⟨by first | omega | exact Nat.le_refl _⟩, ⟨by (with_reducible repeat (first | apply Kd.R_alloc | apply Kd.R_drewN | apply Kd.R_drew)); exact Kd.R_mono HO513.out (fun _ hk => hk.2)⟩, ⟨by (with_reducible repeat (first | apply Kd.R_alloc | apply Kd.R_drewN | apply Kd.R_drew)); exact Kd.R_mono HO522.out (fun _ hk => hk.2)⟩, ⟨by (with_reducible repeat (first | apply Kd.S_alloc | apply Kd.S_drewN | apply Kd.S_drew)); exact Kd.S_mono HO517.out (fun _ hk => trivial)⟩, ⟨sK BK505⟩, ⟨sK BK519⟩, ⟨sC⟩⟩
  case rest =>
   clear HC12
   try clear c1
   try clear c2
   try clear p2
   try clear c3
   try clear c4
   try clear c4b0
   try clear c10
   try clear c13
   try clear c15
   try clear c24
   try clear c28
   try clear c30
   try clear c31
   try clear c32
   try clear hcz14
   try clear hcz16
   try clear hcz20
   try clear hcz25
   try clear hcz6
   obtain ⟨kq, x44_11, rfl, HA, HJ11, HO_6, HO_9, HO_520000, BK505, BK519, HB⟩ := hcut
   cases kq with
   | zero => exact absurd HA.out (by simp [laws_FnExactWalkPost.j0])
   | succ kj11 =>
    have H := HA.out
    clear HA
    simp only [laws_FnExactWalkPost.j0] at H
    by_cases c33 : x44_11 = true
    ·subst c33
     rw [if_pos rfl] at H
     obtain rfl := Option.some.inj H
     go_wp2
     go_ret
     exact ⟨sE, sC⟩
    ·replace c33 := Bool.eq_false_iff.mpr c33
     subst c33
     rw [if_neg (show ¬ (false = true) by decide)] at H
     obtain ⟨⟨t525, t528⟩, A34, H⟩ := bS H
     try dsimp only at H
     obtain ⟨t529, A35, H⟩ := bS H
     try dsimp only at H
     by_cases c36 : t529 = true
     ·subst c36
      rw [if_pos rfl] at H
      obtain ⟨t530, A37, H⟩ := bS H
      try dsimp only at H
      have HC38 := Aside0.mk H
      clear H
      try go_wp2
      have n0_ := Aside0.mk (Kd.R_drew HO_6.out)
      have n1_ := Aside0.mk (Kd.R_drew HO_9.out)
      have n2_ := Aside0.mk (Kd.S_drew HO_520000.out)
      have n3_ := Aside0.mk (blk_drew BK505.out)
      have n4_ := Aside0.mk (blk_drew BK519.out)
      have n5_ := Aside0.mk (below_drew1 HB.out)
      clear HO_6
      clear HO_9
      clear HO_520000
      clear BK505
      clear BK519
      clear HB
      have HO_6 := n0_
      have HO_9 := n1_
      have HO_520000 := n2_
      have BK505 := n3_
      have BK519 := n4_
      have HB := n5_
      clear n0_ n1_ n2_ n3_ n4_ n5_
      refine st4 5 [] (cz0 BK519) (cz1 BK519) (cz0 BK505) (cz1 BK505) (fun hHeld => ?_)
      generalize wc.drew = w39 at HO_6 HO_9 HO_520000 BK505 BK519 HB hHeld ⊢
      refine tk4 0 45 ?_
      refine tk4 1 46 ?_
      refine on 2 47 (fun K hK => ?_)
      refine gC Tryd.func15 #[.agg #[.slice A0_0 l0_0.length c0_0, .int .i64 a0_1]] ?_
      with_reducible refine (laws_toFs.calls kj11 _ _ l0_0 a0_1 t525 t528 _ ?side1 ?side2 A34.out).mono ?_
      (case side1 => exact sD (Kd.C_below HR0_0.out HB.out))
      (case side2 => exact HC0_0.out)
      rintro e w40 ⟨v526, rfl, ho0, hb⟩
      refine ⟨_, rfl, ?_⟩
      have n0_ := nR HO_6 hb
      have n1_ := nR HO_9 hb
      have n2_ := Aside0.mk (Kd.S_elder' (by (with_reducible repeat (first | apply Kd.S_alloc | apply Kd.S_drewN | apply Kd.S_drew)); exact HO_520000.out) (Kd.S_base ho0) hb)
      have n3_ := Aside0.mk (Kd.S_lower (Kd.S_new' ho0 (Kd.S_lt (by (with_reducible repeat (first | apply Kd.S_alloc | apply Kd.S_drewN | apply Kd.S_drew)); exact HO_520000.out))) (below_size sC))
      have n4_ := nK BK505 hb
      have n5_ := nK BK519 hb
      have n6_ := nSC hb
      clear HO_6
      clear HO_9
      clear HO_520000
      clear BK505
      clear BK519
      clear HB
      have HO_6 := n0_
      have HO_9 := n1_
      have HO_520000 := n2_
      have HO527 := n3_
      have BK505 := n4_
      have BK519 := n5_
      have HB := n6_
      clear n0_ n1_ n2_ n3_ n4_ n5_ n6_
      (try clear hb)
      (try clear hb2)
      (try clear hk)
      (try clear hi)
      (try clear ho0)
      obtain ⟨Ao41, co41, eo41⟩ := Kd.S_slice HO527.out
      (first | subst eo41 | (injection eo41 with f1_ f2_ f3_; have f4_ := f1_.symm; have f5_ := f3_.symm; clear f1_ f2_ f3_; subst f4_; subst f5_))
      refine hK.out _ _ ⟨cz0 BK519, cz1 BK519, cz0 BK505, cz1 BK505⟩ (fun hHeld => ?_)
      clear hK K
      refine nm ?_
      refine on 3 48 (fun K hK => ?_)
      refine gC Tryd.func17 #[.agg #[.slice Ao23 t515.length co23, .int .i64 t518], .agg #[.slice Ao41 t525.length co41, .int .i64 t528]] ?_
      with_reducible refine (laws_eqFs.calls kj11 _ _ t515 t518 _ _ t525 t528 true _ ?side1 ?side2 ?side3 ?side4 A35.out).mono ?_
      (case side1 => exact sD (Kd.S_reads' HO_520000.out).2.2)
      (case side2 => exact (Kd.S_reads' HO_520000.out).2.1)
      (case side3 => exact sD (Kd.S_reads' HO527.out).2.2)
      (case side4 => exact (Kd.S_reads' HO527.out).2.1)
      rintro e w42 ⟨rfl, hb⟩
      refine ⟨_, rfl, ?_⟩
      have n0_ := nR HO_6 hb
      have n1_ := nR HO_9 hb
      have n2_ := nS HO_520000 hb
      have n3_ := nS HO527 hb
      have n4_ := nK BK505 hb
      have n5_ := nK BK519 hb
      have n6_ := nSC hb
      clear HO_6
      clear HO_9
      clear HO_520000
      clear HO527
      clear BK505
      clear BK519
      clear HB
      have HO_6 := n0_
      have HO_9 := n1_
      have HO_520000 := n2_
      have HO527 := n3_
      have BK505 := n4_
      have BK519 := n5_
      have HB := n6_
      clear n0_ n1_ n2_ n3_ n4_ n5_ n6_
      (try clear hb)
      (try clear hb2)
      (try clear hk)
      (try clear hi)
      refine hK.out _ _ ⟨cz0 BK519, cz1 BK519, cz0 BK505, cz1 BK505⟩ (fun hHeld => ?_)
      clear hK K
      refine nm ?_
      refine pu 4 49 ?_
      refine dn ?_
      have hnb43 := NB519_505.out
      have hnc43 := NB505_519.out
      have hcz44 := cb2 BK519
      go_upto_region 14 with (first | ((with_reducible refine gt 33 rfl ?_); refine gL 33 52 Tryd.func33 #[.agg #[.slice Ao23 t515.length co23, .int .i64 t518], .int .i64 1] ?_; have hz_ : w.heap.size ≤ _ := below_size sC; (with_reducible refine (laws_markFs.marks kj11 _ _ t515 t518 1 t530 w.heap.size _ ?side1 ?side2 A37.out).mono ?_); (case side1 => exact hz_); (case side2 => exact Nod.of_S (by (with_reducible repeat (first | apply Kd.S_alloc | apply Kd.S_drewN | apply Kd.S_drew)); exact HO_520000.out)); rintro e w45 ⟨rfl, hm⟩; refine ⟨_, rfl, ?_⟩; clear hz_; replace HO_6 := Aside0.mk (hm.R (by (with_reducible repeat (first | apply Kd.R_alloc | apply Kd.R_drewN | apply Kd.R_drew)); exact HO_6.out)); replace HO_9 := Aside0.mk (hm.R (by (with_reducible repeat (first | apply Kd.R_alloc | apply Kd.R_drewN | apply Kd.R_drew)); exact HO_9.out)); replace BK505 := Aside0.mk (hm.blk (sK BK505)); replace BK519 := Aside0.mk (hm.blk (sK BK519)); replace HB := Aside0.mk (Below.trans sC hm.below); clear HO_520000; clear HO527; clear hm; try clear hb))
      (try simp only [Act.put, List.setIfInBounds_toArray, List.set_cons_zero, List.set_cons_succ])
      go_cut [65] (fun v65 wc => ∃ (kq : Nat) (x65_37 : Bool), v65 = .bool x65_37 ∧ Aside0 (laws_FnExactWalkPost.j1 kq a1 t511 t514 t520 x65_37 l0_0 a0_1 = some r) ∧ Aside0 (kq ≤ kj11) ∧ Aside0 (Kd.R Kd.string 9 wc w.heap.size (fun k_ => some k_ ≠ (v521 : Value).ownBlock) v512 t511) ∧ Aside0 (Kd.R Kd.string 9 wc w.heap.size (fun k_ => some k_ ≠ (v512 : Value).ownBlock) v521 t520) ∧ Aside0 (wc.heap[gb505]? = some (.cells #[(.slice A0_0 l0_0.length c0_0), .int .i64 a0_1] 24 (0, 0))) ∧ Aside0 (wc.heap[gb519]? = some (.cells #[(.slice Ao23 t515.length co23), .int .i64 t518] 29 (0, 0))) ∧ Aside0 (Below w.heap.size w wc))
      case first =>
       have H := HC38.out
       clear HC38
       by_cases c46 : t530 < 0
       ·rw [if_pos c46] at H
        have c46b0 := decide_eq_true c46
        clear c46
        (first | rw [c46b0] | (simp only [i64_w, i32_w]; rw [c46b0]) | skip)
        have H' := Aside0.mk H
        clear H
        go_wp2
        go_meet
        case rel => exact ⟨_, (true), sR, H', ⟨by have := HJ11.out; first | omega | exact Nat.le_refl _⟩, ⟨rR HO_6⟩, ⟨rR HO_9⟩, ⟨sK BK505⟩, ⟨sK BK519⟩, ⟨sC⟩⟩
       ·rw [if_neg c46] at H
        have c46b0 := decide_eq_false c46
        clear c46
        (first | rw [c46b0] | (simp only [i64_w, i32_w]; rw [c46b0]) | skip)
        obtain ⟨t531, A47, H⟩ := bS H
        try dsimp only at H
        by_cases c48 : t531 = true
        ·subst c48
         rw [if_pos rfl] at H
         have H' := Aside0.mk H
         clear H
         obtain ⟨Ao49, co49, eo49⟩ := Kd.R_slice HO_9.out
         subst eo49
         obtain ⟨Ao50, co50, eo50⟩ := Kd.R_slice HO_6.out
         subst eo50
         go_wp2_with (first | (go_at_call 32; (with_reducible refine (laws_eqStringS.calls kj11 _ _ t520 _ _ t511 true _ ?side1 ?side2 ?side3 ?side4 A47.out).mono ?_); (case side1 => exact sD (Kd.R_reads' HO_9.out).2.2); (case side2 => exact (Kd.R_reads' HO_9.out).2.1); (case side3 => exact sD (Kd.R_reads' HO_6.out).2.2); (case side4 => exact (Kd.R_reads' HO_6.out).2.1); rintro e w' ⟨rfl, ⟨nd, rfl⟩⟩))
         go_meet
         case rel => exact ⟨_, ((t523 != t514)), sR, H', ⟨by have := HJ11.out; first | omega | exact Nat.le_refl _⟩, ⟨rR HO_6⟩, ⟨rR HO_9⟩, ⟨sK BK505⟩, ⟨sK BK519⟩, ⟨sC⟩⟩
        ·replace c48 := Bool.eq_false_iff.mpr c48
         subst c48
         rw [if_neg (show ¬ (false = true) by decide)] at H
         have H' := Aside0.mk H
         clear H
         obtain ⟨Ao51, co51, eo51⟩ := Kd.R_slice HO_9.out
         subst eo51
         obtain ⟨Ao52, co52, eo52⟩ := Kd.R_slice HO_6.out
         subst eo52
         go_wp2_with (first | (go_at_call 32; (with_reducible refine (laws_eqStringS.calls kj11 _ _ t520 _ _ t511 false _ ?side1 ?side2 ?side3 ?side4 A47.out).mono ?_); (case side1 => exact sD (Kd.R_reads' HO_9.out).2.2); (case side2 => exact (Kd.R_reads' HO_9.out).2.1); (case side3 => exact sD (Kd.R_reads' HO_6.out).2.2); (case side4 => exact (Kd.R_reads' HO_6.out).2.1); rintro e w' ⟨rfl, ⟨nd, rfl⟩⟩))
         go_meet
         case rel => exact ⟨_, (true), sR, H', ⟨by have := HJ11.out; first | omega | exact Nat.le_refl _⟩, ⟨rR HO_6⟩, ⟨rR HO_9⟩, ⟨sK BK505⟩, ⟨sK BK519⟩, ⟨sC⟩⟩
      case rest =>
       clear HC38
       try clear c1
       try clear c2
       try clear p2
       try clear c3
       try clear c4
       try clear c4b0
       try clear c10
       try clear c13
       try clear c15
       try clear c17
       try clear c24
       try clear c28
       try clear c30
       try clear c31
       try clear c32
       try clear c33
       try clear c36
       try clear c43
       try clear c46
       try clear c46b0
       try clear c48
       try clear hcz14
       try clear hcz16
       try clear hcz20
       try clear hcz25
       try clear hcz44
       try clear hcz6
       try clear p2
       obtain ⟨kq, x65_37, rfl, HA, HJ37, HO_6, HO_9, BK505, BK519, HB⟩ := hcut
       cases kq with
       | zero => exact absurd HA.out (by simp [laws_FnExactWalkPost.j1])
       | succ kj37 =>
        have H := HA.out
        clear HA
        simp only [laws_FnExactWalkPost.j1] at H
        by_cases c53 : x65_37 = true
        ·subst c53
         rw [if_pos rfl] at H
         obtain rfl := Option.some.inj H
         go_wp2
         go_ret
         exact ⟨sE, sC⟩
        ·replace c53 := Bool.eq_false_iff.mpr c53
         subst c53
         rw [if_neg (show ¬ (false = true) by decide)] at H
         obtain ⟨⟨t532, t533⟩, A54, H⟩ := bS H
         try dsimp only at H
         obtain ⟨t534, A55, H⟩ := bS H
         try dsimp only at H
         by_cases c56 : t534 < 0
         ·rw [if_pos c56] at H
          have c56b0 := decide_eq_true c56
          clear c56
          obtain rfl := Option.some.inj H
          obtain ⟨Ao57, co57, eo57⟩ := Kd.R_slice HO_9.out
          subst eo57
          go_wp2_with (first | ((with_reducible refine gt 34 rfl ?_); refine gL 34 68 Tryd.func34 #[.slice Ao57 t520.length co57, .int .i64 1] ?_; (with_reducible refine (laws_markStringS.calls kj37 (fun k_ => some k_ = (.slice Ao57 t520.length co57 : Value).ownBlock) (.slice Ao57 t520.length co57) t520 1 t532 t533 w _ ?side1 ?side2 A54.out).mono ?_); (case side1 => repeat (first | (with_reducible first | exact HB.out | apply below_alloc | apply pw_below_drewN | apply below_drew1 | refine below_set ?_ GE505.out | refine below_set ?_ GE519.out) | exact HB.out)); (case side2 => exact Kd.R_tight rfl HO_9.out); rintro e w58 ⟨rfl, hy0, hb, hkp⟩; refine ⟨_, rfl, ?_⟩; replace HO_6 := Aside0.mk (Kd.R_mono (ok' := fun k_ => some k_ ≠ (.slice Ao57 t520.length co57 : Value).ownBlock) (Kd.R_keptB (HO_6.out) hkp (fun k_ hk_ hs_ => (hk_) hs_)) (fun k_ hk_ => hk_.1)); replace BK505 := Aside0.mk (blk_kept (sK BK505) hkp (fun hs_ => (fun e_ => (Kd.R_ne HO_9.out BK505.out (by decide)) e_) hs_)); replace BK519 := Aside0.mk (blk_kept (sK BK519) hkp (fun hs_ => (fun e_ => (Kd.R_ne HO_9.out BK519.out (by decide)) e_) hs_)); replace HO_9 := Aside0.mk (Kd.R_reok rfl hy0 (fun k_ e_ => HO_9.out.1 k_ e_)); replace HB := Aside0.mk (hb); (try clear hb); (try clear hkp); (try clear hy0)) | ((with_reducible refine gt 35 rfl ?_); refine goesL_ (some 71) rfl rfl Tryd.func35 (by kernel_rfl) rfl #[.slice Ao57 t533.length co57, .int .i64 1] rfl (by (try simp only [List.map_toArray, List.map_cons, List.map_nil]); first | done | (rw [show t533.length = t520.length from (Kd.R_reads' HO_9.out).1.symm] <;> rfl) | rfl | (simp only [List.length_drop, List.length_take]; rfl)) ?_; (with_reducible refine (laws_heldStringS.calls kj37 _ _ t533 1 t534 _ ?side1 ?side2 A55.out).mono ?_); (case side1 => exact sD (Kd.R_reads' HO_9.out).2.2); (case side2 => rw [show t533.length = t520.length from (Kd.R_reads' HO_9.out).1.symm]; exact (Kd.R_reads' HO_9.out).2.1); rintro e w59 ⟨rfl, hb⟩; refine ⟨_, rfl, ?_⟩; replace HO_6 := nR HO_6 hb; replace HO_9 := nR HO_9 hb; replace BK505 := nK BK505 hb; replace BK519 := nK BK519 hb; replace HB := nSC hb; try clear hb))
          go_ret
          exact ⟨sE, sC⟩
         ·rw [if_neg c56] at H
          have c56b0 := decide_eq_false c56
          clear c56
          by_cases c60 : t534 = t532
          ·rw [if_pos c60] at H
           have c60b0 := beq_iff_eq.mpr c60
           have c60b1 := bne_eq_false_iff_eq.mpr c60
           clear c60
           obtain ⟨⟨t535, t538⟩, A61, H⟩ := bS H
           try dsimp only at H
           obtain ⟨⟨t539, t542⟩, A62, H⟩ := bS H
           try dsimp only at H
           have HC63 := Aside0.mk H
           clear H
           obtain ⟨Ao64, co64, eo64⟩ := Kd.R_slice HO_9.out
           subst eo64
           go_upto_region 25 with (first | ((with_reducible refine gt 34 rfl ?_); refine gL 34 68 Tryd.func34 #[.slice Ao64 t520.length co64, .int .i64 1] ?_; (with_reducible refine (laws_markStringS.calls kj37 (fun k_ => some k_ = (.slice Ao64 t520.length co64 : Value).ownBlock) (.slice Ao64 t520.length co64) t520 1 t532 t533 w _ ?side1 ?side2 A54.out).mono ?_); (case side1 => repeat (first | (with_reducible first | exact HB.out | apply below_alloc | apply pw_below_drewN | apply below_drew1 | refine below_set ?_ GE505.out | refine below_set ?_ GE519.out) | exact HB.out)); (case side2 => exact Kd.R_tight rfl HO_9.out); rintro e w65 ⟨rfl, hy0, hb, hkp⟩; refine ⟨_, rfl, ?_⟩; replace HO_6 := Aside0.mk (Kd.R_mono (ok' := fun k_ => some k_ ≠ (.slice Ao64 t520.length co64 : Value).ownBlock) (Kd.R_keptB (HO_6.out) hkp (fun k_ hk_ hs_ => (hk_) hs_)) (fun k_ hk_ => hk_.1)); replace BK505 := Aside0.mk (blk_kept (sK BK505) hkp (fun hs_ => (fun e_ => (Kd.R_ne HO_9.out BK505.out (by decide)) e_) hs_)); replace BK519 := Aside0.mk (blk_kept (sK BK519) hkp (fun hs_ => (fun e_ => (Kd.R_ne HO_9.out BK519.out (by decide)) e_) hs_)); replace HO_9 := Aside0.mk (Kd.R_reok rfl hy0 (fun k_ e_ => HO_9.out.1 k_ e_)); replace HB := Aside0.mk (hb); (try clear hb); (try clear hkp); (try clear hy0)) | ((with_reducible refine gt 35 rfl ?_); refine goesL_ (some 71) rfl rfl Tryd.func35 (by kernel_rfl) rfl #[.slice Ao64 t533.length co64, .int .i64 1] rfl (by (try simp only [List.map_toArray, List.map_cons, List.map_nil]); first | done | (rw [show t533.length = t520.length from (Kd.R_reads' HO_9.out).1.symm] <;> rfl) | rfl | (simp only [List.length_drop, List.length_take]; rfl)) ?_; (with_reducible refine (laws_heldStringS.calls kj37 _ _ t533 1 t534 _ ?side1 ?side2 A55.out).mono ?_); (case side1 => exact sD (Kd.R_reads' HO_9.out).2.2); (case side2 => rw [show t533.length = t520.length from (Kd.R_reads' HO_9.out).1.symm]; exact (Kd.R_reads' HO_9.out).2.1); rintro e w66 ⟨rfl, hb⟩; refine ⟨_, rfl, ?_⟩; replace HO_6 := nR HO_6 hb; replace HO_9 := nR HO_9 hb; replace BK505 := nK BK505 hb; replace BK519 := nK BK519 hb; replace HB := nSC hb; try clear hb; have hnb67 := NB505_519.out; have hnc67 := NB519_505.out; have hcz68 := cb2 BK505) | ((with_reducible refine gt 15 rfl ?_); refine gL 15 79 Tryd.func15 #[.agg #[.slice A0_0 l0_0.length c0_0, .int .i64 a0_1]] ?_; (with_reducible refine (laws_toFs.calls kj37 _ _ l0_0 a0_1 t535 t538 _ ?side1 ?side2 A61.out).mono ?_); (case side1 => exact sD (Kd.C_below HR0_0.out HB.out)); (case side2 => exact HC0_0.out); rintro e w69 ⟨v536, rfl, ho0, hb⟩; refine ⟨_, rfl, ?_⟩; replace HO_6 := nR HO_6 hb; replace HO_9 := nR HO_9 hb; have HO537 := Aside0.mk (Kd.S_lower ho0 (below_size sC)); replace BK505 := nK BK505 hb; replace BK519 := nK BK519 hb; replace HB := nSC hb; try clear hb; (try clear ho0); obtain ⟨Ao70, co70, eo70⟩ := Kd.S_slice HO537.out; subst eo70) | ((with_reducible refine gt 31 rfl ?_); refine gL 31 81 Tryd.func31 #[.agg #[.slice Ao70 t535.length co70, .int .i64 t538], .int .i64 a1] ?_; (with_reducible refine (impl_WalkPost.calls kj37 _ _ t535 t538 a1 t539 t542 _ ?side1 ?side2 A62.out).mono ?_); (case side1 => exact sD (Kd.S_reads' HO537.out).2.2); (case side2 => exact (Kd.S_reads' HO537.out).2.1); rintro e w71 ⟨v540, rfl, ho0, hb⟩; refine ⟨_, rfl, ?_⟩; replace HO537 := nS HO537 hb; have HO541 := Aside0.mk (Kd.R_lower (Kd.R_new' (Kd.R_new' ho0 (Kd.R_lt (by (with_reducible repeat (first | apply Kd.R_alloc | apply Kd.R_drewN | apply Kd.R_drew)); exact HO_6.out))) (Kd.R_lt (by (with_reducible repeat (first | apply Kd.R_alloc | apply Kd.R_drewN | apply Kd.R_drew)); exact HO_9.out))) (below_size sC)); replace HO_6 := Aside0.mk (Kd.R_elder' (by (with_reducible repeat (first | apply Kd.R_alloc | apply Kd.R_drewN | apply Kd.R_drew)); exact HO_6.out) (Kd.R_base ho0) hb); replace HO_9 := Aside0.mk (Kd.R_elder' (by (with_reducible repeat (first | apply Kd.R_alloc | apply Kd.R_drewN | apply Kd.R_drew)); exact HO_9.out) (Kd.R_base ho0) hb); replace BK505 := nK BK505 hb; replace BK519 := nK BK519 hb; replace HB := nSC hb; try clear hb; (try clear ho0)))
           (try simp only [Act.put, List.setIfInBounds_toArray, List.set_cons_zero, List.set_cons_succ])
           go_cut [92] (fun v92 wc => ∃ (kq : Nat) (x92_62 : Bool), v92 = .bool x92_62 ∧ Aside0 (laws_FnExactWalkPost.j2 kq t533 t532 x92_62 = some r) ∧ Aside0 (kq ≤ kj37) ∧ Aside0 (Kd.R Kd.string 9 wc w.heap.size (fun _ => True) (.slice Ao64 t520.length co64) t533) ∧ Aside0 (wc.heap[gb505]? = some (.cells #[(.slice A0_0 l0_0.length c0_0), .int .i64 a0_1] 24 (0, 0))) ∧ Aside0 (wc.heap[gb519]? = some (.cells #[(.slice Ao23 t515.length co23), .int .i64 t518] 29 (0, 0))) ∧ Aside0 (Below w.heap.size w wc))
           case first =>
            have H := HC63.out
            clear HC63
            obtain ⟨t543, A72, H⟩ := bS H
            try dsimp only at H
            by_cases c73 : t543 = true
            ·subst c73
             rw [if_pos rfl] at H
             have H' := Aside0.mk H
             clear H
             obtain ⟨Ao74, co74, eo74⟩ := Kd.R_slice HO541.out
             subst eo74
             obtain ⟨Ao75, co75, eo75⟩ := Kd.R_slice HO_6.out
             subst eo75
             go_wp2_with (first | ((with_reducible refine gt 32 rfl ?_); refine gL 32 86 Tryd.func32 #[.slice Ao74 t539.length co74, .slice Ao75 t511.length co75] ?_; (with_reducible refine (laws_eqStringS.calls kj37 _ _ t539 _ _ t511 true _ ?side1 ?side2 ?side3 ?side4 A72.out).mono ?_); (case side1 => exact sD (Kd.R_reads' HO541.out).2.2); (case side2 => exact (Kd.R_reads' HO541.out).2.1); (case side3 => exact sD (Kd.R_reads' HO_6.out).2.2); (case side4 => exact (Kd.R_reads' HO_6.out).2.1); rintro e w' ⟨rfl, ⟨nd, rfl⟩⟩; refine ⟨_, rfl, ?_⟩))
             go_meet
             case rel => exact ⟨_, ((t542 != t514)), sR, H', ⟨by have := HJ11.out; have := HJ37.out; first | omega | exact Nat.le_refl _⟩, ⟨by (with_reducible repeat (first | apply Kd.R_alloc | apply Kd.R_drewN | apply Kd.R_drew)); exact Kd.R_mono HO_9.out (fun _ hk => trivial)⟩, ⟨sK BK505⟩, ⟨sK BK519⟩, ⟨sC⟩⟩
            ·replace c73 := Bool.eq_false_iff.mpr c73
             subst c73
             rw [if_neg (show ¬ (false = true) by decide)] at H
             have H' := Aside0.mk H
             clear H
             obtain ⟨Ao76, co76, eo76⟩ := Kd.R_slice HO541.out
             subst eo76
             obtain ⟨Ao77, co77, eo77⟩ := Kd.R_slice HO_6.out
             subst eo77
             go_wp2_with (first | ((with_reducible refine gt 32 rfl ?_); refine gL 32 86 Tryd.func32 #[.slice Ao76 t539.length co76, .slice Ao77 t511.length co77] ?_; (with_reducible refine (laws_eqStringS.calls kj37 _ _ t539 _ _ t511 false _ ?side1 ?side2 ?side3 ?side4 A72.out).mono ?_); (case side1 => exact sD (Kd.R_reads' HO541.out).2.2); (case side2 => exact (Kd.R_reads' HO541.out).2.1); (case side3 => exact sD (Kd.R_reads' HO_6.out).2.2); (case side4 => exact (Kd.R_reads' HO_6.out).2.1); rintro e w' ⟨rfl, ⟨nd, rfl⟩⟩; refine ⟨_, rfl, ?_⟩))
             go_meet
             case rel => exact ⟨_, (true), sR, H', ⟨by have := HJ11.out; have := HJ37.out; first | omega | exact Nat.le_refl _⟩, ⟨by (with_reducible repeat (first | apply Kd.R_alloc | apply Kd.R_drewN | apply Kd.R_drew)); exact Kd.R_mono HO_9.out (fun _ hk => trivial)⟩, ⟨sK BK505⟩, ⟨sK BK519⟩, ⟨sC⟩⟩
           case rest =>
            clear HC63
            try clear c1
            try clear c2
            try clear p2
            try clear c3
            try clear c4
            try clear c4b0
            try clear c5
            try clear c6
            try clear c7
            try clear c10
            try clear c13
            try clear c15
            try clear c17
            try clear c24
            try clear c28
            try clear c30
            try clear c31
            try clear c32
            try clear c33
            try clear c34
            try clear c35
            try clear c36
            try clear c43
            try clear c46
            try clear c46b0
            try clear c48
            try clear c53
            try clear c56
            try clear c56b0
            try clear c60
            try clear c60b0
            try clear c60b1
            try clear c67
            try clear c73
            try clear hcz14
            try clear hcz16
            try clear hcz20
            try clear hcz25
            try clear hcz44
            try clear hcz68
            try clear hcz6
            try clear p2
            obtain ⟨kq, x92_62, rfl, HA, HJ62, HO_9, BK505, BK519, HB⟩ := hcut
            have hl9_62 := (Kd.R_reads' HO_9.out).1
            rw [hl9_62] at HO_9
            (try simp only [hl9_62])
            (try simp only [hl9_62] at BK505)
            (try simp only [hl9_62] at BK519)
            cases kq with
            | zero => exact absurd HA.out (by simp [laws_FnExactWalkPost.j2])
            | succ kj62 =>
             have H := HA.out
             clear HA
             simp only [laws_FnExactWalkPost.j2] at H
             by_cases c78 : x92_62 = true
             ·subst c78
              rw [if_pos rfl] at H
              obtain rfl := Option.some.inj H
              go_wp2
              go_ret
              exact ⟨sE, sC⟩
             ·replace c78 := Bool.eq_false_iff.mpr c78
              subst c78
              rw [if_neg (show ¬ (false = true) by decide)] at H
              obtain ⟨t544, A79, H⟩ := bS H
              try dsimp only at H
              by_cases c80 : t544 < 0
              ·rw [if_pos c80] at H
               have c80b0 := decide_eq_true c80
               clear c80
               obtain rfl := Option.some.inj H
               go_wp2_with (first | ((with_reducible refine gt 35 rfl ?_); refine gL 35 95 Tryd.func35 #[.slice Ao64 t533.length co64, .int .i64 1] ?_; (with_reducible refine (laws_heldStringS.calls kj62 _ _ t533 1 t544 _ ?side1 ?side2 A79.out).mono ?_); (case side1 => exact sD (Kd.R_reads' HO_9.out).2.2); (case side2 => exact (Kd.R_reads' HO_9.out).2.1); rintro e w81 ⟨rfl, hb⟩; refine ⟨_, rfl, ?_⟩; replace HO_9 := nR HO_9 hb; replace BK505 := nK BK505 hb; replace BK519 := nK BK519 hb; replace HB := nSC hb; try clear hb))
               go_ret
               exact ⟨sE, sC⟩
              ·rw [if_neg c80] at H
               have c80b0 := decide_eq_false c80
               clear c80
               by_cases c82 : t544 = t532
               ·rw [if_pos c82] at H
                have c82b0 := beq_iff_eq.mpr c82
                have c82b1 := bne_eq_false_iff_eq.mpr c82
                clear c82
                obtain rfl := Option.some.inj H
                go_wp2_with (first | ((with_reducible refine gt 35 rfl ?_); refine gL 35 95 Tryd.func35 #[.slice Ao64 t533.length co64, .int .i64 1] ?_; (with_reducible refine (laws_heldStringS.calls kj62 _ _ t533 1 t544 _ ?side1 ?side2 A79.out).mono ?_); (case side1 => exact sD (Kd.R_reads' HO_9.out).2.2); (case side2 => exact (Kd.R_reads' HO_9.out).2.1); rintro e w83 ⟨rfl, hb⟩; refine ⟨_, rfl, ?_⟩; replace HO_9 := nR HO_9 hb; replace BK505 := nK BK505 hb; replace BK519 := nK BK519 hb; replace HB := nSC hb; try clear hb))
                go_ret
                exact ⟨sE, sC⟩
               ·rw [if_neg c82] at H
                have c82b0 := beq_eq_false_iff_ne.mpr c82
                have c82b1 := bne_iff_ne.mpr c82
                obtain rfl := Option.some.inj H
                go_wp2_with (first | ((with_reducible refine gt 35 rfl ?_); refine gL 35 95 Tryd.func35 #[.slice Ao64 t533.length co64, .int .i64 1] ?_; (with_reducible refine (laws_heldStringS.calls kj62 _ _ t533 1 t544 _ ?side1 ?side2 A79.out).mono ?_); (case side1 => exact sD (Kd.R_reads' HO_9.out).2.2); (case side2 => exact (Kd.R_reads' HO_9.out).2.1); rintro e w84 ⟨rfl, hb⟩; refine ⟨_, rfl, ?_⟩; replace HO_9 := nR HO_9 hb; replace BK505 := nK BK505 hb; replace BK519 := nK BK519 hb; replace HB := nSC hb; try clear hb))
                go_ret
                exact ⟨sE, sC⟩
          ·rw [if_neg c60] at H
           have c60b0 := beq_eq_false_iff_ne.mpr c60
           have c60b1 := bne_iff_ne.mpr c60
           obtain rfl := Option.some.inj H
           obtain ⟨Ao85, co85, eo85⟩ := Kd.R_slice HO_9.out
           subst eo85
           go_wp2_with (first | ((with_reducible refine gt 34 rfl ?_); refine gL 34 68 Tryd.func34 #[.slice Ao85 t520.length co85, .int .i64 1] ?_; (with_reducible refine (laws_markStringS.calls kj37 (fun k_ => some k_ = (.slice Ao85 t520.length co85 : Value).ownBlock) (.slice Ao85 t520.length co85) t520 1 t532 t533 w _ ?side1 ?side2 A54.out).mono ?_); (case side1 => repeat (first | (with_reducible first | exact HB.out | apply below_alloc | apply pw_below_drewN | apply below_drew1 | refine below_set ?_ GE505.out | refine below_set ?_ GE519.out) | exact HB.out)); (case side2 => exact Kd.R_tight rfl HO_9.out); rintro e w86 ⟨rfl, hy0, hb, hkp⟩; refine ⟨_, rfl, ?_⟩; replace HO_6 := Aside0.mk (Kd.R_mono (ok' := fun k_ => some k_ ≠ (.slice Ao85 t520.length co85 : Value).ownBlock) (Kd.R_keptB (HO_6.out) hkp (fun k_ hk_ hs_ => (hk_) hs_)) (fun k_ hk_ => hk_.1)); replace BK505 := Aside0.mk (blk_kept (sK BK505) hkp (fun hs_ => (fun e_ => (Kd.R_ne HO_9.out BK505.out (by decide)) e_) hs_)); replace BK519 := Aside0.mk (blk_kept (sK BK519) hkp (fun hs_ => (fun e_ => (Kd.R_ne HO_9.out BK519.out (by decide)) e_) hs_)); replace HO_9 := Aside0.mk (Kd.R_reok rfl hy0 (fun k_ e_ => HO_9.out.1 k_ e_)); replace HB := Aside0.mk (hb); (try clear hb); (try clear hkp); (try clear hy0)) | ((with_reducible refine gt 35 rfl ?_); refine goesL_ (some 71) rfl rfl Tryd.func35 (by kernel_rfl) rfl #[.slice Ao85 t533.length co85, .int .i64 1] rfl (by (try simp only [List.map_toArray, List.map_cons, List.map_nil]); first | done | (rw [show t533.length = t520.length from (Kd.R_reads' HO_9.out).1.symm] <;> rfl) | rfl | (simp only [List.length_drop, List.length_take]; rfl)) ?_; (with_reducible refine (laws_heldStringS.calls kj37 _ _ t533 1 t534 _ ?side1 ?side2 A55.out).mono ?_); (case side1 => exact sD (Kd.R_reads' HO_9.out).2.2); (case side2 => rw [show t533.length = t520.length from (Kd.R_reads' HO_9.out).1.symm]; exact (Kd.R_reads' HO_9.out).2.1); rintro e w87 ⟨rfl, hb⟩; refine ⟨_, rfl, ?_⟩; replace HO_6 := nR HO_6 hb; replace HO_9 := nR HO_9 hb; replace BK505 := nK BK505 hb; replace BK519 := nK BK519 hb; replace HB := nSC hb; try clear hb))
           go_ret
           exact ⟨sE, sC⟩
     ·replace c36 := Bool.eq_false_iff.mpr c36
      subst c36
      rw [if_neg (show ¬ (false = true) by decide)] at H
      obtain rfl := Option.some.inj H
      try go_wp2
      have n0_ := Aside0.mk (Kd.R_drew HO_6.out)
      have n1_ := Aside0.mk (Kd.R_drew HO_9.out)
      have n2_ := Aside0.mk (Kd.S_drew HO_520000.out)
      have n3_ := Aside0.mk (blk_drew BK505.out)
      have n4_ := Aside0.mk (blk_drew BK519.out)
      have n5_ := Aside0.mk (below_drew1 HB.out)
      clear HO_6
      clear HO_9
      clear HO_520000
      clear BK505
      clear BK519
      clear HB
      have HO_6 := n0_
      have HO_9 := n1_
      have HO_520000 := n2_
      have BK505 := n3_
      have BK519 := n4_
      have HB := n5_
      clear n0_ n1_ n2_ n3_ n4_ n5_
      refine st4 5 [] (cz0 BK519) (cz1 BK519) (cz0 BK505) (cz1 BK505) (fun hHeld => ?_)
      generalize wc.drew = w88 at HO_6 HO_9 HO_520000 BK505 BK519 HB hHeld ⊢
      refine tk4 0 45 ?_
      refine tk4 1 46 ?_
      refine on 2 47 (fun K hK => ?_)
      refine gC Tryd.func15 #[.agg #[.slice A0_0 l0_0.length c0_0, .int .i64 a0_1]] ?_
      with_reducible refine (laws_toFs.calls kj11 _ _ l0_0 a0_1 t525 t528 _ ?side1 ?side2 A34.out).mono ?_
      (case side1 => exact sD (Kd.C_below HR0_0.out HB.out))
      (case side2 => exact HC0_0.out)
      rintro e w89 ⟨v526, rfl, ho0, hb⟩
      refine ⟨_, rfl, ?_⟩
      have n0_ := nR HO_6 hb
      have n1_ := nR HO_9 hb
      have n2_ := Aside0.mk (Kd.S_elder' (by (with_reducible repeat (first | apply Kd.S_alloc | apply Kd.S_drewN | apply Kd.S_drew)); exact HO_520000.out) (Kd.S_base ho0) hb)
      have n3_ := Aside0.mk (Kd.S_lower (Kd.S_new' ho0 (Kd.S_lt (by (with_reducible repeat (first | apply Kd.S_alloc | apply Kd.S_drewN | apply Kd.S_drew)); exact HO_520000.out))) (below_size sC))
      have n4_ := nK BK505 hb
      have n5_ := nK BK519 hb
      have n6_ := nSC hb
      clear HO_6
      clear HO_9
      clear HO_520000
      clear BK505
      clear BK519
      clear HB
      have HO_6 := n0_
      have HO_9 := n1_
      have HO_520000 := n2_
      have HO527 := n3_
      have BK505 := n4_
      have BK519 := n5_
      have HB := n6_
      clear n0_ n1_ n2_ n3_ n4_ n5_ n6_
      (try clear hb)
      (try clear hb2)
      (try clear hk)
      (try clear hi)
      (try clear ho0)
      obtain ⟨Ao90, co90, eo90⟩ := Kd.S_slice HO527.out
      (first | subst eo90 | (injection eo90 with f1_ f2_ f3_; have f4_ := f1_.symm; have f5_ := f3_.symm; clear f1_ f2_ f3_; subst f4_; subst f5_))
      refine hK.out _ _ ⟨cz0 BK519, cz1 BK519, cz0 BK505, cz1 BK505⟩ (fun hHeld => ?_)
      clear hK K
      refine nm ?_
      refine on 3 48 (fun K hK => ?_)
      refine gC Tryd.func17 #[.agg #[.slice Ao23 t515.length co23, .int .i64 t518], .agg #[.slice Ao90 t525.length co90, .int .i64 t528]] ?_
      with_reducible refine (laws_eqFs.calls kj11 _ _ t515 t518 _ _ t525 t528 false _ ?side1 ?side2 ?side3 ?side4 A35.out).mono ?_
      (case side1 => exact sD (Kd.S_reads' HO_520000.out).2.2)
      (case side2 => exact (Kd.S_reads' HO_520000.out).2.1)
      (case side3 => exact sD (Kd.S_reads' HO527.out).2.2)
      (case side4 => exact (Kd.S_reads' HO527.out).2.1)
      rintro e w91 ⟨rfl, hb⟩
      refine ⟨_, rfl, ?_⟩
      have n0_ := nR HO_6 hb
      have n1_ := nR HO_9 hb
      have n2_ := nS HO_520000 hb
      have n3_ := nS HO527 hb
      have n4_ := nK BK505 hb
      have n5_ := nK BK519 hb
      have n6_ := nSC hb
      clear HO_6
      clear HO_9
      clear HO_520000
      clear HO527
      clear BK505
      clear BK519
      clear HB
      have HO_6 := n0_
      have HO_9 := n1_
      have HO_520000 := n2_
      have HO527 := n3_
      have BK505 := n4_
      have BK519 := n5_
      have HB := n6_
      clear n0_ n1_ n2_ n3_ n4_ n5_ n6_
      (try clear hb)
      (try clear hb2)
      (try clear hk)
      (try clear hi)
      refine hK.out _ _ ⟨cz0 BK519, cz1 BK519, cz0 BK505, cz1 BK505⟩ (fun hHeld => ?_)
      clear hK K
      refine nm ?_
      refine pu 4 49 ?_
      refine dn ?_
      try go_wp2
      go_ret
      exact ⟨sE, sC⟩

/-- The one pure statement of laws_FnExactWalkPost. -/
def laws_FnExactWalkPost.Pure : Prop := ∀ (l0_0 : List (S82)) (a0_1 : Int) (a1 : Int), (l0_0.length ≤ 9223372036854775807 ∧ ∀ e5_ ∈ l0_0, ((Lit.int .i64 e5_.f0).wf = true ∧ ((Lit.int .i64 e5_.f1).wf = true ∧ ((Lit.int .i64 e5_.f2).wf = true ∧ ((Lit.int .i64 e5_.f3).wf = true ∧ ((Lit.int .i64 e5_.f4).wf = true ∧ (e5_.f5.size ≤ 9223372036854775807 ∧ (e5_.f6.length ≤ 9223372036854775807 ∧ ∀ e6_ ∈ e5_.f6, (e6_.f0.size ≤ 9223372036854775807 ∧ (Lit.int .i64 e6_.f1).wf = true))))))))) → (Lit.int .i64 a0_1).wf = true → (Lit.int .i64 a1).wf = true → ∃ k, laws_FnExactWalkPost.f k l0_0 a0_1 a1 = some true

end Go.Proofs.YteffcglgdfhkmaaDoor.PWk
