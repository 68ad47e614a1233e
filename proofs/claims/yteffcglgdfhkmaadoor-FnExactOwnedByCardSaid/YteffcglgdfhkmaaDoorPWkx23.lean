-- Written by a program of this session (wip/print2) out of the translation. Lean checks it.
import Derived.Test.YteffcglgdfhkmaaDoorPWkx0
import Derived.Test.YteffcglgdfhkmaaDoorPWkx7
import Derived.Test.YteffcglgdfhkmaaDoorPWkx1
import Derived.Test.YteffcglgdfhkmaaDoorPWkx8
import Derived.Test.YteffcglgdfhkmaaDoorPWkx14
import Derived.Test.YteffcglgdfhkmaaDoorPWkx15
import Derived.Test.YteffcglgdfhkmaaDoorPWkx16
import Derived.Test.YteffcglgdfhkmaaDoorPWkx21
import Derived.Test.YteffcglgdfhkmaaDoorPWkx22
namespace Go.Proofs.YteffcglgdfhkmaaDoor.PWk
open Go.RowKit Go.Proofs.YteffcglgdfhkmaaDoorW.PrintWords Go.Proofs.YteffcglgdfhkmaaDoorW.PrintLast Go.Proofs.YteffcglgdfhkmaaDoorW.PrintMore
attribute [local go_sem] max2_int min2_int max_two min_two max_three min_three max_four min_four   -- for this text's walks alone
set_option linter.unusedVariables false
set_option linter.unusedSimpArgs false
set_option maxHeartbeats 8000000
set_option maxRecDepth 100000

/-! ### laws_FnExactOwnedBy: function 12 -/
mutual
def laws_FnExactOwnedBy.j0 : Nat → Int → Int → List ByteArray → Bool → List ByteArray → Bool → Bool → List (S82) → Int → List (S53) → Int → Option (Bool)
 | 0, _, _, _, _, _, _, _, _, _, _, _ => none
 | k + 1, x1, x2, x8, x9, x11, x12, x48, x580000, x580001, x594000, x594001 => if x48 = true then (some false) else ((laws_toFs.f k x580000 x580001).bind fun bt599 => ((laws_eqFs.f k x594000 x594001 bt599.1 bt599.2).bind fun t603 => (if t603 = true then ((laws_markFs.f k x594000 x594001 1).bind fun t604 => (if t604 < 0 then (laws_FnExactOwnedBy.j1 k x1 x2 x8 x9 x11 true x580000 x580001) else ((laws_eqStringS.f k x11 x8).bind fun t605 => (if t605 = true then (laws_FnExactOwnedBy.j1 k x1 x2 x8 x9 x11 (x12 != x9) x580000 x580001) else (laws_FnExactOwnedBy.j1 k x1 x2 x8 x9 x11 true x580000 x580001))))) else (some false))))
def laws_FnExactOwnedBy.j1 : Nat → Int → Int → List ByteArray → Bool → List ByteArray → Bool → List (S82) → Int → Option (Bool)
 | 0, _, _, _, _, _, _, _, _ => none
 | k + 1, x1, x2, x8, x9, x11, x69, x580000, x580001 => if x69 = true then (some false) else ((laws_markStringS.f k x11 1).bind fun bt606 => ((laws_heldStringS.f k bt606.2 1).bind fun t608 => (if t608 < 0 then (some false) else (if t608 = bt606.1 then ((laws_toFs.f k x580000 x580001).bind fun bt609 => ((impl_OwnedBy.f k bt609.1 bt609.2 x1 x2).bind fun bt613 => ((laws_eqStringS.f k bt613.1 x8).bind fun t617 => (if t617 = true then (laws_FnExactOwnedBy.j2 k bt606.2 bt606.1 (bt613.2 != x9)) else (laws_FnExactOwnedBy.j2 k bt606.2 bt606.1 true))))) else (some false)))))
def laws_FnExactOwnedBy.j2 : Nat → List ByteArray → Int → Bool → Option (Bool)
 | 0, _, _, _ => none
 | k + 1, x11, x14, x97 => if x97 = true then (some false) else ((laws_heldStringS.f k x11 1).bind fun t618 => (if t618 < 0 then (some false) else (if t618 = x14 then (some true) else (some false))))
end
def laws_FnExactOwnedBy.f (k : Nat) (l0_0 : List (S82)) (a0_1 : Int) (a1 : Int) (a2 : Int) : Option (Bool) := (laws_szFs.f k l0_0 a0_1 1048576).bind fun t580 => (if t580 < 0 then (some true) else ((laws_toFs.f k l0_0 a0_1).bind fun bt581 => ((spec_OwnedBy.f k bt581.1 bt581.2 a1 a2).bind fun bt585 => ((laws_toFs.f k l0_0 a0_1).bind fun bt589 => ((impl_OwnedBy.f k bt589.1 bt589.2 a1 a2).bind fun bt594 => ((laws_eqStringS.f k bt594.1 bt585.1).bind fun t598 => (if t598 = true then (laws_FnExactOwnedBy.j0 k a1 a2 bt585.1 bt585.2 bt594.1 bt594.2 (bt594.2 != bt585.2) l0_0 a0_1 bt589.1 bt589.2) else (laws_FnExactOwnedBy.j0 k a1 a2 bt585.1 bt585.2 bt594.1 bt594.2 true l0_0 a0_1 bt589.1 bt589.2))))))))
theorem laws_FnExactOwnedBy.calls (k : Nat) (A0_0 : Option Addr) (c0_0 : Nat) (l0_0 : List (S82)) (a0_1 : Int) (a1 : Int) (a2 : Int) (r : Bool) (w : World) (hr0_0 : Kd.C k82 w A0_0 l0_0.length l0_0) (hc0_0 : l0_0.length ≤ c0_0) (h : laws_FnExactOwnedBy.f k l0_0 a0_1 a1 a2 = some r) :
  Calls Tryd.prog 12 #[.agg #[.slice A0_0 l0_0.length c0_0, .int .i64 a0_1], .int .i64 a1, .int .i64 a2] w fun e w' => e = .returned (.bool r) ∧ Below w.heap.size w w' := by
 have hu24 := Tryd.underlying24
 have hu29 := Tryd.underlying29
 have HR0_0 := Aside0.mk hr0_0
 have HC0_0 := Aside0.mk hc0_0
 clear hr0_0 hc0_0
 have HB := Aside0.mk (Below.refl w.heap.size w)
 have H : ((laws_szFs.f k l0_0 a0_1 1048576).bind fun t580 => (if t580 < 0 then (some true) else ((laws_toFs.f k l0_0 a0_1).bind fun bt581 => ((spec_OwnedBy.f k bt581.1 bt581.2 a1 a2).bind fun bt585 => ((laws_toFs.f k l0_0 a0_1).bind fun bt589 => ((impl_OwnedBy.f k bt589.1 bt589.2 a1 a2).bind fun bt594 => ((laws_eqStringS.f k bt594.1 bt585.1).bind fun t598 => (if t598 = true then (laws_FnExactOwnedBy.j0 k a1 a2 bt585.1 bt585.2 bt594.1 bt594.2 (bt594.2 != bt585.2) l0_0 a0_1 bt589.1 bt589.2) else (laws_FnExactOwnedBy.j0 k a1 a2 bt585.1 bt585.2 bt594.1 bt594.2 true l0_0 a0_1 bt589.1 bt589.2))))))))) = some r := h
 clear h
 obtain ⟨t580, A4, H⟩ := bS H
 try dsimp only at H
 by_cases c5 : t580 < 0
 ·rw [if_pos c5] at H
  have c5b0 := decide_eq_true c5
  clear c5
  obtain rfl := Option.some.inj H
  go_enter Tryd.func12, Tryd.ntmps12
  go_wp2_with (first | ((with_reducible refine gd 3 rfl ?_); refine bxE 3 #[.slice A0_0 l0_0.length c0_0, .int .i64 a0_1] 24 ?_; intro gb579 hg w6 hbox hb; have BK579 := Aside0.mk hbox; have GW579 := nGB hg; have GE579 := nGB hg; replace HB := nSB hb; clear hb hbox hg; have hcz7 := cb2 BK579) | ((with_reducible refine gt 13 rfl ?_); refine gL 13 20 Tryd.func13 #[.agg #[.slice A0_0 l0_0.length c0_0, .int .i64 a0_1], .int .i64 1048576] ?_; (with_reducible refine (laws_szFs.calls k _ _ l0_0 a0_1 1048576 t580 _ ?side1 ?side2 A4.out).mono ?_); (case side1 => exact sD (Kd.C_below HR0_0.out HB.out)); (case side2 => exact HC0_0.out); rintro e w8 ⟨rfl, hb⟩; refine ⟨_, rfl, ?_⟩; replace BK579 := nK BK579 hb; replace HB := nSC hb; try clear hb))
  go_ret
  exact ⟨sE, sC⟩
 ·rw [if_neg c5] at H
  have c5b0 := decide_eq_false c5
  clear c5
  obtain ⟨⟨t581, t584⟩, A9, H⟩ := bS H
  try dsimp only at H
  obtain ⟨⟨t585, t588⟩, A10, H⟩ := bS H
  try dsimp only at H
  obtain ⟨⟨t589, t592⟩, A11, H⟩ := bS H
  try dsimp only at H
  obtain ⟨⟨t594, t597⟩, A12, H⟩ := bS H
  try dsimp only at H
  have HC13 := Aside0.mk H
  clear H
  go_enter Tryd.func12, Tryd.ntmps12
  go_upto_region 8 with (first | ((with_reducible refine gd 3 rfl ?_); refine bxE 3 #[.slice A0_0 l0_0.length c0_0, .int .i64 a0_1] 24 ?_; intro gb579 hg w14 hbox hb; have BK579 := Aside0.mk hbox; have GW579 := nGB hg; have GE579 := nGB hg; replace HB := nSB hb; clear hb hbox hg; have hcz15 := cb2 BK579) | ((with_reducible refine gt 13 rfl ?_); refine gL 13 20 Tryd.func13 #[.agg #[.slice A0_0 l0_0.length c0_0, .int .i64 a0_1], .int .i64 1048576] ?_; (with_reducible refine (laws_szFs.calls k _ _ l0_0 a0_1 1048576 t580 _ ?side1 ?side2 A4.out).mono ?_); (case side1 => exact sD (Kd.C_below HR0_0.out HB.out)); (case side2 => exact HC0_0.out); rintro e w16 ⟨rfl, hb⟩; refine ⟨_, rfl, ?_⟩; replace BK579 := nK BK579 hb; replace HB := nSC hb; try clear hb; have hcz17 := cb2 BK579) | ((with_reducible refine gt 15 rfl ?_); refine gL 15 25 Tryd.func15 #[.agg #[.slice A0_0 l0_0.length c0_0, .int .i64 a0_1]] ?_; (with_reducible refine (laws_toFs.calls k _ _ l0_0 a0_1 t581 t584 _ ?side1 ?side2 A9.out).mono ?_); (case side1 => exact sD (Kd.C_below HR0_0.out HB.out)); (case side2 => exact HC0_0.out); rintro e w18 ⟨v582, rfl, ho0, hb⟩; refine ⟨_, rfl, ?_⟩; have HO583 := Aside0.mk (Kd.S_lower ho0 (below_size sC)); replace BK579 := nK BK579 hb; replace HB := nSC hb; try clear hb; (try clear ho0); obtain ⟨Ao19, co19, eo19⟩ := Kd.S_slice HO583.out; subst eo19) | ((with_reducible refine gt 38 rfl ?_); refine gL 38 28 Tryd.func38 #[.agg #[.slice Ao19 t581.length co19, .int .i64 t584], .int .i64 a1, .int .i64 a2] ?_; (with_reducible refine (spec_OwnedBy.calls k _ _ t581 t584 a1 a2 t585 t588 _ ?side1 ?side2 A10.out).mono ?_); (case side1 => exact sD (Kd.S_reads' HO583.out).2.2); (case side2 => exact (Kd.S_reads' HO583.out).2.1); rintro e w20 ⟨v586, rfl, ho0, hb⟩; refine ⟨_, rfl, ?_⟩; replace HO583 := nS HO583 hb; have HO587 := Aside0.mk (Kd.R_lower ho0 (below_size sC)); replace BK579 := nK BK579 hb; replace HB := nSC hb; try clear hb; (try clear ho0); have hcz21 := cb2 BK579) | ((with_reducible refine gt 15 rfl ?_); refine gL 15 32 Tryd.func15 #[.agg #[.slice A0_0 l0_0.length c0_0, .int .i64 a0_1]] ?_; (with_reducible refine (laws_toFs.calls k _ _ l0_0 a0_1 t589 t592 _ ?side1 ?side2 A11.out).mono ?_); (case side1 => exact sD (Kd.C_below HR0_0.out HB.out)); (case side2 => exact HC0_0.out); rintro e w22 ⟨v590, rfl, ho0, hb⟩; refine ⟨_, rfl, ?_⟩; replace HO587 := nR HO587 hb; have HO591 := Aside0.mk (Kd.S_lower (Kd.S_new' ho0 (Kd.S_lt (by (with_reducible repeat (first | apply Kd.S_alloc | apply Kd.S_drewN | apply Kd.S_drew)); exact HO583.out))) (below_size sC)); replace HO583 := Aside0.mk (Kd.S_elder' (by (with_reducible repeat (first | apply Kd.S_alloc | apply Kd.S_drewN | apply Kd.S_drew)); exact HO583.out) (Kd.S_base ho0) hb); replace BK579 := nK BK579 hb; replace HB := nSC hb; try clear hb; (try clear ho0)) | ((with_reducible refine gd 10 rfl ?_); refine bxE 10 #[.slice none 0 0, .int .i64 0] 29 ?_; intro gb593 hg w23 hbox hb; replace HO583 := nS HO583 hb; replace HO587 := nR HO587 hb; replace HO591 := nS HO591 hb; have BK593 := Aside0.mk hbox; have GW593 := nGC hg; have GE593 := nGC hg; replace HB := nSC hb; have NB579_593 := nL BK579 hg; have NB593_579 := nH BK579 hg; replace BK579 := nK BK579 hb; clear hb hbox hg; obtain ⟨Ao24, co24, eo24⟩ := Kd.S_slice HO591.out; subst eo24; have hnb25 := NB593_579.out; have hnc25 := NB579_593.out; have hcz26 := cb2 BK593) | ((with_reducible refine gt 39 rfl ?_); refine gL 39 37 Tryd.func39 #[.agg #[.slice Ao24 t589.length co24, .int .i64 t592], .int .i64 a1, .int .i64 a2] ?_; (with_reducible refine (impl_OwnedBy.calls k _ _ t589 t592 a1 a2 t594 t597 _ ?side1 ?side2 A12.out).mono ?_); (case side1 => refine (Kd.S_reads' (e := 53) (base := w.heap.size) (ok := fun k_ => (True ∧ some k_ ≠ (.slice Ao19 t581.length co19 : Value).ownBlock)) (n := t589.length) (c := co24) ?_).2.2; exact (by (with_reducible repeat (first | apply Kd.S_alloc | apply Kd.S_drewN | apply Kd.S_drew)); exact (Kd.S_mono (Kd.S_far (p := ⟨gb593, 1, none⟩) (Kd.S_far (p := ⟨gb593, 0, none⟩) (Kd.S_types HO591.out BK593.out (by decide)) (fun _ hk => hk.2) (.slice Ao24 t589.length co24)) (fun _ hk => hk.2) (.int .i64 t592)) (fun _ h_ => h_.1)))); (case side2 => exact (Kd.S_reads' HO591.out).2.1); rintro e w27 ⟨v595, rfl, ho0, hb⟩; refine ⟨_, rfl, ?_⟩; replace HO583 := nSf HO583 BK593 hb; replace HO591 := nSf HO591 BK593 hb; have HO596 := Aside0.mk (Kd.R_lower (Kd.R_new' ho0 (Kd.R_lt (by (with_reducible repeat (first | apply Kd.R_alloc | apply Kd.R_drewN | apply Kd.R_drew)); exact (Kd.R_mono (Kd.R_far (p := ⟨gb593, 1, none⟩) (Kd.R_far (p := ⟨gb593, 0, none⟩) (Kd.R_types HO587.out BK593.out (by decide)) (fun _ hk => hk.2) (.slice Ao24 t589.length co24)) (fun _ hk => hk.2) (.int .i64 t592)) (fun _ h_ => h_.1))))) (below_size sC)); replace HO587 := Aside0.mk (Kd.R_elder' (by (with_reducible repeat (first | apply Kd.R_alloc | apply Kd.R_drewN | apply Kd.R_drew)); exact (Kd.R_mono (Kd.R_far (p := ⟨gb593, 1, none⟩) (Kd.R_far (p := ⟨gb593, 0, none⟩) (Kd.R_types HO587.out BK593.out (by decide)) (fun _ hk => hk.2) (.slice Ao24 t589.length co24)) (fun _ hk => hk.2) (.int .i64 t592)) (fun _ h_ => h_.1))) (Kd.R_base ho0) hb); replace BK579 := nF BK579 hb; replace BK593 := nX #[.slice Ao24 t589.length co24, .int .i64 t592] BK593 hb; replace HB := nSC hb; try clear hb; (try clear ho0)))
  (try simp only [Act.put, List.setIfInBounds_toArray, List.set_cons_zero, List.set_cons_succ])
  go_cut [48] (fun v48 wc => ∃ (kq : Nat) (x48_12 : Bool), v48 = .bool x48_12 ∧ Aside0 (laws_FnExactOwnedBy.j0 kq a1 a2 t585 t588 t594 t597 x48_12 l0_0 a0_1 t589 t592 = some r) ∧ Aside0 (kq ≤ k) ∧ Aside0 (Kd.R Kd.string 9 wc w.heap.size (fun k_ => some k_ ≠ (v595 : Value).ownBlock) v586 t585) ∧ Aside0 (Kd.R Kd.string 9 wc w.heap.size (fun k_ => some k_ ≠ (v586 : Value).ownBlock) v595 t594) ∧ Aside0 (Kd.S k53 53 wc w.heap.size (fun _ => True) (.slice Ao24 t589.length co24) t589) ∧ Aside0 (wc.heap[gb579]? = some (.cells #[(.slice A0_0 l0_0.length c0_0), .int .i64 a0_1] 24 (0, 0))) ∧ Aside0 (wc.heap[gb593]? = some (.cells #[(.slice Ao24 t589.length co24), .int .i64 t592] 29 (0, 0))) ∧ Aside0 (Below w.heap.size w wc))
  case first =>
   have H := HC13.out
   clear HC13
   obtain ⟨t598, A28, H⟩ := bS H
   try dsimp only at H
   by_cases c29 : t598 = true
   ·subst c29
    rw [if_pos rfl] at H
    have H' := Aside0.mk H
    clear H
    obtain ⟨Ao30, co30, eo30⟩ := Kd.R_slice HO596.out
    subst eo30
    obtain ⟨Ao31, co31, eo31⟩ := Kd.R_slice HO587.out
    subst eo31
    go_wp2_with (first | ((with_reducible refine gt 32 rfl ?_); refine gL 32 42 Tryd.func32 #[.slice Ao30 t594.length co30, .slice Ao31 t585.length co31] ?_; (with_reducible refine (laws_eqStringS.calls k _ _ t594 _ _ t585 true _ ?side1 ?side2 ?side3 ?side4 A28.out).mono ?_); (case side1 => exact sD (Kd.R_reads' HO596.out).2.2); (case side2 => exact (Kd.R_reads' HO596.out).2.1); (case side3 => exact sD (Kd.R_reads' HO587.out).2.2); (case side4 => exact (Kd.R_reads' HO587.out).2.1); rintro e w' ⟨rfl, ⟨nd, rfl⟩⟩; refine ⟨_, rfl, ?_⟩))
    go_meet
    case rel => exact ⟨_, ((t597 != t588)), sR, H', ⟨by first | omega | exact Nat.le_refl _⟩, ⟨by (with_reducible repeat (first | apply Kd.R_alloc | apply Kd.R_drewN | apply Kd.R_drew)); exact Kd.R_mono HO587.out (fun _ hk => hk.2)⟩, ⟨by (with_reducible repeat (first | apply Kd.R_alloc | apply Kd.R_drewN | apply Kd.R_drew)); exact Kd.R_mono HO596.out (fun _ hk => hk.2)⟩, ⟨by (with_reducible repeat (first | apply Kd.S_alloc | apply Kd.S_drewN | apply Kd.S_drew)); exact Kd.S_mono HO591.out (fun _ hk => trivial)⟩, ⟨sK BK579⟩, ⟨sK BK593⟩, ⟨sC⟩⟩
   ·replace c29 := Bool.eq_false_iff.mpr c29
    subst c29
    rw [if_neg (show ¬ (false = true) by decide)] at H
    have H' := Aside0.mk H
    clear H
    obtain ⟨Ao32, co32, eo32⟩ := Kd.R_slice HO596.out
    subst eo32
    obtain ⟨Ao33, co33, eo33⟩ := Kd.R_slice HO587.out
    subst eo33
    go_wp2_with (first | ((with_reducible refine gt 32 rfl ?_); refine gL 32 42 Tryd.func32 #[.slice Ao32 t594.length co32, .slice Ao33 t585.length co33] ?_; (with_reducible refine (laws_eqStringS.calls k _ _ t594 _ _ t585 false _ ?side1 ?side2 ?side3 ?side4 A28.out).mono ?_); (case side1 => exact sD (Kd.R_reads' HO596.out).2.2); (case side2 => exact (Kd.R_reads' HO596.out).2.1); (case side3 => exact sD (Kd.R_reads' HO587.out).2.2); (case side4 => exact (Kd.R_reads' HO587.out).2.1); rintro e w' ⟨rfl, ⟨nd, rfl⟩⟩; refine ⟨_, rfl, ?_⟩))
    go_meet
    case rel => exact ⟨_, (true), sR, H', ⟨by first | omega | exact Nat.le_refl _⟩, ⟨by (with_reducible repeat (first | apply Kd.R_alloc | apply Kd.R_drewN | apply Kd.R_drew)); exact Kd.R_mono HO587.out (fun _ hk => hk.2)⟩, ⟨by (with_reducible repeat (first | apply Kd.R_alloc | apply Kd.R_drewN | apply Kd.R_drew)); exact Kd.R_mono HO596.out (fun _ hk => hk.2)⟩, ⟨by (with_reducible repeat (first | apply Kd.S_alloc | apply Kd.S_drewN | apply Kd.S_drew)); exact Kd.S_mono HO591.out (fun _ hk => trivial)⟩, ⟨sK BK579⟩, ⟨sK BK593⟩, ⟨sC⟩⟩
  case rest =>
   clear HC13
   try clear c1
   try clear c2
   try clear p2
   try clear c3
   try clear c5
   try clear c5b0
   try clear c12
   try clear c13
   try clear c15
   try clear c25
   try clear c29
   try clear c32
   try clear hcz15
   try clear hcz17
   try clear hcz21
   try clear hcz26
   try clear hcz7
   obtain ⟨kq, x48_12, rfl, HA, HJ12, HO_8, HO_11, HO_594000, BK579, BK593, HB⟩ := hcut
   cases kq with
   | zero => exact absurd HA.out (by simp [laws_FnExactOwnedBy.j0])
   | succ kj12 =>
    have H := HA.out
    clear HA
    simp only [laws_FnExactOwnedBy.j0] at H
    by_cases c34 : x48_12 = true
    ·subst c34
     rw [if_pos rfl] at H
     obtain rfl := Option.some.inj H
     go_wp2
     go_ret
     exact ⟨sE, sC⟩
    ·replace c34 := Bool.eq_false_iff.mpr c34
     subst c34
     rw [if_neg (show ¬ (false = true) by decide)] at H
     obtain ⟨⟨t599, t602⟩, A35, H⟩ := bS H
     try dsimp only at H
     obtain ⟨t603, A36, H⟩ := bS H
     try dsimp only at H
     by_cases c37 : t603 = true
     ·subst c37
      rw [if_pos rfl] at H
      obtain ⟨t604, A38, H⟩ := bS H
      try dsimp only at H
      have HC39 := Aside0.mk H
      clear H
      try go_wp2
      have n0_ := Aside0.mk (Kd.R_drew HO_8.out)
      have n1_ := Aside0.mk (Kd.R_drew HO_11.out)
      have n2_ := Aside0.mk (Kd.S_drew HO_594000.out)
      have n3_ := Aside0.mk (blk_drew BK579.out)
      have n4_ := Aside0.mk (blk_drew BK593.out)
      have n5_ := Aside0.mk (below_drew1 HB.out)
      clear HO_8
      clear HO_11
      clear HO_594000
      clear BK579
      clear BK593
      clear HB
      have HO_8 := n0_
      have HO_11 := n1_
      have HO_594000 := n2_
      have BK579 := n3_
      have BK593 := n4_
      have HB := n5_
      clear n0_ n1_ n2_ n3_ n4_ n5_
      refine st4 5 [] (cz0 BK593) (cz1 BK593) (cz0 BK579) (cz1 BK579) (fun hHeld => ?_)
      generalize wc.drew = w40 at HO_8 HO_11 HO_594000 BK579 BK593 HB hHeld ⊢
      refine tk4 0 49 ?_
      refine tk4 1 50 ?_
      refine on 2 51 (fun K hK => ?_)
      refine gC Tryd.func15 #[.agg #[.slice A0_0 l0_0.length c0_0, .int .i64 a0_1]] ?_
      with_reducible refine (laws_toFs.calls kj12 _ _ l0_0 a0_1 t599 t602 _ ?side1 ?side2 A35.out).mono ?_
      (case side1 => exact sD (Kd.C_below HR0_0.out HB.out))
      (case side2 => exact HC0_0.out)
      rintro e w41 ⟨v600, rfl, ho0, hb⟩
      refine ⟨_, rfl, ?_⟩
      have n0_ := nR HO_8 hb
      have n1_ := nR HO_11 hb
      have n2_ := Aside0.mk (Kd.S_elder' (by (with_reducible repeat (first | apply Kd.S_alloc | apply Kd.S_drewN | apply Kd.S_drew)); exact HO_594000.out) (Kd.S_base ho0) hb)
      have n3_ := Aside0.mk (Kd.S_lower (Kd.S_new' ho0 (Kd.S_lt (by (with_reducible repeat (first | apply Kd.S_alloc | apply Kd.S_drewN | apply Kd.S_drew)); exact HO_594000.out))) (below_size sC))
      have n4_ := nK BK579 hb
      have n5_ := nK BK593 hb
      have n6_ := nSC hb
      clear HO_8
      clear HO_11
      clear HO_594000
      clear BK579
      clear BK593
      clear HB
      have HO_8 := n0_
      have HO_11 := n1_
      have HO_594000 := n2_
      have HO601 := n3_
      have BK579 := n4_
      have BK593 := n5_
      have HB := n6_
      clear n0_ n1_ n2_ n3_ n4_ n5_ n6_
      (try clear hb)
      (try clear hb2)
      (try clear hk)
      (try clear hi)
      (try clear ho0)
      obtain ⟨Ao42, co42, eo42⟩ := Kd.S_slice HO601.out
      (first | subst eo42 | (injection eo42 with f1_ f2_ f3_; have f4_ := f1_.symm; have f5_ := f3_.symm; clear f1_ f2_ f3_; subst f4_; subst f5_))
      refine hK.out _ _ ⟨cz0 BK593, cz1 BK593, cz0 BK579, cz1 BK579⟩ (fun hHeld => ?_)
      clear hK K
      refine nm ?_
      refine on 3 52 (fun K hK => ?_)
      refine gC Tryd.func17 #[.agg #[.slice Ao24 t589.length co24, .int .i64 t592], .agg #[.slice Ao42 t599.length co42, .int .i64 t602]] ?_
      with_reducible refine (laws_eqFs.calls kj12 _ _ t589 t592 _ _ t599 t602 true _ ?side1 ?side2 ?side3 ?side4 A36.out).mono ?_
      (case side1 => exact sD (Kd.S_reads' HO_594000.out).2.2)
      (case side2 => exact (Kd.S_reads' HO_594000.out).2.1)
      (case side3 => exact sD (Kd.S_reads' HO601.out).2.2)
      (case side4 => exact (Kd.S_reads' HO601.out).2.1)
      rintro e w43 ⟨rfl, hb⟩
      refine ⟨_, rfl, ?_⟩
      have n0_ := nR HO_8 hb
      have n1_ := nR HO_11 hb
      have n2_ := nS HO_594000 hb
      have n3_ := nS HO601 hb
      have n4_ := nK BK579 hb
      have n5_ := nK BK593 hb
      have n6_ := nSC hb
      clear HO_8
      clear HO_11
      clear HO_594000
      clear HO601
      clear BK579
      clear BK593
      clear HB
      have HO_8 := n0_
      have HO_11 := n1_
      have HO_594000 := n2_
      have HO601 := n3_
      have BK579 := n4_
      have BK593 := n5_
      have HB := n6_
      clear n0_ n1_ n2_ n3_ n4_ n5_ n6_
      (try clear hb)
      (try clear hb2)
      (try clear hk)
      (try clear hi)
      refine hK.out _ _ ⟨cz0 BK593, cz1 BK593, cz0 BK579, cz1 BK579⟩ (fun hHeld => ?_)
      clear hK K
      refine nm ?_
      refine pu 4 53 ?_
      refine dn ?_
      have hnb44 := NB593_579.out
      have hnc44 := NB579_593.out
      have hcz45 := cb2 BK593
      go_upto_region 14 with (first | ((with_reducible refine gt 33 rfl ?_); refine gL 33 56 Tryd.func33 #[.agg #[.slice Ao24 t589.length co24, .int .i64 t592], .int .i64 1] ?_; have hz_ : w.heap.size ≤ _ := below_size sC; (with_reducible refine (laws_markFs.marks kj12 _ _ t589 t592 1 t604 w.heap.size _ ?side1 ?side2 A38.out).mono ?_); (case side1 => exact hz_); (case side2 => exact Nod.of_S (by (with_reducible repeat (first | apply Kd.S_alloc | apply Kd.S_drewN | apply Kd.S_drew)); exact HO_594000.out)); rintro e w46 ⟨rfl, hm⟩; refine ⟨_, rfl, ?_⟩; clear hz_; replace HO_8 := Aside0.mk (hm.R (by (with_reducible repeat (first | apply Kd.R_alloc | apply Kd.R_drewN | apply Kd.R_drew)); exact HO_8.out)); replace HO_11 := Aside0.mk (hm.R (by (with_reducible repeat (first | apply Kd.R_alloc | apply Kd.R_drewN | apply Kd.R_drew)); exact HO_11.out)); replace BK579 := Aside0.mk (hm.blk (sK BK579)); replace BK593 := Aside0.mk (hm.blk (sK BK593)); replace HB := Aside0.mk (Below.trans sC hm.below); clear HO_594000; clear HO601; clear hm; try clear hb))
      (try simp only [Act.put, List.setIfInBounds_toArray, List.set_cons_zero, List.set_cons_succ])
      go_cut [69] (fun v69 wc => ∃ (kq : Nat) (x69_38 : Bool), v69 = .bool x69_38 ∧ Aside0 (laws_FnExactOwnedBy.j1 kq a1 a2 t585 t588 t594 x69_38 l0_0 a0_1 = some r) ∧ Aside0 (kq ≤ kj12) ∧ Aside0 (Kd.R Kd.string 9 wc w.heap.size (fun k_ => some k_ ≠ (v595 : Value).ownBlock) v586 t585) ∧ Aside0 (Kd.R Kd.string 9 wc w.heap.size (fun k_ => some k_ ≠ (v586 : Value).ownBlock) v595 t594) ∧ Aside0 (wc.heap[gb579]? = some (.cells #[(.slice A0_0 l0_0.length c0_0), .int .i64 a0_1] 24 (0, 0))) ∧ Aside0 (wc.heap[gb593]? = some (.cells #[(.slice Ao24 t589.length co24), .int .i64 t592] 29 (0, 0))) ∧ Aside0 (Below w.heap.size w wc))
      case first =>
       have H := HC39.out
       clear HC39
       by_cases c47 : t604 < 0
       ·rw [if_pos c47] at H
        have c47b0 := decide_eq_true c47
        clear c47
        (first | rw [c47b0] | (simp only [i64_w, i32_w]; rw [c47b0]) | skip)
        have H' := Aside0.mk H
        clear H
        go_wp2
        go_meet
        case rel => exact ⟨_, (true), sR, H', ⟨by have := HJ12.out; first | omega | exact Nat.le_refl _⟩, ⟨rR HO_8⟩, ⟨rR HO_11⟩, ⟨sK BK579⟩, ⟨sK BK593⟩, ⟨sC⟩⟩
       ·rw [if_neg c47] at H
        have c47b0 := decide_eq_false c47
        clear c47
        (first | rw [c47b0] | (simp only [i64_w, i32_w]; rw [c47b0]) | skip)
        obtain ⟨t605, A48, H⟩ := bS H
        try dsimp only at H
        by_cases c49 : t605 = true
        ·subst c49
         rw [if_pos rfl] at H
         have H' := Aside0.mk H
         clear H
         obtain ⟨Ao50, co50, eo50⟩ := Kd.R_slice HO_11.out
         subst eo50
         obtain ⟨Ao51, co51, eo51⟩ := Kd.R_slice HO_8.out
         subst eo51
         go_wp2_with (first | (go_at_call 32; (with_reducible refine (laws_eqStringS.calls kj12 _ _ t594 _ _ t585 true _ ?side1 ?side2 ?side3 ?side4 A48.out).mono ?_); (case side1 => exact sD (Kd.R_reads' HO_11.out).2.2); (case side2 => exact (Kd.R_reads' HO_11.out).2.1); (case side3 => exact sD (Kd.R_reads' HO_8.out).2.2); (case side4 => exact (Kd.R_reads' HO_8.out).2.1); rintro e w' ⟨rfl, ⟨nd, rfl⟩⟩))
         go_meet
         case rel => exact ⟨_, ((t597 != t588)), sR, H', ⟨by have := HJ12.out; first | omega | exact Nat.le_refl _⟩, ⟨rR HO_8⟩, ⟨rR HO_11⟩, ⟨sK BK579⟩, ⟨sK BK593⟩, ⟨sC⟩⟩
        ·replace c49 := Bool.eq_false_iff.mpr c49
         subst c49
         rw [if_neg (show ¬ (false = true) by decide)] at H
         have H' := Aside0.mk H
         clear H
         obtain ⟨Ao52, co52, eo52⟩ := Kd.R_slice HO_11.out
         subst eo52
         obtain ⟨Ao53, co53, eo53⟩ := Kd.R_slice HO_8.out
         subst eo53
         go_wp2_with (first | (go_at_call 32; (with_reducible refine (laws_eqStringS.calls kj12 _ _ t594 _ _ t585 false _ ?side1 ?side2 ?side3 ?side4 A48.out).mono ?_); (case side1 => exact sD (Kd.R_reads' HO_11.out).2.2); (case side2 => exact (Kd.R_reads' HO_11.out).2.1); (case side3 => exact sD (Kd.R_reads' HO_8.out).2.2); (case side4 => exact (Kd.R_reads' HO_8.out).2.1); rintro e w' ⟨rfl, ⟨nd, rfl⟩⟩))
         go_meet
         case rel => exact ⟨_, (true), sR, H', ⟨by have := HJ12.out; first | omega | exact Nat.le_refl _⟩, ⟨rR HO_8⟩, ⟨rR HO_11⟩, ⟨sK BK579⟩, ⟨sK BK593⟩, ⟨sC⟩⟩
      case rest =>
       clear HC39
       try clear c1
       try clear c2
       try clear p2
       try clear c3
       try clear c4
       try clear c5
       try clear c5b0
       try clear c12
       try clear c13
       try clear c15
       try clear c17
       try clear c25
       try clear c29
       try clear c32
       try clear c33
       try clear c34
       try clear c37
       try clear c38
       try clear c39
       try clear c44
       try clear c47
       try clear c47b0
       try clear c49
       try clear hcz15
       try clear hcz17
       try clear hcz21
       try clear hcz26
       try clear hcz45
       try clear hcz7
       try clear p2
       obtain ⟨kq, x69_38, rfl, HA, HJ38, HO_8, HO_11, BK579, BK593, HB⟩ := hcut
       cases kq with
       | zero => exact absurd HA.out (by simp [laws_FnExactOwnedBy.j1])
       | succ kj38 =>
        have H := HA.out
        clear HA
        simp only [laws_FnExactOwnedBy.j1] at H
        by_cases c54 : x69_38 = true
        ·subst c54
         rw [if_pos rfl] at H
         obtain rfl := Option.some.inj H
         go_wp2
         go_ret
         exact ⟨sE, sC⟩
        ·replace c54 := Bool.eq_false_iff.mpr c54
         subst c54
         rw [if_neg (show ¬ (false = true) by decide)] at H
         obtain ⟨⟨t606, t607⟩, A55, H⟩ := bS H
         try dsimp only at H
         obtain ⟨t608, A56, H⟩ := bS H
         try dsimp only at H
         by_cases c57 : t608 < 0
         ·rw [if_pos c57] at H
          have c57b0 := decide_eq_true c57
          clear c57
          obtain rfl := Option.some.inj H
          obtain ⟨Ao58, co58, eo58⟩ := Kd.R_slice HO_11.out
          subst eo58
          go_wp2_with (first | ((with_reducible refine gt 34 rfl ?_); refine gL 34 72 Tryd.func34 #[.slice Ao58 t594.length co58, .int .i64 1] ?_; (with_reducible refine (laws_markStringS.calls kj38 (fun k_ => some k_ = (.slice Ao58 t594.length co58 : Value).ownBlock) (.slice Ao58 t594.length co58) t594 1 t606 t607 w _ ?side1 ?side2 A55.out).mono ?_); (case side1 => repeat (first | (with_reducible first | exact HB.out | apply below_alloc | apply pw_below_drewN | apply below_drew1 | refine below_set ?_ GE579.out | refine below_set ?_ GE593.out) | exact HB.out)); (case side2 => exact Kd.R_tight rfl HO_11.out); rintro e w59 ⟨rfl, hy0, hb, hkp⟩; refine ⟨_, rfl, ?_⟩; replace HO_8 := Aside0.mk (Kd.R_mono (ok' := fun k_ => some k_ ≠ (.slice Ao58 t594.length co58 : Value).ownBlock) (Kd.R_keptB (HO_8.out) hkp (fun k_ hk_ hs_ => (hk_) hs_)) (fun k_ hk_ => hk_.1)); replace BK579 := Aside0.mk (blk_kept (sK BK579) hkp (fun hs_ => (fun e_ => (Kd.R_ne HO_11.out BK579.out (by decide)) e_) hs_)); replace BK593 := Aside0.mk (blk_kept (sK BK593) hkp (fun hs_ => (fun e_ => (Kd.R_ne HO_11.out BK593.out (by decide)) e_) hs_)); replace HO_11 := Aside0.mk (Kd.R_reok rfl hy0 (fun k_ e_ => HO_11.out.1 k_ e_)); replace HB := Aside0.mk (hb); (try clear hb); (try clear hkp); (try clear hy0)) | ((with_reducible refine gt 35 rfl ?_); refine goesL_ (some 75) rfl rfl Tryd.func35 (by kernel_rfl) rfl #[.slice Ao58 t607.length co58, .int .i64 1] rfl (by (try simp only [List.map_toArray, List.map_cons, List.map_nil]); first | done | (rw [show t607.length = t594.length from (Kd.R_reads' HO_11.out).1.symm] <;> rfl) | rfl | (simp only [List.length_drop, List.length_take]; rfl)) ?_; (with_reducible refine (laws_heldStringS.calls kj38 _ _ t607 1 t608 _ ?side1 ?side2 A56.out).mono ?_); (case side1 => exact sD (Kd.R_reads' HO_11.out).2.2); (case side2 => rw [show t607.length = t594.length from (Kd.R_reads' HO_11.out).1.symm]; exact (Kd.R_reads' HO_11.out).2.1); rintro e w60 ⟨rfl, hb⟩; refine ⟨_, rfl, ?_⟩; replace HO_8 := nR HO_8 hb; replace HO_11 := nR HO_11 hb; replace BK579 := nK BK579 hb; replace BK593 := nK BK593 hb; replace HB := nSC hb; try clear hb))
          go_ret
          exact ⟨sE, sC⟩
         ·rw [if_neg c57] at H
          have c57b0 := decide_eq_false c57
          clear c57
          by_cases c61 : t608 = t606
          ·rw [if_pos c61] at H
           have c61b0 := beq_iff_eq.mpr c61
           have c61b1 := bne_eq_false_iff_eq.mpr c61
           clear c61
           obtain ⟨⟨t609, t612⟩, A62, H⟩ := bS H
           try dsimp only at H
           obtain ⟨⟨t613, t616⟩, A63, H⟩ := bS H
           try dsimp only at H
           have HC64 := Aside0.mk H
           clear H
           obtain ⟨Ao65, co65, eo65⟩ := Kd.R_slice HO_11.out
           subst eo65
           go_upto_region 25 with (first | ((with_reducible refine gt 34 rfl ?_); refine gL 34 72 Tryd.func34 #[.slice Ao65 t594.length co65, .int .i64 1] ?_; (with_reducible refine (laws_markStringS.calls kj38 (fun k_ => some k_ = (.slice Ao65 t594.length co65 : Value).ownBlock) (.slice Ao65 t594.length co65) t594 1 t606 t607 w _ ?side1 ?side2 A55.out).mono ?_); (case side1 => repeat (first | (with_reducible first | exact HB.out | apply below_alloc | apply pw_below_drewN | apply below_drew1 | refine below_set ?_ GE579.out | refine below_set ?_ GE593.out) | exact HB.out)); (case side2 => exact Kd.R_tight rfl HO_11.out); rintro e w66 ⟨rfl, hy0, hb, hkp⟩; refine ⟨_, rfl, ?_⟩; replace HO_8 := Aside0.mk (Kd.R_mono (ok' := fun k_ => some k_ ≠ (.slice Ao65 t594.length co65 : Value).ownBlock) (Kd.R_keptB (HO_8.out) hkp (fun k_ hk_ hs_ => (hk_) hs_)) (fun k_ hk_ => hk_.1)); replace BK579 := Aside0.mk (blk_kept (sK BK579) hkp (fun hs_ => (fun e_ => (Kd.R_ne HO_11.out BK579.out (by decide)) e_) hs_)); replace BK593 := Aside0.mk (blk_kept (sK BK593) hkp (fun hs_ => (fun e_ => (Kd.R_ne HO_11.out BK593.out (by decide)) e_) hs_)); replace HO_11 := Aside0.mk (Kd.R_reok rfl hy0 (fun k_ e_ => HO_11.out.1 k_ e_)); replace HB := Aside0.mk (hb); (try clear hb); (try clear hkp); (try clear hy0)) | ((with_reducible refine gt 35 rfl ?_); refine goesL_ (some 75) rfl rfl Tryd.func35 (by kernel_rfl) rfl #[.slice Ao65 t607.length co65, .int .i64 1] rfl (by (try simp only [List.map_toArray, List.map_cons, List.map_nil]); first | done | (rw [show t607.length = t594.length from (Kd.R_reads' HO_11.out).1.symm] <;> rfl) | rfl | (simp only [List.length_drop, List.length_take]; rfl)) ?_; (with_reducible refine (laws_heldStringS.calls kj38 _ _ t607 1 t608 _ ?side1 ?side2 A56.out).mono ?_); (case side1 => exact sD (Kd.R_reads' HO_11.out).2.2); (case side2 => rw [show t607.length = t594.length from (Kd.R_reads' HO_11.out).1.symm]; exact (Kd.R_reads' HO_11.out).2.1); rintro e w67 ⟨rfl, hb⟩; refine ⟨_, rfl, ?_⟩; replace HO_8 := nR HO_8 hb; replace HO_11 := nR HO_11 hb; replace BK579 := nK BK579 hb; replace BK593 := nK BK593 hb; replace HB := nSC hb; try clear hb; have hnb68 := NB579_593.out; have hnc68 := NB593_579.out; have hcz69 := cb2 BK579) | ((with_reducible refine gt 15 rfl ?_); refine gL 15 83 Tryd.func15 #[.agg #[.slice A0_0 l0_0.length c0_0, .int .i64 a0_1]] ?_; (with_reducible refine (laws_toFs.calls kj38 _ _ l0_0 a0_1 t609 t612 _ ?side1 ?side2 A62.out).mono ?_); (case side1 => exact sD (Kd.C_below HR0_0.out HB.out)); (case side2 => exact HC0_0.out); rintro e w70 ⟨v610, rfl, ho0, hb⟩; refine ⟨_, rfl, ?_⟩; replace HO_8 := nR HO_8 hb; replace HO_11 := nR HO_11 hb; have HO611 := Aside0.mk (Kd.S_lower ho0 (below_size sC)); replace BK579 := nK BK579 hb; replace BK593 := nK BK593 hb; replace HB := nSC hb; try clear hb; (try clear ho0); obtain ⟨Ao71, co71, eo71⟩ := Kd.S_slice HO611.out; subst eo71) | ((with_reducible refine gt 39 rfl ?_); refine gL 39 86 Tryd.func39 #[.agg #[.slice Ao71 t609.length co71, .int .i64 t612], .int .i64 a1, .int .i64 a2] ?_; (with_reducible refine (impl_OwnedBy.calls kj38 _ _ t609 t612 a1 a2 t613 t616 _ ?side1 ?side2 A63.out).mono ?_); (case side1 => exact sD (Kd.S_reads' HO611.out).2.2); (case side2 => exact (Kd.S_reads' HO611.out).2.1); rintro e w72 ⟨v614, rfl, ho0, hb⟩; refine ⟨_, rfl, ?_⟩; replace HO611 := nS HO611 hb; have HO615 := Aside0.mk (Kd.R_lower (Kd.R_new' (Kd.R_new' ho0 (Kd.R_lt (by (with_reducible repeat (first | apply Kd.R_alloc | apply Kd.R_drewN | apply Kd.R_drew)); exact HO_8.out))) (Kd.R_lt (by (with_reducible repeat (first | apply Kd.R_alloc | apply Kd.R_drewN | apply Kd.R_drew)); exact HO_11.out))) (below_size sC)); replace HO_8 := Aside0.mk (Kd.R_elder' (by (with_reducible repeat (first | apply Kd.R_alloc | apply Kd.R_drewN | apply Kd.R_drew)); exact HO_8.out) (Kd.R_base ho0) hb); replace HO_11 := Aside0.mk (Kd.R_elder' (by (with_reducible repeat (first | apply Kd.R_alloc | apply Kd.R_drewN | apply Kd.R_drew)); exact HO_11.out) (Kd.R_base ho0) hb); replace BK579 := nK BK579 hb; replace BK593 := nK BK593 hb; replace HB := nSC hb; try clear hb; (try clear ho0)))
           (try simp only [Act.put, List.setIfInBounds_toArray, List.set_cons_zero, List.set_cons_succ])
           go_cut [97] (fun v97 wc => ∃ (kq : Nat) (x97_63 : Bool), v97 = .bool x97_63 ∧ Aside0 (laws_FnExactOwnedBy.j2 kq t607 t606 x97_63 = some r) ∧ Aside0 (kq ≤ kj38) ∧ Aside0 (Kd.R Kd.string 9 wc w.heap.size (fun _ => True) (.slice Ao65 t594.length co65) t607) ∧ Aside0 (wc.heap[gb579]? = some (.cells #[(.slice A0_0 l0_0.length c0_0), .int .i64 a0_1] 24 (0, 0))) ∧ Aside0 (wc.heap[gb593]? = some (.cells #[(.slice Ao24 t589.length co24), .int .i64 t592] 29 (0, 0))) ∧ Aside0 (Below w.heap.size w wc))
           case first =>
            have H := HC64.out
            clear HC64
            obtain ⟨t617, A73, H⟩ := bS H
            try dsimp only at H
            by_cases c74 : t617 = true
            ·subst c74
             rw [if_pos rfl] at H
             have H' := Aside0.mk H
             clear H
             obtain ⟨Ao75, co75, eo75⟩ := Kd.R_slice HO615.out
             subst eo75
             obtain ⟨Ao76, co76, eo76⟩ := Kd.R_slice HO_8.out
             subst eo76
             go_wp2_with (first | ((with_reducible refine gt 32 rfl ?_); refine gL 32 91 Tryd.func32 #[.slice Ao75 t613.length co75, .slice Ao76 t585.length co76] ?_; (with_reducible refine (laws_eqStringS.calls kj38 _ _ t613 _ _ t585 true _ ?side1 ?side2 ?side3 ?side4 A73.out).mono ?_); (case side1 => exact sD (Kd.R_reads' HO615.out).2.2); (case side2 => exact (Kd.R_reads' HO615.out).2.1); (case side3 => exact sD (Kd.R_reads' HO_8.out).2.2); (case side4 => exact (Kd.R_reads' HO_8.out).2.1); rintro e w' ⟨rfl, ⟨nd, rfl⟩⟩; refine ⟨_, rfl, ?_⟩))
             go_meet
             case rel => exact ⟨_, ((t616 != t588)), sR, H', ⟨by have := HJ12.out; have := HJ38.out; first | omega | exact Nat.le_refl _⟩, ⟨by (with_reducible repeat (first | apply Kd.R_alloc | apply Kd.R_drewN | apply Kd.R_drew)); exact Kd.R_mono HO_11.out (fun _ hk => trivial)⟩, ⟨sK BK579⟩, ⟨sK BK593⟩, ⟨sC⟩⟩
            ·replace c74 := Bool.eq_false_iff.mpr c74
             subst c74
             rw [if_neg (show ¬ (false = true) by decide)] at H
             have H' := Aside0.mk H
             clear H
             obtain ⟨Ao77, co77, eo77⟩ := Kd.R_slice HO615.out
             subst eo77
             obtain ⟨Ao78, co78, eo78⟩ := Kd.R_slice HO_8.out
             subst eo78
             go_wp2_with (first | ((with_reducible refine gt 32 rfl ?_); refine gL 32 91 Tryd.func32 #[.slice Ao77 t613.length co77, .slice Ao78 t585.length co78] ?_; (with_reducible refine (laws_eqStringS.calls kj38 _ _ t613 _ _ t585 false _ ?side1 ?side2 ?side3 ?side4 A73.out).mono ?_); (case side1 => exact sD (Kd.R_reads' HO615.out).2.2); (case side2 => exact (Kd.R_reads' HO615.out).2.1); (case side3 => exact sD (Kd.R_reads' HO_8.out).2.2); (case side4 => exact (Kd.R_reads' HO_8.out).2.1); rintro e w' ⟨rfl, ⟨nd, rfl⟩⟩; refine ⟨_, rfl, ?_⟩))
             go_meet
             case rel => exact ⟨_, (true), sR, H', ⟨by have := HJ12.out; have := HJ38.out; first | omega | exact Nat.le_refl _⟩, ⟨by (with_reducible repeat (first | apply Kd.R_alloc | apply Kd.R_drewN | apply Kd.R_drew)); exact Kd.R_mono HO_11.out (fun _ hk => trivial)⟩, ⟨sK BK579⟩, ⟨sK BK593⟩, ⟨sC⟩⟩
           case rest =>
            clear HC64
            try clear c1
            try clear c2
            try clear p2
            try clear c3
            try clear c4
            try clear c5
            try clear c5b0
            try clear c6
            try clear c7
            try clear c12
            try clear c13
            try clear c15
            try clear c17
            try clear c25
            try clear c29
            try clear c32
            try clear c33
            try clear c34
            try clear c35
            try clear c37
            try clear c38
            try clear c39
            try clear c44
            try clear c47
            try clear c47b0
            try clear c49
            try clear c54
            try clear c57
            try clear c57b0
            try clear c61
            try clear c61b0
            try clear c61b1
            try clear c68
            try clear c74
            try clear hcz15
            try clear hcz17
            try clear hcz21
            try clear hcz26
            try clear hcz45
            try clear hcz69
            try clear hcz7
            try clear p2
            obtain ⟨kq, x97_63, rfl, HA, HJ63, HO_11, BK579, BK593, HB⟩ := hcut
            have hl11_63 := (Kd.R_reads' HO_11.out).1
            rw [hl11_63] at HO_11
            (try simp only [hl11_63])
            (try simp only [hl11_63] at BK579)
            (try simp only [hl11_63] at BK593)
            cases kq with
            | zero => exact absurd HA.out (by simp [laws_FnExactOwnedBy.j2])
            | succ kj63 =>
             have H := HA.out
             clear HA
             simp only [laws_FnExactOwnedBy.j2] at H
             by_cases c79 : x97_63 = true
             ·subst c79
              rw [if_pos rfl] at H
              obtain rfl := Option.some.inj H
              go_wp2
              go_ret
              exact ⟨sE, sC⟩
             ·replace c79 := Bool.eq_false_iff.mpr c79
              subst c79
              rw [if_neg (show ¬ (false = true) by decide)] at H
              obtain ⟨t618, A80, H⟩ := bS H
              try dsimp only at H
              by_cases c81 : t618 < 0
              ·rw [if_pos c81] at H
               have c81b0 := decide_eq_true c81
               clear c81
               obtain rfl := Option.some.inj H
               go_wp2_with (first | ((with_reducible refine gt 35 rfl ?_); refine gL 35 100 Tryd.func35 #[.slice Ao65 t607.length co65, .int .i64 1] ?_; (with_reducible refine (laws_heldStringS.calls kj63 _ _ t607 1 t618 _ ?side1 ?side2 A80.out).mono ?_); (case side1 => exact sD (Kd.R_reads' HO_11.out).2.2); (case side2 => exact (Kd.R_reads' HO_11.out).2.1); rintro e w82 ⟨rfl, hb⟩; refine ⟨_, rfl, ?_⟩; replace HO_11 := nR HO_11 hb; replace BK579 := nK BK579 hb; replace BK593 := nK BK593 hb; replace HB := nSC hb; try clear hb))
               go_ret
               exact ⟨sE, sC⟩
              ·rw [if_neg c81] at H
               have c81b0 := decide_eq_false c81
               clear c81
               by_cases c83 : t618 = t606
               ·rw [if_pos c83] at H
                have c83b0 := beq_iff_eq.mpr c83
                have c83b1 := bne_eq_false_iff_eq.mpr c83
                clear c83
                obtain rfl := Option.some.inj H
                go_wp2_with (first | ((with_reducible refine gt 35 rfl ?_); refine gL 35 100 Tryd.func35 #[.slice Ao65 t607.length co65, .int .i64 1] ?_; (with_reducible refine (laws_heldStringS.calls kj63 _ _ t607 1 t618 _ ?side1 ?side2 A80.out).mono ?_); (case side1 => exact sD (Kd.R_reads' HO_11.out).2.2); (case side2 => exact (Kd.R_reads' HO_11.out).2.1); rintro e w84 ⟨rfl, hb⟩; refine ⟨_, rfl, ?_⟩; replace HO_11 := nR HO_11 hb; replace BK579 := nK BK579 hb; replace BK593 := nK BK593 hb; replace HB := nSC hb; try clear hb))
                go_ret
                exact ⟨sE, sC⟩
               ·rw [if_neg c83] at H
                have c83b0 := beq_eq_false_iff_ne.mpr c83
                have c83b1 := bne_iff_ne.mpr c83
                obtain rfl := Option.some.inj H
                go_wp2_with (first | ((with_reducible refine gt 35 rfl ?_); refine gL 35 100 Tryd.func35 #[.slice Ao65 t607.length co65, .int .i64 1] ?_; (with_reducible refine (laws_heldStringS.calls kj63 _ _ t607 1 t618 _ ?side1 ?side2 A80.out).mono ?_); (case side1 => exact sD (Kd.R_reads' HO_11.out).2.2); (case side2 => exact (Kd.R_reads' HO_11.out).2.1); rintro e w85 ⟨rfl, hb⟩; refine ⟨_, rfl, ?_⟩; replace HO_11 := nR HO_11 hb; replace BK579 := nK BK579 hb; replace BK593 := nK BK593 hb; replace HB := nSC hb; try clear hb))
                go_ret
                exact ⟨sE, sC⟩
          ·rw [if_neg c61] at H
           have c61b0 := beq_eq_false_iff_ne.mpr c61
           have c61b1 := bne_iff_ne.mpr c61
           obtain rfl := Option.some.inj H
           obtain ⟨Ao86, co86, eo86⟩ := Kd.R_slice HO_11.out
           subst eo86
           go_wp2_with (first | ((with_reducible refine gt 34 rfl ?_); refine gL 34 72 Tryd.func34 #[.slice Ao86 t594.length co86, .int .i64 1] ?_; (with_reducible refine (laws_markStringS.calls kj38 (fun k_ => some k_ = (.slice Ao86 t594.length co86 : Value).ownBlock) (.slice Ao86 t594.length co86) t594 1 t606 t607 w _ ?side1 ?side2 A55.out).mono ?_); (case side1 => repeat (first | (with_reducible first | exact HB.out | apply below_alloc | apply pw_below_drewN | apply below_drew1 | refine below_set ?_ GE579.out | refine below_set ?_ GE593.out) | exact HB.out)); (case side2 => exact Kd.R_tight rfl HO_11.out); rintro e w87 ⟨rfl, hy0, hb, hkp⟩; refine ⟨_, rfl, ?_⟩; replace HO_8 := Aside0.mk (Kd.R_mono (ok' := fun k_ => some k_ ≠ (.slice Ao86 t594.length co86 : Value).ownBlock) (Kd.R_keptB (HO_8.out) hkp (fun k_ hk_ hs_ => (hk_) hs_)) (fun k_ hk_ => hk_.1)); replace BK579 := Aside0.mk (blk_kept (sK BK579) hkp (fun hs_ => (fun e_ => (Kd.R_ne HO_11.out BK579.out (by decide)) e_) hs_)); replace BK593 := Aside0.mk (blk_kept (sK BK593) hkp (fun hs_ => (fun e_ => (Kd.R_ne HO_11.out BK593.out (by decide)) e_) hs_)); replace HO_11 := Aside0.mk (Kd.R_reok rfl hy0 (fun k_ e_ => HO_11.out.1 k_ e_)); replace HB := Aside0.mk (hb); (try clear hb); (try clear hkp); (try clear hy0)) | ((with_reducible refine gt 35 rfl ?_); refine goesL_ (some 75) rfl rfl Tryd.func35 (by kernel_rfl) rfl #[.slice Ao86 t607.length co86, .int .i64 1] rfl (by (try simp only [List.map_toArray, List.map_cons, List.map_nil]); first | done | (rw [show t607.length = t594.length from (Kd.R_reads' HO_11.out).1.symm] <;> rfl) | rfl | (simp only [List.length_drop, List.length_take]; rfl)) ?_; (with_reducible refine (laws_heldStringS.calls kj38 _ _ t607 1 t608 _ ?side1 ?side2 A56.out).mono ?_); (case side1 => exact sD (Kd.R_reads' HO_11.out).2.2); (case side2 => rw [show t607.length = t594.length from (Kd.R_reads' HO_11.out).1.symm]; exact (Kd.R_reads' HO_11.out).2.1); rintro e w88 ⟨rfl, hb⟩; refine ⟨_, rfl, ?_⟩; replace HO_8 := nR HO_8 hb; replace HO_11 := nR HO_11 hb; replace BK579 := nK BK579 hb; replace BK593 := nK BK593 hb; replace HB := nSC hb; try clear hb))
           go_ret
           exact ⟨sE, sC⟩
     ·replace c37 := Bool.eq_false_iff.mpr c37
      subst c37
      rw [if_neg (show ¬ (false = true) by decide)] at H
      obtain rfl := Option.some.inj H
      try go_wp2
      have n0_ := Aside0.mk (Kd.R_drew HO_8.out)
      have n1_ := Aside0.mk (Kd.R_drew HO_11.out)
      have n2_ := Aside0.mk (Kd.S_drew HO_594000.out)
      have n3_ := Aside0.mk (blk_drew BK579.out)
      have n4_ := Aside0.mk (blk_drew BK593.out)
      have n5_ := Aside0.mk (below_drew1 HB.out)
      clear HO_8
      clear HO_11
      clear HO_594000
      clear BK579
      clear BK593
      clear HB
      have HO_8 := n0_
      have HO_11 := n1_
      have HO_594000 := n2_
      have BK579 := n3_
      have BK593 := n4_
      have HB := n5_
      clear n0_ n1_ n2_ n3_ n4_ n5_
      refine st4 5 [] (cz0 BK593) (cz1 BK593) (cz0 BK579) (cz1 BK579) (fun hHeld => ?_)
      generalize wc.drew = w89 at HO_8 HO_11 HO_594000 BK579 BK593 HB hHeld ⊢
      refine tk4 0 49 ?_
      refine tk4 1 50 ?_
      refine on 2 51 (fun K hK => ?_)
      refine gC Tryd.func15 #[.agg #[.slice A0_0 l0_0.length c0_0, .int .i64 a0_1]] ?_
      with_reducible refine (laws_toFs.calls kj12 _ _ l0_0 a0_1 t599 t602 _ ?side1 ?side2 A35.out).mono ?_
      (case side1 => exact sD (Kd.C_below HR0_0.out HB.out))
      (case side2 => exact HC0_0.out)
      rintro e w90 ⟨v600, rfl, ho0, hb⟩
      refine ⟨_, rfl, ?_⟩
      have n0_ := nR HO_8 hb
      have n1_ := nR HO_11 hb
      have n2_ := Aside0.mk (Kd.S_elder' (by (with_reducible repeat (first | apply Kd.S_alloc | apply Kd.S_drewN | apply Kd.S_drew)); exact HO_594000.out) (Kd.S_base ho0) hb)
      have n3_ := Aside0.mk (Kd.S_lower (Kd.S_new' ho0 (Kd.S_lt (by (with_reducible repeat (first | apply Kd.S_alloc | apply Kd.S_drewN | apply Kd.S_drew)); exact HO_594000.out))) (below_size sC))
      have n4_ := nK BK579 hb
      have n5_ := nK BK593 hb
      have n6_ := nSC hb
      clear HO_8
      clear HO_11
      clear HO_594000
      clear BK579
      clear BK593
      clear HB
      have HO_8 := n0_
      have HO_11 := n1_
      have HO_594000 := n2_
      have HO601 := n3_
      have BK579 := n4_
      have BK593 := n5_
      have HB := n6_
      clear n0_ n1_ n2_ n3_ n4_ n5_ n6_
      (try clear hb)
      (try clear hb2)
      (try clear hk)
      (try clear hi)
      (try clear ho0)
      obtain ⟨Ao91, co91, eo91⟩ := Kd.S_slice HO601.out
      (first | subst eo91 | (injection eo91 with f1_ f2_ f3_; have f4_ := f1_.symm; have f5_ := f3_.symm; clear f1_ f2_ f3_; subst f4_; subst f5_))
      refine hK.out _ _ ⟨cz0 BK593, cz1 BK593, cz0 BK579, cz1 BK579⟩ (fun hHeld => ?_)
      clear hK K
      refine nm ?_
      refine on 3 52 (fun K hK => ?_)
      refine gC Tryd.func17 #[.agg #[.slice Ao24 t589.length co24, .int .i64 t592], .agg #[.slice Ao91 t599.length co91, .int .i64 t602]] ?_
      with_reducible refine (laws_eqFs.calls kj12 _ _ t589 t592 _ _ t599 t602 false _ ?side1 ?side2 ?side3 ?side4 A36.out).mono ?_
      (case side1 => exact sD (Kd.S_reads' HO_594000.out).2.2)
      (case side2 => exact (Kd.S_reads' HO_594000.out).2.1)
      (case side3 => exact sD (Kd.S_reads' HO601.out).2.2)
      (case side4 => exact (Kd.S_reads' HO601.out).2.1)
      rintro e w92 ⟨rfl, hb⟩
      refine ⟨_, rfl, ?_⟩
      have n0_ := nR HO_8 hb
      have n1_ := nR HO_11 hb
      have n2_ := nS HO_594000 hb
      have n3_ := nS HO601 hb
      have n4_ := nK BK579 hb
      have n5_ := nK BK593 hb
      have n6_ := nSC hb
      clear HO_8
      clear HO_11
      clear HO_594000
      clear HO601
      clear BK579
      clear BK593
      clear HB
      have HO_8 := n0_
      have HO_11 := n1_
      have HO_594000 := n2_
      have HO601 := n3_
      have BK579 := n4_
      have BK593 := n5_
      have HB := n6_
      clear n0_ n1_ n2_ n3_ n4_ n5_ n6_
      (try clear hb)
      (try clear hb2)
      (try clear hk)
      (try clear hi)
      refine hK.out _ _ ⟨cz0 BK593, cz1 BK593, cz0 BK579, cz1 BK579⟩ (fun hHeld => ?_)
      clear hK K
      refine nm ?_
      refine pu 4 53 ?_
      refine dn ?_
      try go_wp2
      go_ret
      exact ⟨sE, sC⟩

/-- The one pure statement of laws_FnExactOwnedBy. -/
def laws_FnExactOwnedBy.Pure : Prop := ∀ (l0_0 : List (S82)) (a0_1 : Int) (a1 : Int) (a2 : Int), (l0_0.length ≤ 9223372036854775807 ∧ ∀ e7_ ∈ l0_0, ((Lit.int .i64 e7_.f0).wf = true ∧ ((Lit.int .i64 e7_.f1).wf = true ∧ ((Lit.int .i64 e7_.f2).wf = true ∧ ((Lit.int .i64 e7_.f3).wf = true ∧ ((Lit.int .i64 e7_.f4).wf = true ∧ (e7_.f5.size ≤ 9223372036854775807 ∧ (e7_.f6.length ≤ 9223372036854775807 ∧ ∀ e8_ ∈ e7_.f6, (e8_.f0.size ≤ 9223372036854775807 ∧ (Lit.int .i64 e8_.f1).wf = true))))))))) → (Lit.int .i64 a0_1).wf = true → (Lit.int .i64 a1).wf = true → (Lit.int .i64 a2).wf = true → ∃ k, laws_FnExactOwnedBy.f k l0_0 a0_1 a1 a2 = some true

end Go.Proofs.YteffcglgdfhkmaaDoor.PWk
