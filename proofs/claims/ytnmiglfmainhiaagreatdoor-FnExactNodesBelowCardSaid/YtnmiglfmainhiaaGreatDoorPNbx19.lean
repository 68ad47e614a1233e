-- Written by a program of this session (wip/print2) out of the translation. Lean checks it.
import Derived.Test.YtnmiglfmainhiaaGreatDoorPNbx0
import Derived.Test.YtnmiglfmainhiaaGreatDoorPNbx1
import Derived.Test.YtnmiglfmainhiaaGreatDoorPNbx3
import Derived.Test.YtnmiglfmainhiaaGreatDoorPNbx17
import Derived.Test.YtnmiglfmainhiaaGreatDoorPNbx18
namespace Go.Proofs.YtnmiglfmainhiaaGreatDoor.PNb
open Go.RowKit Go.Proofs.YtnmiglfmainhiaaGreatDoorW.PrintWords Go.Proofs.YtnmiglfmainhiaaGreatDoorW.PrintLast Go.Proofs.YtnmiglfmainhiaaGreatDoorW.PrintMore
attribute [local go_sem] max2_int min2_int max_two min_two max_three min_three max_four min_four   -- for this text's walks alone
set_option linter.unusedVariables false
set_option linter.unusedSimpArgs false
set_option maxHeartbeats 8000000
set_option maxRecDepth 100000

/-! ### laws_FnExactNodesBelow: function 3 -/
mutual
def laws_FnExactNodesBelow.j0 : Nat → Int → List Int → Bool → List Int → Bool → Bool → List (S101) → Int → List (S74) → Int → Option (Bool)
 | 0, _, _, _, _, _, _, _, _, _, _ => none
 | k + 1, x1, x6, x7, x9, x10, x44, x492000, x492001, x506000, x506001 => if x44 = true then (some false) else ((laws_toFs.f k x492000 x492001).bind fun bt511 => ((laws_eqFs.f k x506000 x506001 bt511.1 bt511.2).bind fun t515 => (if t515 = true then ((laws_markFs.f k x506000 x506001 1).bind fun t516 => (if t516 < 0 then (laws_FnExactNodesBelow.j1 k x1 x6 x7 x9 true x492000 x492001) else ((laws_eqIntS.f k x9 x6).bind fun t517 => (if t517 = true then (laws_FnExactNodesBelow.j1 k x1 x6 x7 x9 (x10 != x7) x492000 x492001) else (laws_FnExactNodesBelow.j1 k x1 x6 x7 x9 true x492000 x492001))))) else (some false))))
def laws_FnExactNodesBelow.j1 : Nat → Int → List Int → Bool → List Int → Bool → List (S101) → Int → Option (Bool)
 | 0, _, _, _, _, _, _, _ => none
 | k + 1, x1, x6, x7, x9, x65, x492000, x492001 => if x65 = true then (some false) else ((laws_markIntS.f k x9 1).bind fun bt518 => ((laws_heldIntS.f k bt518.2 1).bind fun t520 => (if t520 < 0 then (some false) else (if t520 = bt518.1 then ((laws_toFs.f k x492000 x492001).bind fun bt521 => ((impl_NodesBelow.f k bt521.1 bt521.2 x1).bind fun bt525 => ((laws_eqIntS.f k bt525.1 x6).bind fun t529 => (if t529 = true then (laws_FnExactNodesBelow.j2 k bt518.2 bt518.1 (bt525.2 != x7)) else (laws_FnExactNodesBelow.j2 k bt518.2 bt518.1 true))))) else (some false)))))
def laws_FnExactNodesBelow.j2 : Nat → List Int → Int → Bool → Option (Bool)
 | 0, _, _, _ => none
 | k + 1, x9, x12, x92 => if x92 = true then (some false) else ((laws_heldIntS.f k x9 1).bind fun t530 => (if t530 < 0 then (some false) else (if t530 = x12 then (some true) else (some false))))
end
def laws_FnExactNodesBelow.f (k : Nat) (l0_0 : List (S101)) (a0_1 : Int) (a1 : Int) : Option (Bool) := (laws_szFs.f k l0_0 a0_1 1048576).bind fun t492 => (if t492 < 0 then (some true) else ((laws_toFs.f k l0_0 a0_1).bind fun bt493 => ((spec_NodesBelow.f k bt493.1 bt493.2 a1).bind fun bt497 => ((laws_toFs.f k l0_0 a0_1).bind fun bt501 => ((impl_NodesBelow.f k bt501.1 bt501.2 a1).bind fun bt506 => ((laws_eqIntS.f k bt506.1 bt497.1).bind fun t510 => (if t510 = true then (laws_FnExactNodesBelow.j0 k a1 bt497.1 bt497.2 bt506.1 bt506.2 (bt506.2 != bt497.2) l0_0 a0_1 bt501.1 bt501.2) else (laws_FnExactNodesBelow.j0 k a1 bt497.1 bt497.2 bt506.1 bt506.2 true l0_0 a0_1 bt501.1 bt501.2))))))))
theorem laws_FnExactNodesBelow.calls (k : Nat) (A0_0 : Option Addr) (c0_0 : Nat) (l0_0 : List (S101)) (a0_1 : Int) (a1 : Int) (r : Bool) (w : World) (hr0_0 : Kd.C k101 w A0_0 l0_0.length l0_0) (hc0_0 : l0_0.length ≤ c0_0) (h : laws_FnExactNodesBelow.f k l0_0 a0_1 a1 = some r) :
  Calls Tryz.prog 3 #[.agg #[.slice A0_0 l0_0.length c0_0, .int .i64 a0_1], .int .i64 a1] w fun e w' => e = .returned (.bool r) ∧ Below w.heap.size w w' := by
 have hu24 := Tryz.underlying24
 have hu31 := Tryz.underlying31
 have HR0_0 := Aside0.mk hr0_0
 have HC0_0 := Aside0.mk hc0_0
 clear hr0_0 hc0_0
 have HB := Aside0.mk (Below.refl w.heap.size w)
 have H : ((laws_szFs.f k l0_0 a0_1 1048576).bind fun t492 => (if t492 < 0 then (some true) else ((laws_toFs.f k l0_0 a0_1).bind fun bt493 => ((spec_NodesBelow.f k bt493.1 bt493.2 a1).bind fun bt497 => ((laws_toFs.f k l0_0 a0_1).bind fun bt501 => ((impl_NodesBelow.f k bt501.1 bt501.2 a1).bind fun bt506 => ((laws_eqIntS.f k bt506.1 bt497.1).bind fun t510 => (if t510 = true then (laws_FnExactNodesBelow.j0 k a1 bt497.1 bt497.2 bt506.1 bt506.2 (bt506.2 != bt497.2) l0_0 a0_1 bt501.1 bt501.2) else (laws_FnExactNodesBelow.j0 k a1 bt497.1 bt497.2 bt506.1 bt506.2 true l0_0 a0_1 bt501.1 bt501.2))))))))) = some r := h
 clear h
 obtain ⟨t492, A3, H⟩ := bS H
 try dsimp only at H
 by_cases c4 : t492 < 0
 ·rw [if_pos c4] at H
  have c4b0 := decide_eq_true c4
  clear c4
  obtain rfl := Option.some.inj H
  go_enter Tryz.func3, Tryz.ntmps3
  go_wp2_with (first | ((with_reducible refine gd 2 rfl ?_); refine bxE 2 #[.slice A0_0 l0_0.length c0_0, .int .i64 a0_1] 24 ?_; intro gb491 hg w5 hbox hb; have BK491 := Aside0.mk hbox; have GW491 := nGB hg; have GE491 := nGB hg; replace HB := nSB hb; clear hb hbox hg; have hcz6 := cb2 BK491) | ((with_reducible refine gt 10 rfl ?_); refine gL 10 18 Tryz.func10 #[.agg #[.slice A0_0 l0_0.length c0_0, .int .i64 a0_1], .int .i64 1048576] ?_; (with_reducible refine (laws_szFs.calls k _ _ l0_0 a0_1 1048576 t492 _ ?side1 ?side2 A3.out).mono ?_); (case side1 => exact sD (Kd.C_below HR0_0.out HB.out)); (case side2 => exact HC0_0.out); rintro e w7 ⟨rfl, hb⟩; refine ⟨_, rfl, ?_⟩; replace BK491 := nK BK491 hb; replace HB := nSC hb; try clear hb))
  go_ret
  exact ⟨sE, sC⟩
 ·rw [if_neg c4] at H
  have c4b0 := decide_eq_false c4
  clear c4
  obtain ⟨⟨t493, t496⟩, A8, H⟩ := bS H
  try dsimp only at H
  obtain ⟨⟨t497, t500⟩, A9, H⟩ := bS H
  try dsimp only at H
  obtain ⟨⟨t501, t504⟩, A10, H⟩ := bS H
  try dsimp only at H
  obtain ⟨⟨t506, t509⟩, A11, H⟩ := bS H
  try dsimp only at H
  have HC12 := Aside0.mk H
  clear H
  go_enter Tryz.func3, Tryz.ntmps3
  go_upto_region 8 with (first | ((with_reducible refine gd 2 rfl ?_); refine bxE 2 #[.slice A0_0 l0_0.length c0_0, .int .i64 a0_1] 24 ?_; intro gb491 hg w13 hbox hb; have BK491 := Aside0.mk hbox; have GW491 := nGB hg; have GE491 := nGB hg; replace HB := nSB hb; clear hb hbox hg; have hcz14 := cb2 BK491) | ((with_reducible refine gt 10 rfl ?_); refine gL 10 18 Tryz.func10 #[.agg #[.slice A0_0 l0_0.length c0_0, .int .i64 a0_1], .int .i64 1048576] ?_; (with_reducible refine (laws_szFs.calls k _ _ l0_0 a0_1 1048576 t492 _ ?side1 ?side2 A3.out).mono ?_); (case side1 => exact sD (Kd.C_below HR0_0.out HB.out)); (case side2 => exact HC0_0.out); rintro e w15 ⟨rfl, hb⟩; refine ⟨_, rfl, ?_⟩; replace BK491 := nK BK491 hb; replace HB := nSC hb; try clear hb; have hcz16 := cb2 BK491) | ((with_reducible refine gt 12 rfl ?_); refine gL 12 23 Tryz.func12 #[.agg #[.slice A0_0 l0_0.length c0_0, .int .i64 a0_1]] ?_; (with_reducible refine (laws_toFs.calls k _ _ l0_0 a0_1 t493 t496 _ ?side1 ?side2 A8.out).mono ?_); (case side1 => exact sD (Kd.C_below HR0_0.out HB.out)); (case side2 => exact HC0_0.out); rintro e w17 ⟨v494, rfl, ho0, hb⟩; refine ⟨_, rfl, ?_⟩; have HO495 := Aside0.mk (Kd.S_lower ho0 (below_size sC)); replace BK491 := nK BK491 hb; replace HB := nSC hb; try clear hb; (try clear ho0); obtain ⟨Ao18, co18, eo18⟩ := Kd.S_slice HO495.out; subst eo18) | ((with_reducible refine gt 11 rfl ?_); refine gL 11 25 Tryz.func11 #[.agg #[.slice Ao18 t493.length co18, .int .i64 t496], .int .i64 a1] ?_; (with_reducible refine (spec_NodesBelow.calls k _ _ t493 t496 a1 t497 t500 _ ?side1 ?side2 A9.out).mono ?_); (case side1 => exact sD (Kd.S_reads' HO495.out).2.2); (case side2 => exact (Kd.S_reads' HO495.out).2.1); rintro e w19 ⟨v498, rfl, ho0, hb⟩; refine ⟨_, rfl, ?_⟩; replace HO495 := nS HO495 hb; have HO499 := Aside0.mk (Kd.R_lower ho0 (below_size sC)); replace BK491 := nK BK491 hb; replace HB := nSC hb; try clear hb; (try clear ho0); have hcz20 := cb2 BK491) | ((with_reducible refine gt 12 rfl ?_); refine gL 12 29 Tryz.func12 #[.agg #[.slice A0_0 l0_0.length c0_0, .int .i64 a0_1]] ?_; (with_reducible refine (laws_toFs.calls k _ _ l0_0 a0_1 t501 t504 _ ?side1 ?side2 A10.out).mono ?_); (case side1 => exact sD (Kd.C_below HR0_0.out HB.out)); (case side2 => exact HC0_0.out); rintro e w21 ⟨v502, rfl, ho0, hb⟩; refine ⟨_, rfl, ?_⟩; replace HO499 := nR HO499 hb; have HO503 := Aside0.mk (Kd.S_lower (Kd.S_new' ho0 (Kd.S_lt (by (with_reducible repeat (first | apply Kd.S_alloc | apply Kd.S_drewN | apply Kd.S_drew)); exact HO495.out))) (below_size sC)); replace HO495 := Aside0.mk (Kd.S_elder' (by (with_reducible repeat (first | apply Kd.S_alloc | apply Kd.S_drewN | apply Kd.S_drew)); exact HO495.out) (Kd.S_base ho0) hb); replace BK491 := nK BK491 hb; replace HB := nSC hb; try clear hb; (try clear ho0)) | ((with_reducible refine gd 8 rfl ?_); refine bxE 8 #[.slice none 0 0, .int .i64 0] 31 ?_; intro gb505 hg w22 hbox hb; replace HO495 := nS HO495 hb; replace HO499 := nR HO499 hb; replace HO503 := nS HO503 hb; have BK505 := Aside0.mk hbox; have GW505 := nGC hg; have GE505 := nGC hg; replace HB := nSC hb; have NB491_505 := nL BK491 hg; have NB505_491 := nH BK491 hg; replace BK491 := nK BK491 hb; clear hb hbox hg; obtain ⟨Ao23, co23, eo23⟩ := Kd.S_slice HO503.out; subst eo23; have hnb24 := NB505_491.out; have hnc24 := NB491_505.out; have hcz25 := cb2 BK505) | ((with_reducible refine gt 13 rfl ?_); refine gL 13 33 Tryz.func13 #[.agg #[.slice Ao23 t501.length co23, .int .i64 t504], .int .i64 a1] ?_; (with_reducible refine (impl_NodesBelow.calls k _ _ t501 t504 a1 t506 t509 _ ?side1 ?side2 A11.out).mono ?_); (case side1 => refine (Kd.S_reads' (e := 74) (base := w.heap.size) (ok := fun k_ => (True ∧ some k_ ≠ (.slice Ao18 t493.length co18 : Value).ownBlock)) (n := t501.length) (c := co23) ?_).2.2; exact (by (with_reducible repeat (first | apply Kd.S_alloc | apply Kd.S_drewN | apply Kd.S_drew)); exact (Kd.S_mono (Kd.S_far (p := ⟨gb505, 1, none⟩) (Kd.S_far (p := ⟨gb505, 0, none⟩) (Kd.S_types HO503.out BK505.out (by decide)) (fun _ hk => hk.2) (.slice Ao23 t501.length co23)) (fun _ hk => hk.2) (.int .i64 t504)) (fun _ h_ => h_.1)))); (case side2 => exact (Kd.S_reads' HO503.out).2.1); rintro e w26 ⟨v507, rfl, ho0, hb⟩; refine ⟨_, rfl, ?_⟩; replace HO495 := nSf HO495 BK505 hb; replace HO503 := nSf HO503 BK505 hb; have HO508 := Aside0.mk (Kd.R_lower (Kd.R_new' ho0 (Kd.R_lt (by (with_reducible repeat (first | apply Kd.R_alloc | apply Kd.R_drewN | apply Kd.R_drew)); exact (Kd.R_mono (Kd.R_far (p := ⟨gb505, 1, none⟩) (Kd.R_far (p := ⟨gb505, 0, none⟩) (Kd.R_types HO499.out BK505.out (by decide)) (fun _ hk => hk.2) (.slice Ao23 t501.length co23)) (fun _ hk => hk.2) (.int .i64 t504)) (fun _ h_ => h_.1))))) (below_size sC)); replace HO499 := Aside0.mk (Kd.R_elder' (by (with_reducible repeat (first | apply Kd.R_alloc | apply Kd.R_drewN | apply Kd.R_drew)); exact (Kd.R_mono (Kd.R_far (p := ⟨gb505, 1, none⟩) (Kd.R_far (p := ⟨gb505, 0, none⟩) (Kd.R_types HO499.out BK505.out (by decide)) (fun _ hk => hk.2) (.slice Ao23 t501.length co23)) (fun _ hk => hk.2) (.int .i64 t504)) (fun _ h_ => h_.1))) (Kd.R_base ho0) hb); replace BK491 := nF BK491 hb; replace BK505 := nX #[.slice Ao23 t501.length co23, .int .i64 t504] BK505 hb; replace HB := nSC hb; try clear hb; (try clear ho0)))
  (try simp only [Act.put, List.setIfInBounds_toArray, List.set_cons_zero, List.set_cons_succ])
  go_cut [44] (fun v44 wc => ∃ (kq : Nat) (x44_11 : Bool), v44 = .bool x44_11 ∧ Aside0 (laws_FnExactNodesBelow.j0 kq a1 t497 t500 t506 t509 x44_11 l0_0 a0_1 t501 t504 = some r) ∧ Aside0 (kq ≤ k) ∧ Aside0 (Kd.R (Kd.int .i64) 3 wc w.heap.size (fun k_ => some k_ ≠ (v507 : Value).ownBlock) v498 t497) ∧ Aside0 (Kd.R (Kd.int .i64) 3 wc w.heap.size (fun k_ => some k_ ≠ (v498 : Value).ownBlock) v507 t506) ∧ Aside0 (Kd.S k74 74 wc w.heap.size (fun _ => True) (.slice Ao23 t501.length co23) t501) ∧ Aside0 (wc.heap[gb491]? = some (.cells #[(.slice A0_0 l0_0.length c0_0), .int .i64 a0_1] 24 (0, 0))) ∧ Aside0 (wc.heap[gb505]? = some (.cells #[(.slice Ao23 t501.length co23), .int .i64 t504] 31 (0, 0))) ∧ Aside0 (Below w.heap.size w wc))
  case first =>
   have H := HC12.out
   clear HC12
   obtain ⟨t510, A27, H⟩ := bS H
   try dsimp only at H
   by_cases c28 : t510 = true
   ·subst c28
    rw [if_pos rfl] at H
    have H' := Aside0.mk H
    clear H
    obtain ⟨Ao29, co29, eo29⟩ := Kd.R_slice HO508.out
    subst eo29
    obtain ⟨Ao30, co30, eo30⟩ := Kd.R_slice HO499.out
    subst eo30
    go_wp2_with (first | ((with_reducible refine gt 14 rfl ?_); refine gL 14 38 Tryz.func14 #[.slice Ao29 t506.length co29, .slice Ao30 t497.length co30] ?_; (with_reducible refine (laws_eqIntS.calls k _ _ t506 _ _ t497 true _ ?side1 ?side2 ?side3 ?side4 A27.out).mono ?_); (case side1 => exact sD (Kd.R_reads' HO508.out).2.2); (case side2 => exact (Kd.R_reads' HO508.out).2.1); (case side3 => exact sD (Kd.R_reads' HO499.out).2.2); (case side4 => exact (Kd.R_reads' HO499.out).2.1); rintro e w' ⟨rfl, ⟨nd, rfl⟩⟩; refine ⟨_, rfl, ?_⟩))
    go_meet
    case rel => exact ⟨_, ((t509 != t500)), sR, H', ⟨by first | omega | exact Nat.le_refl _⟩, ⟨by (with_reducible repeat (first | apply Kd.R_alloc | apply Kd.R_drewN | apply Kd.R_drew)); exact Kd.R_mono HO499.out (fun _ hk => hk.2)⟩, ⟨by (with_reducible repeat (first | apply Kd.R_alloc | apply Kd.R_drewN | apply Kd.R_drew)); exact Kd.R_mono HO508.out (fun _ hk => hk.2)⟩, ⟨by (with_reducible repeat (first | apply Kd.S_alloc | apply Kd.S_drewN | apply Kd.S_drew)); exact Kd.S_mono HO503.out (fun _ hk => trivial)⟩, ⟨sK BK491⟩, ⟨sK BK505⟩, ⟨sC⟩⟩
   ·replace c28 := Bool.eq_false_iff.mpr c28
    subst c28
    rw [if_neg (show ¬ (false = true) by decide)] at H
    have H' := Aside0.mk H
    clear H
    obtain ⟨Ao31, co31, eo31⟩ := Kd.R_slice HO508.out
    subst eo31
    obtain ⟨Ao32, co32, eo32⟩ := Kd.R_slice HO499.out
    subst eo32
    go_wp2_with (first | ((with_reducible refine gt 14 rfl ?_); refine gL 14 38 Tryz.func14 #[.slice Ao31 t506.length co31, .slice Ao32 t497.length co32] ?_; (with_reducible refine (laws_eqIntS.calls k _ _ t506 _ _ t497 false _ ?side1 ?side2 ?side3 ?side4 A27.out).mono ?_); (case side1 => exact sD (Kd.R_reads' HO508.out).2.2); (case side2 => exact (Kd.R_reads' HO508.out).2.1); (case side3 => exact sD (Kd.R_reads' HO499.out).2.2); (case side4 => exact (Kd.R_reads' HO499.out).2.1); rintro e w' ⟨rfl, ⟨nd, rfl⟩⟩; refine ⟨_, rfl, ?_⟩))
    go_meet
    case rel => exact ⟨_, (true), sR, H', ⟨by first | omega | exact Nat.le_refl _⟩, ⟨by (with_reducible repeat (first | apply Kd.R_alloc | apply Kd.R_drewN | apply Kd.R_drew)); exact Kd.R_mono HO499.out (fun _ hk => hk.2)⟩, ⟨by (with_reducible repeat (first | apply Kd.R_alloc | apply Kd.R_drewN | apply Kd.R_drew)); exact Kd.R_mono HO508.out (fun _ hk => hk.2)⟩, ⟨by (with_reducible repeat (first | apply Kd.S_alloc | apply Kd.S_drewN | apply Kd.S_drew)); exact Kd.S_mono HO503.out (fun _ hk => trivial)⟩, ⟨sK BK491⟩, ⟨sK BK505⟩, ⟨sC⟩⟩
  case rest =>
   clear HC12
   try clear c1
   try clear c2
   try clear p2
   try clear c3
   try clear c4
   try clear c4b0
   try clear c10
   try clear c11
   try clear c12
   try clear c13
   try clear c14
   try clear c24
   try clear c28
   try clear hcz14
   try clear hcz16
   try clear hcz20
   try clear hcz25
   try clear hcz6
   obtain ⟨kq, x44_11, rfl, HA, HJ11, HO_6, HO_9, HO_506000, BK491, BK505, HB⟩ := hcut
   cases kq with
   | zero => exact absurd HA.out (by simp [laws_FnExactNodesBelow.j0])
   | succ kj11 =>
    have H := HA.out
    clear HA
    simp only [laws_FnExactNodesBelow.j0] at H
    by_cases c33 : x44_11 = true
    ·subst c33
     rw [if_pos rfl] at H
     obtain rfl := Option.some.inj H
     go_wp2
     go_ret
     exact ⟨sE, sC⟩
    ·replace c33 := Bool.eq_false_iff.mpr c33
     subst c33
     rw [if_neg (show ¬ (false = true) by decide)] at H
     obtain ⟨⟨t511, t514⟩, A34, H⟩ := bS H
     try dsimp only at H
     obtain ⟨t515, A35, H⟩ := bS H
     try dsimp only at H
     by_cases c36 : t515 = true
     ·subst c36
      rw [if_pos rfl] at H
      obtain ⟨t516, A37, H⟩ := bS H
      try dsimp only at H
      have HC38 := Aside0.mk H
      clear H
      try go_wp2
      have n0_ := Aside0.mk (Kd.R_drew HO_6.out)
      have n1_ := Aside0.mk (Kd.R_drew HO_9.out)
      have n2_ := Aside0.mk (Kd.S_drew HO_506000.out)
      have n3_ := Aside0.mk (blk_drew BK491.out)
      have n4_ := Aside0.mk (blk_drew BK505.out)
      have n5_ := Aside0.mk (below_drew1 HB.out)
      clear HO_6
      clear HO_9
      clear HO_506000
      clear BK491
      clear BK505
      clear HB
      have HO_6 := n0_
      have HO_9 := n1_
      have HO_506000 := n2_
      have BK491 := n3_
      have BK505 := n4_
      have HB := n5_
      clear n0_ n1_ n2_ n3_ n4_ n5_
      refine st4 5 [] (cz0 BK505) (cz1 BK505) (cz0 BK491) (cz1 BK491) (fun hHeld => ?_)
      generalize wc.drew = w39 at HO_6 HO_9 HO_506000 BK491 BK505 HB hHeld ⊢
      refine tk4 0 45 ?_
      refine tk4 1 46 ?_
      refine on 2 47 (fun K hK => ?_)
      refine gC Tryz.func12 #[.agg #[.slice A0_0 l0_0.length c0_0, .int .i64 a0_1]] ?_
      with_reducible refine (laws_toFs.calls kj11 _ _ l0_0 a0_1 t511 t514 _ ?side1 ?side2 A34.out).mono ?_
      (case side1 => exact sD (Kd.C_below HR0_0.out HB.out))
      (case side2 => exact HC0_0.out)
      rintro e w40 ⟨v512, rfl, ho0, hb⟩
      refine ⟨_, rfl, ?_⟩
      have n0_ := nR HO_6 hb
      have n1_ := nR HO_9 hb
      have n2_ := Aside0.mk (Kd.S_elder' (by (with_reducible repeat (first | apply Kd.S_alloc | apply Kd.S_drewN | apply Kd.S_drew)); exact HO_506000.out) (Kd.S_base ho0) hb)
      have n3_ := Aside0.mk (Kd.S_lower (Kd.S_new' ho0 (Kd.S_lt (by (with_reducible repeat (first | apply Kd.S_alloc | apply Kd.S_drewN | apply Kd.S_drew)); exact HO_506000.out))) (below_size sC))
      have n4_ := nK BK491 hb
      have n5_ := nK BK505 hb
      have n6_ := nSC hb
      clear HO_6
      clear HO_9
      clear HO_506000
      clear BK491
      clear BK505
      clear HB
      have HO_6 := n0_
      have HO_9 := n1_
      have HO_506000 := n2_
      have HO513 := n3_
      have BK491 := n4_
      have BK505 := n5_
      have HB := n6_
      clear n0_ n1_ n2_ n3_ n4_ n5_ n6_
      (try clear hb)
      (try clear hb2)
      (try clear hk)
      (try clear hi)
      (try clear ho0)
      obtain ⟨Ao41, co41, eo41⟩ := Kd.S_slice HO513.out
      (first | subst eo41 | (injection eo41 with f1_ f2_ f3_; have f4_ := f1_.symm; have f5_ := f3_.symm; clear f1_ f2_ f3_; subst f4_; subst f5_))
      refine hK.out _ _ ⟨cz0 BK505, cz1 BK505, cz0 BK491, cz1 BK491⟩ (fun hHeld => ?_)
      clear hK K
      refine nm ?_
      refine on 3 48 (fun K hK => ?_)
      refine gC Tryz.func15 #[.agg #[.slice Ao23 t501.length co23, .int .i64 t504], .agg #[.slice Ao41 t511.length co41, .int .i64 t514]] ?_
      with_reducible refine (laws_eqFs.calls kj11 _ _ t501 t504 _ _ t511 t514 true _ ?side1 ?side2 ?side3 ?side4 A35.out).mono ?_
      (case side1 => exact sD (Kd.S_reads' HO_506000.out).2.2)
      (case side2 => exact (Kd.S_reads' HO_506000.out).2.1)
      (case side3 => exact sD (Kd.S_reads' HO513.out).2.2)
      (case side4 => exact (Kd.S_reads' HO513.out).2.1)
      rintro e w42 ⟨rfl, hb⟩
      refine ⟨_, rfl, ?_⟩
      have n0_ := nR HO_6 hb
      have n1_ := nR HO_9 hb
      have n2_ := nS HO_506000 hb
      have n3_ := nS HO513 hb
      have n4_ := nK BK491 hb
      have n5_ := nK BK505 hb
      have n6_ := nSC hb
      clear HO_6
      clear HO_9
      clear HO_506000
      clear HO513
      clear BK491
      clear BK505
      clear HB
      have HO_6 := n0_
      have HO_9 := n1_
      have HO_506000 := n2_
      have HO513 := n3_
      have BK491 := n4_
      have BK505 := n5_
      have HB := n6_
      clear n0_ n1_ n2_ n3_ n4_ n5_ n6_
      (try clear hb)
      (try clear hb2)
      (try clear hk)
      (try clear hi)
      refine hK.out _ _ ⟨cz0 BK505, cz1 BK505, cz0 BK491, cz1 BK491⟩ (fun hHeld => ?_)
      clear hK K
      refine nm ?_
      refine pu 4 49 ?_
      refine dn ?_
      have hnb43 := NB505_491.out
      have hnc43 := NB491_505.out
      have hcz44 := cb2 BK505
      go_upto_region 14 with (first | ((with_reducible refine gt 16 rfl ?_); refine gL 16 52 Tryz.func16 #[.agg #[.slice Ao23 t501.length co23, .int .i64 t504], .int .i64 1] ?_; have hz_ : w.heap.size ≤ _ := below_size sC; (with_reducible refine (laws_markFs.marks kj11 _ _ t501 t504 1 t516 w.heap.size _ ?side1 ?side2 A37.out).mono ?_); (case side1 => exact hz_); (case side2 => exact Nod.of_S (by (with_reducible repeat (first | apply Kd.S_alloc | apply Kd.S_drewN | apply Kd.S_drew)); exact HO_506000.out)); rintro e w45 ⟨rfl, hm⟩; refine ⟨_, rfl, ?_⟩; clear hz_; replace HO_6 := Aside0.mk (hm.R (by (with_reducible repeat (first | apply Kd.R_alloc | apply Kd.R_drewN | apply Kd.R_drew)); exact HO_6.out)); replace HO_9 := Aside0.mk (hm.R (by (with_reducible repeat (first | apply Kd.R_alloc | apply Kd.R_drewN | apply Kd.R_drew)); exact HO_9.out)); replace BK491 := Aside0.mk (hm.blk (sK BK491)); replace BK505 := Aside0.mk (hm.blk (sK BK505)); replace HB := Aside0.mk (Below.trans sC hm.below); clear HO_506000; clear HO513; clear hm; try clear hb))
      (try simp only [Act.put, List.setIfInBounds_toArray, List.set_cons_zero, List.set_cons_succ])
      go_cut [65] (fun v65 wc => ∃ (kq : Nat) (x65_37 : Bool), v65 = .bool x65_37 ∧ Aside0 (laws_FnExactNodesBelow.j1 kq a1 t497 t500 t506 x65_37 l0_0 a0_1 = some r) ∧ Aside0 (kq ≤ kj11) ∧ Aside0 (Kd.R (Kd.int .i64) 3 wc w.heap.size (fun k_ => some k_ ≠ (v507 : Value).ownBlock) v498 t497) ∧ Aside0 (Kd.R (Kd.int .i64) 3 wc w.heap.size (fun k_ => some k_ ≠ (v498 : Value).ownBlock) v507 t506) ∧ Aside0 (wc.heap[gb491]? = some (.cells #[(.slice A0_0 l0_0.length c0_0), .int .i64 a0_1] 24 (0, 0))) ∧ Aside0 (wc.heap[gb505]? = some (.cells #[(.slice Ao23 t501.length co23), .int .i64 t504] 31 (0, 0))) ∧ Aside0 (Below w.heap.size w wc))
      case first =>
       have H := HC38.out
       clear HC38
       by_cases c46 : t516 < 0
       ·rw [if_pos c46] at H
        have c46b0 := decide_eq_true c46
        clear c46
        (first | rw [c46b0] | (simp only [i64_w, i32_w]; rw [c46b0]) | skip)
        have H' := Aside0.mk H
        clear H
        go_wp2
        go_meet
        case rel => exact ⟨_, (true), sR, H', ⟨by have := HJ11.out; first | omega | exact Nat.le_refl _⟩, ⟨rR HO_6⟩, ⟨rR HO_9⟩, ⟨sK BK491⟩, ⟨sK BK505⟩, ⟨sC⟩⟩
       ·rw [if_neg c46] at H
        have c46b0 := decide_eq_false c46
        clear c46
        (first | rw [c46b0] | (simp only [i64_w, i32_w]; rw [c46b0]) | skip)
        obtain ⟨t517, A47, H⟩ := bS H
        try dsimp only at H
        by_cases c48 : t517 = true
        ·subst c48
         rw [if_pos rfl] at H
         have H' := Aside0.mk H
         clear H
         obtain ⟨Ao49, co49, eo49⟩ := Kd.R_slice HO_9.out
         subst eo49
         obtain ⟨Ao50, co50, eo50⟩ := Kd.R_slice HO_6.out
         subst eo50
         go_wp2_with (first | (go_at_call 14; (with_reducible refine (laws_eqIntS.calls kj11 _ _ t506 _ _ t497 true _ ?side1 ?side2 ?side3 ?side4 A47.out).mono ?_); (case side1 => exact sD (Kd.R_reads' HO_9.out).2.2); (case side2 => exact (Kd.R_reads' HO_9.out).2.1); (case side3 => exact sD (Kd.R_reads' HO_6.out).2.2); (case side4 => exact (Kd.R_reads' HO_6.out).2.1); rintro e w' ⟨rfl, ⟨nd, rfl⟩⟩))
         go_meet
         case rel => exact ⟨_, ((t509 != t500)), sR, H', ⟨by have := HJ11.out; first | omega | exact Nat.le_refl _⟩, ⟨rR HO_6⟩, ⟨rR HO_9⟩, ⟨sK BK491⟩, ⟨sK BK505⟩, ⟨sC⟩⟩
        ·replace c48 := Bool.eq_false_iff.mpr c48
         subst c48
         rw [if_neg (show ¬ (false = true) by decide)] at H
         have H' := Aside0.mk H
         clear H
         obtain ⟨Ao51, co51, eo51⟩ := Kd.R_slice HO_9.out
         subst eo51
         obtain ⟨Ao52, co52, eo52⟩ := Kd.R_slice HO_6.out
         subst eo52
         go_wp2_with (first | (go_at_call 14; (with_reducible refine (laws_eqIntS.calls kj11 _ _ t506 _ _ t497 false _ ?side1 ?side2 ?side3 ?side4 A47.out).mono ?_); (case side1 => exact sD (Kd.R_reads' HO_9.out).2.2); (case side2 => exact (Kd.R_reads' HO_9.out).2.1); (case side3 => exact sD (Kd.R_reads' HO_6.out).2.2); (case side4 => exact (Kd.R_reads' HO_6.out).2.1); rintro e w' ⟨rfl, ⟨nd, rfl⟩⟩))
         go_meet
         case rel => exact ⟨_, (true), sR, H', ⟨by have := HJ11.out; first | omega | exact Nat.le_refl _⟩, ⟨rR HO_6⟩, ⟨rR HO_9⟩, ⟨sK BK491⟩, ⟨sK BK505⟩, ⟨sC⟩⟩
      case rest =>
       clear HC38
       try clear c1
       try clear c2
       try clear p2
       try clear c3
       try clear c4
       try clear c4b0
       try clear c10
       try clear c11
       try clear c12
       try clear c13
       try clear c14
       try clear c15
       try clear c16
       try clear c24
       try clear c28
       try clear c33
       try clear c36
       try clear c43
       try clear c46
       try clear c46b0
       try clear c48
       try clear hcz14
       try clear hcz16
       try clear hcz20
       try clear hcz25
       try clear hcz44
       try clear hcz6
       try clear p2
       obtain ⟨kq, x65_37, rfl, HA, HJ37, HO_6, HO_9, BK491, BK505, HB⟩ := hcut
       cases kq with
       | zero => exact absurd HA.out (by simp [laws_FnExactNodesBelow.j1])
       | succ kj37 =>
        have H := HA.out
        clear HA
        simp only [laws_FnExactNodesBelow.j1] at H
        by_cases c53 : x65_37 = true
        ·subst c53
         rw [if_pos rfl] at H
         obtain rfl := Option.some.inj H
         go_wp2
         go_ret
         exact ⟨sE, sC⟩
        ·replace c53 := Bool.eq_false_iff.mpr c53
         subst c53
         rw [if_neg (show ¬ (false = true) by decide)] at H
         obtain ⟨⟨t518, t519⟩, A54, H⟩ := bS H
         try dsimp only at H
         obtain ⟨t520, A55, H⟩ := bS H
         try dsimp only at H
         by_cases c56 : t520 < 0
         ·rw [if_pos c56] at H
          have c56b0 := decide_eq_true c56
          clear c56
          obtain rfl := Option.some.inj H
          obtain ⟨Ao57, co57, eo57⟩ := Kd.R_slice HO_9.out
          subst eo57
          go_wp2_with (first | ((with_reducible refine gt 17 rfl ?_); refine gL 17 68 Tryz.func17 #[.slice Ao57 t506.length co57, .int .i64 1] ?_; (with_reducible refine (laws_markIntS.calls kj37 (fun k_ => some k_ = (.slice Ao57 t506.length co57 : Value).ownBlock) (.slice Ao57 t506.length co57) t506 1 t518 t519 w _ ?side1 ?side2 A54.out).mono ?_); (case side1 => repeat (first | (with_reducible first | exact HB.out | apply below_alloc | apply pw_below_drewN | apply below_drew1 | refine below_set ?_ GE491.out | refine below_set ?_ GE505.out) | exact HB.out)); (case side2 => exact Kd.R_tight rfl HO_9.out); rintro e w58 ⟨rfl, hy0, hb, hkp⟩; refine ⟨_, rfl, ?_⟩; replace HO_6 := Aside0.mk (Kd.R_mono (ok' := fun k_ => some k_ ≠ (.slice Ao57 t506.length co57 : Value).ownBlock) (Kd.R_keptB (HO_6.out) hkp (fun k_ hk_ hs_ => (hk_) hs_)) (fun k_ hk_ => hk_.1)); replace BK491 := Aside0.mk (blk_kept (sK BK491) hkp (fun hs_ => (fun e_ => (Kd.R_ne HO_9.out BK491.out (by decide)) e_) hs_)); replace BK505 := Aside0.mk (blk_kept (sK BK505) hkp (fun hs_ => (fun e_ => (Kd.R_ne HO_9.out BK505.out (by decide)) e_) hs_)); replace HO_9 := Aside0.mk (Kd.R_reok rfl hy0 (fun k_ e_ => HO_9.out.1 k_ e_)); replace HB := Aside0.mk (hb); (try clear hb); (try clear hkp); (try clear hy0)) | ((with_reducible refine gt 18 rfl ?_); refine goesL_ (some 71) rfl rfl Tryz.func18 (by kernel_rfl) rfl #[.slice Ao57 t519.length co57, .int .i64 1] rfl (by (try simp only [List.map_toArray, List.map_cons, List.map_nil]); first | done | (rw [show t519.length = t506.length from (Kd.R_reads' HO_9.out).1.symm] <;> rfl) | rfl | (simp only [List.length_drop, List.length_take]; rfl)) ?_; (with_reducible refine (laws_heldIntS.calls kj37 _ _ t519 1 t520 _ ?side1 ?side2 A55.out).mono ?_); (case side1 => exact sD (Kd.R_reads' HO_9.out).2.2); (case side2 => rw [show t519.length = t506.length from (Kd.R_reads' HO_9.out).1.symm]; exact (Kd.R_reads' HO_9.out).2.1); rintro e w' ⟨rfl, ⟨nd, rfl⟩⟩; refine ⟨_, rfl, ?_⟩))
          go_ret
          exact ⟨sE, sC⟩
         ·rw [if_neg c56] at H
          have c56b0 := decide_eq_false c56
          clear c56
          by_cases c59 : t520 = t518
          ·rw [if_pos c59] at H
           have c59b0 := beq_iff_eq.mpr c59
           have c59b1 := bne_eq_false_iff_eq.mpr c59
           clear c59
           obtain ⟨⟨t521, t524⟩, A60, H⟩ := bS H
           try dsimp only at H
           obtain ⟨⟨t525, t528⟩, A61, H⟩ := bS H
           try dsimp only at H
           have HC62 := Aside0.mk H
           clear H
           obtain ⟨Ao63, co63, eo63⟩ := Kd.R_slice HO_9.out
           subst eo63
           go_upto_region 25 with (first | ((with_reducible refine gt 17 rfl ?_); refine gL 17 68 Tryz.func17 #[.slice Ao63 t506.length co63, .int .i64 1] ?_; (with_reducible refine (laws_markIntS.calls kj37 (fun k_ => some k_ = (.slice Ao63 t506.length co63 : Value).ownBlock) (.slice Ao63 t506.length co63) t506 1 t518 t519 w _ ?side1 ?side2 A54.out).mono ?_); (case side1 => repeat (first | (with_reducible first | exact HB.out | apply below_alloc | apply pw_below_drewN | apply below_drew1 | refine below_set ?_ GE491.out | refine below_set ?_ GE505.out) | exact HB.out)); (case side2 => exact Kd.R_tight rfl HO_9.out); rintro e w64 ⟨rfl, hy0, hb, hkp⟩; refine ⟨_, rfl, ?_⟩; replace HO_6 := Aside0.mk (Kd.R_mono (ok' := fun k_ => some k_ ≠ (.slice Ao63 t506.length co63 : Value).ownBlock) (Kd.R_keptB (HO_6.out) hkp (fun k_ hk_ hs_ => (hk_) hs_)) (fun k_ hk_ => hk_.1)); replace BK491 := Aside0.mk (blk_kept (sK BK491) hkp (fun hs_ => (fun e_ => (Kd.R_ne HO_9.out BK491.out (by decide)) e_) hs_)); replace BK505 := Aside0.mk (blk_kept (sK BK505) hkp (fun hs_ => (fun e_ => (Kd.R_ne HO_9.out BK505.out (by decide)) e_) hs_)); replace HO_9 := Aside0.mk (Kd.R_reok rfl hy0 (fun k_ e_ => HO_9.out.1 k_ e_)); replace HB := Aside0.mk (hb); (try clear hb); (try clear hkp); (try clear hy0)) | ((with_reducible refine gt 18 rfl ?_); refine goesL_ (some 71) rfl rfl Tryz.func18 (by kernel_rfl) rfl #[.slice Ao63 t519.length co63, .int .i64 1] rfl (by (try simp only [List.map_toArray, List.map_cons, List.map_nil]); first | done | (rw [show t519.length = t506.length from (Kd.R_reads' HO_9.out).1.symm] <;> rfl) | rfl | (simp only [List.length_drop, List.length_take]; rfl)) ?_; (with_reducible refine (laws_heldIntS.calls kj37 _ _ t519 1 t520 _ ?side1 ?side2 A55.out).mono ?_); (case side1 => exact sD (Kd.R_reads' HO_9.out).2.2); (case side2 => rw [show t519.length = t506.length from (Kd.R_reads' HO_9.out).1.symm]; exact (Kd.R_reads' HO_9.out).2.1); rintro e w' ⟨rfl, ⟨nd, rfl⟩⟩; refine ⟨_, rfl, ?_⟩; have hnb65 := NB491_505.out; have hnc65 := NB505_491.out; have hcz66 := cb2 BK491) | ((with_reducible refine gt 12 rfl ?_); refine gL 12 79 Tryz.func12 #[.agg #[.slice A0_0 l0_0.length c0_0, .int .i64 a0_1]] ?_; (with_reducible refine (laws_toFs.calls kj37 _ _ l0_0 a0_1 t521 t524 _ ?side1 ?side2 A60.out).mono ?_); (case side1 => repeat (first | exact (Kd.C_below HR0_0.out sC) | (with_reducible refine Kd.C_alloc ?_ _) | (with_reducible refine Kd.C_drewN ?_ _) | (with_reducible refine Kd.C_drew ?_))); (case side2 => exact HC0_0.out); rintro e w67 ⟨v522, rfl, ho0, hb⟩; refine ⟨_, rfl, ?_⟩; replace HO_6 := nR HO_6 hb; replace HO_9 := nR HO_9 hb; have HO523 := Aside0.mk (Kd.S_lower ho0 (below_size sC)); replace BK491 := nK BK491 hb; replace BK505 := nK BK505 hb; replace HB := nSC hb; try clear hb; (try clear ho0); obtain ⟨Ao68, co68, eo68⟩ := Kd.S_slice HO523.out; subst eo68) | ((with_reducible refine gt 13 rfl ?_); refine gL 13 81 Tryz.func13 #[.agg #[.slice Ao68 t521.length co68, .int .i64 t524], .int .i64 a1] ?_; (with_reducible refine (impl_NodesBelow.calls kj37 _ _ t521 t524 a1 t525 t528 _ ?side1 ?side2 A61.out).mono ?_); (case side1 => exact sD (Kd.S_reads' HO523.out).2.2); (case side2 => exact (Kd.S_reads' HO523.out).2.1); rintro e w69 ⟨v526, rfl, ho0, hb⟩; refine ⟨_, rfl, ?_⟩; replace HO523 := nS HO523 hb; have HO527 := Aside0.mk (Kd.R_lower (Kd.R_new' (Kd.R_new' ho0 (Kd.R_lt (by (with_reducible repeat (first | apply Kd.R_alloc | apply Kd.R_drewN | apply Kd.R_drew)); exact HO_6.out))) (Kd.R_lt (by (with_reducible repeat (first | apply Kd.R_alloc | apply Kd.R_drewN | apply Kd.R_drew)); exact HO_9.out))) (below_size sC)); replace HO_6 := Aside0.mk (Kd.R_elder' (by (with_reducible repeat (first | apply Kd.R_alloc | apply Kd.R_drewN | apply Kd.R_drew)); exact HO_6.out) (Kd.R_base ho0) hb); replace HO_9 := Aside0.mk (Kd.R_elder' (by (with_reducible repeat (first | apply Kd.R_alloc | apply Kd.R_drewN | apply Kd.R_drew)); exact HO_9.out) (Kd.R_base ho0) hb); replace BK491 := nK BK491 hb; replace BK505 := nK BK505 hb; replace HB := nSC hb; try clear hb; (try clear ho0)))
           (try simp only [Act.put, List.setIfInBounds_toArray, List.set_cons_zero, List.set_cons_succ])
           go_cut [92] (fun v92 wc => ∃ (kq : Nat) (x92_61 : Bool), v92 = .bool x92_61 ∧ Aside0 (laws_FnExactNodesBelow.j2 kq t519 t518 x92_61 = some r) ∧ Aside0 (kq ≤ kj37) ∧ Aside0 (Kd.R (Kd.int .i64) 3 wc w.heap.size (fun _ => True) (.slice Ao63 t506.length co63) t519) ∧ Aside0 (wc.heap[gb491]? = some (.cells #[(.slice A0_0 l0_0.length c0_0), .int .i64 a0_1] 24 (0, 0))) ∧ Aside0 (wc.heap[gb505]? = some (.cells #[(.slice Ao23 t501.length co23), .int .i64 t504] 31 (0, 0))) ∧ Aside0 (Below w.heap.size w wc))
           case first =>
            have H := HC62.out
            clear HC62
            obtain ⟨t529, A70, H⟩ := bS H
            try dsimp only at H
            by_cases c71 : t529 = true
            ·subst c71
             rw [if_pos rfl] at H
             have H' := Aside0.mk H
             clear H
             obtain ⟨Ao72, co72, eo72⟩ := Kd.R_slice HO527.out
             subst eo72
             obtain ⟨Ao73, co73, eo73⟩ := Kd.R_slice HO_6.out
             subst eo73
             go_wp2_with (first | ((with_reducible refine gt 14 rfl ?_); refine gL 14 86 Tryz.func14 #[.slice Ao72 t525.length co72, .slice Ao73 t497.length co73] ?_; (with_reducible refine (laws_eqIntS.calls kj37 _ _ t525 _ _ t497 true _ ?side1 ?side2 ?side3 ?side4 A70.out).mono ?_); (case side1 => exact sD (Kd.R_reads' HO527.out).2.2); (case side2 => exact (Kd.R_reads' HO527.out).2.1); (case side3 => exact sD (Kd.R_reads' HO_6.out).2.2); (case side4 => exact (Kd.R_reads' HO_6.out).2.1); rintro e w' ⟨rfl, ⟨nd, rfl⟩⟩; refine ⟨_, rfl, ?_⟩))
             go_meet
             case rel => exact ⟨_, ((t528 != t500)), sR, H', ⟨by have := HJ11.out; have := HJ37.out; first | omega | exact Nat.le_refl _⟩, ⟨by (with_reducible repeat (first | apply Kd.R_alloc | apply Kd.R_drewN | apply Kd.R_drew)); exact Kd.R_mono HO_9.out (fun _ hk => trivial)⟩, ⟨sK BK491⟩, ⟨sK BK505⟩, ⟨sC⟩⟩
            ·replace c71 := Bool.eq_false_iff.mpr c71
             subst c71
             rw [if_neg (show ¬ (false = true) by decide)] at H
             have H' := Aside0.mk H
             clear H
             obtain ⟨Ao74, co74, eo74⟩ := Kd.R_slice HO527.out
             subst eo74
             obtain ⟨Ao75, co75, eo75⟩ := Kd.R_slice HO_6.out
             subst eo75
             go_wp2_with (first | ((with_reducible refine gt 14 rfl ?_); refine gL 14 86 Tryz.func14 #[.slice Ao74 t525.length co74, .slice Ao75 t497.length co75] ?_; (with_reducible refine (laws_eqIntS.calls kj37 _ _ t525 _ _ t497 false _ ?side1 ?side2 ?side3 ?side4 A70.out).mono ?_); (case side1 => exact sD (Kd.R_reads' HO527.out).2.2); (case side2 => exact (Kd.R_reads' HO527.out).2.1); (case side3 => exact sD (Kd.R_reads' HO_6.out).2.2); (case side4 => exact (Kd.R_reads' HO_6.out).2.1); rintro e w' ⟨rfl, ⟨nd, rfl⟩⟩; refine ⟨_, rfl, ?_⟩))
             go_meet
             case rel => exact ⟨_, (true), sR, H', ⟨by have := HJ11.out; have := HJ37.out; first | omega | exact Nat.le_refl _⟩, ⟨by (with_reducible repeat (first | apply Kd.R_alloc | apply Kd.R_drewN | apply Kd.R_drew)); exact Kd.R_mono HO_9.out (fun _ hk => trivial)⟩, ⟨sK BK491⟩, ⟨sK BK505⟩, ⟨sC⟩⟩
           case rest =>
            clear HC62
            try clear c1
            try clear c2
            try clear p2
            try clear c3
            try clear c4
            try clear c4b0
            try clear c5
            try clear c6
            try clear c7
            try clear c10
            try clear c11
            try clear c12
            try clear c13
            try clear c14
            try clear c15
            try clear c16
            try clear c17
            try clear c18
            try clear c24
            try clear c28
            try clear c33
            try clear c36
            try clear c43
            try clear c46
            try clear c46b0
            try clear c48
            try clear c53
            try clear c56
            try clear c56b0
            try clear c59
            try clear c59b0
            try clear c59b1
            try clear c65
            try clear c71
            try clear hcz14
            try clear hcz16
            try clear hcz20
            try clear hcz25
            try clear hcz44
            try clear hcz66
            try clear hcz6
            try clear p2
            obtain ⟨kq, x92_61, rfl, HA, HJ61, HO_9, BK491, BK505, HB⟩ := hcut
            have hl9_61 := (Kd.R_reads' HO_9.out).1
            rw [hl9_61] at HO_9
            (try simp only [hl9_61])
            (try simp only [hl9_61] at BK491)
            (try simp only [hl9_61] at BK505)
            cases kq with
            | zero => exact absurd HA.out (by simp [laws_FnExactNodesBelow.j2])
            | succ kj61 =>
             have H := HA.out
             clear HA
             simp only [laws_FnExactNodesBelow.j2] at H
             by_cases c76 : x92_61 = true
             ·subst c76
              rw [if_pos rfl] at H
              obtain rfl := Option.some.inj H
              go_wp2
              go_ret
              exact ⟨sE, sC⟩
             ·replace c76 := Bool.eq_false_iff.mpr c76
              subst c76
              rw [if_neg (show ¬ (false = true) by decide)] at H
              obtain ⟨t530, A77, H⟩ := bS H
              try dsimp only at H
              by_cases c78 : t530 < 0
              ·rw [if_pos c78] at H
               have c78b0 := decide_eq_true c78
               clear c78
               obtain rfl := Option.some.inj H
               go_wp2_with (first | ((with_reducible refine gt 18 rfl ?_); refine gL 18 95 Tryz.func18 #[.slice Ao63 t519.length co63, .int .i64 1] ?_; (with_reducible refine (laws_heldIntS.calls kj61 _ _ t519 1 t530 _ ?side1 ?side2 A77.out).mono ?_); (case side1 => exact sD (Kd.R_reads' HO_9.out).2.2); (case side2 => exact (Kd.R_reads' HO_9.out).2.1); rintro e w' ⟨rfl, ⟨nd, rfl⟩⟩; refine ⟨_, rfl, ?_⟩))
               go_ret
               exact ⟨sE, sC⟩
              ·rw [if_neg c78] at H
               have c78b0 := decide_eq_false c78
               clear c78
               by_cases c79 : t530 = t518
               ·rw [if_pos c79] at H
                have c79b0 := beq_iff_eq.mpr c79
                have c79b1 := bne_eq_false_iff_eq.mpr c79
                clear c79
                obtain rfl := Option.some.inj H
                go_wp2_with (first | ((with_reducible refine gt 18 rfl ?_); refine gL 18 95 Tryz.func18 #[.slice Ao63 t519.length co63, .int .i64 1] ?_; (with_reducible refine (laws_heldIntS.calls kj61 _ _ t519 1 t530 _ ?side1 ?side2 A77.out).mono ?_); (case side1 => exact sD (Kd.R_reads' HO_9.out).2.2); (case side2 => exact (Kd.R_reads' HO_9.out).2.1); rintro e w' ⟨rfl, ⟨nd, rfl⟩⟩; refine ⟨_, rfl, ?_⟩))
                go_ret
                exact ⟨sE, sC⟩
               ·rw [if_neg c79] at H
                have c79b0 := beq_eq_false_iff_ne.mpr c79
                have c79b1 := bne_iff_ne.mpr c79
                obtain rfl := Option.some.inj H
                go_wp2_with (first | ((with_reducible refine gt 18 rfl ?_); refine gL 18 95 Tryz.func18 #[.slice Ao63 t519.length co63, .int .i64 1] ?_; (with_reducible refine (laws_heldIntS.calls kj61 _ _ t519 1 t530 _ ?side1 ?side2 A77.out).mono ?_); (case side1 => exact sD (Kd.R_reads' HO_9.out).2.2); (case side2 => exact (Kd.R_reads' HO_9.out).2.1); rintro e w' ⟨rfl, ⟨nd, rfl⟩⟩; refine ⟨_, rfl, ?_⟩))
                go_ret
                exact ⟨sE, sC⟩
          ·rw [if_neg c59] at H
           have c59b0 := beq_eq_false_iff_ne.mpr c59
           have c59b1 := bne_iff_ne.mpr c59
           obtain rfl := Option.some.inj H
           obtain ⟨Ao80, co80, eo80⟩ := Kd.R_slice HO_9.out
           subst eo80
           go_wp2_with (first | ((with_reducible refine gt 17 rfl ?_); refine gL 17 68 Tryz.func17 #[.slice Ao80 t506.length co80, .int .i64 1] ?_; (with_reducible refine (laws_markIntS.calls kj37 (fun k_ => some k_ = (.slice Ao80 t506.length co80 : Value).ownBlock) (.slice Ao80 t506.length co80) t506 1 t518 t519 w _ ?side1 ?side2 A54.out).mono ?_); (case side1 => repeat (first | (with_reducible first | exact HB.out | apply below_alloc | apply pw_below_drewN | apply below_drew1 | refine below_set ?_ GE491.out | refine below_set ?_ GE505.out) | exact HB.out)); (case side2 => exact Kd.R_tight rfl HO_9.out); rintro e w81 ⟨rfl, hy0, hb, hkp⟩; refine ⟨_, rfl, ?_⟩; replace HO_6 := Aside0.mk (Kd.R_mono (ok' := fun k_ => some k_ ≠ (.slice Ao80 t506.length co80 : Value).ownBlock) (Kd.R_keptB (HO_6.out) hkp (fun k_ hk_ hs_ => (hk_) hs_)) (fun k_ hk_ => hk_.1)); replace BK491 := Aside0.mk (blk_kept (sK BK491) hkp (fun hs_ => (fun e_ => (Kd.R_ne HO_9.out BK491.out (by decide)) e_) hs_)); replace BK505 := Aside0.mk (blk_kept (sK BK505) hkp (fun hs_ => (fun e_ => (Kd.R_ne HO_9.out BK505.out (by decide)) e_) hs_)); replace HO_9 := Aside0.mk (Kd.R_reok rfl hy0 (fun k_ e_ => HO_9.out.1 k_ e_)); replace HB := Aside0.mk (hb); (try clear hb); (try clear hkp); (try clear hy0)) | ((with_reducible refine gt 18 rfl ?_); refine goesL_ (some 71) rfl rfl Tryz.func18 (by kernel_rfl) rfl #[.slice Ao80 t519.length co80, .int .i64 1] rfl (by (try simp only [List.map_toArray, List.map_cons, List.map_nil]); first | done | (rw [show t519.length = t506.length from (Kd.R_reads' HO_9.out).1.symm] <;> rfl) | rfl | (simp only [List.length_drop, List.length_take]; rfl)) ?_; (with_reducible refine (laws_heldIntS.calls kj37 _ _ t519 1 t520 _ ?side1 ?side2 A55.out).mono ?_); (case side1 => exact sD (Kd.R_reads' HO_9.out).2.2); (case side2 => rw [show t519.length = t506.length from (Kd.R_reads' HO_9.out).1.symm]; exact (Kd.R_reads' HO_9.out).2.1); rintro e w' ⟨rfl, ⟨nd, rfl⟩⟩; refine ⟨_, rfl, ?_⟩))
           go_ret
           exact ⟨sE, sC⟩
     ·replace c36 := Bool.eq_false_iff.mpr c36
      subst c36
      rw [if_neg (show ¬ (false = true) by decide)] at H
      obtain rfl := Option.some.inj H
      try go_wp2
      have n0_ := Aside0.mk (Kd.R_drew HO_6.out)
      have n1_ := Aside0.mk (Kd.R_drew HO_9.out)
      have n2_ := Aside0.mk (Kd.S_drew HO_506000.out)
      have n3_ := Aside0.mk (blk_drew BK491.out)
      have n4_ := Aside0.mk (blk_drew BK505.out)
      have n5_ := Aside0.mk (below_drew1 HB.out)
      clear HO_6
      clear HO_9
      clear HO_506000
      clear BK491
      clear BK505
      clear HB
      have HO_6 := n0_
      have HO_9 := n1_
      have HO_506000 := n2_
      have BK491 := n3_
      have BK505 := n4_
      have HB := n5_
      clear n0_ n1_ n2_ n3_ n4_ n5_
      refine st4 5 [] (cz0 BK505) (cz1 BK505) (cz0 BK491) (cz1 BK491) (fun hHeld => ?_)
      generalize wc.drew = w82 at HO_6 HO_9 HO_506000 BK491 BK505 HB hHeld ⊢
      refine tk4 0 45 ?_
      refine tk4 1 46 ?_
      refine on 2 47 (fun K hK => ?_)
      refine gC Tryz.func12 #[.agg #[.slice A0_0 l0_0.length c0_0, .int .i64 a0_1]] ?_
      with_reducible refine (laws_toFs.calls kj11 _ _ l0_0 a0_1 t511 t514 _ ?side1 ?side2 A34.out).mono ?_
      (case side1 => exact sD (Kd.C_below HR0_0.out HB.out))
      (case side2 => exact HC0_0.out)
      rintro e w83 ⟨v512, rfl, ho0, hb⟩
      refine ⟨_, rfl, ?_⟩
      have n0_ := nR HO_6 hb
      have n1_ := nR HO_9 hb
      have n2_ := Aside0.mk (Kd.S_elder' (by (with_reducible repeat (first | apply Kd.S_alloc | apply Kd.S_drewN | apply Kd.S_drew)); exact HO_506000.out) (Kd.S_base ho0) hb)
      have n3_ := Aside0.mk (Kd.S_lower (Kd.S_new' ho0 (Kd.S_lt (by (with_reducible repeat (first | apply Kd.S_alloc | apply Kd.S_drewN | apply Kd.S_drew)); exact HO_506000.out))) (below_size sC))
      have n4_ := nK BK491 hb
      have n5_ := nK BK505 hb
      have n6_ := nSC hb
      clear HO_6
      clear HO_9
      clear HO_506000
      clear BK491
      clear BK505
      clear HB
      have HO_6 := n0_
      have HO_9 := n1_
      have HO_506000 := n2_
      have HO513 := n3_
      have BK491 := n4_
      have BK505 := n5_
      have HB := n6_
      clear n0_ n1_ n2_ n3_ n4_ n5_ n6_
      (try clear hb)
      (try clear hb2)
      (try clear hk)
      (try clear hi)
      (try clear ho0)
      obtain ⟨Ao84, co84, eo84⟩ := Kd.S_slice HO513.out
      (first | subst eo84 | (injection eo84 with f1_ f2_ f3_; have f4_ := f1_.symm; have f5_ := f3_.symm; clear f1_ f2_ f3_; subst f4_; subst f5_))
      refine hK.out _ _ ⟨cz0 BK505, cz1 BK505, cz0 BK491, cz1 BK491⟩ (fun hHeld => ?_)
      clear hK K
      refine nm ?_
      refine on 3 48 (fun K hK => ?_)
      refine gC Tryz.func15 #[.agg #[.slice Ao23 t501.length co23, .int .i64 t504], .agg #[.slice Ao84 t511.length co84, .int .i64 t514]] ?_
      with_reducible refine (laws_eqFs.calls kj11 _ _ t501 t504 _ _ t511 t514 false _ ?side1 ?side2 ?side3 ?side4 A35.out).mono ?_
      (case side1 => exact sD (Kd.S_reads' HO_506000.out).2.2)
      (case side2 => exact (Kd.S_reads' HO_506000.out).2.1)
      (case side3 => exact sD (Kd.S_reads' HO513.out).2.2)
      (case side4 => exact (Kd.S_reads' HO513.out).2.1)
      rintro e w85 ⟨rfl, hb⟩
      refine ⟨_, rfl, ?_⟩
      have n0_ := nR HO_6 hb
      have n1_ := nR HO_9 hb
      have n2_ := nS HO_506000 hb
      have n3_ := nS HO513 hb
      have n4_ := nK BK491 hb
      have n5_ := nK BK505 hb
      have n6_ := nSC hb
      clear HO_6
      clear HO_9
      clear HO_506000
      clear HO513
      clear BK491
      clear BK505
      clear HB
      have HO_6 := n0_
      have HO_9 := n1_
      have HO_506000 := n2_
      have HO513 := n3_
      have BK491 := n4_
      have BK505 := n5_
      have HB := n6_
      clear n0_ n1_ n2_ n3_ n4_ n5_ n6_
      (try clear hb)
      (try clear hb2)
      (try clear hk)
      (try clear hi)
      refine hK.out _ _ ⟨cz0 BK505, cz1 BK505, cz0 BK491, cz1 BK491⟩ (fun hHeld => ?_)
      clear hK K
      refine nm ?_
      refine pu 4 49 ?_
      refine dn ?_
      try go_wp2
      go_ret
      exact ⟨sE, sC⟩

/-- The one pure statement of laws_FnExactNodesBelow. -/
def laws_FnExactNodesBelow.Pure : Prop := ∀ (l0_0 : List (S101)) (a0_1 : Int) (a1 : Int), (l0_0.length ≤ 9223372036854775807 ∧ ∀ e5_ ∈ l0_0, ((Lit.int .i64 e5_.f0).wf = true ∧ ((Lit.int .i64 e5_.f1).wf = true ∧ ((Lit.int .i64 e5_.f2).wf = true ∧ ((Lit.int .i64 e5_.f3).wf = true ∧ ((Lit.int .i64 e5_.f4).wf = true ∧ (e5_.f5.size ≤ 9223372036854775807 ∧ (e5_.f6.length ≤ 9223372036854775807 ∧ ∀ e6_ ∈ e5_.f6, (e6_.f0.size ≤ 9223372036854775807 ∧ (Lit.int .i64 e6_.f1).wf = true))))))))) → (Lit.int .i64 a0_1).wf = true → (Lit.int .i64 a1).wf = true → ∃ k, laws_FnExactNodesBelow.f k l0_0 a0_1 a1 = some true

end Go.Proofs.YtnmiglfmainhiaaGreatDoor.PNb
