-- Written by a program of this session (wip/print2) out of the translation. Lean checks it.
import Derived.Test.YteffcglgdfhkmaaDoorPWkx0
import Derived.Test.YteffcglgdfhkmaaDoorPWkx16
import Derived.Test.YteffcglgdfhkmaaDoorPWkx17
namespace Go.Proofs.YteffcglgdfhkmaaDoor.PWk
open Go.RowKit Go.Proofs.YteffcglgdfhkmaaDoorW.PrintWords Go.Proofs.YteffcglgdfhkmaaDoorW.PrintLast Go.Proofs.YteffcglgdfhkmaaDoorW.PrintMore
attribute [local go_sem] max2_int min2_int max_two min_two max_three min_three max_four min_four   -- for this text's walks alone
set_option linter.unusedVariables false
set_option linter.unusedSimpArgs false
set_option maxHeartbeats 8000000
set_option maxRecDepth 100000

/-! ### impl_OwnedBy: function 39 -/
def impl_OwnedBy.l0 : Nat → Int → List ByteArray → List (S78) → Int → Int → List (S53) → Int → Option (List ByteArray × Bool)
 | 0, _, _, _, _, _, _, _ => none
 | k + 1, x2, x8, x18, x19, x20, x566000, x566001 => if x20 < x19 then (if 0 ≤ x20 then (if x20 < (x18.length : Int) then (if 0 ≤ ((rd_T78 x18 x20).f1) then (if ((rd_T78 x18 x20).f1) < (x566000.length : Int) then (if ((rd_T53 x566000 ((rd_T78 x18 x20).f1)).f2) = x2 then (if x8.length < 8796093022208 then (impl_OwnedBy.l0 k x2 (x8 ++ [(rd_T78 x18 x20).f0]) x18 x19 (wrap64 (x20 + 1)) x566000 x566001) else (none)) else (impl_OwnedBy.l0 k x2 x8 x18 x19 (wrap64 (x20 + 1)) x566000 x566001)) else (none)) else (none)) else (none)) else (none)) else (some (x8, true))
def impl_OwnedBy.f (k : Nat) (l0_0 : List (S53)) (a0_1 : Int) (a1 : Int) (a2 : Int) : Option (List ByteArray × Bool) := (impl_isGoodAt.f k l0_0 a0_1 a1).bind fun t566 => (if t566 = true then ((impl_Fs_ways.f k l0_0 a0_1 a1 false).bind fun t570 => (impl_OwnedBy.l0 k a2 (([] : List ByteArray)) t570 (t570.length : Int) 0 l0_0 a0_1)) else (some (([] : List ByteArray), false)))
theorem impl_OwnedBy.calls (k : Nat) (A0_0 : Option Addr) (c0_0 : Nat) (l0_0 : List (S53)) (a0_1 : Int) (a1 : Int) (a2 : Int) (r1 : List ByteArray) (r2 : Bool) (w : World) (hr0_0 : Kd.C k53 w A0_0 l0_0.length l0_0) (hc0_0 : l0_0.length ≤ c0_0) (h : impl_OwnedBy.f k l0_0 a0_1 a1 a2 = some (r1, r2)) :
  Calls Tryd.prog 39 #[.agg #[.slice A0_0 l0_0.length c0_0, .int .i64 a0_1], .int .i64 a1, .int .i64 a2] w fun e w' => ∃ v0_ : Value, e = .returned (.tuple #[v0_, .bool r2]) ∧ Kd.R Kd.string 9 w' w.heap.size (fun _ => True) v0_ r1 ∧ Below w.heap.size w w' := by
 have hu29 := Tryd.underlying29
 have hu78 := Tryd.underlying78
 have HR0_0 := Aside0.mk hr0_0
 have HC0_0 := Aside0.mk hc0_0
 clear hr0_0 hc0_0
 have HB := Aside0.mk (Below.refl w.heap.size w)
 have H : ((impl_isGoodAt.f k l0_0 a0_1 a1).bind fun t566 => (if t566 = true then ((impl_Fs_ways.f k l0_0 a0_1 a1 false).bind fun t570 => (impl_OwnedBy.l0 k a2 (([] : List ByteArray)) t570 (t570.length : Int) 0 l0_0 a0_1)) else (some (([] : List ByteArray), false)))) = some (r1, r2) := h
 clear h
 obtain ⟨t566, A4, H⟩ := bS H
 try dsimp only at H
 by_cases c5 : t566 = true
 ·subst c5
  rw [if_pos rfl] at H
  obtain ⟨y567, hy567⟩ : ∃ y_ : List ByteArray, y_ = (([] : List ByteArray)) := ⟨_, rfl⟩
  replace H : ((impl_Fs_ways.f k l0_0 a0_1 a1 false).bind fun t570 => (impl_OwnedBy.l0 k a2 y567 t570 (t570.length : Int) 0 l0_0 a0_1)) = some (r1, r2) := by first | (rw [hy567]; with_reducible exact H) | (have H2_ := (Option.bind_some _ _).symm.trans H; rw [hy567]; with_reducible exact H2_) | (have H2_ := (Option.bind_some _ _).symm.trans H; with_reducible exact H2_) | with_reducible exact H | (rw [hy567]; exact H) | exact H
  have Ny567 := Aside0.mk hy567
  clear hy567
  obtain ⟨t570, A6, H⟩ := bS H
  try dsimp only at H
  have H' := Aside0.mk H
  clear H
  go_enter Tryd.func39, Tryd.ntmps39
  go_wp2_with (first | ((with_reducible refine gd 3 rfl ?_); refine bxE 3 #[.slice A0_0 l0_0.length c0_0, .int .i64 a0_1] 29 ?_; intro gb565 hg w7 hbox hb; have BK565 := Aside0.mk hbox; have GW565 := nGB hg; have GE565 := nGB hg; replace HB := nSB hb; clear hb hbox hg; have hcz8 := cb2 BK565) | ((with_reducible refine gt 52 rfl ?_); refine gL 52 13 Tryd.func52 #[.agg #[.slice A0_0 l0_0.length c0_0, .int .i64 a0_1], .int .i64 a1] ?_; (with_reducible refine (impl_isGoodAt.calls k _ _ l0_0 a0_1 a1 true _ ?side1 ?side2 A4.out).mono ?_); (case side1 => exact sD (Kd.C_below HR0_0.out HB.out)); (case side2 => exact HC0_0.out); rintro e w9 ⟨rfl, hb⟩; refine ⟨_, rfl, ?_⟩; replace BK565 := nK BK565 hb; replace HB := nSC hb; try clear hb) | ((with_reducible refine gate_dst (N := 15) rfl ?_); refine Kd.R_lit Kd.string _ 9 ?hg (N := 15) ?hd (xs := ([] : List ByteArray)) (inner := []) (ok := fun _ => True) (okp := fun _ => True) ?hr ?hp (fun _ hk => hk) trivial (Below.refl _ _) (Nat.le_refl _) (by simp) ?_; (case hd => rfl); (case hg => rfl); (case hr => first | (go_simp; done) | (go_simp; rfl)); (case hp => exact (Reps.none _ _)); intro v568 w10 ho11 hb hg_ hnew_; clear hg_ hnew_; (first | rw [← Ny567.out] at ho11 | (simp only [Int.reduceToNat] at ho11; rw [← Ny567.out] at ho11)); have HO569 := Aside0.mk (Kd.R_lower ho11 (below_size sC)); replace BK565 := nK BK565 hb; replace HB := nSC hb; clear hb ho11; have hcz12 := cb2 BK565) | ((with_reducible refine gt 70 rfl ?_); refine gL 70 18 Tryd.func70 #[.agg #[.slice A0_0 l0_0.length c0_0, .int .i64 a0_1], .int .i64 a1, .bool false] ?_; (with_reducible refine (impl_Fs_ways.calls k _ _ l0_0 a0_1 a1 false t570 _ ?side1 ?side2 A6.out).mono ?_); (case side1 => exact sD (Kd.C_below HR0_0.out HB.out)); (case side2 => exact HC0_0.out); rintro e w13 ⟨v571, rfl, ho0, hb⟩; refine ⟨_, rfl, ?_⟩; replace HO569 := nR HO569 hb; have HO572 := Aside0.mk (Kd.R_lower ho0 (below_size sC)); replace BK565 := nK BK565 hb; replace HB := nSC hb; try clear hb; (try clear ho0); obtain ⟨Ao14, co14, eo14⟩ := Kd.R_slice HO572.out; subst eo14))
  go_loopg [8, 20] k (fun kq v8 v20 w' => ∃ (x8_1 : List ByteArray) (x20_1 : Int), v20 = .int .i64 x20_1 ∧ Aside0 (impl_OwnedBy.l0 kq a2 x8_1 t570 (t570.length : Int) x20_1 l0_0 a0_1 = some (r1, r2)) ∧ Aside0 (kq ≤ k) ∧ Aside0 (Kd.R Kd.string 9 w' w.heap.size (fun _ => True) v8 x8_1) ∧ Aside0 (Kd.R k78 78 w' w.heap.size (fun _ => True) (.slice Ao14 t570.length co14) t570) ∧ Aside0 (w'.heap[gb565]? = some (.cells #[(.slice A0_0 l0_0.length c0_0), .int .i64 a0_1] 29 (0, 0))) ∧ Aside0 (Below w.heap.size w w'))
  case atStart => exact ⟨(y567), (0), sR, H', ⟨Nat.le_refl _⟩, ⟨rR HO569⟩, ⟨rR HO572⟩, ⟨sK BK565⟩, ⟨sC⟩⟩
  case round =>
   clear H'
   try clear p2
   try clear c3
   try clear c5
   try clear c7
   try clear hcz12
   try clear hcz8
   obtain ⟨x8_1, x20_1, rfl, HA, HK1, HO_8, HO_18, BK565, HB⟩ := hrel
   cases gk with
   | zero => exact absurd HA.out (by simp [impl_OwnedBy.l0])
   | succ k1 =>
    have H := HA.out
    clear HA
    simp only [impl_OwnedBy.l0] at H
    by_cases c15 : x20_1 < (t570.length : Int)
    ·rw [if_pos c15] at H
     have c15b0 := decide_eq_true c15
     clear c15
     obtain ⟨c16, H⟩ := iN H
     have c16b0 := decide_eq_true c16
     clear c16
     obtain ⟨c17, H⟩ := iN H
     have c17b0 := decide_eq_true c17
     clear c17
     obtain ⟨c18, H⟩ := iN H
     have c18b0 := decide_eq_true c18
     clear c18
     obtain ⟨c19, H⟩ := iN H
     have c19b0 := decide_eq_true c19
     clear c19
     by_cases c20 : ((rd_T53 l0_0 ((rd_T78 t570 x20_1).f1)).f2) = a2
     ·rw [if_pos c20] at H
      have c20b0 := beq_iff_eq.mpr c20
      have c20b1 := bne_eq_false_iff_eq.mpr c20
      clear c20
      obtain ⟨c21, H⟩ := iN H
      have LMc21 := Aside0.mk c21
      clear c21
      obtain ⟨y576, hy576⟩ : ∃ y_ : List ByteArray, y_ = (x8_1 ++ [(rd_T78 t570 x20_1).f0]) := ⟨_, rfl⟩
      replace H : (impl_OwnedBy.l0 k1 a2 y576 t570 (t570.length : Int) (wrap64 (x20_1 + 1)) l0_0 a0_1) = some (r1, r2) := by first | (rw [hy576]; with_reducible exact H) | (have H2_ := (Option.bind_some _ _).symm.trans H; rw [hy576]; with_reducible exact H2_) | (have H2_ := (Option.bind_some _ _).symm.trans H; with_reducible exact H2_) | with_reducible exact H | (rw [hy576]; exact H) | exact H
      have Ny576 := Aside0.mk hy576
      clear hy576
      have H' := Aside0.mk H
      clear H
      have p573 : 0 ≤ (x20_1 : Int) := sO
      have q573 : x20_1 < (t570.length : Int) := sO
      obtain ⟨ad573, e573, hx573_0, hx573_1⟩ := at_T78 (Kd.R_reads' HO_18.out).2.2 x20_1 p573 q573
      cases e573
      replace p573 := eq_true p573
      replace q573 := eq_true q573
      go_wp2_with (first | ((with_reducible refine gd 10 rfl ?_); refine bxE 10 #[.string (⟨#[]⟩ : ByteArray), .int .i64 0] 78 ?_; intro gb574 hg w22 hbox hb; replace HO_8 := nR HO_8 hb; replace HO_18 := Aside0.mk (Kd.R_below (Kd.R_elderB (by (with_reducible repeat (first | apply Kd.R_alloc | apply Kd.R_drewN | apply Kd.R_drew)); exact HO_18.out) gb574 (Nat.le_of_eq hg.symm)) hb); have BK574 := Aside0.mk hbox; have GW574 := nGC hg; have GE574 := nGC hg; replace HB := nSC hb; have NB565_574 := nL BK565 hg; have NB574_565 := nH BK565 hg; replace BK565 := nK BK565 hb; clear hb hbox hg; have hnb23 := NB574_565.out; have hnc23 := NB565_574.out; have hcz24 := cb2 BK574; have hcz25 := cb2 BK565; have p575 : 0 ≤ (((rd_T78 t570 x20_1).f1) : Int) := sO; have q575 : ((rd_T78 t570 x20_1).f1) < (l0_0.length : Int) := sO; obtain ⟨ad575, A575_6, c575_6, e575, hx575_0, hx575_1, hx575_2, hx575_3, hx575_4, hx575_5, hx575_6, hl575_6, hi575_6⟩ := at_T53 HR0_0.out ((rd_T78 t570 x20_1).f1) p575 q575; cases e575; have hn575_0 : ad575.block ≠ gb574 := Nat.ne_of_lt (Nat.lt_of_lt_of_le (by have := World.block_lt_of_cell? _ _ hx575_0; first | rwa [add_block] at this | exact this) GW574.out); have hn575_1 : ad575.block ≠ gb574 := Nat.ne_of_lt (Nat.lt_of_lt_of_le (by have := World.block_lt_of_cell? _ _ hx575_0; first | rwa [add_block] at this | exact this) GW574.out); replace hx575_0 := hB HB hx575_0; replace hx575_1 := hB HB hx575_1; replace hx575_2 := hB HB hx575_2; replace hx575_3 := hB HB hx575_3; replace hx575_4 := hB HB hx575_4; replace hx575_5 := hB HB hx575_5; replace hx575_6 := hB HB hx575_6; have HR575_6 := Aside0.mk hi575_6; have HC575_6 := Aside0.mk hl575_6; clear hi575_6 hl575_6; replace hx575_0 := (cell_far (p := ⟨gb574, 0, none⟩) (by first | (rw [add_block]; exact hn575_0) | (show (Addr.add _ _).block ≠ _; rw [add_block]; exact hn575_0) | exact hn575_0) (.string ((rd_T78 t570 x20_1).f0))).trans hx575_0; replace hx575_1 := (cell_far (p := ⟨gb574, 0, none⟩) (by first | (rw [add_block]; exact hn575_0) | (show (Addr.add _ _).block ≠ _; rw [add_block]; exact hn575_0) | exact hn575_0) (.string ((rd_T78 t570 x20_1).f0))).trans hx575_1; replace hx575_2 := (cell_far (p := ⟨gb574, 0, none⟩) (by first | (rw [add_block]; exact hn575_0) | (show (Addr.add _ _).block ≠ _; rw [add_block]; exact hn575_0) | exact hn575_0) (.string ((rd_T78 t570 x20_1).f0))).trans hx575_2; replace hx575_3 := (cell_far (p := ⟨gb574, 0, none⟩) (by first | (rw [add_block]; exact hn575_0) | (show (Addr.add _ _).block ≠ _; rw [add_block]; exact hn575_0) | exact hn575_0) (.string ((rd_T78 t570 x20_1).f0))).trans hx575_3; replace hx575_4 := (cell_far (p := ⟨gb574, 0, none⟩) (by first | (rw [add_block]; exact hn575_0) | (show (Addr.add _ _).block ≠ _; rw [add_block]; exact hn575_0) | exact hn575_0) (.string ((rd_T78 t570 x20_1).f0))).trans hx575_4; replace hx575_5 := (cell_far (p := ⟨gb574, 0, none⟩) (by first | (rw [add_block]; exact hn575_0) | (show (Addr.add _ _).block ≠ _; rw [add_block]; exact hn575_0) | exact hn575_0) (.string ((rd_T78 t570 x20_1).f0))).trans hx575_5; replace hx575_6 := (cell_far (p := ⟨gb574, 0, none⟩) (by first | (rw [add_block]; exact hn575_0) | (show (Addr.add _ _).block ≠ _; rw [add_block]; exact hn575_0) | exact hn575_0) (.string ((rd_T78 t570 x20_1).f0))).trans hx575_6; replace hx575_0 := (cell_far (p := ⟨gb574, 1, none⟩) (by first | (rw [add_block]; exact hn575_1) | (show (Addr.add _ _).block ≠ _; rw [add_block]; exact hn575_1) | exact hn575_1) (.int .i64 ((rd_T78 t570 x20_1).f1))).trans hx575_0; replace hx575_1 := (cell_far (p := ⟨gb574, 1, none⟩) (by first | (rw [add_block]; exact hn575_1) | (show (Addr.add _ _).block ≠ _; rw [add_block]; exact hn575_1) | exact hn575_1) (.int .i64 ((rd_T78 t570 x20_1).f1))).trans hx575_1; replace hx575_2 := (cell_far (p := ⟨gb574, 1, none⟩) (by first | (rw [add_block]; exact hn575_1) | (show (Addr.add _ _).block ≠ _; rw [add_block]; exact hn575_1) | exact hn575_1) (.int .i64 ((rd_T78 t570 x20_1).f1))).trans hx575_2; replace hx575_3 := (cell_far (p := ⟨gb574, 1, none⟩) (by first | (rw [add_block]; exact hn575_1) | (show (Addr.add _ _).block ≠ _; rw [add_block]; exact hn575_1) | exact hn575_1) (.int .i64 ((rd_T78 t570 x20_1).f1))).trans hx575_3; replace hx575_4 := (cell_far (p := ⟨gb574, 1, none⟩) (by first | (rw [add_block]; exact hn575_1) | (show (Addr.add _ _).block ≠ _; rw [add_block]; exact hn575_1) | exact hn575_1) (.int .i64 ((rd_T78 t570 x20_1).f1))).trans hx575_4; replace hx575_5 := (cell_far (p := ⟨gb574, 1, none⟩) (by first | (rw [add_block]; exact hn575_1) | (show (Addr.add _ _).block ≠ _; rw [add_block]; exact hn575_1) | exact hn575_1) (.int .i64 ((rd_T78 t570 x20_1).f1))).trans hx575_5; replace hx575_6 := (cell_far (p := ⟨gb574, 1, none⟩) (by first | (rw [add_block]; exact hn575_1) | (show (Addr.add _ _).block ≠ _; rw [add_block]; exact hn575_1) | exact hn575_1) (.int .i64 ((rd_T78 t570 x20_1).f1))).trans hx575_6; clear hn575_0; clear hn575_1; replace p575 := eq_true p575; replace q575 := eq_true q575) | ((with_reducible refine gate_builtin (b := .append) (xs := #[.tmp 33, .tmp 36]) rfl ?_); at_builtin; refine Kd.R_append Kd.string (w0 := w) w.heap.size rfl (.tmp 33) (.tmp 36) 39 9 (.string ⟨#[]⟩) 16 rfl Tryd.underlying39 info9 rfl (by decide) (by omega) u8 x8_1 ((rd_T78 t570 x20_1).f0) [.string ((rd_T78 t570 x20_1).f0)] (fun _ => True) (fun _ => False) rfl (by first | (go_simp; done) | (go_simp; rfl)) ?aP (fun _ hk => hk.elim) ?aF ?aO ?aB ?aS ?aL ?_; (case aP => exact rfl); (case aB => exact sC); (case aF => exact (fun _ _ => trivial)); (case aO => exact (by (with_reducible repeat (first | apply Kd.R_alloc | apply Kd.R_drewN | apply Kd.R_drew)); exact Kd.R_mono (Kd.R_far (p := ⟨gb574, 1, none⟩) (Kd.R_far (p := ⟨gb574, 0, none⟩) (Kd.R_types HO_8.out BK574.out (by decide)) (fun _ hk => hk.2) (.string ((rd_T78 t570 x20_1).f0))) (fun _ hk => hk.2) (.int .i64 ((rd_T78 t570 x20_1).f1))) (fun _ hk => trivial))); (case aS => exact (below_size sC)); (case aL => have := LMc21.out; omega); intro v577 w26 ho hb hg hat; rw [← Ny576.out] at ho; replace HO_18 := Aside0.mk (Kd.R_over' (by (with_reducible repeat (first | apply Kd.R_alloc | apply Kd.R_drewN | apply Kd.R_drew)); exact (Kd.R_mono (Kd.R_far (p := ⟨gb574, 1, none⟩) (Kd.R_far (p := ⟨gb574, 0, none⟩) (Kd.R_mono HO_18.out (fun k_ hk => (⟨hk, hk.2⟩ : _ ∧ k_ ≠ gb574))) (fun _ hk => hk.2) (.string ((rd_T78 t570 x20_1).f0))) (fun _ hk => hk.2) (.int .i64 ((rd_T78 t570 x20_1).f1))) (fun _ h_ => h_.1))) (Kd.R_typed (by (with_reducible repeat (first | apply Kd.R_alloc | apply Kd.R_drewN | apply Kd.R_drew)); exact (Kd.R_mono (Kd.R_far (p := ⟨gb574, 1, none⟩) (Kd.R_far (p := ⟨gb574, 0, none⟩) (Kd.R_types HO_8.out BK574.out (by decide)) (fun _ hk => hk.2) (.string ((rd_T78 t570 x20_1).f0))) (fun _ hk => hk.2) (.int .i64 ((rd_T78 t570 x20_1).f1))) (fun _ h_ => h_.1)))) (by decide) hg); replace BK565 := Aside0.mk (blk_grown (g := gb565) (o := .cells #[.slice (some ad575) l0_0.length c0_0, .int .i64 a0_1] 29 (0, 0)) (sX BK565) hg (Kd.R_ne HO_8.out BK565.out (by decide))); replace BK574 := Aside0.mk (blk_grown (g := gb574) (o := .cells #[.string ((rd_T78 t570 x20_1).f0), .int .i64 ((rd_T78 t570 x20_1).f1)] 78 (0, 0)) (sX BK574) hg (Kd.R_ne HO_8.out BK574.out (by decide))); replace HB := Aside0.mk (hb); have HO578 := Aside0.mk (ho); clear HO_8; clear ho hb hg hat))
      go_roundg k1
      case measure => have := HK1.out; omega
      case rel => exact ⟨(y576), (wrap64 (x20_1 + 1)), sR, H', ⟨by have := HK1.out; omega⟩, ⟨rR HO578⟩, ⟨by (with_reducible repeat (first | apply Kd.R_alloc | apply Kd.R_drewN | apply Kd.R_drew)); exact Kd.R_mono HO_18.out (fun _ hk => trivial)⟩, ⟨sK BK565⟩, ⟨sC⟩⟩
     ·rw [if_neg c20] at H
      have c20b0 := beq_eq_false_iff_ne.mpr c20
      have c20b1 := bne_iff_ne.mpr c20
      have H' := Aside0.mk H
      clear H
      have p573 : 0 ≤ (x20_1 : Int) := sO
      have q573 : x20_1 < (t570.length : Int) := sO
      obtain ⟨ad573, e573, hx573_0, hx573_1⟩ := at_T78 (Kd.R_reads' HO_18.out).2.2 x20_1 p573 q573
      cases e573
      replace p573 := eq_true p573
      replace q573 := eq_true q573
      go_wp2_with (first | ((with_reducible refine gd 10 rfl ?_); refine bxE 10 #[.string (⟨#[]⟩ : ByteArray), .int .i64 0] 78 ?_; intro gb574 hg w27 hbox hb; replace HO_8 := nR HO_8 hb; replace HO_18 := Aside0.mk (Kd.R_below (Kd.R_elderB (by (with_reducible repeat (first | apply Kd.R_alloc | apply Kd.R_drewN | apply Kd.R_drew)); exact HO_18.out) gb574 (Nat.le_of_eq hg.symm)) hb); have BK574 := Aside0.mk hbox; have GW574 := nGC hg; have GE574 := nGC hg; replace HB := nSC hb; have NB565_574 := nL BK565 hg; have NB574_565 := nH BK565 hg; replace BK565 := nK BK565 hb; clear hb hbox hg; have hnb28 := NB574_565.out; have hnc28 := NB565_574.out; have hcz29 := cb2 BK574; have hcz30 := cb2 BK565; have p575 : 0 ≤ (((rd_T78 t570 x20_1).f1) : Int) := sO; have q575 : ((rd_T78 t570 x20_1).f1) < (l0_0.length : Int) := sO; obtain ⟨ad575, A575_6, c575_6, e575, hx575_0, hx575_1, hx575_2, hx575_3, hx575_4, hx575_5, hx575_6, hl575_6, hi575_6⟩ := at_T53 HR0_0.out ((rd_T78 t570 x20_1).f1) p575 q575; cases e575; have hn575_0 : ad575.block ≠ gb574 := Nat.ne_of_lt (Nat.lt_of_lt_of_le (by have := World.block_lt_of_cell? _ _ hx575_0; first | rwa [add_block] at this | exact this) GW574.out); have hn575_1 : ad575.block ≠ gb574 := Nat.ne_of_lt (Nat.lt_of_lt_of_le (by have := World.block_lt_of_cell? _ _ hx575_0; first | rwa [add_block] at this | exact this) GW574.out); replace hx575_0 := hB HB hx575_0; replace hx575_1 := hB HB hx575_1; replace hx575_2 := hB HB hx575_2; replace hx575_3 := hB HB hx575_3; replace hx575_4 := hB HB hx575_4; replace hx575_5 := hB HB hx575_5; replace hx575_6 := hB HB hx575_6; have HR575_6 := Aside0.mk hi575_6; have HC575_6 := Aside0.mk hl575_6; clear hi575_6 hl575_6; replace hx575_0 := (cell_far (p := ⟨gb574, 0, none⟩) (by first | (rw [add_block]; exact hn575_0) | (show (Addr.add _ _).block ≠ _; rw [add_block]; exact hn575_0) | exact hn575_0) (.string ((rd_T78 t570 x20_1).f0))).trans hx575_0; replace hx575_1 := (cell_far (p := ⟨gb574, 0, none⟩) (by first | (rw [add_block]; exact hn575_0) | (show (Addr.add _ _).block ≠ _; rw [add_block]; exact hn575_0) | exact hn575_0) (.string ((rd_T78 t570 x20_1).f0))).trans hx575_1; replace hx575_2 := (cell_far (p := ⟨gb574, 0, none⟩) (by first | (rw [add_block]; exact hn575_0) | (show (Addr.add _ _).block ≠ _; rw [add_block]; exact hn575_0) | exact hn575_0) (.string ((rd_T78 t570 x20_1).f0))).trans hx575_2; replace hx575_3 := (cell_far (p := ⟨gb574, 0, none⟩) (by first | (rw [add_block]; exact hn575_0) | (show (Addr.add _ _).block ≠ _; rw [add_block]; exact hn575_0) | exact hn575_0) (.string ((rd_T78 t570 x20_1).f0))).trans hx575_3; replace hx575_4 := (cell_far (p := ⟨gb574, 0, none⟩) (by first | (rw [add_block]; exact hn575_0) | (show (Addr.add _ _).block ≠ _; rw [add_block]; exact hn575_0) | exact hn575_0) (.string ((rd_T78 t570 x20_1).f0))).trans hx575_4; replace hx575_5 := (cell_far (p := ⟨gb574, 0, none⟩) (by first | (rw [add_block]; exact hn575_0) | (show (Addr.add _ _).block ≠ _; rw [add_block]; exact hn575_0) | exact hn575_0) (.string ((rd_T78 t570 x20_1).f0))).trans hx575_5; replace hx575_6 := (cell_far (p := ⟨gb574, 0, none⟩) (by first | (rw [add_block]; exact hn575_0) | (show (Addr.add _ _).block ≠ _; rw [add_block]; exact hn575_0) | exact hn575_0) (.string ((rd_T78 t570 x20_1).f0))).trans hx575_6; replace hx575_0 := (cell_far (p := ⟨gb574, 1, none⟩) (by first | (rw [add_block]; exact hn575_1) | (show (Addr.add _ _).block ≠ _; rw [add_block]; exact hn575_1) | exact hn575_1) (.int .i64 ((rd_T78 t570 x20_1).f1))).trans hx575_0; replace hx575_1 := (cell_far (p := ⟨gb574, 1, none⟩) (by first | (rw [add_block]; exact hn575_1) | (show (Addr.add _ _).block ≠ _; rw [add_block]; exact hn575_1) | exact hn575_1) (.int .i64 ((rd_T78 t570 x20_1).f1))).trans hx575_1; replace hx575_2 := (cell_far (p := ⟨gb574, 1, none⟩) (by first | (rw [add_block]; exact hn575_1) | (show (Addr.add _ _).block ≠ _; rw [add_block]; exact hn575_1) | exact hn575_1) (.int .i64 ((rd_T78 t570 x20_1).f1))).trans hx575_2; replace hx575_3 := (cell_far (p := ⟨gb574, 1, none⟩) (by first | (rw [add_block]; exact hn575_1) | (show (Addr.add _ _).block ≠ _; rw [add_block]; exact hn575_1) | exact hn575_1) (.int .i64 ((rd_T78 t570 x20_1).f1))).trans hx575_3; replace hx575_4 := (cell_far (p := ⟨gb574, 1, none⟩) (by first | (rw [add_block]; exact hn575_1) | (show (Addr.add _ _).block ≠ _; rw [add_block]; exact hn575_1) | exact hn575_1) (.int .i64 ((rd_T78 t570 x20_1).f1))).trans hx575_4; replace hx575_5 := (cell_far (p := ⟨gb574, 1, none⟩) (by first | (rw [add_block]; exact hn575_1) | (show (Addr.add _ _).block ≠ _; rw [add_block]; exact hn575_1) | exact hn575_1) (.int .i64 ((rd_T78 t570 x20_1).f1))).trans hx575_5; replace hx575_6 := (cell_far (p := ⟨gb574, 1, none⟩) (by first | (rw [add_block]; exact hn575_1) | (show (Addr.add _ _).block ≠ _; rw [add_block]; exact hn575_1) | exact hn575_1) (.int .i64 ((rd_T78 t570 x20_1).f1))).trans hx575_6; clear hn575_0; clear hn575_1; replace p575 := eq_true p575; replace q575 := eq_true q575))
      go_roundg k1
      case measure => have := HK1.out; omega
      case rel => exact ⟨(x8_1), (wrap64 (x20_1 + 1)), sR, H', ⟨by have := HK1.out; omega⟩, ⟨rRf HO_8 BK574 (fun _ hk => trivial)⟩, ⟨by (with_reducible repeat (first | apply Kd.R_alloc | apply Kd.R_drewN | apply Kd.R_drew)); exact Kd.R_mono (Kd.R_far (p := ⟨gb574, 1, none⟩) (Kd.R_far (p := ⟨gb574, 0, none⟩) (Kd.R_mono HO_18.out (fun k_ hk => (⟨hk, hk.2⟩ : _ ∧ k_ ≠ gb574))) (fun _ hk => hk.2) (.string ((rd_T78 t570 x20_1).f0))) (fun _ hk => hk.2) (.int .i64 ((rd_T78 t570 x20_1).f1))) (fun _ hk => trivial)⟩, ⟨sX BK565⟩, ⟨sC⟩⟩
    ·rw [if_neg c15] at H
     have c15b0 := decide_eq_false c15
     clear c15
     simp only [Option.some.injEq, Prod.mk.injEq] at H
     obtain ⟨rfl, rfl⟩ := H
     go_wp2
     go_ret2
     exact ⟨_, sE, by (with_reducible repeat (first | apply Kd.R_alloc | apply Kd.R_drewN | apply Kd.R_drew)); exact HO_8.out, sC⟩
 ·replace c5 := Bool.eq_false_iff.mpr c5
  subst c5
  rw [if_neg (show ¬ (false = true) by decide)] at H
  simp only [Option.some.injEq, Prod.mk.injEq] at H
  obtain ⟨rfl, rfl⟩ := H
  go_enter Tryd.func39, Tryd.ntmps39
  go_wp2_with (first | ((with_reducible refine gd 3 rfl ?_); refine bxE 3 #[.slice A0_0 l0_0.length c0_0, .int .i64 a0_1] 29 ?_; intro gb565 hg w31 hbox hb; have BK565 := Aside0.mk hbox; have GW565 := nGB hg; have GE565 := nGB hg; replace HB := nSB hb; clear hb hbox hg; have hcz32 := cb2 BK565) | ((with_reducible refine gt 52 rfl ?_); refine gL 52 13 Tryd.func52 #[.agg #[.slice A0_0 l0_0.length c0_0, .int .i64 a0_1], .int .i64 a1] ?_; (with_reducible refine (impl_isGoodAt.calls k _ _ l0_0 a0_1 a1 false _ ?side1 ?side2 A4.out).mono ?_); (case side1 => exact sD (Kd.C_below HR0_0.out HB.out)); (case side2 => exact HC0_0.out); rintro e w33 ⟨rfl, hb⟩; refine ⟨_, rfl, ?_⟩; replace BK565 := nK BK565 hb; replace HB := nSC hb; try clear hb))
  go_ret2
  exact ⟨_, sE, by first | exact Kd.R_nil _ _ _ _ _ | exact Kd.N_nil _ _ _ _ _ | exact Kd.V_nil _ _ _ _ _ | exact Kd.Q_nil _ _ _ _ _ | exact Kd.S_nil _ _ _ _ _, sC⟩

end Go.Proofs.YteffcglgdfhkmaaDoor.PWk
