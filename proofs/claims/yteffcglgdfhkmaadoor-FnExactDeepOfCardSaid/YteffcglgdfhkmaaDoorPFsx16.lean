-- Written by a program of this session (wip/print2) out of the translation. Lean checks it.
import Derived.Test.YteffcglgdfhkmaaDoorPFsx0
import Derived.Test.YteffcglgdfhkmaaDoorPFsx15
namespace Go.Proofs.YteffcglgdfhkmaaDoor.PFs
open Go.RowKit Go.Proofs.YteffcglgdfhkmaaDoorW.PrintWords Go.Proofs.YteffcglgdfhkmaaDoorW.PrintLast Go.Proofs.YteffcglgdfhkmaaDoorW.PrintMore
attribute [local go_sem] max2_int min2_int max_two min_two max_three min_three max_four min_four   -- for this text's walks alone
set_option linter.unusedVariables false
set_option linter.unusedSimpArgs false

/-! ### impl_walked: function 66 -/
def impl_walked.l0 : Nat → List ByteArray → List (S78) → Int → Int → Option (List ByteArray × Bool)
 | 0, _, _, _, _ => none
 | k + 1, x8, x19, x20, x21 => if x21 < x20 then (if 0 ≤ x21 then (if x21 < (x19.length : Int) then (if x8.length < 8796093022208 then (impl_walked.l0 k (x8 ++ [(rd_T78 x19 x21).f0]) x19 x20 (wrap64 (x21 + 1))) else (none)) else (none)) else (none)) else (some (x8, true))
def impl_walked.f (k : Nat) (l0_0 : List (S53)) (a0_1 : Int) (a1 : Int) (a2 : Bool) : Option (List ByteArray × Bool) := (impl_isGoodAt.f k l0_0 a0_1 a1).bind fun t408 => (if t408 = true then ((impl_Fs_ways.f k l0_0 a0_1 a1 a2).bind fun t412 => (impl_walked.l0 k (([] : List ByteArray)) t412 (t412.length : Int) 0)) else (some (([] : List ByteArray), false)))
theorem impl_walked.mono_l : ∀ k, (∀ y0 y1 y2 y3, LeO (impl_walked.l0 k y0 y1 y2 y3) (impl_walked.l0 (k + 1) y0 y1 y2 y3))
 | 0 => fun _ _ _ _ r h => by simp [impl_walked.l0] at h
 | k + 1 => by
  have ih0 := impl_walked.mono_l k
  ·intro y0 y1 y2 y3
   unfold impl_walked.l0
   have m0 := @impl_Fs_ways.mono
   have m1 := @impl_isGoodAt.mono
   exact mo
theorem impl_walked.mono : ∀ a0 a1 a2 a3 k, LeO (impl_walked.f k a0 a1 a2 a3) (impl_walked.f (k + 1) a0 a1 a2 a3) := by
 intro a0 a1 a2 a3 k
 have ih0 := impl_walked.mono_l k
 unfold impl_walked.f
 have m0 := @impl_Fs_ways.mono
 have m1 := @impl_isGoodAt.mono
 exact mo
set_option maxHeartbeats 8000000 in
set_option maxRecDepth 100000 in
theorem impl_walked.calls (k : Nat) (A0_0 : Option Addr) (c0_0 : Nat) (l0_0 : List (S53)) (a0_1 : Int) (a1 : Int) (a2 : Bool) (r1 : List ByteArray) (r2 : Bool) (w : World) (hr0_0 : Kd.C k53 w A0_0 l0_0.length l0_0) (hc0_0 : l0_0.length ≤ c0_0) (h : impl_walked.f k l0_0 a0_1 a1 a2 = some (r1, r2)) :
  Calls Tryd.prog 66 #[.agg #[.slice A0_0 l0_0.length c0_0, .int .i64 a0_1], .int .i64 a1, .bool a2] w fun e w' => ∃ v0_ : Value, e = .returned (.tuple #[v0_, .bool r2]) ∧ Kd.R Kd.string 9 w' w.heap.size (fun _ => True) v0_ r1 ∧ Below w.heap.size w w' := by
 have hu29 := Tryd.underlying29
 have hu78 := Tryd.underlying78
 have HR0_0 := Aside0.mk hr0_0
 have HC0_0 := Aside0.mk hc0_0
 clear hr0_0 hc0_0
 have HB := Aside0.mk (Below.refl w.heap.size w)
 have H : ((impl_isGoodAt.f k l0_0 a0_1 a1).bind fun t408 => (if t408 = true then ((impl_Fs_ways.f k l0_0 a0_1 a1 a2).bind fun t412 => (impl_walked.l0 k (([] : List ByteArray)) t412 (t412.length : Int) 0)) else (some (([] : List ByteArray), false)))) = some (r1, r2) := h
 clear h
 obtain ⟨t408, A40, H⟩ := Option.bind_eq_some_iff.mp H
 try dsimp only at H
 replace A40 := Aside0.mk A40; have A4 := A40; clear A40
 by_cases c5 : t408 = true
 ·subst c5
  rw [if_pos rfl] at H
  obtain ⟨y409, hy409⟩ : ∃ y_ : List ByteArray, y_ = (([] : List ByteArray)) := ⟨_, rfl⟩
  replace H : ((impl_Fs_ways.f k l0_0 a0_1 a1 a2).bind fun t412 => (impl_walked.l0 k y409 t412 (t412.length : Int) 0)) = some (r1, r2) := by first | (rw [hy409]; with_reducible exact H) | (have H2_ := (Option.bind_some _ _).symm.trans H; rw [hy409]; with_reducible exact H2_) | (have H2_ := (Option.bind_some _ _).symm.trans H; with_reducible exact H2_) | with_reducible exact H | (rw [hy409]; exact H) | exact H
  have Ny409 := Aside0.mk hy409
  clear hy409
  obtain ⟨t412, A60, H⟩ := Option.bind_eq_some_iff.mp H
  try dsimp only at H
  replace A60 := Aside0.mk A60; have A6 := A60; clear A60
  have H' := Aside0.mk H
  clear H
  go_enter Tryd.func66, Tryd.ntmps66
  go_wp2_with (first | ((with_reducible refine gd 3 rfl ?_); refine bxE 3 #[.slice A0_0 l0_0.length c0_0, .int .i64 a0_1] 29 ?_; intro gb407 hg w7 hbox hb; have BK407 := Aside0.mk hbox; have GW407 := nGB hg; have GE407 := nGB hg; replace HB := nSB hb; clear hb hbox hg; have hcz8 := cb2 BK407) | ((with_reducible refine gt 52 rfl ?_); refine gL 52 13 Tryd.func52 #[.agg #[.slice A0_0 l0_0.length c0_0, .int .i64 a0_1], .int .i64 a1] ?_; (with_reducible refine (impl_isGoodAt.calls k _ _ l0_0 a0_1 a1 true _ ?side1 ?side2 A4.out).mono ?_); (case side1 => exact sD (Kd.C_below HR0_0.out HB.out)); (case side2 => exact HC0_0.out); rintro e w9 ⟨rfl, hb⟩; refine ⟨_, rfl, ?_⟩; replace BK407 := nK BK407 hb; replace HB := nSC hb; try clear hb) | ((with_reducible refine gate_dst (N := 15) rfl ?_); refine Kd.R_lit Kd.string _ 9 ?hg (N := 15) ?hd (xs := ([] : List ByteArray)) (inner := []) (ok := fun _ => True) (okp := fun _ => True) ?hr ?hp (fun _ hk => hk) trivial (Below.refl _ _) (Nat.le_refl _) (by simp) ?_; (case hd => rfl); (case hg => rfl); (case hr => first | (go_simp; done) | (go_simp; rfl)); (case hp => exact (Reps.none _ _)); intro v410 w10 ho11 hb hg_ hnew_; clear hg_ hnew_; (first | rw [← Ny409.out] at ho11 | (simp only [Int.reduceToNat] at ho11; rw [← Ny409.out] at ho11)); have HO411 := Aside0.mk (Kd.R_lower ho11 (below_size sC)); replace BK407 := nK BK407 hb; replace HB := nSC hb; clear hb ho11; have hcz12 := cb2 BK407) | ((with_reducible refine gt 70 rfl ?_); refine gL 70 19 Tryd.func70 #[.agg #[.slice A0_0 l0_0.length c0_0, .int .i64 a0_1], .int .i64 a1, .bool a2] ?_; (with_reducible refine (impl_Fs_ways.calls k _ _ l0_0 a0_1 a1 a2 t412 _ ?side1 ?side2 A6.out).mono ?_); (case side1 => exact sD (Kd.C_below HR0_0.out HB.out)); (case side2 => exact HC0_0.out); rintro e w13 ⟨v413, rfl, ho0, hb⟩; refine ⟨_, rfl, ?_⟩; replace HO411 := nR HO411 hb; have HO414 := Aside0.mk (Kd.R_lower ho0 (below_size sC)); replace BK407 := nK BK407 hb; replace HB := nSC hb; try clear hb; (try clear ho0); obtain ⟨Ao14, co14, eo14⟩ := Kd.R_slice HO414.out; subst eo14))
  go_loopg [8, 21] k (fun kq v8 v21 w' => ∃ (x8_1 : List ByteArray) (x21_1 : Int), v21 = .int .i64 x21_1 ∧ Aside0 (impl_walked.l0 kq x8_1 t412 (t412.length : Int) x21_1 = some (r1, r2)) ∧ Aside0 (kq ≤ k) ∧ Aside0 (Kd.R Kd.string 9 w' w.heap.size (fun _ => True) v8 x8_1) ∧ Aside0 (Kd.R k78 78 w' w.heap.size (fun _ => True) (.slice Ao14 t412.length co14) t412) ∧ Aside0 (w'.heap[gb407]? = some (.cells #[(.slice A0_0 l0_0.length c0_0), .int .i64 a0_1] 29 (0, 0))) ∧ Aside0 (Below w.heap.size w w'))
  case atStart => exact ⟨(y409), (0), sR, H', ⟨Nat.le_refl _⟩, ⟨rR HO411⟩, ⟨rR HO414⟩, ⟨sK BK407⟩, ⟨sC⟩⟩
  case round =>
   clear H'
   try clear p2
   try clear c5
   try clear c6
   try clear c7
   try clear hcz12
   try clear hcz8
   obtain ⟨x8_1, x21_1, rfl, HA, HK1, HO_8, HO_19, BK407, HB⟩ := hrel
   cases gk with
   | zero => exact absurd HA.out (by simp [impl_walked.l0])
   | succ k1 =>
    have H := HA.out
    clear HA
    simp only [impl_walked.l0] at H
    by_cases c15 : x21_1 < (t412.length : Int)
    ·rw [if_pos c15] at H
     have c15b0 := decide_eq_true c15
     clear c15
     by_cases c16 : 0 ≤ x21_1
     ·rw [if_pos c16] at H
      have c16b0 := decide_eq_true c16
      clear c16
      by_cases c17 : x21_1 < (t412.length : Int)
      ·rw [if_pos c17] at H
       have c17b0 := decide_eq_true c17
       clear c17
       by_cases c18 : x8_1.length < 8796093022208
       ·rw [if_pos c18] at H
        have LMc18 := Aside0.mk c18
        clear c18
        obtain ⟨y417, hy417⟩ : ∃ y_ : List ByteArray, y_ = (x8_1 ++ [(rd_T78 t412 x21_1).f0]) := ⟨_, rfl⟩
        replace H : (impl_walked.l0 k1 y417 t412 (t412.length : Int) (wrap64 (x21_1 + 1))) = some (r1, r2) := by first | (rw [hy417]; with_reducible exact H) | (have H2_ := (Option.bind_some _ _).symm.trans H; rw [hy417]; with_reducible exact H2_) | (have H2_ := (Option.bind_some _ _).symm.trans H; with_reducible exact H2_) | with_reducible exact H | (rw [hy417]; exact H) | exact H
        have Ny417 := Aside0.mk hy417
        clear hy417
        have H' := Aside0.mk H
        clear H
        have p415 : 0 ≤ (x21_1 : Int) := sO
        have q415 : x21_1 < (t412.length : Int) := sO
        obtain ⟨ad415, e415, hx415_0, hx415_1⟩ := at_T78 (Kd.R_reads' HO_19.out).2.2 x21_1 p415 q415
        cases e415
        replace p415 := eq_true p415
        replace q415 := eq_true q415
        go_wp2_with (first | ((with_reducible refine gd 10 rfl ?_); refine bxE 10 #[.string (⟨#[]⟩ : ByteArray), .int .i64 0] 78 ?_; intro gb416 hg w19 hbox hb; replace HO_8 := nR HO_8 hb; replace HO_19 := Aside0.mk (Kd.R_below (Kd.R_elderB (by (with_reducible repeat (first | apply Kd.R_alloc | apply Kd.R_drewN | apply Kd.R_drew)); exact HO_19.out) gb416 (Nat.le_of_eq hg.symm)) hb); have BK416 := Aside0.mk hbox; have GW416 := nGC hg; have GE416 := nGC hg; replace HB := nSC hb; have NB407_416 := nL BK407 hg; have NB416_407 := nH BK407 hg; replace BK407 := nK BK407 hb; clear hb hbox hg; have hnb20 := NB416_407.out; have hnc20 := NB407_416.out; have hcz21 := cb2 BK416) | ((with_reducible refine gate_builtin (b := .append) (xs := #[.tmp 25, .tmp 28]) rfl ?_); at_builtin; refine Kd.R_append Kd.string (w0 := w) w.heap.size rfl (.tmp 25) (.tmp 28) 39 9 (.string ⟨#[]⟩) 16 rfl Tryd.underlying39 info9 rfl (by decide) (by omega) u8 x8_1 ((rd_T78 t412 x21_1).f0) [.string ((rd_T78 t412 x21_1).f0)] (fun _ => True) (fun _ => False) rfl (by first | (go_simp; done) | (go_simp; rfl)) ?aP (fun _ hk => hk.elim) ?aF ?aO ?aB ?aS ?aL ?_; (case aP => exact rfl); (case aB => exact sC); (case aF => exact (fun _ _ => trivial)); (case aO => exact (by (with_reducible repeat (first | apply Kd.R_alloc | apply Kd.R_drewN | apply Kd.R_drew)); exact Kd.R_mono (Kd.R_far (p := ⟨gb416, 1, none⟩) (Kd.R_far (p := ⟨gb416, 0, none⟩) (Kd.R_types HO_8.out BK416.out (by decide)) (fun _ hk => hk.2) (.string ((rd_T78 t412 x21_1).f0))) (fun _ hk => hk.2) (.int .i64 ((rd_T78 t412 x21_1).f1))) (fun _ hk => trivial))); (case aS => exact (below_size sC)); (case aL => have := LMc18.out; omega); intro v418 w22 ho hb hg hat; rw [← Ny417.out] at ho; replace HO_19 := Aside0.mk (Kd.R_over' (by (with_reducible repeat (first | apply Kd.R_alloc | apply Kd.R_drewN | apply Kd.R_drew)); exact (Kd.R_mono (Kd.R_far (p := ⟨gb416, 1, none⟩) (Kd.R_far (p := ⟨gb416, 0, none⟩) (Kd.R_mono HO_19.out (fun k_ hk => (⟨hk, hk.2⟩ : _ ∧ k_ ≠ gb416))) (fun _ hk => hk.2) (.string ((rd_T78 t412 x21_1).f0))) (fun _ hk => hk.2) (.int .i64 ((rd_T78 t412 x21_1).f1))) (fun _ h_ => h_.1))) (Kd.R_typed (by (with_reducible repeat (first | apply Kd.R_alloc | apply Kd.R_drewN | apply Kd.R_drew)); exact (Kd.R_mono (Kd.R_far (p := ⟨gb416, 1, none⟩) (Kd.R_far (p := ⟨gb416, 0, none⟩) (Kd.R_types HO_8.out BK416.out (by decide)) (fun _ hk => hk.2) (.string ((rd_T78 t412 x21_1).f0))) (fun _ hk => hk.2) (.int .i64 ((rd_T78 t412 x21_1).f1))) (fun _ h_ => h_.1)))) (by decide) hg); replace BK407 := Aside0.mk (blk_grown (g := gb407) (o := .cells #[.slice A0_0 l0_0.length c0_0, .int .i64 a0_1] 29 (0, 0)) (sX BK407) hg (Kd.R_ne HO_8.out BK407.out (by decide))); replace BK416 := Aside0.mk (blk_grown (g := gb416) (o := .cells #[.string ((rd_T78 t412 x21_1).f0), .int .i64 ((rd_T78 t412 x21_1).f1)] 78 (0, 0)) (sX BK416) hg (Kd.R_ne HO_8.out BK416.out (by decide))); replace HB := Aside0.mk (hb); have HO419 := Aside0.mk (ho); clear HO_8; clear ho hb hg hat))
        go_roundg k1
        case measure => have := HK1.out; omega
        case rel => exact ⟨(y417), (wrap64 (x21_1 + 1)), sR, H', ⟨by have := HK1.out; omega⟩, ⟨rR HO419⟩, ⟨by (with_reducible repeat (first | apply Kd.R_alloc | apply Kd.R_drewN | apply Kd.R_drew)); exact Kd.R_mono HO_19.out (fun _ hk => trivial)⟩, ⟨sK BK407⟩, ⟨sC⟩⟩
       ·rw [if_neg c18] at H
        exact absurd H (by simp)
      ·rw [if_neg c17] at H
       exact absurd H (by simp)
     ·rw [if_neg c16] at H
      exact absurd H (by simp)
    ·rw [if_neg c15] at H
     have c15b0 := decide_eq_false c15
     clear c15
     simp only [Option.some.injEq, Prod.mk.injEq] at H
     obtain ⟨rfl, rfl⟩ := H
     go_wp2
     go_ret2
     exact ⟨_, sE, by (with_reducible repeat (first | apply Kd.R_alloc | apply Kd.R_drewN | apply Kd.R_drew)); exact HO_8.out, sC⟩
 ·replace c5 := Bool.eq_false_iff.mpr c5
  subst c5
  rw [if_neg (show ¬ (false = true) by decide)] at H
  simp only [Option.some.injEq, Prod.mk.injEq] at H
  obtain ⟨rfl, rfl⟩ := H
  go_enter Tryd.func66, Tryd.ntmps66
  go_wp2_with (first | ((with_reducible refine gd 3 rfl ?_); refine bxE 3 #[.slice A0_0 l0_0.length c0_0, .int .i64 a0_1] 29 ?_; intro gb407 hg w23 hbox hb; have BK407 := Aside0.mk hbox; have GW407 := nGB hg; have GE407 := nGB hg; replace HB := nSB hb; clear hb hbox hg; have hcz24 := cb2 BK407) | ((with_reducible refine gt 52 rfl ?_); refine gL 52 13 Tryd.func52 #[.agg #[.slice A0_0 l0_0.length c0_0, .int .i64 a0_1], .int .i64 a1] ?_; (with_reducible refine (impl_isGoodAt.calls k _ _ l0_0 a0_1 a1 false _ ?side1 ?side2 A4.out).mono ?_); (case side1 => exact sD (Kd.C_below HR0_0.out HB.out)); (case side2 => exact HC0_0.out); rintro e w25 ⟨rfl, hb⟩; refine ⟨_, rfl, ?_⟩; replace BK407 := nK BK407 hb; replace HB := nSC hb; try clear hb))
  go_ret2
  exact ⟨_, sE, by first | exact Kd.R_nil _ _ _ _ _ | exact Kd.N_nil _ _ _ _ _ | exact Kd.V_nil _ _ _ _ _ | exact Kd.Q_nil _ _ _ _ _ | exact Kd.S_nil _ _ _ _ _, sC⟩

/-! ### impl_WalkPre: function 37 -/
def impl_WalkPre.f (k : Nat) (l0_0 : List (S53)) (a0_1 : Int) (a1 : Int) : Option (List ByteArray × Bool) := (impl_walked.f k l0_0 a0_1 a1 false).bind fun bt421 => (some (bt421.1, bt421.2))
theorem impl_WalkPre.mono : ∀ a0 a1 a2 k, LeO (impl_WalkPre.f k a0 a1 a2) (impl_WalkPre.f (k + 1) a0 a1 a2) := by
 intro a0 a1 a2 k
 unfold impl_WalkPre.f
 have m0 := @impl_walked.mono
 exact mo
set_option maxHeartbeats 8000000 in
set_option maxRecDepth 100000 in
theorem impl_WalkPre.calls (k : Nat) (A0_0 : Option Addr) (c0_0 : Nat) (l0_0 : List (S53)) (a0_1 : Int) (a1 : Int) (r1 : List ByteArray) (r2 : Bool) (w : World) (hr0_0 : Kd.C k53 w A0_0 l0_0.length l0_0) (hc0_0 : l0_0.length ≤ c0_0) (h : impl_WalkPre.f k l0_0 a0_1 a1 = some (r1, r2)) :
  Calls Tryd.prog 37 #[.agg #[.slice A0_0 l0_0.length c0_0, .int .i64 a0_1], .int .i64 a1] w fun e w' => ∃ v0_ : Value, e = .returned (.tuple #[v0_, .bool r2]) ∧ Kd.R Kd.string 9 w' w.heap.size (fun _ => True) v0_ r1 ∧ Below w.heap.size w w' := by
 have hu29 := Tryd.underlying29
 have HR0_0 := Aside0.mk hr0_0
 have HC0_0 := Aside0.mk hc0_0
 clear hr0_0 hc0_0
 have HB := Aside0.mk (Below.refl w.heap.size w)
 have H : ((impl_walked.f k l0_0 a0_1 a1 false).bind fun bt421 => (some (bt421.1, bt421.2))) = some (r1, r2) := h
 clear h
 obtain ⟨⟨t421, t424⟩, A30, H⟩ := Option.bind_eq_some_iff.mp H
 try dsimp only at H
 replace A30 := Aside0.mk A30; have A3 := A30; clear A30
 simp only [Option.some.injEq, Prod.mk.injEq] at H
 obtain ⟨rfl, rfl⟩ := H
 go_enter Tryd.func37, Tryd.ntmps37
 go_wp2_with (first | ((with_reducible refine gd 2 rfl ?_); refine bxE 2 #[.slice A0_0 l0_0.length c0_0, .int .i64 a0_1] 29 ?_; intro gb420 hg w4 hbox hb; have BK420 := Aside0.mk hbox; have GW420 := nGB hg; have GE420 := nGB hg; replace HB := nSB hb; clear hb hbox hg; have hcz5 := cb2 BK420) | ((with_reducible refine gt 66 rfl ?_); refine gL 66 8 Tryd.func66 #[.agg #[.slice A0_0 l0_0.length c0_0, .int .i64 a0_1], .int .i64 a1, .bool false] ?_; (with_reducible refine (impl_walked.calls k _ _ l0_0 a0_1 a1 false t421 t424 _ ?side1 ?side2 A3.out).mono ?_); (case side1 => exact sD (Kd.C_below HR0_0.out HB.out)); (case side2 => exact HC0_0.out); rintro e w6 ⟨v422, rfl, ho0, hb⟩; refine ⟨_, rfl, ?_⟩; have HO423 := Aside0.mk (Kd.R_lower ho0 (below_size sC)); replace BK420 := nK BK420 hb; replace HB := nSC hb; try clear hb; (try clear ho0)))
 go_ret2
 exact ⟨_, sE, by (with_reducible repeat (first | apply Kd.R_alloc | apply Kd.R_drewN | apply Kd.R_drew)); exact HO423.out, sC⟩

-- NOT PRINTED: function 90 (utf8_RuneCountInString)

-- NOT PRINTED: function 91 (bytealg_CountString)

-- NOT PRINTED: function 136 (bytealg_IndexByteString)

-- NOT PRINTED: function 125 (stringslite_IndexByte)

-- NOT PRINTED: function 126 (bytealg_IndexString)

/-! ### strings_Count: function 64 -/
open Go.Lib in
/-- strings.Count of slashes. -/
def strings_Count.f (a0 : ByteArray) (a1 : ByteArray) : Option Int := if a1.toList = ([47] : List UInt8) then some (Lib.countByte a0.data.toList 47 : Int) else none
set_option maxHeartbeats 1000000 in
theorem strings_Count.calls (a0 : ByteArray) (a1 : ByteArray) (r : Int) (w : World) (h : strings_Count.f a0 a1 = some r) :
  Calls Tryd.prog 64 #[.string a0, .string a1] w fun e w' => e = .returned (.int .i64 r) ∧ Drawn0 w w' := by
 unfold strings_Count.f at h
 by_cases hs : a1.toList = ([47] : List UInt8)
 ·rw [if_pos hs] at h
  obtain rfl := Option.some.inj h
  have e1 : a1 = (⟨#[47]⟩ : ByteArray) := by
   cases a1 with | mk d =>
   rw [ByteArray.toList_eq] at hs
   congr 1
   exact Array.ext' hs
  subst e1
  exact (Any.strings_Count_one Tryd.lays138 a0 47 w).mono (fun e w' ⟨he, hw⟩ => ⟨he, by rw [hw]; exact Drawn0.refl w⟩)
 ·rw [if_neg hs] at h; cases h

end Go.Proofs.YteffcglgdfhkmaaDoor.PFs
