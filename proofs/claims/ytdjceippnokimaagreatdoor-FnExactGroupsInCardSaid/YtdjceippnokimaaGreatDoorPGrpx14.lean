import Derived.Test.YtdjceippnokimaaGreatDoorPGrpx0
namespace Go.Proofs.YtdjceippnokimaaGreatDoor.PGrp
open Go.RowKit Go.Proofs.YtdjceippnokimaaGreatDoorW.PrintWords Go.Proofs.YtdjceippnokimaaGreatDoorW.PrintLast Go.Proofs.YtdjceippnokimaaGreatDoorW.PrintMore
attribute [local go_sem] max2_int min2_int max_two min_two max_three min_three max_four min_four   -- for this text's walks alone
set_option linter.unusedVariables false
set_option linter.unusedSimpArgs false
set_option maxHeartbeats 8000000
set_option maxRecDepth 100000
/-! ### impl_Fs_bytesIn: function 69 -/
def impl_Fs_bytesIn.l0 : Nat → Int → List (S65) → Int → Int → Option (Int)
 | 0, _, _, _, _ => none
 | k + 1, x3, x7, x8, x9 => if x9 < x8 then (if 0 ≤ x9 then (if x9 < (x7.length : Int) then (impl_Fs_bytesIn.l0 k (wrap64 (x3 + (((rd_T65 x7 x9).f5).size : Int))) x7 x8 (wrap64 (x9 + 1))) else (none)) else (none)) else (some x3)
def impl_Fs_bytesIn.f (k : Nat) (l0_0 : List (S65)) (a0_1 : Int) : Option (Int) := impl_Fs_bytesIn.l0 k 0 l0_0 (l0_0.length : Int) 0
theorem impl_Fs_bytesIn.calls (k : Nat) (A0_0 : Option Addr) (c0_0 : Nat) (l0_0 : List (S65)) (a0_1 : Int) (r : Int) (w : World) (hr0_0 : Kd.C k65 w A0_0 l0_0.length l0_0) (hc0_0 : l0_0.length ≤ c0_0) (h : impl_Fs_bytesIn.f k l0_0 a0_1 = some r) :
  Calls Tryz.prog 69 #[.agg #[.slice A0_0 l0_0.length c0_0, .int .i64 a0_1]] w fun e w' => e = .returned (.int .i64 r) ∧ Below w.heap.size w w' := by
 have hu30 := Tryz.underlying30
 have hu65 := Tryz.underlying65
 have HR0_0 := Aside0.mk hr0_0
 have HC0_0 := Aside0.mk hc0_0
 clear hr0_0 hc0_0
 have HB := Aside0.mk (Below.refl w.heap.size w)
 have H : (impl_Fs_bytesIn.l0 k 0 l0_0 (l0_0.length : Int) 0) = some r := h
 clear h
 have H' := Aside0.mk H
 clear H
 go_enter Tryz.func69, Tryz.ntmps69
 go_wp2_with (first | ((with_reducible refine gd 1 rfl ?_); refine bxE 1 #[.slice A0_0 l0_0.length c0_0, .int .i64 a0_1] 30 ?_; intro gb381 hg w2 hbox hb; have BK381 := Aside0.mk hbox; have GW381 := nGB hg; have GE381 := nGB hg; replace HB := nSB hb; clear hb hbox hg; have hcz3 := cb2 BK381))
 go_loopg [3, 9] k (fun kq v3 v9 w' => ∃ (x3_1 : Int) (x9_1 : Int), v3 = .int .i64 x3_1 ∧ v9 = .int .i64 x9_1 ∧ Aside0 (impl_Fs_bytesIn.l0 kq x3_1 l0_0 (l0_0.length : Int) x9_1 = some r) ∧ Aside0 (kq ≤ k) ∧ Aside0 (w'.heap[gb381]? = some (.cells #[(.slice A0_0 l0_0.length c0_0), .int .i64 a0_1] 30 (0, 0))) ∧ Aside0 (Below w.heap.size w w'))
 case atStart => exact ⟨(0), (0), sR, sR, H', ⟨Nat.le_refl _⟩, ⟨sK BK381⟩, ⟨sC⟩⟩
 case round =>
  clear H'
  try clear p2
  try clear hcz3
  obtain ⟨x3_1, x9_1, rfl, rfl, HA, HK1, BK381, HB⟩ := hrel
  cases gk with
  | zero => exact absurd HA.out (by simp [impl_Fs_bytesIn.l0])
  | succ k1 =>
   have H := HA.out
   clear HA
   simp only [impl_Fs_bytesIn.l0] at H
   by_cases c4 : x9_1 < (l0_0.length : Int)
   ·rw [if_pos c4] at H
    have c4b0 := decide_eq_true c4
    clear c4
    obtain ⟨c5, H⟩ := iN H
    have c5b0 := decide_eq_true c5
    clear c5
    obtain ⟨c6, H⟩ := iN H
    have c6b0 := decide_eq_true c6
    clear c6
    have H' := Aside0.mk H
    clear H
    have p382 : 0 ≤ (x9_1 : Int) := sO
    have q382 : x9_1 < (l0_0.length : Int) := sO
    obtain ⟨ad382, A382_6, c382_6, e382, hx382_0, hx382_1, hx382_2, hx382_3, hx382_4, hx382_5, hx382_6, hl382_6, hi382_6⟩ := ab65 HR0_0.out HB x9_1 p382 q382
    cases e382
    have HR382_6 := Aside0.mk hi382_6
    have HC382_6 := Aside0.mk hl382_6
    clear hi382_6 hl382_6
    replace p382 := eq_true p382
    replace q382 := eq_true q382
    go_wp2_with (first | ((with_reducible refine gd 5 rfl ?_); refine bxE 5 #[.int .i64 0, .int .i64 0, .int .i64 0, .int .i64 0, .int .i64 0, .string (⟨#[]⟩ : ByteArray), .slice none 0 0] 65 ?_; intro gb383 hg w7 hbox hb; have BK383 := Aside0.mk hbox; have GW383 := nGC hg; have GE383 := nGC hg; replace HB := nSC hb; have NB381_383 := nL BK381 hg; have NB383_381 := nH BK381 hg; replace BK381 := nK BK381 hb; clear hb hbox hg; have hnb8 := NB383_381.out; have hnc8 := NB381_383.out; have hcz9 := cb7 BK383))
    go_roundg k1
    case measure => have := HK1.out; omega
    case rel => exact ⟨(wrap64 (x3_1 + (((rd_T65 l0_0 x9_1).f5).size : Int))), (wrap64 (x9_1 + 1)), sR, sR, H', ⟨by have := HK1.out; omega⟩, ⟨sX BK381⟩, ⟨sC⟩⟩
   ·rw [if_neg c4] at H
    have c4b0 := decide_eq_false c4
    clear c4
    obtain rfl := Option.some.inj H
    go_wp2
    go_ret
    exact ⟨sE, sC⟩
mutual
def impl_Fs_links.l0 : Nat → List Int → List (S65) → Int → Int → Option (List Int)
 | 0, _, _, _, _ => none
 | k + 1, x3, x13, x14, x15 => if x15 < x14 then (if 0 ≤ x15 then (if x15 < (x13.length : Int) then (impl_Fs_links.l1 k x3 x13 x14 x15 ((rd_T65 x13 x15).f6) (((rd_T65 x13 x15).f6).length : Int) 0) else (none)) else (none)) else (some x3)
def impl_Fs_links.l1 : Nat → List Int → List (S65) → Int → Int → List (S104) → Int → Int → Option (List Int)
 | 0, _, _, _, _, _, _, _ => none
 | k + 1, x3, x13, x14, x15, x20, x21, x22 => if x22 < x21 then (if 0 ≤ x22 then (if x22 < (x20.length : Int) then (if 0 ≤ ((rd_T104 x20 x22).f1) then (if ((rd_T104 x20 x22).f1) < (x3.length : Int) then (impl_Fs_links.l1 k (x3.set (((rd_T104 x20 x22).f1) : Int).toNat (wrap64 ((rd x3 ((rd_T104 x20 x22).f1)) + 1))) x13 x14 x15 x20 x21 (wrap64 (x22 + 1))) else (none)) else (none)) else (none)) else (none)) else (impl_Fs_links.l0 k x3 x13 x14 (wrap64 (x15 + 1)))
end
def impl_Fs_links.f (k : Nat) (l0_0 : List (S65)) (a0_1 : Int) : Option (List Int) := if 0 ≤ (l0_0.length : Int) then (if ((l0_0.length : Int) : Int).toNat ≤ 35184372088832 then (impl_Fs_links.l0 k (List.replicate ((l0_0.length : Int) : Int).toNat 0) l0_0 (l0_0.length : Int) 0) else (none)) else (none)
theorem impl_Fs_links.calls (k : Nat) (A0_0 : Option Addr) (c0_0 : Nat) (l0_0 : List (S65)) (a0_1 : Int) (r : List Int) (w : World) (hr0_0 : Kd.C k65 w A0_0 l0_0.length l0_0) (hc0_0 : l0_0.length ≤ c0_0) (h : impl_Fs_links.f k l0_0 a0_1 = some r) :
  Calls Tryz.prog 70 #[.agg #[.slice A0_0 l0_0.length c0_0, .int .i64 a0_1]] w fun e w' => ∃ v0_ : Value, e = .returned (v0_) ∧ Kd.R (Kd.int .i64) 3 w' w.heap.size (fun _ => True) v0_ r ∧ Below w.heap.size w w' := by
 have hu30 := Tryz.underlying30
 have hu65 := Tryz.underlying65
 have hu104 := Tryz.underlying104
 have HR0_0 := Aside0.mk hr0_0
 have HC0_0 := Aside0.mk hc0_0
 clear hr0_0 hc0_0
 have HB := Aside0.mk (Below.refl w.heap.size w)
 have H : (if 0 ≤ (l0_0.length : Int) then (if ((l0_0.length : Int) : Int).toNat ≤ 35184372088832 then (impl_Fs_links.l0 k (List.replicate ((l0_0.length : Int) : Int).toNat 0) l0_0 (l0_0.length : Int) 0) else (none)) else (none)) = some r := h
 clear h
 by_cases c2 : 0 ≤ (l0_0.length : Int)
 ·rw [if_pos c2] at H
  have c2b0 := eq_true c2
  have c2b1 := decide_eq_true c2
  clear c2
  obtain ⟨c3, H⟩ := iN H
  have c3b0 := eq_true c3
  have c3b1 := decide_eq_true c3
  clear c3
  obtain ⟨y385, hy385⟩ : ∃ y_ : List Int, y_ = (List.replicate ((l0_0.length : Int) : Int).toNat 0) := ⟨_, rfl⟩
  replace H : (impl_Fs_links.l0 k y385 l0_0 (l0_0.length : Int) 0) = some r := by first | (rw [hy385]; with_reducible exact H) | (have H2_ := (Option.bind_some _ _).symm.trans H; rw [hy385]; with_reducible exact H2_) | (have H2_ := (Option.bind_some _ _).symm.trans H; with_reducible exact H2_) | with_reducible exact H | (rw [hy385]; exact H) | exact H
  have Ny385 := Aside0.mk hy385
  clear hy385
  have H' := Aside0.mk H
  clear H
  go_enter Tryz.func70, Tryz.ntmps70
  go_wp2_with (first | ((with_reducible refine gd 1 rfl ?_); refine bxE 1 #[.slice A0_0 l0_0.length c0_0, .int .i64 a0_1] 30 ?_; intro gb384 hg w4 hbox hb; have BK384 := Aside0.mk hbox; have GW384 := nGB hg; have GE384 := nGB hg; replace HB := nSB hb; clear hb hbox hg; have hcz5 := cb2 BK384) | ((with_reducible refine gate_dst (N := 11) rfl ?_); refine Kd.R_make (Kd.int .i64) _ 3 rfl (N := 11) rfl 87 _ _ rfl (l0_0.length : Int) rfl rfl Tryz.underlying87 (.int .i64 0) 8 info3 rfl (by decide) (by omega) 0 (ok := fun _ => True) (okp := fun _ => True) rfl (fun _ hk => hk) trivial (sO) (Nat.le_trans (Nat.mul_le_mul_right _ (sO : (l0_0.length : Int).toNat ≤ 35184372088832)) (by omega)) (Below.refl _ _) (Nat.le_refl _) ?_; intro v386 w6 ho7 hb hg_ hnew_; clear hg_ hnew_; (first | rw [← Ny385.out] at ho7 | (simp only [Int.reduceToNat] at ho7; rw [← Ny385.out] at ho7)); have HO387 := Aside0.mk (Kd.R_lower ho7 (below_size sC)); replace BK384 := nK BK384 hb; replace HB := nSC hb; clear hb ho7; have hcz8 := cb2 BK384))
  go_loopg [15] k (fun kq v15 w' => ∃ (x3_1 : List Int) (x15_1 : Int), v15 = .int .i64 x15_1 ∧ Aside0 (impl_Fs_links.l0 kq x3_1 l0_0 (l0_0.length : Int) x15_1 = some r) ∧ Aside0 (kq ≤ k) ∧ Aside0 (Kd.R (Kd.int .i64) 3 w' w.heap.size (fun _ => True) v386 x3_1) ∧ Aside0 (w'.heap[gb384]? = some (.cells #[(.slice A0_0 l0_0.length c0_0), .int .i64 a0_1] 30 (0, 0))) ∧ Aside0 (Below w.heap.size w w'))
  case atStart => exact ⟨(y385), (0), sR, H', ⟨Nat.le_refl _⟩, ⟨rR HO387⟩, ⟨sK BK384⟩, ⟨sC⟩⟩
  case round =>
   clear H'
   try clear c2
   try clear c2b0
   try clear c2b1
   try clear p2
   try clear c3
   try clear c3b0
   try clear c3b1
   try clear c7
   try clear hcz5
   try clear hcz8
   obtain ⟨x3_1, x15_1, rfl, HA, HK1, HO_3, BK384, HB⟩ := hrel
   cases gk with
   | zero => exact absurd HA.out (by simp [impl_Fs_links.l0])
   | succ k1 =>
    have H := HA.out
    clear HA
    simp only [impl_Fs_links.l0] at H
    by_cases c9 : x15_1 < (l0_0.length : Int)
    ·rw [if_pos c9] at H
     have c9b0 := decide_eq_true c9
     clear c9
     obtain ⟨c10, H⟩ := iN H
     have c10b0 := decide_eq_true c10
     clear c10
     obtain ⟨c11, H⟩ := iN H
     have c11b0 := decide_eq_true c11
     clear c11
     have H' := Aside0.mk H
     clear H
     have p388 : 0 ≤ (x15_1 : Int) := sO
     have q388 : x15_1 < (l0_0.length : Int) := sO
     obtain ⟨ad388, A388_6, c388_6, e388, hx388_0, hx388_1, hx388_2, hx388_3, hx388_4, hx388_5, hx388_6, hl388_6, hi388_6⟩ := ab65 HR0_0.out HB x15_1 p388 q388
     cases e388
     have HR388_6 := Aside0.mk hi388_6
     have HC388_6 := Aside0.mk hl388_6
     clear hi388_6 hl388_6
     replace p388 := eq_true p388
     replace q388 := eq_true q388
     go_wp2_with (first | ((with_reducible refine gd 5 rfl ?_); refine bxE 5 #[.int .i64 0, .int .i64 0, .int .i64 0, .int .i64 0, .int .i64 0, .string (⟨#[]⟩ : ByteArray), .slice none 0 0] 65 ?_; intro gb389 hg w12 hbox hb; replace HO_3 := nR HO_3 hb; have BK389 := Aside0.mk hbox; have GW389 := nGC hg; have GE389 := nGC hg; replace HB := nSC hb; have NB384_389 := nL BK384 hg; have NB389_384 := nH BK384 hg; replace BK384 := nK BK384 hb; clear hb hbox hg; have hnb13 := NB389_384.out; have hnc13 := NB384_389.out; have hcz14 := cb7 BK389))
     go_loopg [22] k1 (fun kq v22 w' => ∃ (x3_2 : List Int) (x22_2 : Int), v22 = .int .i64 x22_2 ∧ Aside0 (impl_Fs_links.l1 kq x3_2 l0_0 (l0_0.length : Int) x15_1 ((rd_T65 l0_0 x15_1).f6) (((rd_T65 l0_0 x15_1).f6).length : Int) x22_2 = some r) ∧ Aside0 (kq ≤ k1) ∧ Aside0 (Kd.R (Kd.int .i64) 3 w' w.heap.size (fun _ => True) v386 x3_2) ∧ Aside0 (w'.heap[gb384]? = some (.cells #[(.slice (some ad388) l0_0.length c0_0), .int .i64 a0_1] 30 (0, 0))) ∧ Aside0 (w'.heap[gb389]? = some (.cells #[.int .i64 ((rd_T65 l0_0 x15_1).f0), .int .i64 ((rd_T65 l0_0 x15_1).f1), .int .i64 ((rd_T65 l0_0 x15_1).f2), .int .i64 ((rd_T65 l0_0 x15_1).f3), .int .i64 ((rd_T65 l0_0 x15_1).f4), .string ((rd_T65 l0_0 x15_1).f5), (.slice A388_6 ((rd_T65 l0_0 x15_1).f6).length c388_6)] 65 (0, 0))) ∧ Aside0 (Below w.heap.size w w'))
     case atStart => exact ⟨(x3_1), (0), sR, H', ⟨Nat.le_refl _⟩, ⟨rRf HO_3 BK389 (fun _ hk => trivial)⟩, ⟨sX BK384⟩, ⟨sX BK389⟩, ⟨sC⟩⟩
     case round =>
      clear H'
      try clear c1
      try clear c2
      try clear c2b0
      try clear c2b1
      try clear p2
      try clear c3
      try clear c3b0
      try clear c3b1
      try clear p3
      try clear q3
      try clear hx3
      try clear c7
      try clear c9
      try clear c9b0
      try clear c10
      try clear c10b0
      try clear c11
      try clear c11b0
      try clear c13
      try clear hcz14
      try clear hcz5
      try clear hcz8
      try clear hx388_0
      try clear hx388_1
      try clear hx388_2
      try clear hx388_3
      try clear hx388_4
      try clear hx388_5
      try clear hx388_6
      try clear p2
      try clear p388
      try clear q388
      obtain ⟨x3_2, x22_2, rfl, HA, HK2, HO_3, BK384, BK389, HB⟩ := hrel
      cases gk with
      | zero => exact absurd HA.out (by simp [impl_Fs_links.l1])
      | succ k2 =>
       have H := HA.out
       clear HA
       simp only [impl_Fs_links.l1] at H
       by_cases c15 : x22_2 < (((rd_T65 l0_0 x15_1).f6).length : Int)
       ·rw [if_pos c15] at H
        have c15b0 := decide_eq_true c15
        clear c15
        obtain ⟨c16, H⟩ := iN H
        have c16b0 := decide_eq_true c16
        clear c16
        obtain ⟨c17, H⟩ := iN H
        have c17b0 := decide_eq_true c17
        clear c17
        obtain ⟨c18, H⟩ := iN H
        have c18b0 := decide_eq_true c18
        clear c18
        obtain ⟨c19, H⟩ := iN H
        have c19b0 := decide_eq_true c19
        clear c19
        obtain ⟨y393, hy393⟩ : ∃ y_ : List Int, y_ = (x3_2.set (((rd_T104 ((rd_T65 l0_0 x15_1).f6) x22_2).f1) : Int).toNat (wrap64 ((rd x3_2 ((rd_T104 ((rd_T65 l0_0 x15_1).f6) x22_2).f1)) + 1))) := ⟨_, rfl⟩
        replace H : (impl_Fs_links.l1 k2 y393 l0_0 (l0_0.length : Int) x15_1 ((rd_T65 l0_0 x15_1).f6) (((rd_T65 l0_0 x15_1).f6).length : Int) (wrap64 (x22_2 + 1))) = some r := by first | (rw [hy393]; with_reducible exact H) | (have H2_ := (Option.bind_some _ _).symm.trans H; rw [hy393]; with_reducible exact H2_) | (have H2_ := (Option.bind_some _ _).symm.trans H; with_reducible exact H2_) | with_reducible exact H | (rw [hy393]; exact H) | exact H
        have Ny393 := Aside0.mk hy393
        clear hy393
        have H' := Aside0.mk H
        clear H
        have p390 : 0 ≤ (x22_2 : Int) := sO
        have q390 : x22_2 < (((rd_T65 l0_0 x15_1).f6).length : Int) := sO
        obtain ⟨ad390, e390, hx390_0, hx390_1⟩ := ab104 HR388_6.out HB x22_2 p390 q390
        cases e390
        replace p390 := eq_true p390
        replace q390 := eq_true q390
        go_wp2_with (first | ((with_reducible refine gd 7 rfl ?_); refine bxE 7 #[.string (⟨#[]⟩ : ByteArray), .int .i64 0] 104 ?_; intro gb391 hg w21 hbox hb; replace HO_3 := nR HO_3 hb; have BK391 := Aside0.mk hbox; have GW391 := nGC hg; have GE391 := nGC hg; replace HB := nSC hb; have NB384_391 := nL BK384 hg; have NB391_384 := nH BK384 hg; replace BK384 := nK BK384 hb; have NB389_391 := nL BK389 hg; have NB391_389 := nH BK389 hg; replace BK389 := nK BK389 hb; clear hb hbox hg; have hnb22 := NB391_384.out; have hnc22 := NB384_391.out; have hnb23 := NB391_389.out; have hnc23 := NB389_391.out; have hcz24 := cb2 BK391) | ((with_reducible refine gate_store (t := 104) (p := 7) rfl ?_); refine store_event (t := 104) (p := 7) (v := ?vo_w25) (w1 := ((w21.setCell ⟨gb391, 0, none⟩ (.string ((rd_T104 ((rd_T65 l0_0 x15_1).f6) x22_2).f0))).setCell ⟨gb391, 1, none⟩ (.int .i64 ((rd_T104 ((rd_T65 l0_0 x15_1).f6) x22_2).f1)))) ?hg ?ho ?hn ?hr ?_; (case ho => rfl); (case hg => rfl); (case hn => rfl); (case hr => first | (go_simp; done) | (go_simp; rfl)); intro w25 hw; have n0_ : Aside0 (Kd.R (Kd.int .i64) 3 w25 w.heap.size (fun _ => True) v386 x3_2) := ⟨(by rw [hw]; exact (by (with_reducible repeat (first | apply Kd.R_alloc | apply Kd.R_drewN | apply Kd.R_drew)); exact Kd.R_mono (Kd.R_far (p := ⟨gb391, 1, none⟩) (Kd.R_far (p := ⟨gb391, 0, none⟩) (Kd.R_types HO_3.out BK391.out (by decide)) (fun _ hk => hk.2) (.string ((rd_T104 ((rd_T65 l0_0 x15_1).f6) x22_2).f0))) (fun _ hk => hk.2) (.int .i64 ((rd_T104 ((rd_T65 l0_0 x15_1).f6) x22_2).f1))) (fun _ hk => trivial)))⟩; have n1_ : Aside0 (w25.heap[gb384]? = some (.cells #[.slice (some ad388) l0_0.length c0_0, .int .i64 a0_1] 30 (0, 0))) := ⟨(by rw [hw]; exact (sX BK384))⟩; have n2_ : Aside0 (w25.heap[gb389]? = some (.cells #[.int .i64 ((rd_T65 l0_0 x15_1).f0), .int .i64 ((rd_T65 l0_0 x15_1).f1), .int .i64 ((rd_T65 l0_0 x15_1).f2), .int .i64 ((rd_T65 l0_0 x15_1).f3), .int .i64 ((rd_T65 l0_0 x15_1).f4), .string ((rd_T65 l0_0 x15_1).f5), .slice (some ad390) ((rd_T65 l0_0 x15_1).f6).length c388_6] 65 (0, 0))) := ⟨(by rw [hw]; exact (sX BK389))⟩; have n3_ : Aside0 (w25.heap[gb391]? = some (.cells #[.string ((rd_T104 ((rd_T65 l0_0 x15_1).f6) x22_2).f0), .int .i64 ((rd_T104 ((rd_T65 l0_0 x15_1).f6) x22_2).f1)] 104 (0, 0))) := ⟨(by rw [hw]; exact (sX BK391))⟩; have n4_ : Aside0 (Below w.heap.size w w25) := ⟨(by rw [hw]; exact sC)⟩; clear hw; clear HO_3; clear BK384; clear BK389; clear BK391; clear HB; have HO_3 := n0_; have BK384 := n1_; have BK389 := n2_; have BK391 := n3_; have HB := n4_; clear n0_ n1_ n2_ n3_ n4_; have hcz26 := cb2 BK391; obtain ⟨Ao27, co27, eo27⟩ := Kd.R_slice HO_3.out; subst eo27; have p392 : 0 ≤ (((rd_T104 ((rd_T65 l0_0 x15_1).f6) x22_2).f1) : Int) := sO; have q392 : ((rd_T104 ((rd_T65 l0_0 x15_1).f6) x22_2).f1) < (x3_2.length : Int) := sO; obtain ⟨ad392, e392, hx392_0⟩ := Kd.at_int (Kd.R_reads' HO_3.out).2.2 ((rd_T104 ((rd_T65 l0_0 x15_1).f6) x22_2).f1) p392 q392; cases e392; replace p392 := eq_true p392; replace q392 := eq_true q392; have p20 : 0 ≤ (((rd_T104 ((rd_T65 l0_0 x15_1).f6) x22_2).f1) : Int) := sO; have q20 : (((rd_T104 ((rd_T65 l0_0 x15_1).f6) x22_2).f1) : Int) < ((x3_2.length : Int) : Int) := sO; obtain ⟨go20, co20, eo20, gb20, gl20, cl20, HG20⟩ := Kd.R_form HO_3.out (by omega); (first | cases eo20 | (injection eo20 with ea_ en_ ec_; (first | subst ea_ | (injection ea_ with ea_; subst ea_)); subst ec_; clear en_)); have GB20 := Aside0.mk gb20; have GG20 := Aside0.mk HG20; clear gb20 gl20 HG20; (first | simp only [add_plain] at hx392_0 | skip); obtain ⟨hx20_0, hf20_0⟩ := Kd.R_celln 0 HO_3.out (((rd_T104 ((rd_T65 l0_0 x15_1).f6) x22_2).f1) : Int) p20 q20; replace p20 := eq_true p20; replace q20 := eq_true q20; obtain ⟨hy28_, hz28_⟩ := Kd.R_celln 0 HO_3.out (((rd_T104 ((rd_T65 l0_0 x15_1).f6) x22_2).f1) : Int) (sO) (sO); have HP28 := Kd.R_putg HO_3.out (((rd_T104 ((rd_T65 l0_0 x15_1).f6) x22_2).f1) : Int) (wrap64 ((rd x3_2 ((rd_T104 ((rd_T65 l0_0 x15_1).f6) x22_2).f1)) + 1))) | ((with_reducible refine gate_store (t := 3) (p := 32) rfl ?_); refine store_event (t := 3) (p := 32) (v := ?vo_w29) (w1 := (w25.setCell ⟨go20, (((rd_T104 ((rd_T65 l0_0 x15_1).f6) x22_2).f1) : Int).toNat, none⟩ (.int .i64 (wrap64 ((rd x3_2 ((rd_T104 ((rd_T65 l0_0 x15_1).f6) x22_2).f1)) + 1))))) ?hg ?ho ?hn ?hr ?_; (case ho => rfl); (case hg => rfl); (case hn => rfl); (case hr => first | (go_simp; done) | (go_simp; rfl)); intro w29 hw; have hg : w25.grownBy w29 (some go20) := (by rw [hw]; exact HP28.2); have hp_ : Kd.R (Kd.int .i64) 3 w29 w.heap.size (fun _ => True) (.slice (some ⟨go20, 0, none⟩) x3_2.length co27) y393 := (by rw [hw, Ny393.out]; exact HP28.1); clear HP28; replace BK384 := Aside0.mk (blk_grown (g := gb384) (o := .cells #[.slice (some ad388) l0_0.length c0_0, .int .i64 a0_1] 30 (0, 0)) (sK BK384) hg (Kd.R_ne HO_3.out BK384.out (by decide))); replace BK389 := Aside0.mk (blk_grown (g := gb389) (o := .cells #[.int .i64 ((rd_T65 l0_0 x15_1).f0), .int .i64 ((rd_T65 l0_0 x15_1).f1), .int .i64 ((rd_T65 l0_0 x15_1).f2), .int .i64 ((rd_T65 l0_0 x15_1).f3), .int .i64 ((rd_T65 l0_0 x15_1).f4), .string ((rd_T65 l0_0 x15_1).f5), .slice (some ad390) ((rd_T65 l0_0 x15_1).f6).length c388_6] 65 (0, 0)) (sK BK389) hg (Kd.R_ne HO_3.out BK389.out (by decide))); replace BK391 := Aside0.mk (blk_grown (g := gb391) (o := .cells #[.string ((rd_T104 ((rd_T65 l0_0 x15_1).f6) x22_2).f0), .int .i64 ((rd_T104 ((rd_T65 l0_0 x15_1).f6) x22_2).f1)] 104 (0, 0)) (sK BK391) hg (Kd.R_ne HO_3.out BK391.out (by decide))); replace HO_3 := Aside0.mk (hp_); replace HB := Aside0.mk ((by rw [hw]; exact below_set (HB.out) GB20.out : Below w.heap.size w w29)); clear hg hw hp_))
        go_roundg k2
        case measure => have := HK1.out; have := HK2.out; omega
        case rel => exact ⟨(y393), (wrap64 (x22_2 + 1)), sR, H', ⟨by have := HK1.out; have := HK2.out; omega⟩, ⟨rR HO_3⟩, ⟨sK BK384⟩, ⟨sK BK389⟩, ⟨sC⟩⟩
       ·rw [if_neg c15] at H
        have c15b0 := decide_eq_false c15
        clear c15
        have H' := Aside0.mk H
        clear H
        go_wp2
        go_roundg k2
        case measure => have := HK1.out; have := HK2.out; omega
        case rel => exact ⟨(x3_2), (wrap64 (x15_1 + 1)), sR, H', ⟨by have := HK1.out; have := HK2.out; omega⟩, ⟨rR HO_3⟩, ⟨sK BK384⟩, ⟨sC⟩⟩
    ·rw [if_neg c9] at H
     have c9b0 := decide_eq_false c9
     clear c9
     obtain rfl := Option.some.inj H
     go_wp2
     go_ret
     exact ⟨_, sE, by (with_reducible repeat (first | apply Kd.R_alloc | apply Kd.R_drewN | apply Kd.R_drew)); exact HO_3.out, sC⟩
 ·rw [if_neg c2] at H
  exact absurd H (by simp)
end Go.Proofs.YtdjceippnokimaaGreatDoor.PGrp
