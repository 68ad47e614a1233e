-- Written by a program of this session (wip/print2) out of the translation. Lean checks it.
import Derived.Test.YteffcglgdfhkmaaDoorPFsx0
import Derived.Test.YteffcglgdfhkmaaDoorPFsx7
import Derived.Test.YteffcglgdfhkmaaDoorPFsx1
import Derived.Test.YteffcglgdfhkmaaDoorPFsx8
import Derived.Test.YteffcglgdfhkmaaDoorPFsx12
import Derived.Test.YteffcglgdfhkmaaDoorPFsx14
import Derived.Test.YteffcglgdfhkmaaDoorPFsx15
import Derived.Test.YteffcglgdfhkmaaDoorPFsx16
namespace Go.Proofs.YteffcglgdfhkmaaDoor.PFs
open Go.RowKit Go.Proofs.YteffcglgdfhkmaaDoorW.PrintWords Go.Proofs.YteffcglgdfhkmaaDoorW.PrintLast Go.Proofs.YteffcglgdfhkmaaDoorW.PrintMore
attribute [local go_sem] max2_int min2_int max_two min_two max_three min_three max_four min_four   -- for this text's walks alone
set_option linter.unusedVariables false
set_option linter.unusedSimpArgs false

/-! ### spec_l3IsDir: function 55 -/
def spec_l3IsDir.f (l0_0 : List (S53)) (a0_1 : Int) (a1 : Int) : Option (Bool) := (spec_l3Is.f l0_0 a0_1 a1).bind fun t488 => (if t488 = true then (if 0 ≤ a1 then (if a1 < (l0_0.length : Int) then (some (((rd_T53 l0_0 a1).f0) == 2)) else (none)) else (none)) else (some false))
set_option maxHeartbeats 8000000 in
set_option maxRecDepth 100000 in
theorem spec_l3IsDir.calls (A0_0 : Option Addr) (c0_0 : Nat) (l0_0 : List (S53)) (a0_1 : Int) (a1 : Int) (r : Bool) (w : World) (hr0_0 : Kd.C k53 w A0_0 l0_0.length l0_0) (hc0_0 : l0_0.length ≤ c0_0) (h : spec_l3IsDir.f l0_0 a0_1 a1 = some r) :
  Calls Tryd.prog 55 #[.agg #[.slice A0_0 l0_0.length c0_0, .int .i64 a0_1], .int .i64 a1] w fun e w' => e = .returned (.bool r) ∧ Below w.heap.size w w' := by
 have hu29 := Tryd.underlying29
 have HR0_0 := Aside0.mk hr0_0
 have HC0_0 := Aside0.mk hc0_0
 clear hr0_0 hc0_0
 have HB := Aside0.mk (Below.refl w.heap.size w)
 have H : ((spec_l3Is.f l0_0 a0_1 a1).bind fun t488 => (if t488 = true then (if 0 ≤ a1 then (if a1 < (l0_0.length : Int) then (some (((rd_T53 l0_0 a1).f0) == 2)) else (none)) else (none)) else (some false))) = some r := h
 clear h
 obtain ⟨t488, A30, H⟩ := Option.bind_eq_some_iff.mp H
 try dsimp only at H
 replace A30 := Aside0.mk A30; have A3 := A30; clear A30
 by_cases c4 : t488 = true
 ·subst c4
  rw [if_pos rfl] at H
  by_cases c5 : 0 ≤ a1
  ·rw [if_pos c5] at H
   have c5b0 := decide_eq_true c5
   clear c5
   by_cases c6 : a1 < (l0_0.length : Int)
   ·rw [if_pos c6] at H
    have c6b0 := decide_eq_true c6
    clear c6
    obtain rfl := Option.some.inj H
    go_enter Tryd.func55, Tryd.ntmps55
    go_wp2_with (first | ((with_reducible refine gd 2 rfl ?_); refine bxE 2 #[.slice A0_0 l0_0.length c0_0, .int .i64 a0_1] 29 ?_; intro gb487 hg w7 hbox hb; have BK487 := Aside0.mk hbox; have GW487 := nGB hg; have GE487 := nGB hg; replace HB := nSB hb; clear hb hbox hg; have hcz8 := cb2 BK487) | ((with_reducible refine gt 50 rfl ?_); refine gL 50 7 Tryd.func50 #[.agg #[.slice A0_0 l0_0.length c0_0, .int .i64 a0_1], .int .i64 a1] ?_; (with_reducible refine (spec_l3Is.calls _ _ l0_0 a0_1 a1 true _ ?side1 ?side2 A3.out).mono ?_); (case side1 => exact sD (Kd.C_below HR0_0.out HB.out)); (case side2 => exact HC0_0.out); rintro e w9 ⟨rfl, hb⟩; refine ⟨_, rfl, ?_⟩; replace BK487 := nK BK487 hb; replace HB := nSC hb; try clear hb; have hcz10 := cb2 BK487; have p489 : 0 ≤ (a1 : Int) := sO; have q489 : a1 < (l0_0.length : Int) := sO; obtain ⟨ad489, A489_6, c489_6, e489, hx489_0, hx489_1, hx489_2, hx489_3, hx489_4, hx489_5, hx489_6, hl489_6, hi489_6⟩ := at_T53 HR0_0.out a1 p489 q489; cases e489; replace hx489_0 := hB HB hx489_0; replace hx489_1 := hB HB hx489_1; replace hx489_2 := hB HB hx489_2; replace hx489_3 := hB HB hx489_3; replace hx489_4 := hB HB hx489_4; replace hx489_5 := hB HB hx489_5; replace hx489_6 := hB HB hx489_6; have HR489_6 := Aside0.mk hi489_6; have HC489_6 := Aside0.mk hl489_6; clear hi489_6 hl489_6; replace p489 := eq_true p489; replace q489 := eq_true q489))
    go_ret
    exact ⟨sE, sC⟩
   ·rw [if_neg c6] at H
    exact absurd H (by simp)
  ·rw [if_neg c5] at H
   exact absurd H (by simp)
 ·replace c4 := Bool.eq_false_iff.mpr c4
  subst c4
  rw [if_neg (show ¬ (false = true) by decide)] at H
  obtain rfl := Option.some.inj H
  go_enter Tryd.func55, Tryd.ntmps55
  go_wp2_with (first | ((with_reducible refine gd 2 rfl ?_); refine bxE 2 #[.slice A0_0 l0_0.length c0_0, .int .i64 a0_1] 29 ?_; intro gb487 hg w11 hbox hb; have BK487 := Aside0.mk hbox; have GW487 := nGB hg; have GE487 := nGB hg; replace HB := nSB hb; clear hb hbox hg; have hcz12 := cb2 BK487) | ((with_reducible refine gt 50 rfl ?_); refine gL 50 7 Tryd.func50 #[.agg #[.slice A0_0 l0_0.length c0_0, .int .i64 a0_1], .int .i64 a1] ?_; (with_reducible refine (spec_l3Is.calls _ _ l0_0 a0_1 a1 false _ ?side1 ?side2 A3.out).mono ?_); (case side1 => exact sD (Kd.C_below HR0_0.out HB.out)); (case side2 => exact HC0_0.out); rintro e w13 ⟨rfl, hb⟩; refine ⟨_, rfl, ?_⟩; replace BK487 := nK BK487 hb; replace HB := nSC hb; try clear hb))
  go_ret
  exact ⟨sE, sC⟩

/-! ### spec_l3Parent: function 56 -/
mutual
def spec_l3Parent.l0 : Nat → Int → List (S53) → Int → Int → Option (Int)
 | 0, _, _, _, _ => none
 | k + 1, x1, x10, x11, x12 => if x12 < x11 then (if 0 ≤ x12 then (if x12 < (x10.length : Int) then (spec_l3Parent.l1 k x1 x12 x10 x11 x12 ((rd_T53 x10 x12).f6) (((rd_T53 x10 x12).f6).length : Int) 0) else (none)) else (none)) else (some 0)
def spec_l3Parent.l1 : Nat → Int → Int → List (S53) → Int → Int → List (S60) → Int → Int → Option (Int)
 | 0, _, _, _, _, _, _, _, _ => none
 | k + 1, x1, x5, x10, x11, x12, x18, x19, x20 => if x20 < x19 then (if 0 ≤ x20 then (if x20 < (x18.length : Int) then (if ((rd_T60 x18 x20).f1) = x1 then (some x5) else (spec_l3Parent.l1 k x1 x5 x10 x11 x12 x18 x19 (wrap64 (x20 + 1)))) else (none)) else (none)) else (spec_l3Parent.l0 k x1 x10 x11 (wrap64 (x12 + 1)))
end
def spec_l3Parent.f (k : Nat) (l0_0 : List (S53)) (a0_1 : Int) (a1 : Int) : Option (Int) := spec_l3Parent.l0 k a1 l0_0 (l0_0.length : Int) 0
theorem spec_l3Parent.mono_l : ∀ k, (∀ y0 y1 y2 y3, LeO (spec_l3Parent.l0 k y0 y1 y2 y3) (spec_l3Parent.l0 (k + 1) y0 y1 y2 y3)) ∧ (∀ y0 y1 y2 y3 y4 y5 y6 y7, LeO (spec_l3Parent.l1 k y0 y1 y2 y3 y4 y5 y6 y7) (spec_l3Parent.l1 (k + 1) y0 y1 y2 y3 y4 y5 y6 y7))
 | 0 => ⟨fun _ _ _ _ r h => by simp [spec_l3Parent.l0] at h, fun _ _ _ _ _ _ _ _ r h => by simp [spec_l3Parent.l1] at h⟩
 | k + 1 => by
  obtain ⟨ih0, ih1⟩ := spec_l3Parent.mono_l k
  refine ⟨?_, ?_⟩
  ·intro y0 y1 y2 y3
   unfold spec_l3Parent.l0
   exact mo
  ·intro y0 y1 y2 y3 y4 y5 y6 y7
   unfold spec_l3Parent.l1
   exact mo
theorem spec_l3Parent.mono : ∀ a0 a1 a2 k, LeO (spec_l3Parent.f k a0 a1 a2) (spec_l3Parent.f (k + 1) a0 a1 a2) := by
 intro a0 a1 a2 k
 obtain ⟨ih0, ih1⟩ := spec_l3Parent.mono_l k
 unfold spec_l3Parent.f
 exact mo
set_option maxHeartbeats 8000000 in
set_option maxRecDepth 100000 in
theorem spec_l3Parent.calls (k : Nat) (A0_0 : Option Addr) (c0_0 : Nat) (l0_0 : List (S53)) (a0_1 : Int) (a1 : Int) (r : Int) (w : World) (hr0_0 : Kd.C k53 w A0_0 l0_0.length l0_0) (hc0_0 : l0_0.length ≤ c0_0) (h : spec_l3Parent.f k l0_0 a0_1 a1 = some r) :
  Calls Tryd.prog 56 #[.agg #[.slice A0_0 l0_0.length c0_0, .int .i64 a0_1], .int .i64 a1] w fun e w' => e = .returned (.int .i64 r) ∧ Below w.heap.size w w' := by
 have hu29 := Tryd.underlying29
 have hu53 := Tryd.underlying53
 have hu60 := Tryd.underlying60
 have HR0_0 := Aside0.mk hr0_0
 have HC0_0 := Aside0.mk hc0_0
 clear hr0_0 hc0_0
 have HB := Aside0.mk (Below.refl w.heap.size w)
 have H : (spec_l3Parent.l0 k a1 l0_0 (l0_0.length : Int) 0) = some r := h
 clear h
 have H' := Aside0.mk H
 clear H
 go_enter Tryd.func56, Tryd.ntmps56
 go_wp2_with (first | ((with_reducible refine gd 2 rfl ?_); refine bxE 2 #[.slice A0_0 l0_0.length c0_0, .int .i64 a0_1] 29 ?_; intro gb490 hg w3 hbox hb; have BK490 := Aside0.mk hbox; have GW490 := nGB hg; have GE490 := nGB hg; replace HB := nSB hb; clear hb hbox hg; have hcz4 := cb2 BK490))
 go_loopg [12] k (fun kq v12 w' => ∃ (x12_1 : Int), v12 = .int .i64 x12_1 ∧ Aside0 (spec_l3Parent.l0 kq a1 l0_0 (l0_0.length : Int) x12_1 = some r) ∧ Aside0 (kq ≤ k) ∧ Aside0 (w'.heap[gb490]? = some (.cells #[(.slice A0_0 l0_0.length c0_0), .int .i64 a0_1] 29 (0, 0))) ∧ Aside0 (Below w.heap.size w w'))
 case atStart => exact ⟨(0), sR, H', ⟨Nat.le_refl _⟩, ⟨sK BK490⟩, ⟨sC⟩⟩
 case round =>
  clear H'
  try clear p2
  try clear hcz4
  obtain ⟨x12_1, rfl, HA, HK1, BK490, HB⟩ := hrel
  cases gk with
  | zero => exact absurd HA.out (by simp [spec_l3Parent.l0])
  | succ k1 =>
   have H := HA.out
   clear HA
   simp only [spec_l3Parent.l0] at H
   by_cases c5 : x12_1 < (l0_0.length : Int)
   ·rw [if_pos c5] at H
    have c5b0 := decide_eq_true c5
    clear c5
    by_cases c6 : 0 ≤ x12_1
    ·rw [if_pos c6] at H
     have c6b0 := decide_eq_true c6
     clear c6
     by_cases c7 : x12_1 < (l0_0.length : Int)
     ·rw [if_pos c7] at H
      have c7b0 := decide_eq_true c7
      clear c7
      have H' := Aside0.mk H
      clear H
      have p491 : 0 ≤ (x12_1 : Int) := sO
      have q491 : x12_1 < (l0_0.length : Int) := sO
      obtain ⟨ad491, A491_6, c491_6, e491, hx491_0, hx491_1, hx491_2, hx491_3, hx491_4, hx491_5, hx491_6, hl491_6, hi491_6⟩ := at_T53 HR0_0.out x12_1 p491 q491
      cases e491
      replace hx491_0 := hB HB hx491_0
      replace hx491_1 := hB HB hx491_1
      replace hx491_2 := hB HB hx491_2
      replace hx491_3 := hB HB hx491_3
      replace hx491_4 := hB HB hx491_4
      replace hx491_5 := hB HB hx491_5
      replace hx491_6 := hB HB hx491_6
      have HR491_6 := Aside0.mk hi491_6
      have HC491_6 := Aside0.mk hl491_6
      clear hi491_6 hl491_6
      replace p491 := eq_true p491
      replace q491 := eq_true q491
      go_wp2_with (first | ((with_reducible refine gd 6 rfl ?_); refine bxE 6 #[.int .i64 0, .int .i64 0, .int .i64 0, .int .i64 0, .int .i64 0, .string (⟨#[]⟩ : ByteArray), .slice none 0 0] 53 ?_; intro gb492 hg w8 hbox hb; have BK492 := Aside0.mk hbox; have GW492 := nGC hg; have GE492 := nGC hg; replace HB := nSC hb; have NB490_492 := nL BK490 hg; have NB492_490 := nH BK490 hg; replace BK490 := nK BK490 hb; clear hb hbox hg; have hnb9 := NB492_490.out; have hnc9 := NB490_492.out; have hcz10 := cb7 BK492))
      go_loopg [20] k1 (fun kq v20 w' => ∃ (x20_2 : Int), v20 = .int .i64 x20_2 ∧ Aside0 (spec_l3Parent.l1 kq a1 x12_1 l0_0 (l0_0.length : Int) x12_1 ((rd_T53 l0_0 x12_1).f6) (((rd_T53 l0_0 x12_1).f6).length : Int) x20_2 = some r) ∧ Aside0 (kq ≤ k1) ∧ Aside0 (w'.heap[gb490]? = some (.cells #[(.slice (some ad491) l0_0.length c0_0), .int .i64 a0_1] 29 (0, 0))) ∧ Aside0 (w'.heap[gb492]? = some (.cells #[.int .i64 ((rd_T53 l0_0 x12_1).f0), .int .i64 ((rd_T53 l0_0 x12_1).f1), .int .i64 ((rd_T53 l0_0 x12_1).f2), .int .i64 ((rd_T53 l0_0 x12_1).f3), .int .i64 ((rd_T53 l0_0 x12_1).f4), .string ((rd_T53 l0_0 x12_1).f5), (.slice A491_6 ((rd_T53 l0_0 x12_1).f6).length c491_6)] 53 (0, 0))) ∧ Aside0 (Below w.heap.size w w'))
      case atStart => exact ⟨(0), sR, H', ⟨Nat.le_refl _⟩, ⟨sX BK490⟩, ⟨sX BK492⟩, ⟨sC⟩⟩
      case round =>
       clear H'
       try clear p2
       try clear c4
       try clear p4
       try clear q4
       try clear hx4
       try clear c5
       try clear c5b0
       try clear c6
       try clear c6b0
       try clear c7
       try clear c7b0
       try clear c9
       try clear hcz10
       try clear hcz4
       try clear hx491_0
       try clear hx491_1
       try clear hx491_2
       try clear hx491_3
       try clear hx491_4
       try clear hx491_5
       try clear hx491_6
       try clear p2
       try clear p491
       try clear q491
       obtain ⟨x20_2, rfl, HA, HK2, BK490, BK492, HB⟩ := hrel
       cases gk with
       | zero => exact absurd HA.out (by simp [spec_l3Parent.l1])
       | succ k2 =>
        have H := HA.out
        clear HA
        simp only [spec_l3Parent.l1] at H
        by_cases c11 : x20_2 < (((rd_T53 l0_0 x12_1).f6).length : Int)
        ·rw [if_pos c11] at H
         have c11b0 := decide_eq_true c11
         clear c11
         by_cases c12 : 0 ≤ x20_2
         ·rw [if_pos c12] at H
          have c12b0 := decide_eq_true c12
          clear c12
          by_cases c13 : x20_2 < (((rd_T53 l0_0 x12_1).f6).length : Int)
          ·rw [if_pos c13] at H
           have c13b0 := decide_eq_true c13
           clear c13
           by_cases c14 : ((rd_T60 ((rd_T53 l0_0 x12_1).f6) x20_2).f1) = a1
           ·rw [if_pos c14] at H
            have c14b0 := beq_iff_eq.mpr c14
            have c14b1 := bne_eq_false_iff_eq.mpr c14
            clear c14
            obtain rfl := Option.some.inj H
            have p493 : 0 ≤ (x20_2 : Int) := sO
            have q493 : x20_2 < (((rd_T53 l0_0 x12_1).f6).length : Int) := sO
            obtain ⟨ad493, e493, hx493_0, hx493_1⟩ := at_T60 HR491_6.out x20_2 p493 q493
            cases e493
            replace hx493_0 := hB HB hx493_0
            replace hx493_1 := hB HB hx493_1
            replace p493 := eq_true p493
            replace q493 := eq_true q493
            go_wp2_with (first | ((with_reducible refine gd 8 rfl ?_); refine bxE 8 #[.string (⟨#[]⟩ : ByteArray), .int .i64 0] 60 ?_; intro gb494 hg w15 hbox hb; have BK494 := Aside0.mk hbox; have GW494 := nGC hg; have GE494 := nGC hg; replace HB := nSC hb; have NB490_494 := nL BK490 hg; have NB494_490 := nH BK490 hg; replace BK490 := nK BK490 hb; have NB492_494 := nL BK492 hg; have NB494_492 := nH BK492 hg; replace BK492 := nK BK492 hb; clear hb hbox hg; have hnb16 := NB494_490.out; have hnc16 := NB490_494.out; have hnb17 := NB494_492.out; have hnc17 := NB492_494.out; have hcz18 := cb2 BK494))
            go_ret
            exact ⟨sE, sC⟩
           ·rw [if_neg c14] at H
            have c14b0 := beq_eq_false_iff_ne.mpr c14
            have c14b1 := bne_iff_ne.mpr c14
            have H' := Aside0.mk H
            clear H
            have p493 : 0 ≤ (x20_2 : Int) := sO
            have q493 : x20_2 < (((rd_T53 l0_0 x12_1).f6).length : Int) := sO
            obtain ⟨ad493, e493, hx493_0, hx493_1⟩ := at_T60 HR491_6.out x20_2 p493 q493
            cases e493
            replace hx493_0 := hB HB hx493_0
            replace hx493_1 := hB HB hx493_1
            replace p493 := eq_true p493
            replace q493 := eq_true q493
            go_wp2_with (first | ((with_reducible refine gd 8 rfl ?_); refine bxE 8 #[.string (⟨#[]⟩ : ByteArray), .int .i64 0] 60 ?_; intro gb494 hg w19 hbox hb; have BK494 := Aside0.mk hbox; have GW494 := nGC hg; have GE494 := nGC hg; replace HB := nSC hb; have NB490_494 := nL BK490 hg; have NB494_490 := nH BK490 hg; replace BK490 := nK BK490 hb; have NB492_494 := nL BK492 hg; have NB494_492 := nH BK492 hg; replace BK492 := nK BK492 hb; clear hb hbox hg; have hnb20 := NB494_490.out; have hnc20 := NB490_494.out; have hnb21 := NB494_492.out; have hnc21 := NB492_494.out; have hcz22 := cb2 BK494))
            go_roundg k2
            case measure => have := HK1.out; have := HK2.out; omega
            case rel => exact ⟨(wrap64 (x20_2 + 1)), sR, H', ⟨by have := HK1.out; have := HK2.out; omega⟩, ⟨sX BK490⟩, ⟨sX BK492⟩, ⟨sC⟩⟩
          ·rw [if_neg c13] at H
           exact absurd H (by simp)
         ·rw [if_neg c12] at H
          exact absurd H (by simp)
        ·rw [if_neg c11] at H
         have c11b0 := decide_eq_false c11
         clear c11
         have H' := Aside0.mk H
         clear H
         go_wp2
         go_roundg k2
         case measure => have := HK1.out; have := HK2.out; omega
         case rel => exact ⟨(wrap64 (x12_1 + 1)), sR, H', ⟨by have := HK1.out; have := HK2.out; omega⟩, ⟨sK BK490⟩, ⟨sC⟩⟩
     ·rw [if_neg c7] at H
      exact absurd H (by simp)
    ·rw [if_neg c6] at H
     exact absurd H (by simp)
   ·rw [if_neg c5] at H
    have c5b0 := decide_eq_false c5
    clear c5
    obtain rfl := Option.some.inj H
    go_wp2
    go_ret
    exact ⟨sE, sC⟩

end Go.Proofs.YteffcglgdfhkmaaDoor.PFs
