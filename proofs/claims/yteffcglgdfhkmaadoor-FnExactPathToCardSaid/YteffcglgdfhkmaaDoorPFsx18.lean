-- Written by a program of this session (wip/print2) out of the translation. Lean checks it.
import Derived.Test.YteffcglgdfhkmaaDoorPFsx0
import Derived.Test.YteffcglgdfhkmaaDoorPFsx7
import Derived.Test.YteffcglgdfhkmaaDoorPFsx15
import Derived.Test.YteffcglgdfhkmaaDoorPFsx17
namespace Go.Proofs.YteffcglgdfhkmaaDoor.PFs
open Go.RowKit Go.Proofs.YteffcglgdfhkmaaDoorW.PrintWords Go.Proofs.YteffcglgdfhkmaaDoorW.PrintLast Go.Proofs.YteffcglgdfhkmaaDoorW.PrintMore
attribute [local go_sem] max2_int min2_int max_two min_two max_three min_three max_four min_four   -- for this text's walks alone
set_option linter.unusedVariables false
set_option linter.unusedSimpArgs false

/-! ### impl_Fs_isDir: function 57 -/
def impl_Fs_isDir.f (l0_0 : List (S53)) (a0_1 : Int) (a1 : Int) : Option (Bool) := if 0 ≤ a1 then (if a1 < (l0_0.length : Int) then (some (((rd_T53 l0_0 a1).f0) == 2)) else (none)) else (none)
set_option maxHeartbeats 8000000 in
set_option maxRecDepth 100000 in
theorem impl_Fs_isDir.calls (A0_0 : Option Addr) (c0_0 : Nat) (l0_0 : List (S53)) (a0_1 : Int) (a1 : Int) (r : Bool) (w : World) (hr0_0 : Kd.C k53 w A0_0 l0_0.length l0_0) (hc0_0 : l0_0.length ≤ c0_0) (h : impl_Fs_isDir.f l0_0 a0_1 a1 = some r) :
  Calls Tryd.prog 57 #[.agg #[.slice A0_0 l0_0.length c0_0, .int .i64 a0_1], .int .i64 a1] w fun e w' => e = .returned (.bool r) ∧ Below w.heap.size w w' := by
 have hu29 := Tryd.underlying29
 have HR0_0 := Aside0.mk hr0_0
 have HC0_0 := Aside0.mk hc0_0
 clear hr0_0 hc0_0
 have HB := Aside0.mk (Below.refl w.heap.size w)
 have H : (if 0 ≤ a1 then (if a1 < (l0_0.length : Int) then (some (((rd_T53 l0_0 a1).f0) == 2)) else (none)) else (none)) = some r := h
 clear h
 by_cases c3 : 0 ≤ a1
 ·rw [if_pos c3] at H
  have c3b0 := decide_eq_true c3
  clear c3
  by_cases c4 : a1 < (l0_0.length : Int)
  ·rw [if_pos c4] at H
   have c4b0 := decide_eq_true c4
   clear c4
   obtain rfl := Option.some.inj H
   go_enter Tryd.func57, Tryd.ntmps57
   go_wp2_with (first | ((with_reducible refine gd 2 rfl ?_); refine bxE 2 #[.slice A0_0 l0_0.length c0_0, .int .i64 a0_1] 29 ?_; intro gb499 hg w5 hbox hb; have BK499 := Aside0.mk hbox; have GW499 := nGB hg; have GE499 := nGB hg; replace HB := nSB hb; clear hb hbox hg; have hcz6 := cb2 BK499; have p500 : 0 ≤ (a1 : Int) := sO; have q500 : a1 < (l0_0.length : Int) := sO; obtain ⟨ad500, A500_6, c500_6, e500, hx500_0, hx500_1, hx500_2, hx500_3, hx500_4, hx500_5, hx500_6, hl500_6, hi500_6⟩ := at_T53 HR0_0.out a1 p500 q500; cases e500; replace hx500_0 := hB HB hx500_0; replace hx500_1 := hB HB hx500_1; replace hx500_2 := hB HB hx500_2; replace hx500_3 := hB HB hx500_3; replace hx500_4 := hB HB hx500_4; replace hx500_5 := hB HB hx500_5; replace hx500_6 := hB HB hx500_6; have HR500_6 := Aside0.mk hi500_6; have HC500_6 := Aside0.mk hl500_6; clear hi500_6 hl500_6; replace p500 := eq_true p500; replace q500 := eq_true q500))
   go_ret
   exact ⟨sE, sC⟩
  ·rw [if_neg c4] at H
   exact absurd H (by simp)
 ·rw [if_neg c3] at H
  exact absurd H (by simp)

/-! ### impl_Fs_parent: function 58 -/
mutual
def impl_Fs_parent.l0 : Nat → Int → List (S53) → Int → Int → Option (Int × ByteArray)
 | 0, _, _, _, _ => none
 | k + 1, x1, x11, x12, x13 => if x13 < x12 then (if 0 ≤ x13 then (if x13 < (x11.length : Int) then (impl_Fs_parent.l1 k x1 x13 x11 x12 x13 ((rd_T53 x11 x13).f6) (((rd_T53 x11 x13).f6).length : Int) 0) else (none)) else (none)) else (some (0, (⟨#[]⟩ : ByteArray)))
def impl_Fs_parent.l1 : Nat → Int → Int → List (S53) → Int → Int → List (S60) → Int → Int → Option (Int × ByteArray)
 | 0, _, _, _, _, _, _, _, _ => none
 | k + 1, x1, x6, x11, x12, x13, x19, x20, x21 => if x21 < x20 then (if 0 ≤ x21 then (if x21 < (x19.length : Int) then (if ((rd_T60 x19 x21).f1) = x1 then (some (x6, (rd_T60 x19 x21).f0)) else (impl_Fs_parent.l1 k x1 x6 x11 x12 x13 x19 x20 (wrap64 (x21 + 1)))) else (none)) else (none)) else (impl_Fs_parent.l0 k x1 x11 x12 (wrap64 (x13 + 1)))
end
def impl_Fs_parent.f (k : Nat) (l0_0 : List (S53)) (a0_1 : Int) (a1 : Int) : Option (Int × ByteArray) := impl_Fs_parent.l0 k a1 l0_0 (l0_0.length : Int) 0
theorem impl_Fs_parent.mono_l : ∀ k, (∀ y0 y1 y2 y3, LeO (impl_Fs_parent.l0 k y0 y1 y2 y3) (impl_Fs_parent.l0 (k + 1) y0 y1 y2 y3)) ∧ (∀ y0 y1 y2 y3 y4 y5 y6 y7, LeO (impl_Fs_parent.l1 k y0 y1 y2 y3 y4 y5 y6 y7) (impl_Fs_parent.l1 (k + 1) y0 y1 y2 y3 y4 y5 y6 y7))
 | 0 => ⟨fun _ _ _ _ r h => by simp [impl_Fs_parent.l0] at h, fun _ _ _ _ _ _ _ _ r h => by simp [impl_Fs_parent.l1] at h⟩
 | k + 1 => by
  obtain ⟨ih0, ih1⟩ := impl_Fs_parent.mono_l k
  refine ⟨?_, ?_⟩
  ·intro y0 y1 y2 y3
   unfold impl_Fs_parent.l0
   exact mo
  ·intro y0 y1 y2 y3 y4 y5 y6 y7
   unfold impl_Fs_parent.l1
   exact mo
theorem impl_Fs_parent.mono : ∀ a0 a1 a2 k, LeO (impl_Fs_parent.f k a0 a1 a2) (impl_Fs_parent.f (k + 1) a0 a1 a2) := by
 intro a0 a1 a2 k
 obtain ⟨ih0, ih1⟩ := impl_Fs_parent.mono_l k
 unfold impl_Fs_parent.f
 exact mo
set_option maxHeartbeats 8000000 in
set_option maxRecDepth 100000 in
theorem impl_Fs_parent.calls (k : Nat) (A0_0 : Option Addr) (c0_0 : Nat) (l0_0 : List (S53)) (a0_1 : Int) (a1 : Int) (r1 : Int) (r2 : ByteArray) (w : World) (hr0_0 : Kd.C k53 w A0_0 l0_0.length l0_0) (hc0_0 : l0_0.length ≤ c0_0) (h : impl_Fs_parent.f k l0_0 a0_1 a1 = some (r1, r2)) :
  Calls Tryd.prog 58 #[.agg #[.slice A0_0 l0_0.length c0_0, .int .i64 a0_1], .int .i64 a1] w fun e w' => e = .returned (.tuple #[.int .i64 r1, .string r2]) ∧ Below w.heap.size w w' := by
 have hu29 := Tryd.underlying29
 have hu53 := Tryd.underlying53
 have hu60 := Tryd.underlying60
 have HR0_0 := Aside0.mk hr0_0
 have HC0_0 := Aside0.mk hc0_0
 clear hr0_0 hc0_0
 have HB := Aside0.mk (Below.refl w.heap.size w)
 have H : (impl_Fs_parent.l0 k a1 l0_0 (l0_0.length : Int) 0) = some (r1, r2) := h
 clear h
 have H' := Aside0.mk H
 clear H
 go_enter Tryd.func58, Tryd.ntmps58
 go_wp2_with (first | ((with_reducible refine gd 2 rfl ?_); refine bxE 2 #[.slice A0_0 l0_0.length c0_0, .int .i64 a0_1] 29 ?_; intro gb501 hg w3 hbox hb; have BK501 := Aside0.mk hbox; have GW501 := nGB hg; have GE501 := nGB hg; replace HB := nSB hb; clear hb hbox hg; have hcz4 := cb2 BK501))
 repeat (go_quiet (first | ((with_reducible refine gd 2 rfl ?_); refine bxE 2 #[.slice A0_0 l0_0.length c0_0, .int .i64 a0_1] 29 ?_; intro gb501 hg w3 hbox hb; have BK501 := Aside0.mk hbox; have GW501 := nGB hg; have GE501 := nGB hg; replace HB := nSB hb; clear hb hbox hg; have hcz4 := cb2 BK501)); try go_wp2_with (first | ((with_reducible refine gd 2 rfl ?_); refine bxE 2 #[.slice A0_0 l0_0.length c0_0, .int .i64 a0_1] 29 ?_; intro gb501 hg w3 hbox hb; have BK501 := Aside0.mk hbox; have GW501 := nGB hg; have GE501 := nGB hg; replace HB := nSB hb; clear hb hbox hg; have hcz4 := cb2 BK501)))
 go_loopg [13] k (fun kq v13 w' => ∃ (x13_1 : Int), v13 = .int .i64 x13_1 ∧ Aside0 (impl_Fs_parent.l0 kq a1 l0_0 (l0_0.length : Int) x13_1 = some (r1, r2)) ∧ Aside0 (kq ≤ k) ∧ Aside0 (w'.heap[gb501]? = some (.cells #[(.slice A0_0 l0_0.length c0_0), .int .i64 a0_1] 29 (0, 0))) ∧ Aside0 (Below w.heap.size w w'))
 case atStart => exact ⟨(0), sR, H', ⟨Nat.le_refl _⟩, ⟨sK BK501⟩, ⟨sC⟩⟩
 case round =>
  clear H'
  try clear p2
  try clear hcz4
  obtain ⟨x13_1, rfl, HA, HK1, BK501, HB⟩ := hrel
  cases gk with
  | zero => exact absurd HA.out (by simp [impl_Fs_parent.l0])
  | succ k1 =>
   have H := HA.out
   clear HA
   simp only [impl_Fs_parent.l0] at H
   by_cases c5 : x13_1 < (l0_0.length : Int)
   ·rw [if_pos c5] at H
    have c5b0 := decide_eq_true c5
    clear c5
    by_cases c6 : 0 ≤ x13_1
    ·rw [if_pos c6] at H
     have c6b0 := decide_eq_true c6
     clear c6
     by_cases c7 : x13_1 < (l0_0.length : Int)
     ·rw [if_pos c7] at H
      have c7b0 := decide_eq_true c7
      clear c7
      have H' := Aside0.mk H
      clear H
      have p502 : 0 ≤ (x13_1 : Int) := sO
      have q502 : x13_1 < (l0_0.length : Int) := sO
      obtain ⟨ad502, A502_6, c502_6, e502, hx502_0, hx502_1, hx502_2, hx502_3, hx502_4, hx502_5, hx502_6, hl502_6, hi502_6⟩ := at_T53 HR0_0.out x13_1 p502 q502
      cases e502
      replace hx502_0 := hB HB hx502_0
      replace hx502_1 := hB HB hx502_1
      replace hx502_2 := hB HB hx502_2
      replace hx502_3 := hB HB hx502_3
      replace hx502_4 := hB HB hx502_4
      replace hx502_5 := hB HB hx502_5
      replace hx502_6 := hB HB hx502_6
      have HR502_6 := Aside0.mk hi502_6
      have HC502_6 := Aside0.mk hl502_6
      clear hi502_6 hl502_6
      replace p502 := eq_true p502
      replace q502 := eq_true q502
      go_wp2_with (first | ((with_reducible refine gd 7 rfl ?_); refine bxE 7 #[.int .i64 0, .int .i64 0, .int .i64 0, .int .i64 0, .int .i64 0, .string (⟨#[]⟩ : ByteArray), .slice none 0 0] 53 ?_; intro gb503 hg w8 hbox hb; have BK503 := Aside0.mk hbox; have GW503 := nGC hg; have GE503 := nGC hg; replace HB := nSC hb; have NB501_503 := nL BK501 hg; have NB503_501 := nH BK501 hg; replace BK501 := nK BK501 hb; clear hb hbox hg; have hnb9 := NB503_501.out; have hnc9 := NB501_503.out; have hcz10 := cb7 BK503))
      repeat (go_quiet (first | ((with_reducible refine gd 7 rfl ?_); refine bxE 7 #[.int .i64 0, .int .i64 0, .int .i64 0, .int .i64 0, .int .i64 0, .string (⟨#[]⟩ : ByteArray), .slice none 0 0] 53 ?_; intro gb503 hg w8 hbox hb; have BK503 := Aside0.mk hbox; have GW503 := nGC hg; have GE503 := nGC hg; replace HB := nSC hb; have NB501_503 := nL BK501 hg; have NB503_501 := nH BK501 hg; replace BK501 := nK BK501 hb; clear hb hbox hg; have hnb9 := NB503_501.out; have hnc9 := NB501_503.out; have hcz10 := cb7 BK503)); try go_wp2_with (first | ((with_reducible refine gd 7 rfl ?_); refine bxE 7 #[.int .i64 0, .int .i64 0, .int .i64 0, .int .i64 0, .int .i64 0, .string (⟨#[]⟩ : ByteArray), .slice none 0 0] 53 ?_; intro gb503 hg w8 hbox hb; have BK503 := Aside0.mk hbox; have GW503 := nGC hg; have GE503 := nGC hg; replace HB := nSC hb; have NB501_503 := nL BK501 hg; have NB503_501 := nH BK501 hg; replace BK501 := nK BK501 hb; clear hb hbox hg; have hnb9 := NB503_501.out; have hnc9 := NB501_503.out; have hcz10 := cb7 BK503)))
      go_loopg [21] k1 (fun kq v21 w' => ∃ (x21_2 : Int), v21 = .int .i64 x21_2 ∧ Aside0 (impl_Fs_parent.l1 kq a1 x13_1 l0_0 (l0_0.length : Int) x13_1 ((rd_T53 l0_0 x13_1).f6) (((rd_T53 l0_0 x13_1).f6).length : Int) x21_2 = some (r1, r2)) ∧ Aside0 (kq ≤ k1) ∧ Aside0 (w'.heap[gb501]? = some (.cells #[(.slice (some ad502) l0_0.length c0_0), .int .i64 a0_1] 29 (0, 0))) ∧ Aside0 (w'.heap[gb503]? = some (.cells #[.int .i64 ((rd_T53 l0_0 x13_1).f0), .int .i64 ((rd_T53 l0_0 x13_1).f1), .int .i64 ((rd_T53 l0_0 x13_1).f2), .int .i64 ((rd_T53 l0_0 x13_1).f3), .int .i64 ((rd_T53 l0_0 x13_1).f4), .string ((rd_T53 l0_0 x13_1).f5), (.slice A502_6 ((rd_T53 l0_0 x13_1).f6).length c502_6)] 53 (0, 0))) ∧ Aside0 (Below w.heap.size w w'))
      case atStart => exact ⟨(0), sR, H', ⟨Nat.le_refl _⟩, ⟨sX BK501⟩, ⟨sX BK503⟩, ⟨sC⟩⟩
      case round =>
       clear H'
       try clear p2
       try clear c5
       try clear c5b0
       try clear p5
       try clear q5
       try clear hx5
       try clear c6
       try clear c6b0
       try clear c7
       try clear c7b0
       try clear c9
       try clear hcz10
       try clear hcz4
       try clear hx502_0
       try clear hx502_1
       try clear hx502_2
       try clear hx502_3
       try clear hx502_4
       try clear hx502_5
       try clear hx502_6
       try clear p2
       try clear p502
       try clear q502
       obtain ⟨x21_2, rfl, HA, HK2, BK501, BK503, HB⟩ := hrel
       cases gk with
       | zero => exact absurd HA.out (by simp [impl_Fs_parent.l1])
       | succ k2 =>
        have H := HA.out
        clear HA
        simp only [impl_Fs_parent.l1] at H
        by_cases c11 : x21_2 < (((rd_T53 l0_0 x13_1).f6).length : Int)
        ·rw [if_pos c11] at H
         have c11b0 := decide_eq_true c11
         clear c11
         by_cases c12 : 0 ≤ x21_2
         ·rw [if_pos c12] at H
          have c12b0 := decide_eq_true c12
          clear c12
          by_cases c13 : x21_2 < (((rd_T53 l0_0 x13_1).f6).length : Int)
          ·rw [if_pos c13] at H
           have c13b0 := decide_eq_true c13
           clear c13
           by_cases c14 : ((rd_T60 ((rd_T53 l0_0 x13_1).f6) x21_2).f1) = a1
           ·rw [if_pos c14] at H
            have c14b0 := beq_iff_eq.mpr c14
            have c14b1 := bne_eq_false_iff_eq.mpr c14
            clear c14
            simp only [Option.some.injEq, Prod.mk.injEq] at H
            obtain ⟨rfl, rfl⟩ := H
            have p504 : 0 ≤ (x21_2 : Int) := sO
            have q504 : x21_2 < (((rd_T53 l0_0 x13_1).f6).length : Int) := sO
            obtain ⟨ad504, e504, hx504_0, hx504_1⟩ := at_T60 HR502_6.out x21_2 p504 q504
            cases e504
            replace hx504_0 := hB HB hx504_0
            replace hx504_1 := hB HB hx504_1
            replace p504 := eq_true p504
            replace q504 := eq_true q504
            go_wp2_with (first | ((with_reducible refine gd 9 rfl ?_); refine bxE 9 #[.string (⟨#[]⟩ : ByteArray), .int .i64 0] 60 ?_; intro gb505 hg w15 hbox hb; have BK505 := Aside0.mk hbox; have GW505 := nGC hg; have GE505 := nGC hg; replace HB := nSC hb; have NB501_505 := nL BK501 hg; have NB505_501 := nH BK501 hg; replace BK501 := nK BK501 hb; have NB503_505 := nL BK503 hg; have NB505_503 := nH BK503 hg; replace BK503 := nK BK503 hb; clear hb hbox hg; have hnb16 := NB505_501.out; have hnc16 := NB501_505.out; have hnb17 := NB505_503.out; have hnc17 := NB503_505.out; have hcz18 := cb2 BK505))
            repeat (go_quiet (first | ((with_reducible refine gd 9 rfl ?_); refine bxE 9 #[.string (⟨#[]⟩ : ByteArray), .int .i64 0] 60 ?_; intro gb505 hg w15 hbox hb; have BK505 := Aside0.mk hbox; have GW505 := nGC hg; have GE505 := nGC hg; replace HB := nSC hb; have NB501_505 := nL BK501 hg; have NB505_501 := nH BK501 hg; replace BK501 := nK BK501 hb; have NB503_505 := nL BK503 hg; have NB505_503 := nH BK503 hg; replace BK503 := nK BK503 hb; clear hb hbox hg; have hnb16 := NB505_501.out; have hnc16 := NB501_505.out; have hnb17 := NB505_503.out; have hnc17 := NB503_505.out; have hcz18 := cb2 BK505)); try go_wp2_with (first | ((with_reducible refine gd 9 rfl ?_); refine bxE 9 #[.string (⟨#[]⟩ : ByteArray), .int .i64 0] 60 ?_; intro gb505 hg w15 hbox hb; have BK505 := Aside0.mk hbox; have GW505 := nGC hg; have GE505 := nGC hg; replace HB := nSC hb; have NB501_505 := nL BK501 hg; have NB505_501 := nH BK501 hg; replace BK501 := nK BK501 hb; have NB503_505 := nL BK503 hg; have NB505_503 := nH BK503 hg; replace BK503 := nK BK503 hb; clear hb hbox hg; have hnb16 := NB505_501.out; have hnc16 := NB501_505.out; have hnb17 := NB505_503.out; have hnc17 := NB503_505.out; have hcz18 := cb2 BK505)))
            go_ret2
            exact ⟨sE, sC⟩
           ·rw [if_neg c14] at H
            have c14b0 := beq_eq_false_iff_ne.mpr c14
            have c14b1 := bne_iff_ne.mpr c14
            have H' := Aside0.mk H
            clear H
            have p504 : 0 ≤ (x21_2 : Int) := sO
            have q504 : x21_2 < (((rd_T53 l0_0 x13_1).f6).length : Int) := sO
            obtain ⟨ad504, e504, hx504_0, hx504_1⟩ := at_T60 HR502_6.out x21_2 p504 q504
            cases e504
            replace hx504_0 := hB HB hx504_0
            replace hx504_1 := hB HB hx504_1
            replace p504 := eq_true p504
            replace q504 := eq_true q504
            go_wp2_with (first | ((with_reducible refine gd 9 rfl ?_); refine bxE 9 #[.string (⟨#[]⟩ : ByteArray), .int .i64 0] 60 ?_; intro gb505 hg w19 hbox hb; have BK505 := Aside0.mk hbox; have GW505 := nGC hg; have GE505 := nGC hg; replace HB := nSC hb; have NB501_505 := nL BK501 hg; have NB505_501 := nH BK501 hg; replace BK501 := nK BK501 hb; have NB503_505 := nL BK503 hg; have NB505_503 := nH BK503 hg; replace BK503 := nK BK503 hb; clear hb hbox hg; have hnb20 := NB505_501.out; have hnc20 := NB501_505.out; have hnb21 := NB505_503.out; have hnc21 := NB503_505.out; have hcz22 := cb2 BK505))
            repeat (go_quiet (first | ((with_reducible refine gd 9 rfl ?_); refine bxE 9 #[.string (⟨#[]⟩ : ByteArray), .int .i64 0] 60 ?_; intro gb505 hg w19 hbox hb; have BK505 := Aside0.mk hbox; have GW505 := nGC hg; have GE505 := nGC hg; replace HB := nSC hb; have NB501_505 := nL BK501 hg; have NB505_501 := nH BK501 hg; replace BK501 := nK BK501 hb; have NB503_505 := nL BK503 hg; have NB505_503 := nH BK503 hg; replace BK503 := nK BK503 hb; clear hb hbox hg; have hnb20 := NB505_501.out; have hnc20 := NB501_505.out; have hnb21 := NB505_503.out; have hnc21 := NB503_505.out; have hcz22 := cb2 BK505)); try go_wp2_with (first | ((with_reducible refine gd 9 rfl ?_); refine bxE 9 #[.string (⟨#[]⟩ : ByteArray), .int .i64 0] 60 ?_; intro gb505 hg w19 hbox hb; have BK505 := Aside0.mk hbox; have GW505 := nGC hg; have GE505 := nGC hg; replace HB := nSC hb; have NB501_505 := nL BK501 hg; have NB505_501 := nH BK501 hg; replace BK501 := nK BK501 hb; have NB503_505 := nL BK503 hg; have NB505_503 := nH BK503 hg; replace BK503 := nK BK503 hb; clear hb hbox hg; have hnb20 := NB505_501.out; have hnc20 := NB501_505.out; have hnb21 := NB505_503.out; have hnc21 := NB503_505.out; have hcz22 := cb2 BK505)))
            go_roundg k2
            case measure => have := HK1.out; have := HK2.out; omega
            case rel => exact ⟨(wrap64 (x21_2 + 1)), sR, H', ⟨by have := HK1.out; have := HK2.out; omega⟩, ⟨sX BK501⟩, ⟨sX BK503⟩, ⟨sC⟩⟩
          ·rw [if_neg c13] at H
           exact absurd H (by simp)
         ·rw [if_neg c12] at H
          exact absurd H (by simp)
        ·rw [if_neg c11] at H
         have c11b0 := decide_eq_false c11
         clear c11
         have H' := Aside0.mk H
         clear H
         go_wp2
         repeat (go_quiet (fail); try go_wp2)
         go_roundg k2
         case measure => have := HK1.out; have := HK2.out; omega
         case rel => exact ⟨(wrap64 (x13_1 + 1)), sR, H', ⟨by have := HK1.out; have := HK2.out; omega⟩, ⟨sK BK501⟩, ⟨sC⟩⟩
     ·rw [if_neg c7] at H
      exact absurd H (by simp)
    ·rw [if_neg c6] at H
     exact absurd H (by simp)
   ·rw [if_neg c5] at H
    have c5b0 := decide_eq_false c5
    clear c5
    simp only [Option.some.injEq, Prod.mk.injEq] at H
    obtain ⟨rfl, rfl⟩ := H
    go_wp2
    repeat (go_quiet (fail); try go_wp2)
    go_ret2
    exact ⟨sE, sC⟩

end Go.Proofs.YteffcglgdfhkmaaDoor.PFs
