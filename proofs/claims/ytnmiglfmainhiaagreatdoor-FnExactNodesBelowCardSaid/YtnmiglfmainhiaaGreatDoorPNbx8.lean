-- Written by a program of this session (wip/print2) out of the translation. Lean checks it.
import Derived.Test.YtnmiglfmainhiaaGreatDoorPNbx0
namespace Go.Proofs.YtnmiglfmainhiaaGreatDoor.PNb
open Go.RowKit Go.Proofs.YtnmiglfmainhiaaGreatDoorW.PrintWords Go.Proofs.YtnmiglfmainhiaaGreatDoorW.PrintLast Go.Proofs.YtnmiglfmainhiaaGreatDoorW.PrintMore
attribute [local go_sem] max2_int min2_int max_two min_two max_three min_three max_four min_four   -- for this text's walks alone
set_option linter.unusedVariables false
set_option linter.unusedSimpArgs false
set_option maxHeartbeats 8000000
set_option maxRecDepth 100000

/-! ### spec_l3Links: function 94 -/
mutual
def spec_l3Links.l0 : Nat → Int → Int → List (S74) → Int → Int → Option (Int)
 | 0, _, _, _, _, _ => none
 | k + 1, x1, x5, x11, x12, x13 => if x13 < x12 then (if 0 ≤ x13 then (if x13 < (x11.length : Int) then (spec_l3Links.l1 k x1 x5 x11 x12 x13 ((rd_T74 x11 x13).f6) (((rd_T74 x11 x13).f6).length : Int) 0) else (none)) else (none)) else (some x5)
def spec_l3Links.l1 : Nat → Int → Int → List (S74) → Int → Int → List (S105) → Int → Int → Option (Int)
 | 0, _, _, _, _, _, _, _, _ => none
 | k + 1, x1, x5, x11, x12, x13, x18, x19, x20 => if x20 < x19 then (if 0 ≤ x20 then (if x20 < (x18.length : Int) then (if ((rd_T105 x18 x20).f1) = x1 then (spec_l3Links.l1 k x1 (wrap64 (x5 + 1)) x11 x12 x13 x18 x19 (wrap64 (x20 + 1))) else (spec_l3Links.l1 k x1 x5 x11 x12 x13 x18 x19 (wrap64 (x20 + 1)))) else (none)) else (none)) else (spec_l3Links.l0 k x1 x5 x11 x12 (wrap64 (x13 + 1)))
end
def spec_l3Links.f (k : Nat) (l0_0 : List (S74)) (a0_1 : Int) (a1 : Int) : Option (Int) := spec_l3Links.l0 k a1 0 l0_0 (l0_0.length : Int) 0
theorem spec_l3Links.mono_l : ∀ k, (∀ y0 y1 y2 y3 y4, LeO (spec_l3Links.l0 k y0 y1 y2 y3 y4) (spec_l3Links.l0 (k + 1) y0 y1 y2 y3 y4)) ∧ (∀ y0 y1 y2 y3 y4 y5 y6 y7, LeO (spec_l3Links.l1 k y0 y1 y2 y3 y4 y5 y6 y7) (spec_l3Links.l1 (k + 1) y0 y1 y2 y3 y4 y5 y6 y7))
 | 0 => ⟨fun _ _ _ _ _ r h => by simp [spec_l3Links.l0] at h, fun _ _ _ _ _ _ _ _ r h => by simp [spec_l3Links.l1] at h⟩
 | k + 1 => by
  obtain ⟨ih0, ih1⟩ := spec_l3Links.mono_l k
  refine ⟨?_, ?_⟩
  ·intro y0 y1 y2 y3 y4
   unfold spec_l3Links.l0
   exact mo
  ·intro y0 y1 y2 y3 y4 y5 y6 y7
   unfold spec_l3Links.l1
   exact mo
theorem spec_l3Links.mono : ∀ a0 a1 a2 k, LeO (spec_l3Links.f k a0 a1 a2) (spec_l3Links.f (k + 1) a0 a1 a2) := by
 intro a0 a1 a2 k
 obtain ⟨ih0, ih1⟩ := spec_l3Links.mono_l k
 unfold spec_l3Links.f
 exact mo
theorem spec_l3Links.calls (k : Nat) (A0_0 : Option Addr) (c0_0 : Nat) (l0_0 : List (S74)) (a0_1 : Int) (a1 : Int) (r : Int) (w : World) (hr0_0 : Kd.C k74 w A0_0 l0_0.length l0_0) (hc0_0 : l0_0.length ≤ c0_0) (h : spec_l3Links.f k l0_0 a0_1 a1 = some r) :
  Calls Tryz.prog 94 #[.agg #[.slice A0_0 l0_0.length c0_0, .int .i64 a0_1], .int .i64 a1] w fun e w' => e = .returned (.int .i64 r) ∧ Below w.heap.size w w' := by
 have hu31 := Tryz.underlying31
 have hu74 := Tryz.underlying74
 have hu105 := Tryz.underlying105
 have HR0_0 := Aside0.mk hr0_0
 have HC0_0 := Aside0.mk hc0_0
 clear hr0_0 hc0_0
 have HB := Aside0.mk (Below.refl w.heap.size w)
 have H : (spec_l3Links.l0 k a1 0 l0_0 (l0_0.length : Int) 0) = some r := h
 clear h
 have H' := Aside0.mk H
 clear H
 go_enter Tryz.func94, Tryz.ntmps94
 go_wp2_with (first | ((with_reducible refine gd 2 rfl ?_); refine bxE 2 #[.slice A0_0 l0_0.length c0_0, .int .i64 a0_1] 31 ?_; intro gb255 hg w3 hbox hb; have BK255 := Aside0.mk hbox; have GW255 := nGB hg; have GE255 := nGB hg; replace HB := nSB hb; clear hb hbox hg; have hcz4 := cb2 BK255))
 go_loopg [5, 13] k (fun kq v5 v13 w' => ∃ (x5_1 : Int) (x13_1 : Int), v5 = .int .i64 x5_1 ∧ v13 = .int .i64 x13_1 ∧ Aside0 (spec_l3Links.l0 kq a1 x5_1 l0_0 (l0_0.length : Int) x13_1 = some r) ∧ Aside0 (kq ≤ k) ∧ Aside0 (w'.heap[gb255]? = some (.cells #[(.slice A0_0 l0_0.length c0_0), .int .i64 a0_1] 31 (0, 0))) ∧ Aside0 (Below w.heap.size w w'))
 case atStart => exact ⟨(0), (0), sR, sR, H', ⟨Nat.le_refl _⟩, ⟨sK BK255⟩, ⟨sC⟩⟩
 case round =>
  clear H'
  try clear p2
  try clear hcz4
  obtain ⟨x5_1, x13_1, rfl, rfl, HA, HK1, BK255, HB⟩ := hrel
  cases gk with
  | zero => exact absurd HA.out (by simp [spec_l3Links.l0])
  | succ k1 =>
   have H := HA.out
   clear HA
   simp only [spec_l3Links.l0] at H
   by_cases c5 : x13_1 < (l0_0.length : Int)
   ·rw [if_pos c5] at H
    have c5b0 := decide_eq_true c5
    clear c5
    obtain ⟨c6, H⟩ := iN H
    have c6b0 := decide_eq_true c6
    clear c6
    obtain ⟨c7, H⟩ := iN H
    have c7b0 := decide_eq_true c7
    clear c7
    have H' := Aside0.mk H
    clear H
    have p256 : 0 ≤ (x13_1 : Int) := sO
    have q256 : x13_1 < (l0_0.length : Int) := sO
    obtain ⟨ad256, A256_6, c256_6, e256, hx256_0, hx256_1, hx256_2, hx256_3, hx256_4, hx256_5, hx256_6, hl256_6, hi256_6⟩ := ab74 HR0_0.out HB x13_1 p256 q256
    cases e256
    have HR256_6 := Aside0.mk hi256_6
    have HC256_6 := Aside0.mk hl256_6
    clear hi256_6 hl256_6
    replace p256 := eq_true p256
    replace q256 := eq_true q256
    go_wp2_with (first | ((with_reducible refine gd 7 rfl ?_); refine bxE 7 #[.int .i64 0, .int .i64 0, .int .i64 0, .int .i64 0, .int .i64 0, .string (⟨#[]⟩ : ByteArray), .slice none 0 0] 74 ?_; intro gb257 hg w8 hbox hb; have BK257 := Aside0.mk hbox; have GW257 := nGC hg; have GE257 := nGC hg; replace HB := nSC hb; have NB255_257 := nL BK255 hg; have NB257_255 := nH BK255 hg; replace BK255 := nK BK255 hb; clear hb hbox hg; have hnb9 := NB257_255.out; have hnc9 := NB255_257.out; have hcz10 := cb7 BK257))
    go_loopg [5, 20] k1 (fun kq v5 v20 w' => ∃ (x5_2 : Int) (x20_2 : Int), v5 = .int .i64 x5_2 ∧ v20 = .int .i64 x20_2 ∧ Aside0 (spec_l3Links.l1 kq a1 x5_2 l0_0 (l0_0.length : Int) x13_1 ((rd_T74 l0_0 x13_1).f6) (((rd_T74 l0_0 x13_1).f6).length : Int) x20_2 = some r) ∧ Aside0 (kq ≤ k1) ∧ Aside0 (w'.heap[gb255]? = some (.cells #[(.slice (some ad256) l0_0.length c0_0), .int .i64 a0_1] 31 (0, 0))) ∧ Aside0 (w'.heap[gb257]? = some (.cells #[.int .i64 ((rd_T74 l0_0 x13_1).f0), .int .i64 ((rd_T74 l0_0 x13_1).f1), .int .i64 ((rd_T74 l0_0 x13_1).f2), .int .i64 ((rd_T74 l0_0 x13_1).f3), .int .i64 ((rd_T74 l0_0 x13_1).f4), .string ((rd_T74 l0_0 x13_1).f5), (.slice A256_6 ((rd_T74 l0_0 x13_1).f6).length c256_6)] 74 (0, 0))) ∧ Aside0 (Below w.heap.size w w'))
    case atStart => exact ⟨(x5_1), (0), sR, sR, H', ⟨Nat.le_refl _⟩, ⟨sX BK255⟩, ⟨sX BK257⟩, ⟨sC⟩⟩
    case round =>
     clear H'
     try clear c2
     try clear p2
     try clear q2
     try clear hx2
     try clear c5
     try clear c5b0
     try clear c6
     try clear c6b0
     try clear c7
     try clear c7b0
     try clear c9
     try clear hcz10
     try clear hcz4
     try clear hx256_0
     try clear hx256_1
     try clear hx256_2
     try clear hx256_3
     try clear hx256_4
     try clear hx256_5
     try clear hx256_6
     try clear p2
     try clear p256
     try clear q256
     obtain ⟨x5_2, x20_2, rfl, rfl, HA, HK2, BK255, BK257, HB⟩ := hrel
     cases gk with
     | zero => exact absurd HA.out (by simp [spec_l3Links.l1])
     | succ k2 =>
      have H := HA.out
      clear HA
      simp only [spec_l3Links.l1] at H
      by_cases c11 : x20_2 < (((rd_T74 l0_0 x13_1).f6).length : Int)
      ·rw [if_pos c11] at H
       have c11b0 := decide_eq_true c11
       clear c11
       obtain ⟨c12, H⟩ := iN H
       have c12b0 := decide_eq_true c12
       clear c12
       obtain ⟨c13, H⟩ := iN H
       have c13b0 := decide_eq_true c13
       clear c13
       by_cases c14 : ((rd_T105 ((rd_T74 l0_0 x13_1).f6) x20_2).f1) = a1
       ·rw [if_pos c14] at H
        have c14b0 := beq_iff_eq.mpr c14
        have c14b1 := bne_eq_false_iff_eq.mpr c14
        clear c14
        have H' := Aside0.mk H
        clear H
        have p258 : 0 ≤ (x20_2 : Int) := sO
        have q258 : x20_2 < (((rd_T74 l0_0 x13_1).f6).length : Int) := sO
        obtain ⟨ad258, e258, hx258_0, hx258_1⟩ := ab105 HR256_6.out HB x20_2 p258 q258
        cases e258
        replace p258 := eq_true p258
        replace q258 := eq_true q258
        go_wp2_with (first | ((with_reducible refine gd 9 rfl ?_); refine bxE 9 #[.string (⟨#[]⟩ : ByteArray), .int .i64 0] 105 ?_; intro gb259 hg w15 hbox hb; have BK259 := Aside0.mk hbox; have GW259 := nGC hg; have GE259 := nGC hg; replace HB := nSC hb; have NB255_259 := nL BK255 hg; have NB259_255 := nH BK255 hg; replace BK255 := nK BK255 hb; have NB257_259 := nL BK257 hg; have NB259_257 := nH BK257 hg; replace BK257 := nK BK257 hb; clear hb hbox hg; have hnb16 := NB259_255.out; have hnc16 := NB255_259.out; have hnb17 := NB259_257.out; have hnc17 := NB257_259.out; have hcz18 := cb2 BK259))
        go_roundg k2
        case measure => have := HK1.out; have := HK2.out; omega
        case rel => exact ⟨(wrap64 (x5_2 + 1)), (wrap64 (x20_2 + 1)), sR, sR, H', ⟨by have := HK1.out; have := HK2.out; omega⟩, ⟨sX BK255⟩, ⟨sX BK257⟩, ⟨sC⟩⟩
       ·rw [if_neg c14] at H
        have c14b0 := beq_eq_false_iff_ne.mpr c14
        have c14b1 := bne_iff_ne.mpr c14
        have H' := Aside0.mk H
        clear H
        have p258 : 0 ≤ (x20_2 : Int) := sO
        have q258 : x20_2 < (((rd_T74 l0_0 x13_1).f6).length : Int) := sO
        obtain ⟨ad258, e258, hx258_0, hx258_1⟩ := ab105 HR256_6.out HB x20_2 p258 q258
        cases e258
        replace p258 := eq_true p258
        replace q258 := eq_true q258
        go_wp2_with (first | ((with_reducible refine gd 9 rfl ?_); refine bxE 9 #[.string (⟨#[]⟩ : ByteArray), .int .i64 0] 105 ?_; intro gb259 hg w19 hbox hb; have BK259 := Aside0.mk hbox; have GW259 := nGC hg; have GE259 := nGC hg; replace HB := nSC hb; have NB255_259 := nL BK255 hg; have NB259_255 := nH BK255 hg; replace BK255 := nK BK255 hb; have NB257_259 := nL BK257 hg; have NB259_257 := nH BK257 hg; replace BK257 := nK BK257 hb; clear hb hbox hg; have hnb20 := NB259_255.out; have hnc20 := NB255_259.out; have hnb21 := NB259_257.out; have hnc21 := NB257_259.out; have hcz22 := cb2 BK259))
        go_roundg k2
        case measure => have := HK1.out; have := HK2.out; omega
        case rel => exact ⟨(x5_2), (wrap64 (x20_2 + 1)), sR, sR, H', ⟨by have := HK1.out; have := HK2.out; omega⟩, ⟨sX BK255⟩, ⟨sX BK257⟩, ⟨sC⟩⟩
      ·rw [if_neg c11] at H
       have c11b0 := decide_eq_false c11
       clear c11
       have H' := Aside0.mk H
       clear H
       go_wp2
       go_roundg k2
       case measure => have := HK1.out; have := HK2.out; omega
       case rel => exact ⟨(x5_2), (wrap64 (x13_1 + 1)), sR, sR, H', ⟨by have := HK1.out; have := HK2.out; omega⟩, ⟨sK BK255⟩, ⟨sC⟩⟩
   ·rw [if_neg c5] at H
    have c5b0 := decide_eq_false c5
    clear c5
    obtain rfl := Option.some.inj H
    go_wp2
    go_ret
    exact ⟨sE, sC⟩

end Go.Proofs.YtnmiglfmainhiaaGreatDoor.PNb
