-- Written by a program of this session (wip/print2) out of the translation. Lean checks it.
import Derived.Test.YteffcglgdfhkmaaDoorPFsx0
import Derived.Test.YteffcglgdfhkmaaDoorPFsx7
import Derived.Test.YteffcglgdfhkmaaDoorPFsx1
import Derived.Test.YteffcglgdfhkmaaDoorPFsx8
import Derived.Test.YteffcglgdfhkmaaDoorPFsx14
import Derived.Test.YteffcglgdfhkmaaDoorPFsx17
import Derived.Test.YteffcglgdfhkmaaDoorPFsx18
namespace Go.Proofs.YteffcglgdfhkmaaDoor.PFs
open Go.RowKit Go.Proofs.YteffcglgdfhkmaaDoorW.PrintWords Go.Proofs.YteffcglgdfhkmaaDoorW.PrintLast Go.Proofs.YteffcglgdfhkmaaDoorW.PrintMore
attribute [local go_sem] max2_int min2_int max_two min_two max_three min_three max_four min_four   -- for this text's walks alone
set_option linter.unusedVariables false
set_option linter.unusedSimpArgs false

/-! ### spec_l2Of: function 59 -/
def spec_l2Of.l0 : Nat → ByteArray → List ByteArray → Int → Int → Option (ByteArray)
 | 0, _, _, _, _ => none
 | k + 1, x3, x9, x10, x11 => if x11 < x10 then (if 0 ≤ x11 then (if x11 < (x9.length : Int) then (if 1 + (rdOf ByteArray.empty x9 x11).size ≤ 9223372036854775807 then (if x3.size + (1 + (rdOf ByteArray.empty x9 x11).size) ≤ 9223372036854775807 then (spec_l2Of.l0 k (x3 ++ ((⟨#[47]⟩ : ByteArray) ++ (rdOf ByteArray.empty x9 x11))) x9 x10 (wrap64 (x11 + 1))) else (none)) else (none)) else (none)) else (none)) else (some x3)
def spec_l2Of.f (k : Nat) (l0 : List ByteArray) : Option (ByteArray) := if (l0.length : Int) = 0 then (some (⟨#[47]⟩ : ByteArray)) else (spec_l2Of.l0 k (⟨#[]⟩ : ByteArray) l0 (l0.length : Int) 0)
theorem spec_l2Of.mono_l : ∀ k, (∀ y0 y1 y2 y3, LeO (spec_l2Of.l0 k y0 y1 y2 y3) (spec_l2Of.l0 (k + 1) y0 y1 y2 y3))
 | 0 => fun _ _ _ _ r h => by simp [spec_l2Of.l0] at h
 | k + 1 => by
  have ih0 := spec_l2Of.mono_l k
  ·intro y0 y1 y2 y3
   unfold spec_l2Of.l0
   exact mo
theorem spec_l2Of.mono : ∀ a0 k, LeO (spec_l2Of.f k a0) (spec_l2Of.f (k + 1) a0) := by
 intro a0 k
 have ih0 := spec_l2Of.mono_l k
 unfold spec_l2Of.f
 exact mo
set_option maxHeartbeats 8000000 in
set_option maxRecDepth 100000 in
theorem spec_l2Of.calls (k : Nat) (A0 : Option Addr) (c0 : Nat) (l0 : List ByteArray) (r : ByteArray) (w : World) (hr0 : Kd.C Kd.string w A0 l0.length l0) (hc0 : l0.length ≤ c0) (h : spec_l2Of.f k l0 = some r) :
  Calls Tryd.prog 59 #[.slice A0 l0.length c0] w fun e w' => e = .returned (.string r) ∧ Drawn0 w w' := by
 have HR0 := Aside0.mk hr0
 have HC0 := Aside0.mk hc0
 clear hr0 hc0
 have H : (if (l0.length : Int) = 0 then (some (⟨#[47]⟩ : ByteArray)) else (spec_l2Of.l0 k (⟨#[]⟩ : ByteArray) l0 (l0.length : Int) 0)) = some r := h
 clear h
 by_cases c2 : (l0.length : Int) = 0
 ·rw [if_pos c2] at H
  have c2b0 := beq_iff_eq.mpr c2
  have c2b1 := bne_eq_false_iff_eq.mpr c2
  clear c2
  obtain rfl := Option.some.inj H
  go_enter Tryd.func59, Tryd.ntmps59
  go_wp2
  go_ret
  exact ⟨by first | rfl | (simp; done) | (simp [*]; done), by repeat (first | exact Drawn0.refl _ | apply Drawn0.step)⟩
 ·rw [if_neg c2] at H
  have c2b0 := beq_eq_false_iff_ne.mpr c2
  have c2b1 := bne_iff_ne.mpr c2
  have c2b2 : ¬ (l0 = []) := fun h_ => c2 (by rw [h_]; rfl)
  have H' := Aside0.mk H
  clear H
  go_enter Tryd.func59, Tryd.ntmps59
  go_wp2
  go_loopg [3, 11] k (fun kq v3 v11 w' => ∃ (x3_1 : ByteArray) (x11_1 : Int), v3 = .string x3_1 ∧ v11 = .int .i64 x11_1 ∧ Aside0 (spec_l2Of.l0 kq x3_1 l0 (l0.length : Int) x11_1 = some r) ∧ Aside0 (kq ≤ k) ∧ Drawn0 w w')
  case atStart => exact ⟨((⟨#[]⟩ : ByteArray)), (0), sR, sR, H', ⟨Nat.le_refl _⟩, by repeat (first | exact Drawn0.refl _ | apply Drawn0.step)⟩
  case round =>
   clear H'
   try clear c2
   try clear c2b0
   try clear c2b1
   try clear c2b2
   try clear p2
   obtain ⟨x3_1, x11_1, rfl, rfl, HA, HK1, ⟨m1, rfl⟩⟩ := hrel
   cases gk with
   | zero => exact absurd HA.out (by simp [spec_l2Of.l0])
   | succ k1 =>
    have H := HA.out
    clear HA
    simp only [spec_l2Of.l0] at H
    by_cases c3 : x11_1 < (l0.length : Int)
    ·rw [if_pos c3] at H
     have c3b0 := decide_eq_true c3
     clear c3
     by_cases c4 : 0 ≤ x11_1
     ·rw [if_pos c4] at H
      have c4b0 := decide_eq_true c4
      clear c4
      by_cases c5 : x11_1 < (l0.length : Int)
      ·rw [if_pos c5] at H
       have c5b0 := decide_eq_true c5
       clear c5
       by_cases c6 : 1 + (rdOf ByteArray.empty l0 x11_1).size ≤ 9223372036854775807
       ·rw [if_pos c6] at H
        have c6b0 := eq_true c6
        have c6b1 := decide_eq_true c6
        try have c6b2 : (9223372036854775807 < 1 + (rdOf ByteArray.empty l0 x11_1).size) = False := eq_false (Nat.not_lt.2 c6)
        by_cases c7 : x3_1.size + (1 + (rdOf ByteArray.empty l0 x11_1).size) ≤ 9223372036854775807
        ·rw [if_pos c7] at H
         have c7b0 := eq_true c7
         have c7b1 := decide_eq_true c7
         try have c7b2 : (9223372036854775807 < x3_1.size + (1 + (rdOf ByteArray.empty l0 x11_1).size)) = False := eq_false (Nat.not_lt.2 c7)
         have H' := Aside0.mk H
         clear H
         have p531 : 0 ≤ (x11_1 : Int) := sO
         have q531 : x11_1 < (l0.length : Int) := sO
         obtain ⟨ad531, e531, hx531_0⟩ := Kd.at_string HR0.out x11_1 p531 q531
         cases e531
         replace p531 := eq_true p531
         replace q531 := eq_true q531
         go_wp2
         go_roundg k1
         case measure => have := HK1.out; omega
         case rel => exact ⟨(x3_1 ++ ((⟨#[47]⟩ : ByteArray) ++ (rdOf ByteArray.empty l0 x11_1))), (wrap64 (x11_1 + 1)), sR, sR, H', ⟨by have := HK1.out; omega⟩, by repeat (first | exact Drawn0.refl _ | apply Drawn0.step)⟩
        ·rw [if_neg c7] at H
         exact absurd H (by simp)
       ·rw [if_neg c6] at H
        exact absurd H (by simp)
      ·rw [if_neg c5] at H
       exact absurd H (by simp)
     ·rw [if_neg c4] at H
      exact absurd H (by simp)
    ·rw [if_neg c3] at H
     have c3b0 := decide_eq_false c3
     clear c3
     obtain rfl := Option.some.inj H
     go_wp2
     go_ret
     exact ⟨by first | rfl | (simp; done) | (simp [*]; done), by repeat (first | exact Drawn0.refl _ | apply Drawn0.step)⟩

/-! ### spec_l3Path: function 60 -/
mutual
def spec_l3Path.l0 : Nat → Int → Int → ByteArray → List (S60) → Int → Int → List (S53) → Int → Option (List ByteArray)
 | 0, _, _, _, _, _, _, _, _ => none
 | k + 1, x1, x5, x6, x19, x20, x21, x533000, x533001 => if x21 < x20 then (if 0 ≤ x21 then (if x21 < (x19.length : Int) then (if ((rd_T60 x19 x21).f1) = x1 then (spec_l3Path.l0 k x1 x5 ((rd_T60 x19 x21).f0) x19 x20 (wrap64 (x21 + 1)) x533000 x533001) else (spec_l3Path.l0 k x1 x5 x6 x19 x20 (wrap64 (x21 + 1)) x533000 x533001)) else (none)) else (none)) else ((spec_l3Path.f k x533000 x533001 x5).bind fun t537 => (if t537.length < 8796093022208 then (some (t537 ++ [x6])) else (none)))
def spec_l3Path.f : Nat → List (S53) → Int → Int → Option (List ByteArray)
 | 0, _, _, _ => none
 | k + 1, l0_0, a0_1, a1 => if a1 = 0 then (some ([] : List ByteArray)) else ((spec_l3Parent.f k l0_0 a0_1 a1).bind fun t533 => (if 0 ≤ t533 then (if t533 < (l0_0.length : Int) then (spec_l3Path.l0 k a1 t533 (⟨#[]⟩ : ByteArray) ((rd_T53 l0_0 t533).f6) (((rd_T53 l0_0 t533).f6).length : Int) 0 l0_0 a0_1) else (none)) else (none)))
end
theorem spec_l3Path.mono_l : ∀ k, (∀ y0 y1 y2, LeO (spec_l3Path.f k y0 y1 y2) (spec_l3Path.f (k + 1) y0 y1 y2)) ∧ (∀ y0 y1 y2 y3 y4 y5 y6 y7, LeO (spec_l3Path.l0 k y0 y1 y2 y3 y4 y5 y6 y7) (spec_l3Path.l0 (k + 1) y0 y1 y2 y3 y4 y5 y6 y7))
 | 0 => ⟨fun _ _ _ r h => by simp [spec_l3Path.f] at h, fun _ _ _ _ _ _ _ _ r h => by simp [spec_l3Path.l0] at h⟩
 | k + 1 => by
  obtain ⟨ih0, ih1⟩ := spec_l3Path.mono_l k
  refine ⟨?_, ?_⟩
  ·intro y0 y1 y2
   unfold spec_l3Path.f
   have m0 := @spec_l3Parent.mono
   exact mo
  ·intro y0 y1 y2 y3 y4 y5 y6 y7
   unfold spec_l3Path.l0
   have m0 := @spec_l3Parent.mono
   exact mo
theorem spec_l3Path.mono : ∀ a0 a1 a2 k, LeO (spec_l3Path.f k a0 a1 a2) (spec_l3Path.f (k + 1) a0 a1 a2) := by
 intro a0 a1 a2 k
 obtain ⟨ih0, ih1⟩ := spec_l3Path.mono_l k
 exact ih0 a0 a1 a2
set_option maxHeartbeats 8000000 in
set_option maxRecDepth 100000 in
theorem spec_l3Path.calls (k : Nat) : ∀ (A0_0 : Option Addr) (c0_0 : Nat) (l0_0 : List (S53)) (a0_1 : Int) (a1 : Int) (r : List ByteArray) (w : World) (hr0_0 : Kd.C k53 w A0_0 l0_0.length l0_0) (hc0_0 : l0_0.length ≤ c0_0) (h : spec_l3Path.f k l0_0 a0_1 a1 = some r),
  Calls Tryd.prog 60 #[.agg #[.slice A0_0 l0_0.length c0_0, .int .i64 a0_1], .int .i64 a1] w fun e w' => ∃ v0_ : Value, e = .returned (v0_) ∧ Kd.R Kd.string 9 w' w.heap.size (fun _ => True) v0_ r ∧ Below w.heap.size w w' := by
 induction k using Nat.strongRecOn with
 | _ k ih =>
 intro A0_0 c0_0 l0_0 a0_1 a1 r w hr0_0 hc0_0 h
 cases k with
 | zero => exact absurd h (by simp [spec_l3Path.f])
 | succ k =>
 simp only [spec_l3Path.f] at h
 have hu29 := Tryd.underlying29
 have hu60 := Tryd.underlying60
 have HR0_0 := Aside0.mk hr0_0
 have HC0_0 := Aside0.mk hc0_0
 clear hr0_0 hc0_0
 have HB := Aside0.mk (Below.refl w.heap.size w)
 have H : (if a1 = 0 then (some ([] : List ByteArray)) else ((spec_l3Parent.f k l0_0 a0_1 a1).bind fun t533 => (if 0 ≤ t533 then (if t533 < (l0_0.length : Int) then (spec_l3Path.l0 k a1 t533 (⟨#[]⟩ : ByteArray) ((rd_T53 l0_0 t533).f6) (((rd_T53 l0_0 t533).f6).length : Int) 0 l0_0 a0_1) else (none)) else (none)))) = some r := h
 clear h
 by_cases c3 : a1 = 0
 ·rw [if_pos c3] at H
  have c3b0 := beq_iff_eq.mpr c3
  have c3b1 := bne_eq_false_iff_eq.mpr c3
  clear c3
  obtain rfl := Option.some.inj H
  go_enter Tryd.func60, Tryd.ntmps60
  go_wp2_with (first | ((with_reducible refine gd 2 rfl ?_); refine bxE 2 #[.slice A0_0 l0_0.length c0_0, .int .i64 a0_1] 29 ?_; intro gb532 hg w4 hbox hb; have BK532 := Aside0.mk hbox; have GW532 := nGB hg; have GE532 := nGB hg; replace HB := nSB hb; clear hb hbox hg))
  go_ret
  exact ⟨_, sE, by first | exact Kd.R_nil _ _ _ _ _ | exact Kd.N_nil _ _ _ _ _ | exact Kd.V_nil _ _ _ _ _ | exact Kd.Q_nil _ _ _ _ _ | exact Kd.S_nil _ _ _ _ _, sC⟩
 ·rw [if_neg c3] at H
  have c3b0 := beq_eq_false_iff_ne.mpr c3
  have c3b1 := bne_iff_ne.mpr c3
  obtain ⟨t533, A50, H⟩ := Option.bind_eq_some_iff.mp H
  try dsimp only at H
  replace A50 := Aside0.mk A50; have A5 := A50; clear A50
  by_cases c6 : 0 ≤ t533
  ·rw [if_pos c6] at H
   have c6b0 := decide_eq_true c6
   clear c6
   by_cases c7 : t533 < (l0_0.length : Int)
   ·rw [if_pos c7] at H
    have c7b0 := decide_eq_true c7
    clear c7
    have H' := Aside0.mk H
    clear H
    go_enter Tryd.func60, Tryd.ntmps60
    go_wp2_with (first | ((with_reducible refine gd 2 rfl ?_); refine bxE 2 #[.slice A0_0 l0_0.length c0_0, .int .i64 a0_1] 29 ?_; intro gb532 hg w8 hbox hb; have BK532 := Aside0.mk hbox; have GW532 := nGB hg; have GE532 := nGB hg; replace HB := nSB hb; clear hb hbox hg; have hcz9 := cb2 BK532) | ((with_reducible refine gt 56 rfl ?_); refine gL 56 13 Tryd.func56 #[.agg #[.slice A0_0 l0_0.length c0_0, .int .i64 a0_1], .int .i64 a1] ?_; (with_reducible refine (spec_l3Parent.calls k _ _ l0_0 a0_1 a1 t533 _ ?side1 ?side2 A5.out).mono ?_); (case side1 => exact sD (Kd.C_below HR0_0.out HB.out)); (case side2 => exact HC0_0.out); rintro e w10 ⟨rfl, hb⟩; refine ⟨_, rfl, ?_⟩; replace BK532 := nK BK532 hb; replace HB := nSC hb; try clear hb; have hcz11 := cb2 BK532; have p534 : 0 ≤ (t533 : Int) := sO; have q534 : t533 < (l0_0.length : Int) := sO; obtain ⟨ad534, A534_6, c534_6, e534, hx534_0, hx534_1, hx534_2, hx534_3, hx534_4, hx534_5, hx534_6, hl534_6, hi534_6⟩ := at_T53 HR0_0.out t533 p534 q534; cases e534; replace hx534_0 := hB HB hx534_0; replace hx534_1 := hB HB hx534_1; replace hx534_2 := hB HB hx534_2; replace hx534_3 := hB HB hx534_3; replace hx534_4 := hB HB hx534_4; replace hx534_5 := hB HB hx534_5; replace hx534_6 := hB HB hx534_6; have HR534_6 := Aside0.mk hi534_6; have HC534_6 := Aside0.mk hl534_6; clear hi534_6 hl534_6; replace p534 := eq_true p534; replace q534 := eq_true q534))
    go_loopg [6, 21] k (fun kq v6 v21 w' => ∃ (x6_1 : ByteArray) (x21_1 : Int), v6 = .string x6_1 ∧ v21 = .int .i64 x21_1 ∧ Aside0 (spec_l3Path.l0 kq a1 t533 x6_1 ((rd_T53 l0_0 t533).f6) (((rd_T53 l0_0 t533).f6).length : Int) x21_1 l0_0 a0_1 = some r) ∧ Aside0 (kq ≤ k) ∧ Aside0 (w'.heap[gb532]? = some (.cells #[(.slice (some ad534) l0_0.length c0_0), .int .i64 a0_1] 29 (0, 0))) ∧ Aside0 (Below w.heap.size w w'))
    case atStart => exact ⟨((⟨#[]⟩ : ByteArray)), (0), sR, sR, H', ⟨Nat.le_refl _⟩, ⟨sK BK532⟩, ⟨sC⟩⟩
    case round =>
     clear H'
     try clear p2
     try clear c3
     try clear c3b0
     try clear c3b1
     try clear c5
     try clear p5
     try clear q5
     try clear hx5
     try clear c6
     try clear c6b0
     try clear c7
     try clear c7b0
     try clear hcz11
     try clear hcz9
     try clear hx534_0
     try clear hx534_1
     try clear hx534_2
     try clear hx534_3
     try clear hx534_4
     try clear hx534_5
     try clear hx534_6
     try clear p534
     try clear q534
     obtain ⟨x6_1, x21_1, rfl, rfl, HA, HK1, BK532, HB⟩ := hrel
     cases gk with
     | zero => exact absurd HA.out (by simp [spec_l3Path.l0])
     | succ k1 =>
      have H := HA.out
      clear HA
      simp only [spec_l3Path.l0] at H
      by_cases c12 : x21_1 < (((rd_T53 l0_0 t533).f6).length : Int)
      ·rw [if_pos c12] at H
       have c12b0 := decide_eq_true c12
       clear c12
       by_cases c13 : 0 ≤ x21_1
       ·rw [if_pos c13] at H
        have c13b0 := decide_eq_true c13
        clear c13
        by_cases c14 : x21_1 < (((rd_T53 l0_0 t533).f6).length : Int)
        ·rw [if_pos c14] at H
         have c14b0 := decide_eq_true c14
         clear c14
         by_cases c15 : ((rd_T60 ((rd_T53 l0_0 t533).f6) x21_1).f1) = a1
         ·rw [if_pos c15] at H
          have c15b0 := beq_iff_eq.mpr c15
          have c15b1 := bne_eq_false_iff_eq.mpr c15
          clear c15
          have H' := Aside0.mk H
          clear H
          have p535 : 0 ≤ (x21_1 : Int) := sO
          have q535 : x21_1 < (((rd_T53 l0_0 t533).f6).length : Int) := sO
          obtain ⟨ad535, e535, hx535_0, hx535_1⟩ := at_T60 HR534_6.out x21_1 p535 q535
          cases e535
          replace hx535_0 := hB HB hx535_0
          replace hx535_1 := hB HB hx535_1
          replace p535 := eq_true p535
          replace q535 := eq_true q535
          go_wp2_with (first | ((with_reducible refine gd 8 rfl ?_); refine bxE 8 #[.string (⟨#[]⟩ : ByteArray), .int .i64 0] 60 ?_; intro gb536 hg w16 hbox hb; have BK536 := Aside0.mk hbox; have GW536 := nGC hg; have GE536 := nGC hg; replace HB := nSC hb; have NB532_536 := nL BK532 hg; have NB536_532 := nH BK532 hg; replace BK532 := nK BK532 hb; clear hb hbox hg; have hnb17 := NB536_532.out; have hnc17 := NB532_536.out; have hcz18 := cb2 BK536))
          go_roundg k1
          case measure => have := HK1.out; omega
          case rel => exact ⟨((rd_T60 ((rd_T53 l0_0 t533).f6) x21_1).f0), (wrap64 (x21_1 + 1)), sR, sR, H', ⟨by have := HK1.out; omega⟩, ⟨sX BK532⟩, ⟨sC⟩⟩
         ·rw [if_neg c15] at H
          have c15b0 := beq_eq_false_iff_ne.mpr c15
          have c15b1 := bne_iff_ne.mpr c15
          have H' := Aside0.mk H
          clear H
          have p535 : 0 ≤ (x21_1 : Int) := sO
          have q535 : x21_1 < (((rd_T53 l0_0 t533).f6).length : Int) := sO
          obtain ⟨ad535, e535, hx535_0, hx535_1⟩ := at_T60 HR534_6.out x21_1 p535 q535
          cases e535
          replace hx535_0 := hB HB hx535_0
          replace hx535_1 := hB HB hx535_1
          replace p535 := eq_true p535
          replace q535 := eq_true q535
          go_wp2_with (first | ((with_reducible refine gd 8 rfl ?_); refine bxE 8 #[.string (⟨#[]⟩ : ByteArray), .int .i64 0] 60 ?_; intro gb536 hg w19 hbox hb; have BK536 := Aside0.mk hbox; have GW536 := nGC hg; have GE536 := nGC hg; replace HB := nSC hb; have NB532_536 := nL BK532 hg; have NB536_532 := nH BK532 hg; replace BK532 := nK BK532 hb; clear hb hbox hg; have hnb20 := NB536_532.out; have hnc20 := NB532_536.out; have hcz21 := cb2 BK536))
          go_roundg k1
          case measure => have := HK1.out; omega
          case rel => exact ⟨(x6_1), (wrap64 (x21_1 + 1)), sR, sR, H', ⟨by have := HK1.out; omega⟩, ⟨sX BK532⟩, ⟨sC⟩⟩
        ·rw [if_neg c14] at H
         exact absurd H (by simp)
       ·rw [if_neg c13] at H
        exact absurd H (by simp)
      ·rw [if_neg c12] at H
       have c12b0 := decide_eq_false c12
       clear c12
       obtain ⟨t537, A220, H⟩ := Option.bind_eq_some_iff.mp H
       try dsimp only at H
       replace A220 := Aside0.mk A220; have A22 := A220; clear A220
       by_cases c23 : t537.length < 8796093022208
       ·rw [if_pos c23] at H
        have LMc23 := Aside0.mk c23
        clear c23
        obtain ⟨y540, hy540⟩ : ∃ y_ : List ByteArray, y_ = (t537 ++ [x6_1]) := ⟨_, rfl⟩
        replace H : (some y540) = some r := by first | (rw [hy540]; with_reducible exact H) | (have H2_ := (Option.bind_some _ _).symm.trans H; rw [hy540]; with_reducible exact H2_) | (have H2_ := (Option.bind_some _ _).symm.trans H; with_reducible exact H2_) | with_reducible exact H | (rw [hy540]; exact H) | exact H
        have Ny540 := Aside0.mk hy540
        clear hy540
        obtain rfl := Option.some.inj H
        have hcz24 := cb2 BK532
        go_wp2_with (first | ((with_reducible refine gt 60 rfl ?_); refine gL 60 34 Tryd.func60 #[.agg #[.slice (some ad534) l0_0.length c0_0, .int .i64 a0_1], .int .i64 t533] ?_; (with_reducible refine (ih k1 (by have := HK1.out; omega) _ _ l0_0 a0_1 t533 t537 _ ?side1 ?side2 A22.out).mono ?_); (case side1 => exact sD (Kd.C_below HR0_0.out HB.out)); (case side2 => exact HC0_0.out); rintro e w25 ⟨v538, rfl, ho0, hb⟩; refine ⟨_, rfl, ?_⟩; have HO539 := Aside0.mk (Kd.R_lower ho0 (below_size sC)); replace BK532 := nK BK532 hb; replace HB := nSC hb; try clear hb; (try clear ho0)) | ((with_reducible refine gate_builtin (b := .append) (xs := #[.tmp 34, .tmp 36]) rfl ?_); at_builtin; refine Kd.R_append Kd.string (w0 := w) w.heap.size rfl (.tmp 34) (.tmp 36) 39 9 (.string ⟨#[]⟩) 16 rfl Tryd.underlying39 info9 rfl (by decide) (by omega) v538 t537 x6_1 [.string x6_1] (fun _ => True) (fun _ => False) rfl rfl ?aP (fun _ hk => hk.elim) ?aF ?aO ?aB ?aS ?aL ?_; (case aP => exact rfl); (case aB => exact sC); (case aF => exact (fun _ _ => trivial)); (case aO => exact (by (with_reducible repeat (first | apply Kd.R_alloc | apply Kd.R_drewN | apply Kd.R_drew)); exact HO539.out)); (case aS => exact (below_size sC)); (case aL => have := LMc23.out; omega); intro v541 w26 ho hb hg hat; rw [← Ny540.out] at ho; replace BK532 := Aside0.mk (blk_grown (g := gb532) (o := .cells #[.slice (some ad534) l0_0.length c0_0, .int .i64 a0_1] 29 (0, 0)) (sK BK532) hg (Kd.R_ne HO539.out BK532.out (by decide))); replace HB := Aside0.mk (hb); have HO542 := Aside0.mk (ho); clear HO539; clear ho hb hg hat))
        go_ret
        exact ⟨_, sE, by (with_reducible repeat (first | apply Kd.R_alloc | apply Kd.R_drewN | apply Kd.R_drew)); exact HO542.out, sC⟩
       ·rw [if_neg c23] at H
        exact absurd H (by simp)
   ·rw [if_neg c7] at H
    exact absurd H (by simp)
  ·rw [if_neg c6] at H
   exact absurd H (by simp)

end Go.Proofs.YteffcglgdfhkmaaDoor.PFs
