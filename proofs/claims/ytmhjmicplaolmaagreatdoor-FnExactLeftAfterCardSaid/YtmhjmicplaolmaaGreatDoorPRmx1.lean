import Derived.Test.YtmhjmicplaolmaaGreatDoorPRmx0
namespace Go.Proofs.YtmhjmicplaolmaaGreatDoor.PRm
open Go.RowKit Go.Proofs.YtmhjmicplaolmaaGreatDoorW.PrintWords Go.Proofs.YtmhjmicplaolmaaGreatDoorW.PrintLast Go.Proofs.YtmhjmicplaolmaaGreatDoorW.PrintMore
attribute [local go_sem] dY dW eZ eY dH dG dX dV
set_option linter.unusedVariables false
set_option linter.unusedSimpArgs false
set_option maxHeartbeats 8000000
set_option maxRecDepth 100000
/-! ### fG: function 78 -/
def fG.f (a0_0 : ByteArray) (aq : Int) (a1 : Int) : Option (Int) := if (wrap64 (a1 - (a0_0.size : Int))) < 0 then (some (-1)) else (some (wrap64 (a1 - (a0_0.size : Int))))
theorem fG.calls (a0_0 : ByteArray) (aq : Int) (a1 : Int) (r : Int) (w : World) (h : fG.f a0_0 aq a1 = some r) :
  Calls Tryz.prog 78 #[.agg #[.string a0_0, .int .i64 aq], .int .i64 a1] w fun e w' => e = .returned (.int .i64 r) ∧ Below w.heap.size w w' := by
 have hu119 := Tryz.underlying119; have HB := b0 w; have H : (if (wrap64 (a1 - (a0_0.size : Int))) < 0 then (some (-1)) else (some (wrap64 (a1 - (a0_0.size : Int))))) = some r := h; clear h; by_cases c3 : (wrap64 (a1 - (a0_0.size : Int))) < 0
 ·rw [if_pos c3] at H; replace c3 := dT c3; obtain rfl := sI H; go_enter Tryz.func78, Tryz.ntmps78
  exact AC
 ·rw [if_neg c3] at H; replace c3 := dF c3; obtain rfl := sI H; go_enter Tryz.func78, Tryz.ntmps78
  exact AC
def bY.l0 : Nat → List (S119) → Int → Int → Option (Int)
 | 0, _, _, _ => none
 | k + 1, x0, x1, x5 => if x5 < (x0.length : Int) then (if 0 ≤ x5 then ((fG.f ((gI x0 x5).f0) ((gI x0 x5).f1) x1).bind fun t103 => (if t103 < 0 then (some (-1)) else (bY.l0 k x0 t103 (wrap64 (x5 + 1))))) else (none)) else (some x1)
def bY.f (k : Nat) (l0 : List (S119)) (a1 : Int) : Option (Int) := if (wrap64 (a1 - (l0.length : Int))) < 0 then (some (-1)) else (bY.l0 k l0 (wrap64 (a1 - (l0.length : Int))) 0)
theorem bY.calls (k : Nat) (A0 : Option Addr) (c0 : Nat) (l0 : List (S119)) (a1 : Int) (r : Int) (w : World) (hr0 : Kd.C k119 w A0 l0.length l0) (hc0 : l0.length ≤ c0) (h : bY.f k l0 a1 = some r) :
  Calls Tryz.prog 50 #[.slice A0 l0.length c0, .int .i64 a1] w fun e w' => e = .returned (.int .i64 r) ∧ Below w.heap.size w w' := by
 have hu119 := Tryz.underlying119; have HR0 := aM hr0; have HC0 := aM hc0; clear hr0 hc0; have HB := b0 w; have H : (if (wrap64 (a1 - (l0.length : Int))) < 0 then (some (-1)) else (bY.l0 k l0 (wrap64 (a1 - (l0.length : Int))) 0)) = some r := h; clear h; by_cases c3 : (wrap64 (a1 - (l0.length : Int))) < 0
 ·rw [if_pos c3] at H; replace c3 := dT c3; obtain rfl := sI H; go_enter Tryz.func50, Tryz.ntmps50; go_wp2; go_ret
  exact ⟨sE, sB⟩
 ·rw [if_neg c3] at H; replace c3 := dF c3; have H' := aM H; clear H; go_enter Tryz.func50, Tryz.ntmps50; go_wp2
  go_loopg [1, 5] k (fun kq v1 v5 w' => ∃ (x1_1 : Int) (x5_1 : Int), v1 = .int .i64 x1_1 ∧ v5 = .int .i64 x5_1 ∧ aa (bY.l0 kq l0 x1_1 x5_1 = some r) ∧ aa (kq ≤ k) ∧ aa (Below w.heap.size w w'))
  case atStart => exact ⟨(wrap64 (a1 - (l0.length : Int))), (0), sR, sR, H', ⟨Nat.le_refl _⟩, ⟨sB⟩⟩
  case round =>
   clear H'; obtain ⟨x1_1, x5_1, rfl, rfl, HA, HK1, HB⟩ := hrel; cases gk with
   | zero => exact absurd HA.out (by simp [bY.l0])
   | succ k1 =>
    have H := HA.out; clear HA; simp only [bY.l0] at H; by_cases c4 : x5_1 < (l0.length : Int)
    ·rw [if_pos c4] at H; replace c4 := dT c4; obtain ⟨c5, H⟩ := iN H; replace c5 := dT c5; obtain ⟨t103, A6, H⟩ := bS H; (try dsimp only at H); by_cases c7 : t103 < 0
     ·rw [if_pos c7] at H; replace c7 := dT c7; obtain rfl := sI H; obtain ⟨p102, q102, ad102, e102, hx102_0, hx102_1⟩ := iX (yl HR0.out HB x5_1); cases e102
      go_wp2_with (first | ((with_reducible refine gt 78 rfl ?_); refine gL 78 23 Tryz.func78 #[.agg #[.string ((gI l0 x5_1).f0), .int .i64 ((gI l0 x5_1).f1)], .int .i64 x1_1] ?_; (with_reducible refine (fG.calls ((gI l0 x5_1).f0) ((gI l0 x5_1).f1) x1_1 t103 _ A6.out).mono ?_); rintro e w8 ⟨rfl, hb⟩; refine ⟨_, rfl, ?_⟩; replace HB := nSB hb; try clear hb))
      go_ret
      exact ⟨sE, sB⟩
     ·rw [if_neg c7] at H; replace c7 := dF c7; have H' := aM H; clear H; obtain ⟨p102, q102, ad102, e102, hx102_0, hx102_1⟩ := iX (yl HR0.out HB x5_1); cases e102
      go_wp2_with (first | ((with_reducible refine gt 78 rfl ?_); refine gL 78 23 Tryz.func78 #[.agg #[.string ((gI l0 x5_1).f0), .int .i64 ((gI l0 x5_1).f1)], .int .i64 x1_1] ?_; (with_reducible refine (fG.calls ((gI l0 x5_1).f0) ((gI l0 x5_1).f1) x1_1 t103 _ A6.out).mono ?_); rintro e w9 ⟨rfl, hb⟩; refine ⟨_, rfl, ?_⟩; replace HB := nSB hb; try clear hb))
      go_roundg k1
      case measure => have := HK1.out; omega
      case rel => exact ⟨(t103), (wrap64 (x5_1 + 1)), sR, sR, H', ⟨by have := HK1.out; omega⟩, ⟨sB⟩⟩
    ·rw [if_neg c4] at H; replace c4 := dF c4; obtain rfl := sI H; go_wp2; go_ret
     exact ⟨sE, sB⟩
def gT.f (k : Nat) (a0_0 : Int) (aq : Int) (a0_2 : Int) (a0_3 : Int) (a0_4 : Int) (a0_5 : ByteArray) (l0_6 : List (S119)) (a1 : Int) : Option (Int) := if (wrap64 (a1 - (a0_5.size : Int))) < 0 then (some (-1)) else ((bY.f k l0_6 (wrap64 (a1 - (a0_5.size : Int)))).bind fun t105 => (if t105 < 0 then (some (-1)) else (some t105)))
theorem gT.calls (k : Nat) (a0_0 : Int) (aq : Int) (a0_2 : Int) (a0_3 : Int) (a0_4 : Int) (a0_5 : ByteArray) (A0_6 : Option Addr) (c0_6 : Nat) (l0_6 : List (S119)) (a1 : Int) (r : Int) (w : World) (hr0_6 : Kd.C k119 w A0_6 l0_6.length l0_6) (hc0_6 : l0_6.length ≤ c0_6) (h : gT.f k a0_0 aq a0_2 a0_3 a0_4 a0_5 l0_6 a1 = some r) :
  Calls Tryz.prog 31 #[.agg #[.int .i64 a0_0, .int .i64 aq, .int .i64 a0_2, .int .i64 a0_3, .int .i64 a0_4, .string a0_5, .slice A0_6 l0_6.length c0_6], .int .i64 a1] w fun e w' => e = .returned (.int .i64 r) ∧ Below w.heap.size w w' := by
 have hu70 := Tryz.underlying70; have HR0_6 := aM hr0_6; have HC0_6 := aM hc0_6; clear hr0_6 hc0_6; have HB := b0 w; have H : (if (wrap64 (a1 - (a0_5.size : Int))) < 0 then (some (-1)) else ((bY.f k l0_6 (wrap64 (a1 - (a0_5.size : Int)))).bind fun t105 => (if t105 < 0 then (some (-1)) else (some t105)))) = some r := h; clear h; by_cases c3 : (wrap64 (a1 - (a0_5.size : Int))) < 0
 ·rw [if_pos c3] at H; replace c3 := dT c3; obtain rfl := sI H; go_enter Tryz.func31, Tryz.ntmps31
  go_wp2_with (first | ((with_reducible refine gd 2 rfl ?_); refine bxE 2 #[.int .i64 a0_0, .int .i64 aq, .int .i64 a0_2, .int .i64 a0_3, .int .i64 a0_4, .string a0_5, .slice A0_6 l0_6.length c0_6] 70 ?_; intro gb104 hg w4 hbox hb; have BK104 := aM hbox; have GW104 := nGB hg; replace HB := nSB hb; clear hb hbox hg; have hcz5 := cb7 BK104))
  go_ret
  exact ⟨sE, sC⟩
 ·rw [if_neg c3] at H; replace c3 := dF c3; obtain ⟨t105, A6, H⟩ := bS H; (try dsimp only at H); by_cases c7 : t105 < 0
  ·rw [if_pos c7] at H; replace c7 := dT c7; obtain rfl := sI H; go_enter Tryz.func31, Tryz.ntmps31
   exact AX
  ·rw [if_neg c7] at H; replace c7 := dF c7; obtain rfl := sI H; go_enter Tryz.func31, Tryz.ntmps31
   exact AX
def dw.l0 : Nat → List (S70) → Int → Int → Option (Int)
 | 0, _, _, _ => none
 | k + 1, x0, x1, x5 => if x5 < (x0.length : Int) then (if 0 ≤ x5 then ((gT.f k ((bI x0 x5).f0) ((bI x0 x5).f1) ((bI x0 x5).f2) ((bI x0 x5).f3) ((bI x0 x5).f4) ((bI x0 x5).f5) ((bI x0 x5).f6) x1).bind fun t107 => (if t107 < 0 then (some (-1)) else (dw.l0 k x0 t107 (wrap64 (x5 + 1))))) else (none)) else (some x1)
def dw.f (k : Nat) (l0 : List (S70)) (a1 : Int) : Option (Int) := if (wrap64 (a1 - (l0.length : Int))) < 0 then (some (-1)) else (dw.l0 k l0 (wrap64 (a1 - (l0.length : Int))) 0)
theorem dw.calls (k : Nat) (A0 : Option Addr) (c0 : Nat) (l0 : List (S70)) (a1 : Int) (r : Int) (w : World) (hr0 : Kd.C k70 w A0 l0.length l0) (hc0 : l0.length ≤ c0) (h : dw.f k l0 a1 = some r) :
  Calls Tryz.prog 17 #[.slice A0 l0.length c0, .int .i64 a1] w fun e w' => e = .returned (.int .i64 r) ∧ Below w.heap.size w w' := by
 have hu70 := Tryz.underlying70; have HR0 := aM hr0; have HC0 := aM hc0; clear hr0 hc0; have HB := b0 w; have H : (if (wrap64 (a1 - (l0.length : Int))) < 0 then (some (-1)) else (dw.l0 k l0 (wrap64 (a1 - (l0.length : Int))) 0)) = some r := h; clear h; by_cases c3 : (wrap64 (a1 - (l0.length : Int))) < 0
 ·rw [if_pos c3] at H; replace c3 := dT c3; obtain rfl := sI H; go_enter Tryz.func17, Tryz.ntmps17; go_wp2; go_ret
  exact ⟨sE, sB⟩
 ·rw [if_neg c3] at H; replace c3 := dF c3; have H' := aM H; clear H; go_enter Tryz.func17, Tryz.ntmps17; go_wp2
  go_loopg [1, 5] k (fun kq v1 v5 w' => ∃ (x1_1 : Int) (x5_1 : Int), v1 = .int .i64 x1_1 ∧ v5 = .int .i64 x5_1 ∧ aa (dw.l0 kq l0 x1_1 x5_1 = some r) ∧ aa (kq ≤ k) ∧ aa (Below w.heap.size w w'))
  case atStart => exact ⟨(wrap64 (a1 - (l0.length : Int))), (0), sR, sR, H', ⟨Nat.le_refl _⟩, ⟨sB⟩⟩
  case round =>
   clear H'; obtain ⟨x1_1, x5_1, rfl, rfl, HA, HK1, HB⟩ := hrel; cases gk with
   | zero => exact absurd HA.out (by simp [dw.l0])
   | succ k1 =>
    have H := HA.out; clear HA; simp only [dw.l0] at H; by_cases c4 : x5_1 < (l0.length : Int)
    ·rw [if_pos c4] at H; replace c4 := dT c4; obtain ⟨c5, H⟩ := iN H; replace c5 := dT c5; obtain ⟨t107, A6, H⟩ := bS H; (try dsimp only at H); by_cases c7 : t107 < 0
     ·rw [if_pos c7] at H; replace c7 := dT c7; obtain rfl := sI H; obtain ⟨p106, q106, ad106, A106_6, c106_6, e106, hx106_0, hx106_1, hx106_2, hx106_3, hx106_4, hx106_5, hx106_6, hl106_6, hi106_6⟩ := iX (zT HR0.out HB x5_1); cases e106; have HR106_6 := aM hi106_6; have HC106_6 := aM hl106_6; clear hi106_6 hl106_6
      go_wp2_with (first | ((with_reducible refine gt 31 rfl ?_); refine gL 31 23 Tryz.func31 #[.agg #[.int .i64 ((bI l0 x5_1).f0), .int .i64 ((bI l0 x5_1).f1), .int .i64 ((bI l0 x5_1).f2), .int .i64 ((bI l0 x5_1).f3), .int .i64 ((bI l0 x5_1).f4), .string ((bI l0 x5_1).f5), .slice A106_6 ((bI l0 x5_1).f6).length c106_6], .int .i64 x1_1] ?_; (with_reducible refine (gT.calls k1 ((bI l0 x5_1).f0) ((bI l0 x5_1).f1) ((bI l0 x5_1).f2) ((bI l0 x5_1).f3) ((bI l0 x5_1).f4) ((bI l0 x5_1).f5) _ _ ((bI l0 x5_1).f6) x1_1 t107 _ ?side1 ?side2 A6.out).mono ?_); (case side1 => exact sD (Kd.ax HR106_6.out HB.out)); (case side2 => exact HC106_6.out); rintro e w8 ⟨rfl, hb⟩; refine ⟨_, rfl, ?_⟩; replace HB := nSB hb; try clear hb))
      go_ret
      exact ⟨sE, sB⟩
     ·rw [if_neg c7] at H; replace c7 := dF c7; have H' := aM H; clear H; obtain ⟨p106, q106, ad106, A106_6, c106_6, e106, hx106_0, hx106_1, hx106_2, hx106_3, hx106_4, hx106_5, hx106_6, hl106_6, hi106_6⟩ := iX (zT HR0.out HB x5_1); cases e106; have HR106_6 := aM hi106_6; have HC106_6 := aM hl106_6; clear hi106_6 hl106_6
      go_wp2_with (first | ((with_reducible refine gt 31 rfl ?_); refine gL 31 23 Tryz.func31 #[.agg #[.int .i64 ((bI l0 x5_1).f0), .int .i64 ((bI l0 x5_1).f1), .int .i64 ((bI l0 x5_1).f2), .int .i64 ((bI l0 x5_1).f3), .int .i64 ((bI l0 x5_1).f4), .string ((bI l0 x5_1).f5), .slice A106_6 ((bI l0 x5_1).f6).length c106_6], .int .i64 x1_1] ?_; (with_reducible refine (gT.calls k1 ((bI l0 x5_1).f0) ((bI l0 x5_1).f1) ((bI l0 x5_1).f2) ((bI l0 x5_1).f3) ((bI l0 x5_1).f4) ((bI l0 x5_1).f5) _ _ ((bI l0 x5_1).f6) x1_1 t107 _ ?side1 ?side2 A6.out).mono ?_); (case side1 => exact sD (Kd.ax HR106_6.out HB.out)); (case side2 => exact HC106_6.out); rintro e w9 ⟨rfl, hb⟩; refine ⟨_, rfl, ?_⟩; replace HB := nSB hb; try clear hb))
      go_roundg k1
      case measure => have := HK1.out; omega
      case rel => exact ⟨(t107), (wrap64 (x5_1 + 1)), sR, sR, H', ⟨by have := HK1.out; omega⟩, ⟨sB⟩⟩
    ·rw [if_neg c4] at H; replace c4 := dF c4; obtain rfl := sI H; go_wp2; go_ret
     exact ⟨sE, sB⟩
def iO.f (k : Nat) (lq : List (S70)) (aq : Int) (a1 : Int) : Option (Int) := (dw.f k lq a1).bind fun t109 => (if t109 < 0 then (some (-1)) else (some t109))
theorem iO.calls (k : Nat) (Aq : Option Addr) (cq : Nat) (lq : List (S70)) (aq : Int) (a1 : Int) (r : Int) (w : World) (hr0_0 : Kd.C k70 w Aq lq.length lq) (hc0_0 : lq.length ≤ cq) (h : iO.f k lq aq a1 = some r) :
  Calls Tryz.prog 5 #[.agg #[.slice Aq lq.length cq, .int .i64 aq], .int .i64 a1] w fun e w' => e = .returned (.int .i64 r) ∧ Below w.heap.size w w' := by
 have hu24 := Tryz.underlying24; have Hq := aM hr0_0; have Kq := aM hc0_0; clear hr0_0 hc0_0; have HB := b0 w; have H : ((dw.f k lq a1).bind fun t109 => (if t109 < 0 then (some (-1)) else (some t109))) = some r := h; clear h; obtain ⟨t109, A3, H⟩ := bS H; (try dsimp only at H); by_cases c4 : t109 < 0
 ·rw [if_pos c4] at H; replace c4 := dT c4; obtain rfl := sI H; go_enter Tryz.func5, Tryz.ntmps5
  exact AU
 ·rw [if_neg c4] at H; replace c4 := dF c4; obtain rfl := sI H; go_enter Tryz.func5, Tryz.ntmps5
  exact AU
def ay.f (a0 : Int) (a1 : Int) (a2 : Int) : Option (Bool) := if a0 ≥ a1 then (some (decide (a0 ≤ a2))) else (some false)
theorem ay.calls (a0 : Int) (a1 : Int) (a2 : Int) (r : Bool) (w : World) (h : ay.f a0 a1 a2 = some r) :
  Calls Tryz.prog 34 #[.int .i64 a0, .int .i64 a1, .int .i64 a2] w fun e w' => e = .returned (.bool r) ∧ bR w w' := by
 have H : (if a0 ≥ a1 then (some (decide (a0 ≤ a2))) else (some false)) = some r := h; clear h; by_cases c4 : a0 ≥ a1
 ·rw [if_pos c4] at H; replace c4 := dT c4; obtain rfl := sI H; go_enter Tryz.func34, Tryz.ntmps34; go_wp2; go_ret
  exact eD
 ·rw [if_neg c4] at H; replace c4 := dF c4; obtain rfl := sI H; go_enter Tryz.func34, Tryz.ntmps34; go_wp2; go_ret
  exact eD
def dm.l0 : Nat → Int → List (S62) → Int → Int → Option (Int)
 | 0, _, _, _, _ => none
 | k + 1, x3, x7, x8, x9 => if x9 < x8 then (if 0 ≤ x9 then (if x9 < (x7.length : Int) then (dm.l0 k (wrap64 (x3 + (((r62 x7 x9).f5).size : Int))) x7 x8 (wrap64 (x9 + 1))) else (none)) else (none)) else (some x3)
def dm.f (k : Nat) (lq : List (S62)) (aq : Int) : Option (Int) := dm.l0 k 0 lq (lq.length : Int) 0
theorem dm.calls (k : Nat) (Aq : Option Addr) (cq : Nat) (lq : List (S62)) (aq : Int) (r : Int) (w : World) (hr0_0 : Kd.C k62 w Aq lq.length lq) (hc0_0 : lq.length ≤ cq) (h : dm.f k lq aq = some r) :
  Calls Tryz.prog 51 #[.agg #[.slice Aq lq.length cq, .int .i64 aq]] w fun e w' => e = .returned (.int .i64 r) ∧ Below w.heap.size w w' := by
 have hu32 := Tryz.underlying32; have hu62 := Tryz.underlying62; have Hq := aM hr0_0; have Kq := aM hc0_0; clear hr0_0 hc0_0; have HB := b0 w; have H : (dm.l0 k 0 lq (lq.length : Int) 0) = some r := h; clear h; have H' := aM H; clear H; go_enter Tryz.func51, Tryz.ntmps51
 go_wp2_with (first | ((with_reducible refine gd 1 rfl ?_); refine bxE 1 #[.slice Aq lq.length cq, .int .i64 aq] 32 ?_; intro gb110 hg w2 hbox hb; have BK110 := aM hbox; have GW110 := nGB hg; replace HB := nSB hb; clear hb hbox hg; have hcz3 := cb2 BK110))
 go_loopg [3, 9] k (fun kq v3 v9 w' => ∃ (x3_1 : Int) (x9_1 : Int), v3 = .int .i64 x3_1 ∧ v9 = .int .i64 x9_1 ∧ aa (dm.l0 kq x3_1 lq (lq.length : Int) x9_1 = some r) ∧ aa (kq ≤ k) ∧ aa (w'.heap[gb110]? = some (.cells #[(.slice Aq lq.length cq), .int .i64 aq] 32 (0, 0))) ∧ aa (Below w.heap.size w w'))
 case atStart => exact ⟨(0), (0), sR, sR, H', ⟨Nat.le_refl _⟩, ⟨sK BK110⟩, ⟨sC⟩⟩
 case round =>
  clear H'; obtain ⟨x3_1, x9_1, rfl, rfl, HA, HK1, BK110, HB⟩ := hrel; cases gk with
  | zero => exact absurd HA.out (by simp [dm.l0])
  | succ k1 =>
   have H := HA.out; clear HA; simp only [dm.l0] at H; by_cases c4 : x9_1 < (lq.length : Int)
   ·rw [if_pos c4] at H; replace c4 := dT c4; obtain ⟨c5, H⟩ := iN H; replace c5 := dT c5; obtain ⟨c6, H⟩ := iN H; replace c6 := dT c6; have H' := aM H; clear H; obtain ⟨p111, q111, ad111, A111_6, c111_6, e111, hx111_0, hx111_1, hx111_2, hx111_3, hx111_4, hx111_5, hx111_6, hl111_6, hi111_6⟩ := iX (iQ Hq.out HB x9_1); cases e111; have HR111_6 := aM hi111_6; have HC111_6 := aM hl111_6; clear hi111_6 hl111_6
    go_wp2_with (first | ((with_reducible refine gd 5 rfl ?_); refine bxE 5 #[.int .i64 0, .int .i64 0, .int .i64 0, .int .i64 0, .int .i64 0, .string (⟨#[]⟩ : ByteArray), .slice none 0 0] 62 ?_; intro gb112 hg w7 hbox hb; have BK112 := aM hbox; have GW112 := nGC hg; replace HB := nSC hb; obtain ⟨NB110_112, NB112_110, hnb8, hnc8⟩ := nM BK110 hg; replace BK110 := nK BK110 hb; clear hb hbox hg; have hcz9 := cb7 BK112))
    go_roundg k1
    case measure => have := HK1.out; omega
    case rel => exact ⟨(wrap64 (x3_1 + (((r62 lq x9_1).f5).size : Int))), (wrap64 (x9_1 + 1)), sR, sR, H', ⟨by have := HK1.out; omega⟩, ⟨sX BK110⟩, ⟨sC⟩⟩
   ·rw [if_neg c4] at H; replace c4 := dF c4; obtain rfl := sI H; go_wp2; go_ret
    exact ⟨sE, sC⟩
def iC.f (a0 : Int) : Option (Bool) := (ay.f a0 0 511).bind fun t113 => (some t113)
theorem iC.calls (a0 : Int) (r : Bool) (w : World) (h : iC.f a0 = some r) :
  Calls Tryz.prog 79 #[.int .i64 a0] w fun e w' => e = .returned (.bool r) ∧ bR w w' := by
 have H : ((ay.f a0 0 511).bind fun t113 => (some t113)) = some r := h; clear h; obtain ⟨t113, A2, H⟩ := bS H; (try dsimp only at H); obtain rfl := sI H; go_enter Tryz.func79, Tryz.ntmps79
 go_wp2_with (first | ((with_reducible refine gt 34 rfl ?_); refine gL 34 4 Tryz.func34 #[.int .i64 a0, .int .i64 0, .int .i64 511] ?_; (with_reducible refine (ay.calls a0 0 511 t113 _ A2.out).mono ?_); rintro e w' ⟨rfl, ⟨nd, rfl⟩⟩; refine ⟨_, rfl, ?_⟩))
 go_ret
 exact eD
end Go.Proofs.YtmhjmicplaolmaaGreatDoor.PRm
