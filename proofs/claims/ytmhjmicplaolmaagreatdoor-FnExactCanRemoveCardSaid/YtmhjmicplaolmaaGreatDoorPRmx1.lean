import Derived.Test.YtmhjmicplaolmaaGreatDoorPRmx0
namespace Go.Proofs.YtmhjmicplaolmaaGreatDoor.PRm
open Go.RowKit Go.Proofs.YtmhjmicplaolmaaGreatDoorW.PrintWords Go.Proofs.YtmhjmicplaolmaaGreatDoorW.PrintLast Go.Proofs.YtmhjmicplaolmaaGreatDoorW.PrintMore
attribute [local go_sem] max2_int min2_int max_two min_two max_three min_three max_four min_four
set_option linter.unusedVariables false
set_option linter.unusedSimpArgs false
set_option maxHeartbeats 8000000
set_option maxRecDepth 100000
/-! ### laws_szEntry: function 78 -/
def laws_szEntry.f (a0_0 : ByteArray) (aq : Int) (a1 : Int) : Option (Int) := if (wrap64 (a1 - (a0_0.size : Int))) < 0 then (some (-1)) else (some (wrap64 (a1 - (a0_0.size : Int))))
theorem laws_szEntry.calls (a0_0 : ByteArray) (aq : Int) (a1 : Int) (r : Int) (w : World) (h : laws_szEntry.f a0_0 aq a1 = some r) :
  Calls Tryz.prog 78 #[.agg #[.string a0_0, .int .i64 aq], .int .i64 a1] w fun e w' => e = .returned (.int .i64 r) ∧ Below w.heap.size w w' := by
 have hu119 := Tryz.underlying119; have HB := b0 w; have H : (if (wrap64 (a1 - (a0_0.size : Int))) < 0 then (some (-1)) else (some (wrap64 (a1 - (a0_0.size : Int))))) = some r := h; clear h; by_cases c3 : (wrap64 (a1 - (a0_0.size : Int))) < 0
 ·rw [if_pos c3] at H; have c3b0 := decide_eq_true c3; clear c3; obtain rfl := sI H; go_enter Tryz.func78, Tryz.ntmps78
  go_wp2_with (first | ((with_reducible refine gd 2 rfl ?_); refine bxE 2 #[.string a0_0, .int .i64 aq] 119 ?_; intro gb101 hg w4 hbox hb; have BK101 := aM hbox; have GW101 := nGB hg; have GE101 := nGB hg; replace HB := nSB hb; clear hb hbox hg; have hcz5 := cb2 BK101))
  go_ret
  exact ⟨sE, sC⟩
 ·rw [if_neg c3] at H; have c3b0 := decide_eq_false c3; clear c3; obtain rfl := sI H; go_enter Tryz.func78, Tryz.ntmps78
  go_wp2_with (first | ((with_reducible refine gd 2 rfl ?_); refine bxE 2 #[.string a0_0, .int .i64 aq] 119 ?_; intro gb101 hg w6 hbox hb; have BK101 := aM hbox; have GW101 := nGB hg; have GE101 := nGB hg; replace HB := nSB hb; clear hb hbox hg; have hcz7 := cb2 BK101))
  go_ret
  exact ⟨sE, sC⟩
def laws_szEntryS.l0 : Nat → List (S119) → Int → Int → Option (Int)
 | 0, _, _, _ => none
 | k + 1, x0, x1, x5 => if x5 < (x0.length : Int) then (if 0 ≤ x5 then ((laws_szEntry.f ((rd_T119 x0 x5).f0) ((rd_T119 x0 x5).f1) x1).bind fun t103 => (if t103 < 0 then (some (-1)) else (laws_szEntryS.l0 k x0 t103 (wrap64 (x5 + 1))))) else (none)) else (some x1)
def laws_szEntryS.f (k : Nat) (l0 : List (S119)) (a1 : Int) : Option (Int) := if (wrap64 (a1 - (l0.length : Int))) < 0 then (some (-1)) else (laws_szEntryS.l0 k l0 (wrap64 (a1 - (l0.length : Int))) 0)
theorem laws_szEntryS.calls (k : Nat) (A0 : Option Addr) (c0 : Nat) (l0 : List (S119)) (a1 : Int) (r : Int) (w : World) (hr0 : Kd.C k119 w A0 l0.length l0) (hc0 : l0.length ≤ c0) (h : laws_szEntryS.f k l0 a1 = some r) :
  Calls Tryz.prog 50 #[.slice A0 l0.length c0, .int .i64 a1] w fun e w' => e = .returned (.int .i64 r) ∧ Below w.heap.size w w' := by
 have hu119 := Tryz.underlying119; have HR0 := aM hr0; have HC0 := aM hc0; clear hr0 hc0; have HB := b0 w; have H : (if (wrap64 (a1 - (l0.length : Int))) < 0 then (some (-1)) else (laws_szEntryS.l0 k l0 (wrap64 (a1 - (l0.length : Int))) 0)) = some r := h; clear h; by_cases c3 : (wrap64 (a1 - (l0.length : Int))) < 0
 ·rw [if_pos c3] at H; have c3b0 := decide_eq_true c3; clear c3; obtain rfl := sI H; go_enter Tryz.func50, Tryz.ntmps50; go_wp2; go_ret
  exact ⟨sE, sB⟩
 ·rw [if_neg c3] at H; have c3b0 := decide_eq_false c3; clear c3; have H' := aM H; clear H; go_enter Tryz.func50, Tryz.ntmps50; go_wp2
  go_loopg [1, 5] k (fun kq v1 v5 w' => ∃ (x1_1 : Int) (x5_1 : Int), v1 = .int .i64 x1_1 ∧ v5 = .int .i64 x5_1 ∧ Aside0 (laws_szEntryS.l0 kq l0 x1_1 x5_1 = some r) ∧ Aside0 (kq ≤ k) ∧ Aside0 (Below w.heap.size w w'))
  case atStart => exact ⟨(wrap64 (a1 - (l0.length : Int))), (0), sR, sR, H', ⟨Nat.le_refl _⟩, ⟨sB⟩⟩
  case round =>
   clear H'; obtain ⟨x1_1, x5_1, rfl, rfl, HA, HK1, HB⟩ := hrel; cases gk with
   | zero => exact absurd HA.out (by simp [laws_szEntryS.l0])
   | succ k1 =>
    have H := HA.out; clear HA; simp only [laws_szEntryS.l0] at H; by_cases c4 : x5_1 < (l0.length : Int)
    ·rw [if_pos c4] at H; have c4b0 := decide_eq_true c4; clear c4; obtain ⟨c5, H⟩ := iN H; have c5b0 := decide_eq_true c5; clear c5; obtain ⟨t103, A6, H⟩ := bS H; (try dsimp only at H); by_cases c7 : t103 < 0
     ·rw [if_pos c7] at H; have c7b0 := decide_eq_true c7; clear c7; obtain rfl := sI H; have p102 : 0 ≤ (x5_1 : Int) := sO; have q102 : x5_1 < (l0.length : Int) := sO; obtain ⟨ad102, e102, hx102_0, hx102_1⟩ := ab119 HR0.out HB x5_1 p102 q102; cases e102; replace p102 := eq_true p102; replace q102 := eq_true q102
      go_wp2_with (first | ((with_reducible refine gt 78 rfl ?_); refine gL 78 23 Tryz.func78 #[.agg #[.string ((rd_T119 l0 x5_1).f0), .int .i64 ((rd_T119 l0 x5_1).f1)], .int .i64 x1_1] ?_; (with_reducible refine (laws_szEntry.calls ((rd_T119 l0 x5_1).f0) ((rd_T119 l0 x5_1).f1) x1_1 t103 _ A6.out).mono ?_); rintro e w8 ⟨rfl, hb⟩; refine ⟨_, rfl, ?_⟩; replace HB := nSB hb; try clear hb))
      go_ret
      exact ⟨sE, sB⟩
     ·rw [if_neg c7] at H; have c7b0 := decide_eq_false c7; clear c7; have H' := aM H; clear H; have p102 : 0 ≤ (x5_1 : Int) := sO; have q102 : x5_1 < (l0.length : Int) := sO; obtain ⟨ad102, e102, hx102_0, hx102_1⟩ := ab119 HR0.out HB x5_1 p102 q102; cases e102; replace p102 := eq_true p102; replace q102 := eq_true q102
      go_wp2_with (first | ((with_reducible refine gt 78 rfl ?_); refine gL 78 23 Tryz.func78 #[.agg #[.string ((rd_T119 l0 x5_1).f0), .int .i64 ((rd_T119 l0 x5_1).f1)], .int .i64 x1_1] ?_; (with_reducible refine (laws_szEntry.calls ((rd_T119 l0 x5_1).f0) ((rd_T119 l0 x5_1).f1) x1_1 t103 _ A6.out).mono ?_); rintro e w9 ⟨rfl, hb⟩; refine ⟨_, rfl, ?_⟩; replace HB := nSB hb; try clear hb))
      go_roundg k1
      case measure => have := HK1.out; omega
      case rel => exact ⟨(t103), (wrap64 (x5_1 + 1)), sR, sR, H', ⟨by have := HK1.out; omega⟩, ⟨sB⟩⟩
    ·rw [if_neg c4] at H; have c4b0 := decide_eq_false c4; clear c4; obtain rfl := sI H; go_wp2; go_ret
     exact ⟨sE, sB⟩
def laws_szNode.f (k : Nat) (a0_0 : Int) (aq : Int) (a0_2 : Int) (a0_3 : Int) (a0_4 : Int) (a0_5 : ByteArray) (l0_6 : List (S119)) (a1 : Int) : Option (Int) := if (wrap64 (a1 - (a0_5.size : Int))) < 0 then (some (-1)) else ((laws_szEntryS.f k l0_6 (wrap64 (a1 - (a0_5.size : Int)))).bind fun t105 => (if t105 < 0 then (some (-1)) else (some t105)))
theorem laws_szNode.calls (k : Nat) (a0_0 : Int) (aq : Int) (a0_2 : Int) (a0_3 : Int) (a0_4 : Int) (a0_5 : ByteArray) (A0_6 : Option Addr) (c0_6 : Nat) (l0_6 : List (S119)) (a1 : Int) (r : Int) (w : World) (hr0_6 : Kd.C k119 w A0_6 l0_6.length l0_6) (hc0_6 : l0_6.length ≤ c0_6) (h : laws_szNode.f k a0_0 aq a0_2 a0_3 a0_4 a0_5 l0_6 a1 = some r) :
  Calls Tryz.prog 31 #[.agg #[.int .i64 a0_0, .int .i64 aq, .int .i64 a0_2, .int .i64 a0_3, .int .i64 a0_4, .string a0_5, .slice A0_6 l0_6.length c0_6], .int .i64 a1] w fun e w' => e = .returned (.int .i64 r) ∧ Below w.heap.size w w' := by
 have hu70 := Tryz.underlying70; have HR0_6 := aM hr0_6; have HC0_6 := aM hc0_6; clear hr0_6 hc0_6; have HB := b0 w; have H : (if (wrap64 (a1 - (a0_5.size : Int))) < 0 then (some (-1)) else ((laws_szEntryS.f k l0_6 (wrap64 (a1 - (a0_5.size : Int)))).bind fun t105 => (if t105 < 0 then (some (-1)) else (some t105)))) = some r := h; clear h; by_cases c3 : (wrap64 (a1 - (a0_5.size : Int))) < 0
 ·rw [if_pos c3] at H; have c3b0 := decide_eq_true c3; clear c3; obtain rfl := sI H; go_enter Tryz.func31, Tryz.ntmps31
  go_wp2_with (first | ((with_reducible refine gd 2 rfl ?_); refine bxE 2 #[.int .i64 a0_0, .int .i64 aq, .int .i64 a0_2, .int .i64 a0_3, .int .i64 a0_4, .string a0_5, .slice A0_6 l0_6.length c0_6] 70 ?_; intro gb104 hg w4 hbox hb; have BK104 := aM hbox; have GW104 := nGB hg; have GE104 := nGB hg; replace HB := nSB hb; clear hb hbox hg; have hcz5 := cb7 BK104))
  go_ret
  exact ⟨sE, sC⟩
 ·rw [if_neg c3] at H; have c3b0 := decide_eq_false c3; clear c3; obtain ⟨t105, A6, H⟩ := bS H; (try dsimp only at H); by_cases c7 : t105 < 0
  ·rw [if_pos c7] at H; have c7b0 := decide_eq_true c7; clear c7; obtain rfl := sI H; go_enter Tryz.func31, Tryz.ntmps31
   go_wp2_with (first | ((with_reducible refine gd 2 rfl ?_); refine bxE 2 #[.int .i64 a0_0, .int .i64 aq, .int .i64 a0_2, .int .i64 a0_3, .int .i64 a0_4, .string a0_5, .slice A0_6 l0_6.length c0_6] 70 ?_; intro gb104 hg w8 hbox hb; have BK104 := aM hbox; have GW104 := nGB hg; have GE104 := nGB hg; replace HB := nSB hb; clear hb hbox hg; have hcz9 := cb7 BK104) | ((with_reducible refine gt 50 rfl ?_); refine gL 50 15 Tryz.func50 #[.slice A0_6 l0_6.length c0_6, .int .i64 (wrap64 (a1 - (a0_5.size : Int)))] ?_; (with_reducible refine (laws_szEntryS.calls k _ _ l0_6 (wrap64 (a1 - (a0_5.size : Int))) t105 _ ?side1 ?side2 A6.out).mono ?_); (case side1 => exact sD (Kd.C_below HR0_6.out HB.out)); (case side2 => exact HC0_6.out); rintro e w10 ⟨rfl, hb⟩; refine ⟨_, rfl, ?_⟩; replace BK104 := nK BK104 hb; replace HB := nSC hb; try clear hb))
   go_ret
   exact ⟨sE, sC⟩
  ·rw [if_neg c7] at H; have c7b0 := decide_eq_false c7; clear c7; obtain rfl := sI H; go_enter Tryz.func31, Tryz.ntmps31
   go_wp2_with (first | ((with_reducible refine gd 2 rfl ?_); refine bxE 2 #[.int .i64 a0_0, .int .i64 aq, .int .i64 a0_2, .int .i64 a0_3, .int .i64 a0_4, .string a0_5, .slice A0_6 l0_6.length c0_6] 70 ?_; intro gb104 hg w11 hbox hb; have BK104 := aM hbox; have GW104 := nGB hg; have GE104 := nGB hg; replace HB := nSB hb; clear hb hbox hg; have hcz12 := cb7 BK104) | ((with_reducible refine gt 50 rfl ?_); refine gL 50 15 Tryz.func50 #[.slice A0_6 l0_6.length c0_6, .int .i64 (wrap64 (a1 - (a0_5.size : Int)))] ?_; (with_reducible refine (laws_szEntryS.calls k _ _ l0_6 (wrap64 (a1 - (a0_5.size : Int))) t105 _ ?side1 ?side2 A6.out).mono ?_); (case side1 => exact sD (Kd.C_below HR0_6.out HB.out)); (case side2 => exact HC0_6.out); rintro e w13 ⟨rfl, hb⟩; refine ⟨_, rfl, ?_⟩; replace BK104 := nK BK104 hb; replace HB := nSC hb; try clear hb))
   go_ret
   exact ⟨sE, sC⟩
def laws_szNodeS.l0 : Nat → List (S70) → Int → Int → Option (Int)
 | 0, _, _, _ => none
 | k + 1, x0, x1, x5 => if x5 < (x0.length : Int) then (if 0 ≤ x5 then ((laws_szNode.f k ((rd_T70 x0 x5).f0) ((rd_T70 x0 x5).f1) ((rd_T70 x0 x5).f2) ((rd_T70 x0 x5).f3) ((rd_T70 x0 x5).f4) ((rd_T70 x0 x5).f5) ((rd_T70 x0 x5).f6) x1).bind fun t107 => (if t107 < 0 then (some (-1)) else (laws_szNodeS.l0 k x0 t107 (wrap64 (x5 + 1))))) else (none)) else (some x1)
def laws_szNodeS.f (k : Nat) (l0 : List (S70)) (a1 : Int) : Option (Int) := if (wrap64 (a1 - (l0.length : Int))) < 0 then (some (-1)) else (laws_szNodeS.l0 k l0 (wrap64 (a1 - (l0.length : Int))) 0)
theorem laws_szNodeS.calls (k : Nat) (A0 : Option Addr) (c0 : Nat) (l0 : List (S70)) (a1 : Int) (r : Int) (w : World) (hr0 : Kd.C k70 w A0 l0.length l0) (hc0 : l0.length ≤ c0) (h : laws_szNodeS.f k l0 a1 = some r) :
  Calls Tryz.prog 17 #[.slice A0 l0.length c0, .int .i64 a1] w fun e w' => e = .returned (.int .i64 r) ∧ Below w.heap.size w w' := by
 have hu70 := Tryz.underlying70; have HR0 := aM hr0; have HC0 := aM hc0; clear hr0 hc0; have HB := b0 w; have H : (if (wrap64 (a1 - (l0.length : Int))) < 0 then (some (-1)) else (laws_szNodeS.l0 k l0 (wrap64 (a1 - (l0.length : Int))) 0)) = some r := h; clear h; by_cases c3 : (wrap64 (a1 - (l0.length : Int))) < 0
 ·rw [if_pos c3] at H; have c3b0 := decide_eq_true c3; clear c3; obtain rfl := sI H; go_enter Tryz.func17, Tryz.ntmps17; go_wp2; go_ret
  exact ⟨sE, sB⟩
 ·rw [if_neg c3] at H; have c3b0 := decide_eq_false c3; clear c3; have H' := aM H; clear H; go_enter Tryz.func17, Tryz.ntmps17; go_wp2
  go_loopg [1, 5] k (fun kq v1 v5 w' => ∃ (x1_1 : Int) (x5_1 : Int), v1 = .int .i64 x1_1 ∧ v5 = .int .i64 x5_1 ∧ Aside0 (laws_szNodeS.l0 kq l0 x1_1 x5_1 = some r) ∧ Aside0 (kq ≤ k) ∧ Aside0 (Below w.heap.size w w'))
  case atStart => exact ⟨(wrap64 (a1 - (l0.length : Int))), (0), sR, sR, H', ⟨Nat.le_refl _⟩, ⟨sB⟩⟩
  case round =>
   clear H'; obtain ⟨x1_1, x5_1, rfl, rfl, HA, HK1, HB⟩ := hrel; cases gk with
   | zero => exact absurd HA.out (by simp [laws_szNodeS.l0])
   | succ k1 =>
    have H := HA.out; clear HA; simp only [laws_szNodeS.l0] at H; by_cases c4 : x5_1 < (l0.length : Int)
    ·rw [if_pos c4] at H; have c4b0 := decide_eq_true c4; clear c4; obtain ⟨c5, H⟩ := iN H; have c5b0 := decide_eq_true c5; clear c5; obtain ⟨t107, A6, H⟩ := bS H; (try dsimp only at H); by_cases c7 : t107 < 0
     ·rw [if_pos c7] at H; have c7b0 := decide_eq_true c7; clear c7; obtain rfl := sI H; have p106 : 0 ≤ (x5_1 : Int) := sO; have q106 : x5_1 < (l0.length : Int) := sO; obtain ⟨ad106, A106_6, c106_6, e106, hx106_0, hx106_1, hx106_2, hx106_3, hx106_4, hx106_5, hx106_6, hl106_6, hi106_6⟩ := ab70 HR0.out HB x5_1 p106 q106; cases e106; have HR106_6 := aM hi106_6; have HC106_6 := aM hl106_6; clear hi106_6 hl106_6; replace p106 := eq_true p106; replace q106 := eq_true q106
      go_wp2_with (first | ((with_reducible refine gt 31 rfl ?_); refine gL 31 23 Tryz.func31 #[.agg #[.int .i64 ((rd_T70 l0 x5_1).f0), .int .i64 ((rd_T70 l0 x5_1).f1), .int .i64 ((rd_T70 l0 x5_1).f2), .int .i64 ((rd_T70 l0 x5_1).f3), .int .i64 ((rd_T70 l0 x5_1).f4), .string ((rd_T70 l0 x5_1).f5), .slice A106_6 ((rd_T70 l0 x5_1).f6).length c106_6], .int .i64 x1_1] ?_; (with_reducible refine (laws_szNode.calls k1 ((rd_T70 l0 x5_1).f0) ((rd_T70 l0 x5_1).f1) ((rd_T70 l0 x5_1).f2) ((rd_T70 l0 x5_1).f3) ((rd_T70 l0 x5_1).f4) ((rd_T70 l0 x5_1).f5) _ _ ((rd_T70 l0 x5_1).f6) x1_1 t107 _ ?side1 ?side2 A6.out).mono ?_); (case side1 => exact sD (Kd.C_below HR106_6.out HB.out)); (case side2 => exact HC106_6.out); rintro e w8 ⟨rfl, hb⟩; refine ⟨_, rfl, ?_⟩; replace HB := nSB hb; try clear hb))
      go_ret
      exact ⟨sE, sB⟩
     ·rw [if_neg c7] at H; have c7b0 := decide_eq_false c7; clear c7; have H' := aM H; clear H; have p106 : 0 ≤ (x5_1 : Int) := sO; have q106 : x5_1 < (l0.length : Int) := sO; obtain ⟨ad106, A106_6, c106_6, e106, hx106_0, hx106_1, hx106_2, hx106_3, hx106_4, hx106_5, hx106_6, hl106_6, hi106_6⟩ := ab70 HR0.out HB x5_1 p106 q106; cases e106; have HR106_6 := aM hi106_6; have HC106_6 := aM hl106_6; clear hi106_6 hl106_6; replace p106 := eq_true p106; replace q106 := eq_true q106
      go_wp2_with (first | ((with_reducible refine gt 31 rfl ?_); refine gL 31 23 Tryz.func31 #[.agg #[.int .i64 ((rd_T70 l0 x5_1).f0), .int .i64 ((rd_T70 l0 x5_1).f1), .int .i64 ((rd_T70 l0 x5_1).f2), .int .i64 ((rd_T70 l0 x5_1).f3), .int .i64 ((rd_T70 l0 x5_1).f4), .string ((rd_T70 l0 x5_1).f5), .slice A106_6 ((rd_T70 l0 x5_1).f6).length c106_6], .int .i64 x1_1] ?_; (with_reducible refine (laws_szNode.calls k1 ((rd_T70 l0 x5_1).f0) ((rd_T70 l0 x5_1).f1) ((rd_T70 l0 x5_1).f2) ((rd_T70 l0 x5_1).f3) ((rd_T70 l0 x5_1).f4) ((rd_T70 l0 x5_1).f5) _ _ ((rd_T70 l0 x5_1).f6) x1_1 t107 _ ?side1 ?side2 A6.out).mono ?_); (case side1 => exact sD (Kd.C_below HR106_6.out HB.out)); (case side2 => exact HC106_6.out); rintro e w9 ⟨rfl, hb⟩; refine ⟨_, rfl, ?_⟩; replace HB := nSB hb; try clear hb))
      go_roundg k1
      case measure => have := HK1.out; omega
      case rel => exact ⟨(t107), (wrap64 (x5_1 + 1)), sR, sR, H', ⟨by have := HK1.out; omega⟩, ⟨sB⟩⟩
    ·rw [if_neg c4] at H; have c4b0 := decide_eq_false c4; clear c4; obtain rfl := sI H; go_wp2; go_ret
     exact ⟨sE, sB⟩
def laws_szFs.f (k : Nat) (lq : List (S70)) (aq : Int) (a1 : Int) : Option (Int) := (laws_szNodeS.f k lq a1).bind fun t109 => (if t109 < 0 then (some (-1)) else (some t109))
theorem laws_szFs.calls (k : Nat) (Aq : Option Addr) (cq : Nat) (lq : List (S70)) (aq : Int) (a1 : Int) (r : Int) (w : World) (hr0_0 : Kd.C k70 w Aq lq.length lq) (hc0_0 : lq.length ≤ cq) (h : laws_szFs.f k lq aq a1 = some r) :
  Calls Tryz.prog 5 #[.agg #[.slice Aq lq.length cq, .int .i64 aq], .int .i64 a1] w fun e w' => e = .returned (.int .i64 r) ∧ Below w.heap.size w w' := by
 have hu24 := Tryz.underlying24; have Hq := aM hr0_0; have Kq := aM hc0_0; clear hr0_0 hc0_0; have HB := b0 w; have H : ((laws_szNodeS.f k lq a1).bind fun t109 => (if t109 < 0 then (some (-1)) else (some t109))) = some r := h; clear h; obtain ⟨t109, A3, H⟩ := bS H; (try dsimp only at H); by_cases c4 : t109 < 0
 ·rw [if_pos c4] at H; have c4b0 := decide_eq_true c4; clear c4; obtain rfl := sI H; go_enter Tryz.func5, Tryz.ntmps5
  go_wp2_with (first | ((with_reducible refine gd 2 rfl ?_); refine bxE 2 #[.slice Aq lq.length cq, .int .i64 aq] 24 ?_; intro gb108 hg w5 hbox hb; have BK108 := aM hbox; have GW108 := nGB hg; have GE108 := nGB hg; replace HB := nSB hb; clear hb hbox hg; have hcz6 := cb2 BK108) | ((with_reducible refine gt 17 rfl ?_); refine gL 17 8 Tryz.func17 #[.slice Aq lq.length cq, .int .i64 a1] ?_; (with_reducible refine (laws_szNodeS.calls k _ _ lq a1 t109 _ ?side1 ?side2 A3.out).mono ?_); (case side1 => exact sD (Kd.C_below Hq.out HB.out)); (case side2 => exact Kq.out); rintro e w7 ⟨rfl, hb⟩; refine ⟨_, rfl, ?_⟩; replace BK108 := nK BK108 hb; replace HB := nSC hb; try clear hb))
  go_ret
  exact ⟨sE, sC⟩
 ·rw [if_neg c4] at H; have c4b0 := decide_eq_false c4; clear c4; obtain rfl := sI H; go_enter Tryz.func5, Tryz.ntmps5
  go_wp2_with (first | ((with_reducible refine gd 2 rfl ?_); refine bxE 2 #[.slice Aq lq.length cq, .int .i64 aq] 24 ?_; intro gb108 hg w8 hbox hb; have BK108 := aM hbox; have GW108 := nGB hg; have GE108 := nGB hg; replace HB := nSB hb; clear hb hbox hg; have hcz9 := cb2 BK108) | ((with_reducible refine gt 17 rfl ?_); refine gL 17 8 Tryz.func17 #[.slice Aq lq.length cq, .int .i64 a1] ?_; (with_reducible refine (laws_szNodeS.calls k _ _ lq a1 t109 _ ?side1 ?side2 A3.out).mono ?_); (case side1 => exact sD (Kd.C_below Hq.out HB.out)); (case side2 => exact Kq.out); rintro e w10 ⟨rfl, hb⟩; refine ⟨_, rfl, ?_⟩; replace BK108 := nK BK108 hb; replace HB := nSC hb; try clear hb))
  go_ret
  exact ⟨sE, sC⟩
def spec_l1In.f (a0 : Int) (a1 : Int) (a2 : Int) : Option (Bool) := if a0 ≥ a1 then (some (decide (a0 ≤ a2))) else (some false)
theorem spec_l1In.calls (a0 : Int) (a1 : Int) (a2 : Int) (r : Bool) (w : World) (h : spec_l1In.f a0 a1 a2 = some r) :
  Calls Tryz.prog 34 #[.int .i64 a0, .int .i64 a1, .int .i64 a2] w fun e w' => e = .returned (.bool r) ∧ Drawn0 w w' := by
 have H : (if a0 ≥ a1 then (some (decide (a0 ≤ a2))) else (some false)) = some r := h; clear h; by_cases c4 : a0 ≥ a1
 ·rw [if_pos c4] at H; have c4b0 := decide_eq_true c4; clear c4; obtain rfl := sI H; go_enter Tryz.func34, Tryz.ntmps34; go_wp2; go_ret
  exact eD
 ·rw [if_neg c4] at H; have c4b0 := decide_eq_false c4; clear c4; obtain rfl := sI H; go_enter Tryz.func34, Tryz.ntmps34; go_wp2; go_ret
  exact eD
def spec_l3Bytes.l0 : Nat → Int → List (S62) → Int → Int → Option (Int)
 | 0, _, _, _, _ => none
 | k + 1, x3, x7, x8, x9 => if x9 < x8 then (if 0 ≤ x9 then (if x9 < (x7.length : Int) then (spec_l3Bytes.l0 k (wrap64 (x3 + (((r62 x7 x9).f5).size : Int))) x7 x8 (wrap64 (x9 + 1))) else (none)) else (none)) else (some x3)
def spec_l3Bytes.f (k : Nat) (lq : List (S62)) (aq : Int) : Option (Int) := spec_l3Bytes.l0 k 0 lq (lq.length : Int) 0
theorem spec_l3Bytes.calls (k : Nat) (Aq : Option Addr) (cq : Nat) (lq : List (S62)) (aq : Int) (r : Int) (w : World) (hr0_0 : Kd.C k62 w Aq lq.length lq) (hc0_0 : lq.length ≤ cq) (h : spec_l3Bytes.f k lq aq = some r) :
  Calls Tryz.prog 51 #[.agg #[.slice Aq lq.length cq, .int .i64 aq]] w fun e w' => e = .returned (.int .i64 r) ∧ Below w.heap.size w w' := by
 have hu32 := Tryz.underlying32; have hu62 := Tryz.underlying62; have Hq := aM hr0_0; have Kq := aM hc0_0; clear hr0_0 hc0_0; have HB := b0 w; have H : (spec_l3Bytes.l0 k 0 lq (lq.length : Int) 0) = some r := h; clear h; have H' := aM H; clear H; go_enter Tryz.func51, Tryz.ntmps51
 go_wp2_with (first | ((with_reducible refine gd 1 rfl ?_); refine bxE 1 #[.slice Aq lq.length cq, .int .i64 aq] 32 ?_; intro gb110 hg w2 hbox hb; have BK110 := aM hbox; have GW110 := nGB hg; have GE110 := nGB hg; replace HB := nSB hb; clear hb hbox hg; have hcz3 := cb2 BK110))
 go_loopg [3, 9] k (fun kq v3 v9 w' => ∃ (x3_1 : Int) (x9_1 : Int), v3 = .int .i64 x3_1 ∧ v9 = .int .i64 x9_1 ∧ Aside0 (spec_l3Bytes.l0 kq x3_1 lq (lq.length : Int) x9_1 = some r) ∧ Aside0 (kq ≤ k) ∧ Aside0 (w'.heap[gb110]? = some (.cells #[(.slice Aq lq.length cq), .int .i64 aq] 32 (0, 0))) ∧ Aside0 (Below w.heap.size w w'))
 case atStart => exact ⟨(0), (0), sR, sR, H', ⟨Nat.le_refl _⟩, ⟨sK BK110⟩, ⟨sC⟩⟩
 case round =>
  clear H'; obtain ⟨x3_1, x9_1, rfl, rfl, HA, HK1, BK110, HB⟩ := hrel; cases gk with
  | zero => exact absurd HA.out (by simp [spec_l3Bytes.l0])
  | succ k1 =>
   have H := HA.out; clear HA; simp only [spec_l3Bytes.l0] at H; by_cases c4 : x9_1 < (lq.length : Int)
   ·rw [if_pos c4] at H; have c4b0 := decide_eq_true c4; clear c4; obtain ⟨c5, H⟩ := iN H; have c5b0 := decide_eq_true c5; clear c5; obtain ⟨c6, H⟩ := iN H; have c6b0 := decide_eq_true c6; clear c6; have H' := aM H; clear H; have p111 : 0 ≤ (x9_1 : Int) := sO; have q111 : x9_1 < (lq.length : Int) := sO; obtain ⟨ad111, A111_6, c111_6, e111, hx111_0, hx111_1, hx111_2, hx111_3, hx111_4, hx111_5, hx111_6, hl111_6, hi111_6⟩ := ab62 Hq.out HB x9_1 p111 q111; cases e111; have HR111_6 := aM hi111_6; have HC111_6 := aM hl111_6; clear hi111_6 hl111_6; replace p111 := eq_true p111; replace q111 := eq_true q111
    go_wp2_with (first | ((with_reducible refine gd 5 rfl ?_); refine bxE 5 #[.int .i64 0, .int .i64 0, .int .i64 0, .int .i64 0, .int .i64 0, .string (⟨#[]⟩ : ByteArray), .slice none 0 0] 62 ?_; intro gb112 hg w7 hbox hb; have BK112 := aM hbox; have GW112 := nGC hg; have GE112 := nGC hg; replace HB := nSC hb; have NB110_112 := nL BK110 hg; have NB112_110 := nH BK110 hg; replace BK110 := nK BK110 hb; clear hb hbox hg; have hnb8 := NB112_110.out; have hnc8 := NB110_112.out; have hcz9 := cb7 BK112))
    go_roundg k1
    case measure => have := HK1.out; omega
    case rel => exact ⟨(wrap64 (x3_1 + (((r62 lq x9_1).f5).size : Int))), (wrap64 (x9_1 + 1)), sR, sR, H', ⟨by have := HK1.out; omega⟩, ⟨sX BK110⟩, ⟨sC⟩⟩
   ·rw [if_neg c4] at H; have c4b0 := decide_eq_false c4; clear c4; obtain rfl := sI H; go_wp2; go_ret
    exact ⟨sE, sC⟩
def spec_l1Mode.f (a0 : Int) : Option (Bool) := (spec_l1In.f a0 0 511).bind fun t113 => (some t113)
theorem spec_l1Mode.calls (a0 : Int) (r : Bool) (w : World) (h : spec_l1Mode.f a0 = some r) :
  Calls Tryz.prog 79 #[.int .i64 a0] w fun e w' => e = .returned (.bool r) ∧ Drawn0 w w' := by
 have H : ((spec_l1In.f a0 0 511).bind fun t113 => (some t113)) = some r := h; clear h; obtain ⟨t113, A2, H⟩ := bS H; (try dsimp only at H); obtain rfl := sI H; go_enter Tryz.func79, Tryz.ntmps79
 go_wp2_with (first | ((with_reducible refine gt 34 rfl ?_); refine gL 34 4 Tryz.func34 #[.int .i64 a0, .int .i64 0, .int .i64 511] ?_; (with_reducible refine (spec_l1In.calls a0 0 511 t113 _ A2.out).mono ?_); rintro e w' ⟨rfl, ⟨nd, rfl⟩⟩; refine ⟨_, rfl, ?_⟩))
 go_ret
 exact eD
end Go.Proofs.YtmhjmicplaolmaaGreatDoor.PRm
