import Derived.Test.YtdjceippnokimaaGreatDoorPSatx0
namespace Go.Proofs.YtdjceippnokimaaGreatDoor.PSat
open Go.RowKit Go.Proofs.YtdjceippnokimaaGreatDoorW.PrintWords Go.Proofs.YtdjceippnokimaaGreatDoorW.PrintLast Go.Proofs.YtdjceippnokimaaGreatDoorW.PrintMore
attribute [local go_sem] max2_int min2_int max_two min_two max_three min_three max_four min_four
set_option linter.unusedVariables false
set_option linter.unusedSimpArgs false
set_option maxHeartbeats 8000000
set_option maxRecDepth 100000
/-! ### laws_szEntry: function 81 -/
def laws_szEntry.f (a0_0 : ByteArray) (aq : Int) (a1 : Int) : Option (Int) := if (wrap64 (a1 - (a0_0.size : Int))) < 0 then (some (-1)) else (some (wrap64 (a1 - (a0_0.size : Int))))
theorem laws_szEntry.calls (a0_0 : ByteArray) (aq : Int) (a1 : Int) (r : Int) (w : World) (h : laws_szEntry.f a0_0 aq a1 = some r) :
  Calls Tryz.prog 81 #[.agg #[.string a0_0, .int .i64 aq], .int .i64 a1] w fun e w' => e = .returned (.int .i64 r) ∧ Below w.heap.size w w' := by
 have hu114 := Tryz.underlying114; have HB := b0 w; have H : (if (wrap64 (a1 - (a0_0.size : Int))) < 0 then (some (-1)) else (some (wrap64 (a1 - (a0_0.size : Int))))) = some r := h; clear h; by_cases c3 : (wrap64 (a1 - (a0_0.size : Int))) < 0
 ·rw [if_pos c3] at H; have c3b0 := decide_eq_true c3; clear c3; obtain rfl := sI H; go_enter Tryz.func81, Tryz.ntmps81
  go_wp2_with (first | ((with_reducible refine gd 2 rfl ?_); refine bxE 2 #[.string a0_0, .int .i64 aq] 114 ?_; intro gb101 hg w4 hbox hb; have BK101 := aM hbox; have GW101 := nGB hg; have GE101 := nGB hg; replace HB := nSB hb; clear hb hbox hg; have hcz5 := cb2 BK101))
  go_ret
  exact ⟨sE, sC⟩
 ·rw [if_neg c3] at H; have c3b0 := decide_eq_false c3; clear c3; obtain rfl := sI H; go_enter Tryz.func81, Tryz.ntmps81
  go_wp2_with (first | ((with_reducible refine gd 2 rfl ?_); refine bxE 2 #[.string a0_0, .int .i64 aq] 114 ?_; intro gb101 hg w6 hbox hb; have BK101 := aM hbox; have GW101 := nGB hg; have GE101 := nGB hg; replace HB := nSB hb; clear hb hbox hg; have hcz7 := cb2 BK101))
  go_ret
  exact ⟨sE, sC⟩
def laws_szEntryS.l0 : Nat → List (S114) → Int → Int → Option (Int)
 | 0, _, _, _ => none
 | k + 1, x0, x1, x5 => if x5 < (x0.length : Int) then (if 0 ≤ x5 then ((laws_szEntry.f ((rd_T114 x0 x5).f0) ((rd_T114 x0 x5).f1) x1).bind fun t103 => (if t103 < 0 then (some (-1)) else (laws_szEntryS.l0 k x0 t103 (wrap64 (x5 + 1))))) else (none)) else (some x1)
def laws_szEntryS.f (k : Nat) (l0 : List (S114)) (a1 : Int) : Option (Int) := if (wrap64 (a1 - (l0.length : Int))) < 0 then (some (-1)) else (laws_szEntryS.l0 k l0 (wrap64 (a1 - (l0.length : Int))) 0)
theorem laws_szEntryS.calls (k : Nat) (A0 : Option Addr) (c0 : Nat) (l0 : List (S114)) (a1 : Int) (r : Int) (w : World) (hr0 : Kd.C k114 w A0 l0.length l0) (hc0 : l0.length ≤ c0) (h : laws_szEntryS.f k l0 a1 = some r) :
  Calls Tryz.prog 59 #[.slice A0 l0.length c0, .int .i64 a1] w fun e w' => e = .returned (.int .i64 r) ∧ Below w.heap.size w w' := by
 have hu114 := Tryz.underlying114; have HR0 := aM hr0; have HC0 := aM hc0; clear hr0 hc0; have HB := b0 w; have H : (if (wrap64 (a1 - (l0.length : Int))) < 0 then (some (-1)) else (laws_szEntryS.l0 k l0 (wrap64 (a1 - (l0.length : Int))) 0)) = some r := h; clear h; by_cases c3 : (wrap64 (a1 - (l0.length : Int))) < 0
 ·rw [if_pos c3] at H; have c3b0 := decide_eq_true c3; clear c3; obtain rfl := sI H; go_enter Tryz.func59, Tryz.ntmps59; go_wp2; go_ret
  exact ⟨sE, sB⟩
 ·rw [if_neg c3] at H; have c3b0 := decide_eq_false c3; clear c3; have H' := aM H; clear H; go_enter Tryz.func59, Tryz.ntmps59; go_wp2
  go_loopg [1, 5] k (fun kq v1 v5 w' => ∃ (x1_1 : Int) (x5_1 : Int), v1 = .int .i64 x1_1 ∧ v5 = .int .i64 x5_1 ∧ Aside0 (laws_szEntryS.l0 kq l0 x1_1 x5_1 = some r) ∧ Aside0 (kq ≤ k) ∧ Aside0 (Below w.heap.size w w'))
  case atStart => exact ⟨(wrap64 (a1 - (l0.length : Int))), (0), sR, sR, H', ⟨Nat.le_refl _⟩, ⟨sB⟩⟩
  case round =>
   clear H'; obtain ⟨x1_1, x5_1, rfl, rfl, HA, HK1, HB⟩ := hrel; cases gk with
   | zero => exact absurd HA.out (by simp [laws_szEntryS.l0])
   | succ k1 =>
    have H := HA.out; clear HA; simp only [laws_szEntryS.l0] at H; by_cases c4 : x5_1 < (l0.length : Int)
    ·rw [if_pos c4] at H; have c4b0 := decide_eq_true c4; clear c4; obtain ⟨c5, H⟩ := iN H; have c5b0 := decide_eq_true c5; clear c5; obtain ⟨t103, A6, H⟩ := bS H; (try dsimp only at H); by_cases c7 : t103 < 0
     ·rw [if_pos c7] at H; have c7b0 := decide_eq_true c7; clear c7; obtain rfl := sI H; have p102 : 0 ≤ (x5_1 : Int) := sO; have q102 : x5_1 < (l0.length : Int) := sO; obtain ⟨ad102, e102, hx102_0, hx102_1⟩ := ab114 HR0.out HB x5_1 p102 q102; cases e102; replace p102 := eq_true p102; replace q102 := eq_true q102
      go_wp2_with (first | ((with_reducible refine gt 81 rfl ?_); refine gL 81 23 Tryz.func81 #[.agg #[.string ((rd_T114 l0 x5_1).f0), .int .i64 ((rd_T114 l0 x5_1).f1)], .int .i64 x1_1] ?_; (with_reducible refine (laws_szEntry.calls ((rd_T114 l0 x5_1).f0) ((rd_T114 l0 x5_1).f1) x1_1 t103 _ A6.out).mono ?_); rintro e w8 ⟨rfl, hb⟩; refine ⟨_, rfl, ?_⟩; replace HB := nSB hb; try clear hb))
      go_ret
      exact ⟨sE, sB⟩
     ·rw [if_neg c7] at H; have c7b0 := decide_eq_false c7; clear c7; have H' := aM H; clear H; have p102 : 0 ≤ (x5_1 : Int) := sO; have q102 : x5_1 < (l0.length : Int) := sO; obtain ⟨ad102, e102, hx102_0, hx102_1⟩ := ab114 HR0.out HB x5_1 p102 q102; cases e102; replace p102 := eq_true p102; replace q102 := eq_true q102
      go_wp2_with (first | ((with_reducible refine gt 81 rfl ?_); refine gL 81 23 Tryz.func81 #[.agg #[.string ((rd_T114 l0 x5_1).f0), .int .i64 ((rd_T114 l0 x5_1).f1)], .int .i64 x1_1] ?_; (with_reducible refine (laws_szEntry.calls ((rd_T114 l0 x5_1).f0) ((rd_T114 l0 x5_1).f1) x1_1 t103 _ A6.out).mono ?_); rintro e w9 ⟨rfl, hb⟩; refine ⟨_, rfl, ?_⟩; replace HB := nSB hb; try clear hb))
      go_roundg k1
      case measure => have := HK1.out; omega
      case rel => exact ⟨(t103), (wrap64 (x5_1 + 1)), sR, sR, H', ⟨by have := HK1.out; omega⟩, ⟨sB⟩⟩
    ·rw [if_neg c4] at H; have c4b0 := decide_eq_false c4; clear c4; obtain rfl := sI H; go_wp2; go_ret
     exact ⟨sE, sB⟩
def laws_szNode.f (k : Nat) (a0_0 : Int) (aq : Int) (a0_2 : Int) (a0_3 : Int) (a0_4 : Int) (a0_5 : ByteArray) (l0_6 : List (S114)) (a1 : Int) : Option (Int) := if (wrap64 (a1 - (a0_5.size : Int))) < 0 then (some (-1)) else ((laws_szEntryS.f k l0_6 (wrap64 (a1 - (a0_5.size : Int)))).bind fun t105 => (if t105 < 0 then (some (-1)) else (some t105)))
theorem laws_szNode.calls (k : Nat) (a0_0 : Int) (aq : Int) (a0_2 : Int) (a0_3 : Int) (a0_4 : Int) (a0_5 : ByteArray) (A0_6 : Option Addr) (c0_6 : Nat) (l0_6 : List (S114)) (a1 : Int) (r : Int) (w : World) (hr0_6 : Kd.C k114 w A0_6 l0_6.length l0_6) (hc0_6 : l0_6.length ≤ c0_6) (h : laws_szNode.f k a0_0 aq a0_2 a0_3 a0_4 a0_5 l0_6 a1 = some r) :
  Calls Tryz.prog 36 #[.agg #[.int .i64 a0_0, .int .i64 aq, .int .i64 a0_2, .int .i64 a0_3, .int .i64 a0_4, .string a0_5, .slice A0_6 l0_6.length c0_6], .int .i64 a1] w fun e w' => e = .returned (.int .i64 r) ∧ Below w.heap.size w w' := by
 have hu61 := Tryz.underlying61; have HR0_6 := aM hr0_6; have HC0_6 := aM hc0_6; clear hr0_6 hc0_6; have HB := b0 w; have H : (if (wrap64 (a1 - (a0_5.size : Int))) < 0 then (some (-1)) else ((laws_szEntryS.f k l0_6 (wrap64 (a1 - (a0_5.size : Int)))).bind fun t105 => (if t105 < 0 then (some (-1)) else (some t105)))) = some r := h; clear h; by_cases c3 : (wrap64 (a1 - (a0_5.size : Int))) < 0
 ·rw [if_pos c3] at H; have c3b0 := decide_eq_true c3; clear c3; obtain rfl := sI H; go_enter Tryz.func36, Tryz.ntmps36
  go_wp2_with (first | ((with_reducible refine gd 2 rfl ?_); refine bxE 2 #[.int .i64 a0_0, .int .i64 aq, .int .i64 a0_2, .int .i64 a0_3, .int .i64 a0_4, .string a0_5, .slice A0_6 l0_6.length c0_6] 61 ?_; intro gb104 hg w4 hbox hb; have BK104 := aM hbox; have GW104 := nGB hg; have GE104 := nGB hg; replace HB := nSB hb; clear hb hbox hg; have hcz5 := cb7 BK104))
  go_ret
  exact ⟨sE, sC⟩
 ·rw [if_neg c3] at H; have c3b0 := decide_eq_false c3; clear c3; obtain ⟨t105, A6, H⟩ := bS H; (try dsimp only at H); by_cases c7 : t105 < 0
  ·rw [if_pos c7] at H; have c7b0 := decide_eq_true c7; clear c7; obtain rfl := sI H; go_enter Tryz.func36, Tryz.ntmps36
   go_wp2_with (first | ((with_reducible refine gd 2 rfl ?_); refine bxE 2 #[.int .i64 a0_0, .int .i64 aq, .int .i64 a0_2, .int .i64 a0_3, .int .i64 a0_4, .string a0_5, .slice A0_6 l0_6.length c0_6] 61 ?_; intro gb104 hg w8 hbox hb; have BK104 := aM hbox; have GW104 := nGB hg; have GE104 := nGB hg; replace HB := nSB hb; clear hb hbox hg; have hcz9 := cb7 BK104) | ((with_reducible refine gt 59 rfl ?_); refine gL 59 15 Tryz.func59 #[.slice A0_6 l0_6.length c0_6, .int .i64 (wrap64 (a1 - (a0_5.size : Int)))] ?_; (with_reducible refine (laws_szEntryS.calls k _ _ l0_6 (wrap64 (a1 - (a0_5.size : Int))) t105 _ ?side1 ?side2 A6.out).mono ?_); (case side1 => exact sD (Kd.C_below HR0_6.out HB.out)); (case side2 => exact HC0_6.out); rintro e w10 ⟨rfl, hb⟩; refine ⟨_, rfl, ?_⟩; replace BK104 := nK BK104 hb; replace HB := nSC hb; try clear hb))
   go_ret
   exact ⟨sE, sC⟩
  ·rw [if_neg c7] at H; have c7b0 := decide_eq_false c7; clear c7; obtain rfl := sI H; go_enter Tryz.func36, Tryz.ntmps36
   go_wp2_with (first | ((with_reducible refine gd 2 rfl ?_); refine bxE 2 #[.int .i64 a0_0, .int .i64 aq, .int .i64 a0_2, .int .i64 a0_3, .int .i64 a0_4, .string a0_5, .slice A0_6 l0_6.length c0_6] 61 ?_; intro gb104 hg w11 hbox hb; have BK104 := aM hbox; have GW104 := nGB hg; have GE104 := nGB hg; replace HB := nSB hb; clear hb hbox hg; have hcz12 := cb7 BK104) | ((with_reducible refine gt 59 rfl ?_); refine gL 59 15 Tryz.func59 #[.slice A0_6 l0_6.length c0_6, .int .i64 (wrap64 (a1 - (a0_5.size : Int)))] ?_; (with_reducible refine (laws_szEntryS.calls k _ _ l0_6 (wrap64 (a1 - (a0_5.size : Int))) t105 _ ?side1 ?side2 A6.out).mono ?_); (case side1 => exact sD (Kd.C_below HR0_6.out HB.out)); (case side2 => exact HC0_6.out); rintro e w13 ⟨rfl, hb⟩; refine ⟨_, rfl, ?_⟩; replace BK104 := nK BK104 hb; replace HB := nSC hb; try clear hb))
   go_ret
   exact ⟨sE, sC⟩
def laws_szNodeS.l0 : Nat → List (S61) → Int → Int → Option (Int)
 | 0, _, _, _ => none
 | k + 1, x0, x1, x5 => if x5 < (x0.length : Int) then (if 0 ≤ x5 then ((laws_szNode.f k ((rd_T61 x0 x5).f0) ((rd_T61 x0 x5).f1) ((rd_T61 x0 x5).f2) ((rd_T61 x0 x5).f3) ((rd_T61 x0 x5).f4) ((rd_T61 x0 x5).f5) ((rd_T61 x0 x5).f6) x1).bind fun t107 => (if t107 < 0 then (some (-1)) else (laws_szNodeS.l0 k x0 t107 (wrap64 (x5 + 1))))) else (none)) else (some x1)
def laws_szNodeS.f (k : Nat) (l0 : List (S61)) (a1 : Int) : Option (Int) := if (wrap64 (a1 - (l0.length : Int))) < 0 then (some (-1)) else (laws_szNodeS.l0 k l0 (wrap64 (a1 - (l0.length : Int))) 0)
theorem laws_szNodeS.calls (k : Nat) (A0 : Option Addr) (c0 : Nat) (l0 : List (S61)) (a1 : Int) (r : Int) (w : World) (hr0 : Kd.C k61 w A0 l0.length l0) (hc0 : l0.length ≤ c0) (h : laws_szNodeS.f k l0 a1 = some r) :
  Calls Tryz.prog 19 #[.slice A0 l0.length c0, .int .i64 a1] w fun e w' => e = .returned (.int .i64 r) ∧ Below w.heap.size w w' := by
 have hu61 := Tryz.underlying61; have HR0 := aM hr0; have HC0 := aM hc0; clear hr0 hc0; have HB := b0 w; have H : (if (wrap64 (a1 - (l0.length : Int))) < 0 then (some (-1)) else (laws_szNodeS.l0 k l0 (wrap64 (a1 - (l0.length : Int))) 0)) = some r := h; clear h; by_cases c3 : (wrap64 (a1 - (l0.length : Int))) < 0
 ·rw [if_pos c3] at H; have c3b0 := decide_eq_true c3; clear c3; obtain rfl := sI H; go_enter Tryz.func19, Tryz.ntmps19; go_wp2; go_ret
  exact ⟨sE, sB⟩
 ·rw [if_neg c3] at H; have c3b0 := decide_eq_false c3; clear c3; have H' := aM H; clear H; go_enter Tryz.func19, Tryz.ntmps19; go_wp2
  go_loopg [1, 5] k (fun kq v1 v5 w' => ∃ (x1_1 : Int) (x5_1 : Int), v1 = .int .i64 x1_1 ∧ v5 = .int .i64 x5_1 ∧ Aside0 (laws_szNodeS.l0 kq l0 x1_1 x5_1 = some r) ∧ Aside0 (kq ≤ k) ∧ Aside0 (Below w.heap.size w w'))
  case atStart => exact ⟨(wrap64 (a1 - (l0.length : Int))), (0), sR, sR, H', ⟨Nat.le_refl _⟩, ⟨sB⟩⟩
  case round =>
   clear H'; obtain ⟨x1_1, x5_1, rfl, rfl, HA, HK1, HB⟩ := hrel; cases gk with
   | zero => exact absurd HA.out (by simp [laws_szNodeS.l0])
   | succ k1 =>
    have H := HA.out; clear HA; simp only [laws_szNodeS.l0] at H; by_cases c4 : x5_1 < (l0.length : Int)
    ·rw [if_pos c4] at H; have c4b0 := decide_eq_true c4; clear c4; obtain ⟨c5, H⟩ := iN H; have c5b0 := decide_eq_true c5; clear c5; obtain ⟨t107, A6, H⟩ := bS H; (try dsimp only at H); by_cases c7 : t107 < 0
     ·rw [if_pos c7] at H; have c7b0 := decide_eq_true c7; clear c7; obtain rfl := sI H; have p106 : 0 ≤ (x5_1 : Int) := sO; have q106 : x5_1 < (l0.length : Int) := sO; obtain ⟨ad106, A106_6, c106_6, e106, hx106_0, hx106_1, hx106_2, hx106_3, hx106_4, hx106_5, hx106_6, hl106_6, hi106_6⟩ := ab61 HR0.out HB x5_1 p106 q106; cases e106; have HR106_6 := aM hi106_6; have HC106_6 := aM hl106_6; clear hi106_6 hl106_6; replace p106 := eq_true p106; replace q106 := eq_true q106
      go_wp2_with (first | ((with_reducible refine gt 36 rfl ?_); refine gL 36 23 Tryz.func36 #[.agg #[.int .i64 ((rd_T61 l0 x5_1).f0), .int .i64 ((rd_T61 l0 x5_1).f1), .int .i64 ((rd_T61 l0 x5_1).f2), .int .i64 ((rd_T61 l0 x5_1).f3), .int .i64 ((rd_T61 l0 x5_1).f4), .string ((rd_T61 l0 x5_1).f5), .slice A106_6 ((rd_T61 l0 x5_1).f6).length c106_6], .int .i64 x1_1] ?_; (with_reducible refine (laws_szNode.calls k1 ((rd_T61 l0 x5_1).f0) ((rd_T61 l0 x5_1).f1) ((rd_T61 l0 x5_1).f2) ((rd_T61 l0 x5_1).f3) ((rd_T61 l0 x5_1).f4) ((rd_T61 l0 x5_1).f5) _ _ ((rd_T61 l0 x5_1).f6) x1_1 t107 _ ?side1 ?side2 A6.out).mono ?_); (case side1 => exact sD (Kd.C_below HR106_6.out HB.out)); (case side2 => exact HC106_6.out); rintro e w8 ⟨rfl, hb⟩; refine ⟨_, rfl, ?_⟩; replace HB := nSB hb; try clear hb))
      go_ret
      exact ⟨sE, sB⟩
     ·rw [if_neg c7] at H; have c7b0 := decide_eq_false c7; clear c7; have H' := aM H; clear H; have p106 : 0 ≤ (x5_1 : Int) := sO; have q106 : x5_1 < (l0.length : Int) := sO; obtain ⟨ad106, A106_6, c106_6, e106, hx106_0, hx106_1, hx106_2, hx106_3, hx106_4, hx106_5, hx106_6, hl106_6, hi106_6⟩ := ab61 HR0.out HB x5_1 p106 q106; cases e106; have HR106_6 := aM hi106_6; have HC106_6 := aM hl106_6; clear hi106_6 hl106_6; replace p106 := eq_true p106; replace q106 := eq_true q106
      go_wp2_with (first | ((with_reducible refine gt 36 rfl ?_); refine gL 36 23 Tryz.func36 #[.agg #[.int .i64 ((rd_T61 l0 x5_1).f0), .int .i64 ((rd_T61 l0 x5_1).f1), .int .i64 ((rd_T61 l0 x5_1).f2), .int .i64 ((rd_T61 l0 x5_1).f3), .int .i64 ((rd_T61 l0 x5_1).f4), .string ((rd_T61 l0 x5_1).f5), .slice A106_6 ((rd_T61 l0 x5_1).f6).length c106_6], .int .i64 x1_1] ?_; (with_reducible refine (laws_szNode.calls k1 ((rd_T61 l0 x5_1).f0) ((rd_T61 l0 x5_1).f1) ((rd_T61 l0 x5_1).f2) ((rd_T61 l0 x5_1).f3) ((rd_T61 l0 x5_1).f4) ((rd_T61 l0 x5_1).f5) _ _ ((rd_T61 l0 x5_1).f6) x1_1 t107 _ ?side1 ?side2 A6.out).mono ?_); (case side1 => exact sD (Kd.C_below HR106_6.out HB.out)); (case side2 => exact HC106_6.out); rintro e w9 ⟨rfl, hb⟩; refine ⟨_, rfl, ?_⟩; replace HB := nSB hb; try clear hb))
      go_roundg k1
      case measure => have := HK1.out; omega
      case rel => exact ⟨(t107), (wrap64 (x5_1 + 1)), sR, sR, H', ⟨by have := HK1.out; omega⟩, ⟨sB⟩⟩
    ·rw [if_neg c4] at H; have c4b0 := decide_eq_false c4; clear c4; obtain rfl := sI H; go_wp2; go_ret
     exact ⟨sE, sB⟩
def laws_szFs.f (k : Nat) (lq : List (S61)) (aq : Int) (a1 : Int) : Option (Int) := (laws_szNodeS.f k lq a1).bind fun t109 => (if t109 < 0 then (some (-1)) else (some t109))
theorem laws_szFs.calls (k : Nat) (Aq : Option Addr) (cq : Nat) (lq : List (S61)) (aq : Int) (a1 : Int) (r : Int) (w : World) (hr0_0 : Kd.C k61 w Aq lq.length lq) (hc0_0 : lq.length ≤ cq) (h : laws_szFs.f k lq aq a1 = some r) :
  Calls Tryz.prog 6 #[.agg #[.slice Aq lq.length cq, .int .i64 aq], .int .i64 a1] w fun e w' => e = .returned (.int .i64 r) ∧ Below w.heap.size w w' := by
 have hu24 := Tryz.underlying24; have Hq := aM hr0_0; have Kq := aM hc0_0; clear hr0_0 hc0_0; have HB := b0 w; have H : ((laws_szNodeS.f k lq a1).bind fun t109 => (if t109 < 0 then (some (-1)) else (some t109))) = some r := h; clear h; obtain ⟨t109, A3, H⟩ := bS H; (try dsimp only at H); by_cases c4 : t109 < 0
 ·rw [if_pos c4] at H; have c4b0 := decide_eq_true c4; clear c4; obtain rfl := sI H; go_enter Tryz.func6, Tryz.ntmps6
  go_wp2_with (first | ((with_reducible refine gd 2 rfl ?_); refine bxE 2 #[.slice Aq lq.length cq, .int .i64 aq] 24 ?_; intro gb108 hg w5 hbox hb; have BK108 := aM hbox; have GW108 := nGB hg; have GE108 := nGB hg; replace HB := nSB hb; clear hb hbox hg; have hcz6 := cb2 BK108) | ((with_reducible refine gt 19 rfl ?_); refine gL 19 8 Tryz.func19 #[.slice Aq lq.length cq, .int .i64 a1] ?_; (with_reducible refine (laws_szNodeS.calls k _ _ lq a1 t109 _ ?side1 ?side2 A3.out).mono ?_); (case side1 => exact sD (Kd.C_below Hq.out HB.out)); (case side2 => exact Kq.out); rintro e w7 ⟨rfl, hb⟩; refine ⟨_, rfl, ?_⟩; replace BK108 := nK BK108 hb; replace HB := nSC hb; try clear hb))
  go_ret
  exact ⟨sE, sC⟩
 ·rw [if_neg c4] at H; have c4b0 := decide_eq_false c4; clear c4; obtain rfl := sI H; go_enter Tryz.func6, Tryz.ntmps6
  go_wp2_with (first | ((with_reducible refine gd 2 rfl ?_); refine bxE 2 #[.slice Aq lq.length cq, .int .i64 aq] 24 ?_; intro gb108 hg w8 hbox hb; have BK108 := aM hbox; have GW108 := nGB hg; have GE108 := nGB hg; replace HB := nSB hb; clear hb hbox hg; have hcz9 := cb2 BK108) | ((with_reducible refine gt 19 rfl ?_); refine gL 19 8 Tryz.func19 #[.slice Aq lq.length cq, .int .i64 a1] ?_; (with_reducible refine (laws_szNodeS.calls k _ _ lq a1 t109 _ ?side1 ?side2 A3.out).mono ?_); (case side1 => exact sD (Kd.C_below Hq.out HB.out)); (case side2 => exact Kq.out); rintro e w10 ⟨rfl, hb⟩; refine ⟨_, rfl, ?_⟩; replace BK108 := nK BK108 hb; replace HB := nSC hb; try clear hb))
  go_ret
  exact ⟨sE, sC⟩
def spec_l1Has.l0 : Nat → Int → List Int → Int → Int → Option (Bool)
 | 0, _, _, _, _ => none
 | k + 1, x1, x7, x8, x9 => if x9 < x8 then (if 0 ≤ x9 then (if x9 < (x7.length : Int) then (if (rd x7 x9) = x1 then (some true) else (spec_l1Has.l0 k x1 x7 x8 (wrap64 (x9 + 1)))) else (none)) else (none)) else (some false)
def spec_l1Has.f (k : Nat) (l0 : List Int) (a1 : Int) : Option (Bool) := spec_l1Has.l0 k a1 l0 (l0.length : Int) 0
theorem spec_l1Has.calls (k : Nat) (A0 : Option Addr) (c0 : Nat) (l0 : List Int) (a1 : Int) (r : Bool) (w : World) (hr0 : Kd.C (Kd.int .i64) w A0 l0.length l0) (hc0 : l0.length ≤ c0) (h : spec_l1Has.f k l0 a1 = some r) :
  Calls Tryz.prog 53 #[.slice A0 l0.length c0, .int .i64 a1] w fun e w' => e = .returned (.bool r) ∧ Drawn0 w w' := by
 have HR0 := aM hr0; have HC0 := aM hc0; clear hr0 hc0; have H : (spec_l1Has.l0 k a1 l0 (l0.length : Int) 0) = some r := h; clear h; have H' := aM H; clear H; go_enter Tryz.func53, Tryz.ntmps53; go_wp2
 go_loopg [9] k (fun kq v9 w' => ∃ (x9_1 : Int), v9 = .int .i64 x9_1 ∧ Aside0 (spec_l1Has.l0 kq a1 l0 (l0.length : Int) x9_1 = some r) ∧ Aside0 (kq ≤ k) ∧ Drawn0 w w')
 case atStart => exact ⟨(0), sR, H', ⟨Nat.le_refl _⟩, by repeat (first | exact Drawn0.refl _ | apply Drawn0.step)⟩
 case round =>
  clear H'; obtain ⟨x9_1, rfl, HA, HK1, ⟨m1, rfl⟩⟩ := hrel; cases gk with
  | zero => exact absurd HA.out (by simp [spec_l1Has.l0])
  | succ k1 =>
   have H := HA.out; clear HA; simp only [spec_l1Has.l0] at H; by_cases c3 : x9_1 < (l0.length : Int)
   ·rw [if_pos c3] at H; have c3b0 := decide_eq_true c3; clear c3; obtain ⟨c4, H⟩ := iN H; have c4b0 := decide_eq_true c4; clear c4; obtain ⟨c5, H⟩ := iN H; have c5b0 := decide_eq_true c5; clear c5; by_cases c6 : (rd l0 x9_1) = a1
    ·rw [if_pos c6] at H; have c6b0 := beq_iff_eq.mpr c6; have c6b1 := bne_eq_false_iff_eq.mpr c6; clear c6; obtain rfl := sI H; have p110 : 0 ≤ (x9_1 : Int) := sO; have q110 : x9_1 < (l0.length : Int) := sO; obtain ⟨ad110, e110, hx110_0⟩ := Kd.at_int HR0.out x9_1 p110 q110; cases e110; replace p110 := eq_true p110; replace q110 := eq_true q110; go_wp2; go_ret
     exact eD
    ·rw [if_neg c6] at H; have c6b0 := beq_eq_false_iff_ne.mpr c6; have c6b1 := bne_iff_ne.mpr c6; have H' := aM H; clear H; have p110 : 0 ≤ (x9_1 : Int) := sO; have q110 : x9_1 < (l0.length : Int) := sO; obtain ⟨ad110, e110, hx110_0⟩ := Kd.at_int HR0.out x9_1 p110 q110; cases e110; replace p110 := eq_true p110; replace q110 := eq_true q110; go_wp2; go_roundg k1
     case measure => have := HK1.out; omega
     case rel => exact ⟨(wrap64 (x9_1 + 1)), sR, H', ⟨by have := HK1.out; omega⟩, by repeat (first | exact Drawn0.refl _ | apply Drawn0.step)⟩
   ·rw [if_neg c3] at H; have c3b0 := decide_eq_false c3; clear c3; obtain rfl := sI H; go_wp2; go_ret
    exact eD
def spec_l1In.f (a0 : Int) (a1 : Int) (a2 : Int) : Option (Bool) := if a0 ≥ a1 then (some (decide (a0 ≤ a2))) else (some false)
theorem spec_l1In.calls (a0 : Int) (a1 : Int) (a2 : Int) (r : Bool) (w : World) (h : spec_l1In.f a0 a1 a2 = some r) :
  Calls Tryz.prog 60 #[.int .i64 a0, .int .i64 a1, .int .i64 a2] w fun e w' => e = .returned (.bool r) ∧ Drawn0 w w' := by
 have H : (if a0 ≥ a1 then (some (decide (a0 ≤ a2))) else (some false)) = some r := h; clear h; by_cases c4 : a0 ≥ a1
 ·rw [if_pos c4] at H; have c4b0 := decide_eq_true c4; clear c4; obtain rfl := sI H; go_enter Tryz.func60, Tryz.ntmps60; go_wp2; go_ret
  exact eD
 ·rw [if_neg c4] at H; have c4b0 := decide_eq_false c4; clear c4; obtain rfl := sI H; go_enter Tryz.func60, Tryz.ntmps60; go_wp2; go_ret
  exact eD
def spec_l3Bytes.l0 : Nat → Int → List (S65) → Int → Int → Option (Int)
 | 0, _, _, _, _ => none
 | k + 1, x3, x7, x8, x9 => if x9 < x8 then (if 0 ≤ x9 then (if x9 < (x7.length : Int) then (spec_l3Bytes.l0 k (wrap64 (x3 + (((r65 x7 x9).f5).size : Int))) x7 x8 (wrap64 (x9 + 1))) else (none)) else (none)) else (some x3)
def spec_l3Bytes.f (k : Nat) (lq : List (S65)) (aq : Int) : Option (Int) := spec_l3Bytes.l0 k 0 lq (lq.length : Int) 0
theorem spec_l3Bytes.calls (k : Nat) (Aq : Option Addr) (cq : Nat) (lq : List (S65)) (aq : Int) (r : Int) (w : World) (hr0_0 : Kd.C k65 w Aq lq.length lq) (hc0_0 : lq.length ≤ cq) (h : spec_l3Bytes.f k lq aq = some r) :
  Calls Tryz.prog 61 #[.agg #[.slice Aq lq.length cq, .int .i64 aq]] w fun e w' => e = .returned (.int .i64 r) ∧ Below w.heap.size w w' := by
 have hu30 := Tryz.underlying30; have hu65 := Tryz.underlying65; have Hq := aM hr0_0; have Kq := aM hc0_0; clear hr0_0 hc0_0; have HB := b0 w; have H : (spec_l3Bytes.l0 k 0 lq (lq.length : Int) 0) = some r := h; clear h; have H' := aM H; clear H; go_enter Tryz.func61, Tryz.ntmps61
 go_wp2_with (first | ((with_reducible refine gd 1 rfl ?_); refine bxE 1 #[.slice Aq lq.length cq, .int .i64 aq] 30 ?_; intro gb111 hg w2 hbox hb; have BK111 := aM hbox; have GW111 := nGB hg; have GE111 := nGB hg; replace HB := nSB hb; clear hb hbox hg; have hcz3 := cb2 BK111))
 go_loopg [3, 9] k (fun kq v3 v9 w' => ∃ (x3_1 : Int) (x9_1 : Int), v3 = .int .i64 x3_1 ∧ v9 = .int .i64 x9_1 ∧ Aside0 (spec_l3Bytes.l0 kq x3_1 lq (lq.length : Int) x9_1 = some r) ∧ Aside0 (kq ≤ k) ∧ Aside0 (w'.heap[gb111]? = some (.cells #[(.slice Aq lq.length cq), .int .i64 aq] 30 (0, 0))) ∧ Aside0 (Below w.heap.size w w'))
 case atStart => exact ⟨(0), (0), sR, sR, H', ⟨Nat.le_refl _⟩, ⟨sK BK111⟩, ⟨sC⟩⟩
 case round =>
  clear H'; obtain ⟨x3_1, x9_1, rfl, rfl, HA, HK1, BK111, HB⟩ := hrel; cases gk with
  | zero => exact absurd HA.out (by simp [spec_l3Bytes.l0])
  | succ k1 =>
   have H := HA.out; clear HA; simp only [spec_l3Bytes.l0] at H; by_cases c4 : x9_1 < (lq.length : Int)
   ·rw [if_pos c4] at H; have c4b0 := decide_eq_true c4; clear c4; obtain ⟨c5, H⟩ := iN H; have c5b0 := decide_eq_true c5; clear c5; obtain ⟨c6, H⟩ := iN H; have c6b0 := decide_eq_true c6; clear c6; have H' := aM H; clear H; have p112 : 0 ≤ (x9_1 : Int) := sO; have q112 : x9_1 < (lq.length : Int) := sO; obtain ⟨ad112, A112_6, c112_6, e112, hx112_0, hx112_1, hx112_2, hx112_3, hx112_4, hx112_5, hx112_6, hl112_6, hi112_6⟩ := ab65 Hq.out HB x9_1 p112 q112; cases e112; have HR112_6 := aM hi112_6; have HC112_6 := aM hl112_6; clear hi112_6 hl112_6; replace p112 := eq_true p112; replace q112 := eq_true q112
    go_wp2_with (first | ((with_reducible refine gd 5 rfl ?_); refine bxE 5 #[.int .i64 0, .int .i64 0, .int .i64 0, .int .i64 0, .int .i64 0, .string (⟨#[]⟩ : ByteArray), .slice none 0 0] 65 ?_; intro gb113 hg w7 hbox hb; have BK113 := aM hbox; have GW113 := nGC hg; have GE113 := nGC hg; replace HB := nSC hb; have NB111_113 := nL BK111 hg; have NB113_111 := nH BK111 hg; replace BK111 := nK BK111 hb; clear hb hbox hg; have hnb8 := NB113_111.out; have hnc8 := NB111_113.out; have hcz9 := cb7 BK113))
    go_roundg k1
    case measure => have := HK1.out; omega
    case rel => exact ⟨(wrap64 (x3_1 + (((r65 lq x9_1).f5).size : Int))), (wrap64 (x9_1 + 1)), sR, sR, H', ⟨by have := HK1.out; omega⟩, ⟨sX BK111⟩, ⟨sC⟩⟩
   ·rw [if_neg c4] at H; have c4b0 := decide_eq_false c4; clear c4; obtain rfl := sI H; go_wp2; go_ret
    exact ⟨sE, sC⟩
def spec_l1Mode.f (a0 : Int) : Option (Bool) := (spec_l1In.f a0 0 511).bind fun t114 => (some t114)
theorem spec_l1Mode.calls (a0 : Int) (r : Bool) (w : World) (h : spec_l1Mode.f a0 = some r) :
  Calls Tryz.prog 82 #[.int .i64 a0] w fun e w' => e = .returned (.bool r) ∧ Drawn0 w w' := by
 have H : ((spec_l1In.f a0 0 511).bind fun t114 => (some t114)) = some r := h; clear h; obtain ⟨t114, A2, H⟩ := bS H; (try dsimp only at H); obtain rfl := sI H; go_enter Tryz.func82, Tryz.ntmps82
 go_wp2_with (first | ((with_reducible refine gt 60 rfl ?_); refine gL 60 4 Tryz.func60 #[.int .i64 a0, .int .i64 0, .int .i64 511] ?_; (with_reducible refine (spec_l1In.calls a0 0 511 t114 _ A2.out).mono ?_); rintro e w' ⟨rfl, ⟨nd, rfl⟩⟩; refine ⟨_, rfl, ?_⟩))
 go_ret
 exact eD
end Go.Proofs.YtdjceippnokimaaGreatDoor.PSat
