import Derived.Test.YtmhjmicplaolmaaGreatDoorPRmx3
import Derived.Test.YtmhjmicplaolmaaGreatDoorPRmx4
namespace Go.Proofs.YtmhjmicplaolmaaGreatDoor.PRm
open Go.RowKit Go.Proofs.YtmhjmicplaolmaaGreatDoorW.PrintWords Go.Proofs.YtmhjmicplaolmaaGreatDoorW.PrintLast Go.Proofs.YtmhjmicplaolmaaGreatDoorW.PrintMore
attribute [local go_sem] dY dW eZ eY dH dG dX dV
set_option linter.unusedVariables false
set_option linter.unusedSimpArgs false
set_option maxHeartbeats 8000000
set_option maxRecDepth 100000
/-! ### bT: function 52 -/
def bT.j0 : Nat → Bool → List (S62) → Int → Int → Int → Int → Int → Int → ByteArray → List (S87) → Option (Bool)
 | 0, _, _, _, _, _, _, _, _, _, _ => none
 | k + 1, x58, x144000, x144001, x145000, x145001, x145002, x145003, x145004, x145005, x145006 => if x58 = true then (some false) else (if x145000 = 1 then (if (x145005.size : Int) ≤ 60 then (some ((x145006.length : Int) == 0)) else (some false)) else (if x145000 = 2 then (if x145005.toList = ([] : List UInt8) then ((aC.f k x144000 x144001 x145006).bind fun t149 => (some t149)) else (some false)) else (if x145000 = 3 then ((dz.f k x145005).bind fun t150 => (if t150 = true then (some ((x145006.length : Int) == 0)) else (some false))) else (some false))))
def bT.f (k : Nat) (lq : List (S62)) (aq : Int) (a1_0 : Int) (a1_1 : Int) (a1_2 : Int) (a1_3 : Int) (a1_4 : Int) (a1_5 : ByteArray) (l1_6 : List (S87)) : Option (Bool) := if a1_0 = 0 then (if a1_1 = 0 then (if a1_2 = 0 then (if a1_3 = 0 then (if a1_4 = 0 then (if a1_5.toList = ([] : List UInt8) then (some ((l1_6.length : Int) == 0)) else (some false)) else (some false)) else (some false)) else (some false)) else (some false)) else ((iC.f a1_1).bind fun t145 => (if t145 = true then ((ay.f a1_2 0 99).bind fun t146 => (if t146 = true then ((ay.f a1_3 0 99).bind fun t147 => (if t147 = true then ((ay.f a1_4 0 1000000).bind fun t148 => (bT.j0 k (!t148) lq aq a1_0 a1_1 a1_2 a1_3 a1_4 a1_5 l1_6)) else (bT.j0 k true lq aq a1_0 a1_1 a1_2 a1_3 a1_4 a1_5 l1_6))) else (bT.j0 k true lq aq a1_0 a1_1 a1_2 a1_3 a1_4 a1_5 l1_6))) else (bT.j0 k true lq aq a1_0 a1_1 a1_2 a1_3 a1_4 a1_5 l1_6)))
theorem bT.calls (k : Nat) (Aq : Option Addr) (cq : Nat) (lq : List (S62)) (aq : Int) (a1_0 : Int) (a1_1 : Int) (a1_2 : Int) (a1_3 : Int) (a1_4 : Int) (a1_5 : ByteArray) (A1_6 : Option Addr) (c1_6 : Nat) (l1_6 : List (S87)) (r : Bool) (w : World) (hr0_0 : Kd.C k62 w Aq lq.length lq) (hc0_0 : lq.length ≤ cq) (hr1_6 : Kd.C k87 w A1_6 l1_6.length l1_6) (hc1_6 : l1_6.length ≤ c1_6) (h : bT.f k lq aq a1_0 a1_1 a1_2 a1_3 a1_4 a1_5 l1_6 = some r) :
  Calls Tryz.prog 52 #[.agg #[.slice Aq lq.length cq, .int .i64 aq], .agg #[.int .i64 a1_0, .int .i64 a1_1, .int .i64 a1_2, .int .i64 a1_3, .int .i64 a1_4, .string a1_5, .slice A1_6 l1_6.length c1_6]] w fun e w' => e = .returned (.bool r) ∧ Below w.heap.size w w' := by
 have hu32 := Tryz.underlying32; have hu62 := Tryz.underlying62; have Hq := aM hr0_0; have Kq := aM hc0_0; clear hr0_0 hc0_0; have HR1_6 := aM hr1_6; have HC1_6 := aM hc1_6; clear hr1_6 hc1_6; have HB := b0 w; have H : (if a1_0 = 0 then (if a1_1 = 0 then (if a1_2 = 0 then (if a1_3 = 0 then (if a1_4 = 0 then (if a1_5.toList = ([] : List UInt8) then (some ((l1_6.length : Int) == 0)) else (some false)) else (some false)) else (some false)) else (some false)) else (some false)) else ((iC.f a1_1).bind fun t145 => (if t145 = true then ((ay.f a1_2 0 99).bind fun t146 => (if t146 = true then ((ay.f a1_3 0 99).bind fun t147 => (if t147 = true then ((ay.f a1_4 0 1000000).bind fun t148 => (bT.j0 k (!t148) lq aq a1_0 a1_1 a1_2 a1_3 a1_4 a1_5 l1_6)) else (bT.j0 k true lq aq a1_0 a1_1 a1_2 a1_3 a1_4 a1_5 l1_6))) else (bT.j0 k true lq aq a1_0 a1_1 a1_2 a1_3 a1_4 a1_5 l1_6))) else (bT.j0 k true lq aq a1_0 a1_1 a1_2 a1_3 a1_4 a1_5 l1_6)))) = some r := h; clear h; by_cases c3 : a1_0 = 0
 ·rw [if_pos c3] at H; obtain ⟨_, _⟩ := eQ c3; clear c3; by_cases c4 : a1_1 = 0
  ·rw [if_pos c4] at H; obtain ⟨_, _⟩ := eQ c4; clear c4; by_cases c5 : a1_2 = 0
   ·rw [if_pos c5] at H; obtain ⟨_, _⟩ := eQ c5; clear c5; by_cases c6 : a1_3 = 0
    ·rw [if_pos c6] at H; obtain ⟨_, _⟩ := eQ c6; clear c6; by_cases c7 : a1_4 = 0
     ·rw [if_pos c7] at H; obtain ⟨_, _⟩ := eQ c7; clear c7; by_cases c8 : a1_5.toList = ([] : List UInt8)
      ·rw [if_pos c8] at H; obtain ⟨_, _⟩ := eQ c8; clear c8; obtain rfl := sI H; go_enter Tryz.func52, Tryz.ntmps52
       go_wp2_with (first | ((with_reducible refine gd 2 rfl ?_); (first | refine bxE 2 #[.slice Aq lq.length cq, .int .i64 aq] 32 ?_ | refine bgE 2 #[.slice Aq lq.length cq, .int .i64 aq] 32 ?_); intro gb143 hg w9 hbox hb; have BK143 := aM hbox; have GW143 := nGB hg; replace HB := nSB hb; clear hb hbox hg) | ((with_reducible refine gd 3 rfl ?_); (first | refine bxE 3 #[.int .i64 a1_0, .int .i64 a1_1, .int .i64 a1_2, .int .i64 a1_3, .int .i64 a1_4, .string a1_5, .slice A1_6 l1_6.length c1_6] 62 ?_ | refine bgE 3 #[.int .i64 a1_0, .int .i64 a1_1, .int .i64 a1_2, .int .i64 a1_3, .int .i64 a1_4, .string a1_5, .slice A1_6 l1_6.length c1_6] 62 ?_); intro gb144 hg w10 hbox hb; have BK144 := aM hbox; have GW144 := nGC hg; replace HB := nSC hb; obtain ⟨NB143_144, NB144_143, hnb11, hnc11⟩ := nM BK143 hg; replace BK143 := nK BK143 hb; clear hb hbox hg; have hcz12 := cb7 BK144))
       go_ret
       exact ⟨sE, sC⟩
      ·exact xY
     ·rename _ => c8; exact xY
    ·rename _ => c8; exact xY
   ·rename _ => c8; exact xY
  ·rename _ => c8; exact xY
 ·rw [if_neg c3] at H; obtain ⟨_, _⟩ := nQ c3; have HC33 := aM H; clear H; go_enter Tryz.func52, Tryz.ntmps52
  go_upto_region 3 with (first | ((with_reducible refine gd 2 rfl ?_); (first | refine bxE 2 #[.slice Aq lq.length cq, .int .i64 aq] 32 ?_ | refine bgE 2 #[.slice Aq lq.length cq, .int .i64 aq] 32 ?_); intro gb143 hg w34 hbox hb; have BK143 := aM hbox; have GW143 := nGB hg; replace HB := nSB hb; clear hb hbox hg) | ((with_reducible refine gd 3 rfl ?_); (first | refine bxE 3 #[.int .i64 a1_0, .int .i64 a1_1, .int .i64 a1_2, .int .i64 a1_3, .int .i64 a1_4, .string a1_5, .slice A1_6 l1_6.length c1_6] 62 ?_ | refine bgE 3 #[.int .i64 a1_0, .int .i64 a1_1, .int .i64 a1_2, .int .i64 a1_3, .int .i64 a1_4, .string a1_5, .slice A1_6 l1_6.length c1_6] 62 ?_); intro gb144 hg w35 hbox hb; have BK144 := aM hbox; have GW144 := nGC hg; replace HB := nSC hb; obtain ⟨NB143_144, NB144_143, hnb36, hnc36⟩ := nM BK143 hg; replace BK143 := nK BK143 hb; clear hb hbox hg; have hcz37 := cb7 BK144))
  (try simp only [Act.put, List.setIfInBounds_toArray, List.set_cons_zero, List.set_cons_succ])
  go_cut [58] (fun v58 wc => ∃ (kq : Nat) (x58_32 : Bool), v58 = .bool x58_32 ∧ aa (bT.j0 kq x58_32 lq aq a1_0 a1_1 a1_2 a1_3 a1_4 a1_5 l1_6 = some r) ∧ aa (kq ≤ k) ∧ aa (wc.heap[gb143]? = some (.cells #[(.slice Aq lq.length cq), .int .i64 aq] 32 (0, 0))) ∧ aa (wc.heap[gb144]? = some (.cells #[.int .i64 a1_0, .int .i64 a1_1, .int .i64 a1_2, .int .i64 a1_3, .int .i64 a1_4, .string a1_5, (.slice A1_6 l1_6.length c1_6)] 62 (0, 0))) ∧ aa (Below w.heap.size w wc))
  case first =>
   have H := HC33.out; clear HC33; obtain ⟨t145, A38, H⟩ := bS H; (try dsimp only at H); by_cases c39 : t145 = true
   ·subst c39; rw [if_pos rfl] at H; obtain ⟨t146, A40, H⟩ := bS H; (try dsimp only at H); by_cases c41 : t146 = true
    ·subst c41; rw [if_pos rfl] at H; obtain ⟨t147, A42, H⟩ := bS H; (try dsimp only at H); by_cases c43 : t147 = true
     ·subst c43; rw [if_pos rfl] at H; obtain ⟨t148, A44, H⟩ := bS H; (try dsimp only at H); have H' := aM H; clear H; have hnb45 := NB144_143.out; have hnc45 := NB143_144.out; have hcz46 := cb7 BK144
      go_wp2_with (first | ((with_reducible refine gt 79 rfl ?_); refine gL 79 39 Tryz.func79 #[.int .i64 a1_1] ?_; (with_reducible refine (iC.calls a1_1 true _ A38.out).mono ?_); rintro e w' ⟨rfl, ⟨nd, rfl⟩⟩; refine ⟨_, rfl, ?_⟩) | (go_at_call 34; (with_reducible refine (ay.calls a1_2 0 99 true _ A40.out).mono ?_); rintro e w' ⟨rfl, ⟨nd, rfl⟩⟩) | (go_at_call 34; (with_reducible refine (ay.calls a1_3 0 99 true _ A42.out).mono ?_); rintro e w' ⟨rfl, ⟨nd, rfl⟩⟩) | (go_at_call 34; (with_reducible refine (ay.calls a1_4 0 1000000 t148 _ A44.out).mono ?_); rintro e w' ⟨rfl, ⟨nd, rfl⟩⟩))
      go_meet
      case rel => exact ⟨_, (!t148), sR, H', ⟨by first | omega | exact Nat.le_refl _⟩, ⟨sK BK143⟩, ⟨sK BK144⟩, ⟨sC⟩⟩
     ·replace c43 := Bool.eq_false_iff.mpr c43; subst c43; rw [if_neg nt] at H; have H' := aM H; clear H; have hnb47 := NB144_143.out; have hnc47 := NB143_144.out; have hcz48 := cb7 BK144
      go_wp2_with (first | ((with_reducible refine gt 79 rfl ?_); refine gL 79 39 Tryz.func79 #[.int .i64 a1_1] ?_; (with_reducible refine (iC.calls a1_1 true _ A38.out).mono ?_); rintro e w' ⟨rfl, ⟨nd, rfl⟩⟩; refine ⟨_, rfl, ?_⟩) | (go_at_call 34; (with_reducible refine (ay.calls a1_2 0 99 true _ A40.out).mono ?_); rintro e w' ⟨rfl, ⟨nd, rfl⟩⟩) | (go_at_call 34; (with_reducible refine (ay.calls a1_3 0 99 false _ A42.out).mono ?_); rintro e w' ⟨rfl, ⟨nd, rfl⟩⟩))
      go_meet
      case rel => exact ⟨_, (true), sR, H', ⟨by first | omega | exact Nat.le_refl _⟩, ⟨sK BK143⟩, ⟨sK BK144⟩, ⟨sC⟩⟩
    ·replace c41 := Bool.eq_false_iff.mpr c41; subst c41; rw [if_neg nt] at H; have H' := aM H; clear H; have hnb49 := NB144_143.out; have hnc49 := NB143_144.out; have hcz50 := cb7 BK144
     go_wp2_with (first | ((with_reducible refine gt 79 rfl ?_); refine gL 79 39 Tryz.func79 #[.int .i64 a1_1] ?_; (with_reducible refine (iC.calls a1_1 true _ A38.out).mono ?_); rintro e w' ⟨rfl, ⟨nd, rfl⟩⟩; refine ⟨_, rfl, ?_⟩) | (go_at_call 34; (with_reducible refine (ay.calls a1_2 0 99 false _ A40.out).mono ?_); rintro e w' ⟨rfl, ⟨nd, rfl⟩⟩))
     go_meet
     case rel => exact ⟨_, (true), sR, H', ⟨by first | omega | exact Nat.le_refl _⟩, ⟨sK BK143⟩, ⟨sK BK144⟩, ⟨sC⟩⟩
   ·replace c39 := Bool.eq_false_iff.mpr c39; subst c39; rw [if_neg nt] at H; have H' := aM H; clear H; have hnb51 := NB144_143.out; have hnc51 := NB143_144.out; have hcz52 := cb7 BK144
    go_wp2_with (first | ((with_reducible refine gt 79 rfl ?_); refine gL 79 39 Tryz.func79 #[.int .i64 a1_1] ?_; (with_reducible refine (iC.calls a1_1 false _ A38.out).mono ?_); rintro e w' ⟨rfl, ⟨nd, rfl⟩⟩; refine ⟨_, rfl, ?_⟩))
    go_meet
    case rel => exact ⟨_, (true), sR, H', ⟨by first | omega | exact Nat.le_refl _⟩, ⟨sK BK143⟩, ⟨sK BK144⟩, ⟨sC⟩⟩
  case rest =>
   clear HC33; obtain ⟨kq, x58_32, rfl, HA, HJ32, BK143, BK144, HB⟩ := hcut; cases kq with
   | zero => exact absurd HA.out (by simp [bT.j0])
   | succ kj32 =>
    have H := HA.out; clear HA; simp only [bT.j0] at H; by_cases c53 : x58_32 = true
    ·subst c53; rw [if_pos rfl] at H; obtain rfl := sI H; go_wp2; go_ret
     exact ⟨sE, sC⟩
    ·replace c53 := Bool.eq_false_iff.mpr c53; subst c53; rw [if_neg nt] at H; by_cases c54 : a1_0 = 1
     ·rw [if_pos c54] at H; obtain ⟨_, _⟩ := eQ c54; clear c54; by_cases c55 : (a1_5.size : Int) ≤ 60
      ·rw [if_pos c55] at H; have c55b0 := decide_eq_true c55; have c55b1 : decide (a1_5.size ≤ 60) = true := decide_eq_true (by omega); clear c55; obtain rfl := sI H; have hnb56 := NB144_143.out; have hnc56 := NB143_144.out; have hcz57 := cb7 BK144; go_wp2; go_ret
       exact ⟨sE, sC⟩
      ·rw [if_neg c55] at H; have c55b0 := decide_eq_false c55; have c55b1 : decide (a1_5.size ≤ 60) = false := decide_eq_false (by omega); clear c55; obtain rfl := sI H; have hnb58 := NB144_143.out; have hnc58 := NB143_144.out; have hcz59 := cb7 BK144; go_wp2; go_ret
       exact ⟨sE, sC⟩
     ·rw [if_neg c54] at H; obtain ⟨_, _⟩ := nQ c54; by_cases c60 : a1_0 = 2
      ·rw [if_pos c60] at H; obtain ⟨_, _⟩ := eQ c60; clear c60; by_cases c61 : a1_5.toList = ([] : List UInt8)
       ·rw [if_pos c61] at H; obtain ⟨_, _⟩ := eQ c61; clear c61; obtain ⟨t149, A62, H⟩ := bS H; (try dsimp only at H); obtain rfl := sI H; have hnb63 := NB144_143.out; have hnc63 := NB143_144.out; have hcz64 := cb7 BK144; have hcz65 := cb2 BK143
        go_wp2_with (first | (go_at_call 80; (with_reducible refine (aC.calls kj32 _ _ lq aq _ _ l1_6 t149 _ ?side1 ?side2 ?side3 ?side4 A62.out).mono ?_); (case side1 => exact sD (Kd.ax Hq.out HB.out)); (case side2 => exact Kq.out); (case side3 => exact sD (Kd.ax HR1_6.out HB.out)); (case side4 => exact HC1_6.out); rintro e w66 ⟨rfl, hb⟩; replace BK143 := nK BK143 hb; replace BK144 := nK BK144 hb; replace HB := nSC hb; try clear hb))
        go_ret
        exact ⟨sE, sC⟩
       ·rw [if_neg c61] at H; obtain ⟨_, _⟩ := nQ c61; obtain rfl := sI H; have hnb67 := NB144_143.out; have hnc67 := NB143_144.out; have hcz68 := cb7 BK144; go_wp2; go_ret
        exact ⟨sE, sC⟩
      ·rw [if_neg c60] at H; obtain ⟨_, _⟩ := nQ c60; by_cases c69 : a1_0 = 3
       ·rw [if_pos c69] at H; obtain ⟨_, _⟩ := eQ c69; clear c69; obtain ⟨t150, A70, H⟩ := bS H; (try dsimp only at H); by_cases c71 : t150 = true
        ·subst c71; rw [if_pos rfl] at H; obtain rfl := sI H; have hnb72 := NB144_143.out; have hnc72 := NB143_144.out; have hcz73 := cb7 BK144
         go_wp2_with (first | (go_at_call 81; (with_reducible refine (dz.calls kj32 a1_5 true _ A70.out).mono ?_); rintro e w74 ⟨rfl, hb⟩; replace BK143 := nK BK143 hb; replace BK144 := nK BK144 hb; replace HB := nSC hb; try clear hb; have hcz75 := cb7 BK144))
         go_ret
         exact ⟨sE, sC⟩
        ·replace c71 := Bool.eq_false_iff.mpr c71; subst c71; rw [if_neg nt] at H; obtain rfl := sI H; have hnb76 := NB144_143.out; have hnc76 := NB143_144.out; have hcz77 := cb7 BK144
         go_wp2_with (first | (go_at_call 81; (with_reducible refine (dz.calls kj32 a1_5 false _ A70.out).mono ?_); rintro e w78 ⟨rfl, hb⟩; replace BK143 := nK BK143 hb; replace BK144 := nK BK144 hb; replace HB := nSC hb; try clear hb))
         go_ret
         exact ⟨sE, sC⟩
       ·rw [if_neg c69] at H; obtain ⟨_, _⟩ := nQ c69; obtain rfl := sI H; have hnb79 := NB144_143.out; have hnc79 := NB143_144.out; have hcz80 := cb7 BK144; go_wp2; go_ret
        exact ⟨sE, sC⟩
def bC.l0 : Nat → Int → List Int → Int → Int → Option (Bool)
 | 0, _, _, _, _ => none
 | k + 1, x1, x7, x8, x9 => if x9 < x8 then (if 0 ≤ x9 then (if x9 < (x7.length : Int) then (if (rd x7 x9) = x1 then (some true) else (bC.l0 k x1 x7 x8 (wrap64 (x9 + 1)))) else (none)) else (none)) else (some false)
def bC.f (k : Nat) (l0 : List Int) (a1 : Int) : Option (Bool) := bC.l0 k a1 l0 (l0.length : Int) 0
theorem bC.calls (k : Nat) (A0 : Option Addr) (c0 : Nat) (l0 : List Int) (a1 : Int) (r : Bool) (w : World) (hr0 : Kd.C (Kd.int .i64) w A0 l0.length l0) (hc0 : l0.length ≤ c0) (h : bC.f k l0 a1 = some r) :
  Calls Tryz.prog 55 #[.slice A0 l0.length c0, .int .i64 a1] w fun e w' => e = .returned (.bool r) ∧ bR w w' := by
 have HR0 := aM hr0; have HC0 := aM hc0; clear hr0 hc0; have H : (bC.l0 k a1 l0 (l0.length : Int) 0) = some r := h; clear h; have H' := aM H; clear H; go_enter Tryz.func55, Tryz.ntmps55; go_wp2
 go_loopg [9] k (fun kq v9 w' => ∃ (x9_1 : Int), v9 = .int .i64 x9_1 ∧ aa (bC.l0 kq a1 l0 (l0.length : Int) x9_1 = some r) ∧ aa (kq ≤ k) ∧ bR w w')
 case atStart => exact ⟨(0), sR, H', ⟨Nat.le_refl _⟩, by repeat (first | exact bR.refl _ | apply bR.step)⟩
 case round =>
  clear H'; obtain ⟨x9_1, rfl, HA, HK1, ⟨m1, rfl⟩⟩ := hrel; cases gk with
  | zero => exact absurd HA.out (by simp [bC.l0])
  | succ k1 =>
   have H := HA.out; clear HA; simp only [bC.l0] at H; by_cases c3 : x9_1 < (l0.length : Int)
   ·rw [if_pos c3] at H; replace c3 := dT c3; obtain ⟨c4, H⟩ := iN H; replace c4 := dT c4; obtain ⟨c5, H⟩ := iN H; replace c5 := dT c5; by_cases c6 : (rd l0 x9_1) = a1
    ·rw [if_pos c6] at H; obtain ⟨_, _⟩ := eQ c6; clear c6; obtain rfl := sI H; obtain ⟨p151, q151, ad151, e151, hx151_0⟩ := iX (Kd.jg HR0.out x9_1); cases e151; go_wp2; go_ret
     exact eD
    ·rw [if_neg c6] at H; obtain ⟨_, _⟩ := nQ c6; have H' := aM H; clear H; obtain ⟨p151, q151, ad151, e151, hx151_0⟩ := iX (Kd.jg HR0.out x9_1); cases e151; go_wp2; go_roundg k1
     case measure => have := HK1.out; omega
     case rel => exact ⟨(wrap64 (x9_1 + 1)), sR, H', ⟨by have := HK1.out; omega⟩, by repeat (first | exact bR.refl _ | apply bR.step)⟩
   ·rw [if_neg c3] at H; replace c3 := dF c3; obtain rfl := sI H; go_wp2; go_ret
    exact eD
end Go.Proofs.YtmhjmicplaolmaaGreatDoor.PRm
