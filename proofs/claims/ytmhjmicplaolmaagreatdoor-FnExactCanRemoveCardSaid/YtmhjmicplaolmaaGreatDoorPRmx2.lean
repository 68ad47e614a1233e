import Derived.Test.YtmhjmicplaolmaaGreatDoorPRmx0
import Derived.Test.YtmhjmicplaolmaaGreatDoorPRmx1
namespace Go.Proofs.YtmhjmicplaolmaaGreatDoor.PRm
open Go.RowKit Go.Proofs.YtmhjmicplaolmaaGreatDoorW.PrintWords Go.Proofs.YtmhjmicplaolmaaGreatDoorW.PrintLast Go.Proofs.YtmhjmicplaolmaaGreatDoorW.PrintMore
attribute [local go_sem] max2_int min2_int max_two min_two max_three min_three max_four min_four
set_option linter.unusedVariables false
set_option linter.unusedSimpArgs false
set_option maxHeartbeats 8000000
set_option maxRecDepth 100000
/-! ### spec_l2Name: function 96 -/
def spec_l2Name.l0 : Nat → ByteArray → Int → Option (Bool)
 | 0, _, _ => none
 | k + 1, x0, x3 => if x3 < (x0.size : Int) then (if 0 ≤ x3 then (if (bt x0 x3) < 97 then (if (bt x0 x3) < 48 then (if (bt x0 x3) = 46 then (spec_l2Name.l0 k x0 (wrap64 (x3 + 1))) else (if (bt x0 x3) = 95 then (spec_l2Name.l0 k x0 (wrap64 (x3 + 1))) else (if (bt x0 x3) = 45 then (spec_l2Name.l0 k x0 (wrap64 (x3 + 1))) else (some false)))) else (if (bt x0 x3) > 57 then (if (bt x0 x3) = 46 then (spec_l2Name.l0 k x0 (wrap64 (x3 + 1))) else (if (bt x0 x3) = 95 then (spec_l2Name.l0 k x0 (wrap64 (x3 + 1))) else (if (bt x0 x3) = 45 then (spec_l2Name.l0 k x0 (wrap64 (x3 + 1))) else (some false)))) else (spec_l2Name.l0 k x0 (wrap64 (x3 + 1))))) else (if (bt x0 x3) > 122 then (if (bt x0 x3) < 48 then (if (bt x0 x3) = 46 then (spec_l2Name.l0 k x0 (wrap64 (x3 + 1))) else (if (bt x0 x3) = 95 then (spec_l2Name.l0 k x0 (wrap64 (x3 + 1))) else (if (bt x0 x3) = 45 then (spec_l2Name.l0 k x0 (wrap64 (x3 + 1))) else (some false)))) else (if (bt x0 x3) > 57 then (if (bt x0 x3) = 46 then (spec_l2Name.l0 k x0 (wrap64 (x3 + 1))) else (if (bt x0 x3) = 95 then (spec_l2Name.l0 k x0 (wrap64 (x3 + 1))) else (if (bt x0 x3) = 45 then (spec_l2Name.l0 k x0 (wrap64 (x3 + 1))) else (some false)))) else (spec_l2Name.l0 k x0 (wrap64 (x3 + 1))))) else (spec_l2Name.l0 k x0 (wrap64 (x3 + 1))))) else (none)) else ((spec_l1In.f (x0.size : Int) 1 8).bind fun t114 => (if t114 = true then (if x0.toList = ([46] : List UInt8) then (some false) else (some (x0.toList != ([46, 46] : List UInt8)))) else (some false)))
def spec_l2Name.f (k : Nat) (a0 : ByteArray) : Option (Bool) := spec_l2Name.l0 k a0 0
theorem spec_l2Name.calls (k : Nat) (a0 : ByteArray) (r : Bool) (w : World) (h : spec_l2Name.f k a0 = some r) :
  Calls Tryz.prog 96 #[.string a0] w fun e w' => e = .returned (.bool r) ∧ Drawn0 w w' := by
 have H : (spec_l2Name.l0 k a0 0) = some r := h; clear h; have H' := aM H; clear H; go_enter Tryz.func96, Tryz.ntmps96; go_wp2
 go_loopg [3] k (fun kq v3 w' => ∃ (x3_1 : Int), v3 = .int .i64 x3_1 ∧ Aside0 (spec_l2Name.l0 kq a0 x3_1 = some r) ∧ Aside0 (kq ≤ k) ∧ Drawn0 w w')
 case atStart => exact ⟨(0), sR, H', ⟨Nat.le_refl _⟩, by repeat (first | exact Drawn0.refl _ | apply Drawn0.step)⟩
 case round =>
  clear H'; obtain ⟨x3_1, rfl, HA, HK1, ⟨m1, rfl⟩⟩ := hrel; cases gk with
  | zero => exact absurd HA.out (by simp [spec_l2Name.l0])
  | succ k1 =>
   have H := HA.out; clear HA; simp only [spec_l2Name.l0] at H; by_cases c2 : x3_1 < (a0.size : Int)
   ·rw [if_pos c2] at H; have c2b0 := decide_eq_true c2; clear c2; obtain ⟨c3, H⟩ := iN H; have c3b0 := decide_eq_true c3; clear c3; by_cases c5 : (bt a0 x3_1) < 97
    ·exact dB3
    ·rw [if_neg c5] at H; have c5b0 := decide_eq_false c5; clear c5; by_cases c14 : (bt a0 x3_1) > 122
     ·rename _ => c5; exact dB3
     ·rw [if_neg c14] at H; have c14b0 := decide_eq_false c14; clear c14; have H' := aM H; clear H; have p4 : 0 ≤ (x3_1 : Int) := sO; have q4 : x3_1 < (a0.size : Int) := sO; have hx4 := bt_at a0 x3_1; replace p4 := eq_true p4; replace q4 := eq_true q4; go_wp2; go_roundg k1
      case measure => have := HK1.out; omega
      case rel => exact ⟨(wrap64 (x3_1 + 1)), sR, H', ⟨by have := HK1.out; omega⟩, by repeat (first | exact Drawn0.refl _ | apply Drawn0.step)⟩
   ·rw [if_neg c2] at H; have c2b0 := decide_eq_false c2; clear c2; obtain ⟨t114, A23, H⟩ := bS H; (try dsimp only at H); by_cases c24 : t114 = true
    ·subst c24; rw [if_pos rfl] at H; by_cases c25 : a0.toList = ([46] : List UInt8)
     ·rw [if_pos c25] at H; have c25b0 := beq_iff_eq.mpr c25; have c25b1 := bne_eq_false_iff_eq.mpr c25; clear c25; obtain rfl := sI H
      go_wp2_with (first | ((with_reducible refine gt 34 rfl ?_); refine gL 34 42 Tryz.func34 #[.int .i64 (a0.size : Int), .int .i64 1, .int .i64 8] ?_; (with_reducible refine (spec_l1In.calls (a0.size : Int) 1 8 true _ A23.out).mono ?_); rintro e w' ⟨rfl, ⟨nd, rfl⟩⟩; refine ⟨_, rfl, ?_⟩))
      go_ret
      exact eD
     ·rw [if_neg c25] at H; have c25b0 := beq_eq_false_iff_ne.mpr c25; have c25b1 := bne_iff_ne.mpr c25; obtain rfl := sI H
      go_wp2_with (first | ((with_reducible refine gt 34 rfl ?_); refine gL 34 42 Tryz.func34 #[.int .i64 (a0.size : Int), .int .i64 1, .int .i64 8] ?_; (with_reducible refine (spec_l1In.calls (a0.size : Int) 1 8 true _ A23.out).mono ?_); rintro e w' ⟨rfl, ⟨nd, rfl⟩⟩; refine ⟨_, rfl, ?_⟩))
      go_ret
      exact eD
    ·replace c24 := Bool.eq_false_iff.mpr c24; subst c24; rw [if_neg nt] at H; obtain rfl := sI H
     go_wp2_with (first | ((with_reducible refine gt 34 rfl ?_); refine gL 34 42 Tryz.func34 #[.int .i64 (a0.size : Int), .int .i64 1, .int .i64 8] ?_; (with_reducible refine (spec_l1In.calls (a0.size : Int) 1 8 false _ A23.out).mono ?_); rintro e w' ⟨rfl, ⟨nd, rfl⟩⟩; refine ⟨_, rfl, ?_⟩))
     go_ret
     exact eD
end Go.Proofs.YtmhjmicplaolmaaGreatDoor.PRm
