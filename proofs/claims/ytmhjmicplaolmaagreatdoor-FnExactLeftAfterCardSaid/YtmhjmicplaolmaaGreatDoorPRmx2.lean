import Derived.Test.YtmhjmicplaolmaaGreatDoorPRmx1
namespace Go.Proofs.YtmhjmicplaolmaaGreatDoor.PRm
open Go.RowKit Go.Proofs.YtmhjmicplaolmaaGreatDoorW.PrintWords Go.Proofs.YtmhjmicplaolmaaGreatDoorW.PrintLast Go.Proofs.YtmhjmicplaolmaaGreatDoorW.PrintMore
attribute [local go_sem] dY dW eZ eY dH dG dX dV
set_option linter.unusedVariables false
set_option linter.unusedSimpArgs false
set_option maxHeartbeats 8000000
set_option maxRecDepth 100000
/-! ### aK: function 96 -/
def aK.l0 : Nat → ByteArray → Int → Option (Bool)
 | 0, _, _ => none
 | k + 1, x0, x3 => if x3 < (x0.size : Int) then (if 0 ≤ x3 then (if (bt x0 x3) < 97 then (if (bt x0 x3) < 48 then (if (bt x0 x3) = 46 then (aK.l0 k x0 (wrap64 (x3 + 1))) else (if (bt x0 x3) = 95 then (aK.l0 k x0 (wrap64 (x3 + 1))) else (if (bt x0 x3) = 45 then (aK.l0 k x0 (wrap64 (x3 + 1))) else (some false)))) else (if (bt x0 x3) > 57 then (if (bt x0 x3) = 46 then (aK.l0 k x0 (wrap64 (x3 + 1))) else (if (bt x0 x3) = 95 then (aK.l0 k x0 (wrap64 (x3 + 1))) else (if (bt x0 x3) = 45 then (aK.l0 k x0 (wrap64 (x3 + 1))) else (some false)))) else (aK.l0 k x0 (wrap64 (x3 + 1))))) else (if (bt x0 x3) > 122 then (if (bt x0 x3) < 48 then (if (bt x0 x3) = 46 then (aK.l0 k x0 (wrap64 (x3 + 1))) else (if (bt x0 x3) = 95 then (aK.l0 k x0 (wrap64 (x3 + 1))) else (if (bt x0 x3) = 45 then (aK.l0 k x0 (wrap64 (x3 + 1))) else (some false)))) else (if (bt x0 x3) > 57 then (if (bt x0 x3) = 46 then (aK.l0 k x0 (wrap64 (x3 + 1))) else (if (bt x0 x3) = 95 then (aK.l0 k x0 (wrap64 (x3 + 1))) else (if (bt x0 x3) = 45 then (aK.l0 k x0 (wrap64 (x3 + 1))) else (some false)))) else (aK.l0 k x0 (wrap64 (x3 + 1))))) else (aK.l0 k x0 (wrap64 (x3 + 1))))) else (none)) else ((ay.f (x0.size : Int) 1 8).bind fun t114 => (if t114 = true then (if x0.toList = ([46] : List UInt8) then (some false) else (some (x0.toList != ([46, 46] : List UInt8)))) else (some false)))
def aK.f (k : Nat) (a0 : ByteArray) : Option (Bool) := aK.l0 k a0 0
theorem aK.calls (k : Nat) (a0 : ByteArray) (r : Bool) (w : World) (h : aK.f k a0 = some r) :
  Calls Tryz.prog 96 #[.string a0] w fun e w' => e = .returned (.bool r) ∧ bR w w' := by
 have H : (aK.l0 k a0 0) = some r := h; clear h; have H' := aM H; clear H; go_enter Tryz.func96, Tryz.ntmps96; go_wp2
 go_loopg [3] k (fun kq v3 w' => ∃ (x3_1 : Int), v3 = .int .i64 x3_1 ∧ aa (aK.l0 kq a0 x3_1 = some r) ∧ aa (kq ≤ k) ∧ bR w w')
 case atStart => exact ⟨(0), sR, H', ⟨Nat.le_refl _⟩, by repeat (first | exact bR.refl _ | apply bR.step)⟩
 case round =>
  clear H'; obtain ⟨x3_1, rfl, HA, HK1, ⟨m1, rfl⟩⟩ := hrel; cases gk with
  | zero => exact absurd HA.out (by simp [aK.l0])
  | succ k1 =>
   have H := HA.out; clear HA; simp only [aK.l0] at H; by_cases c2 : x3_1 < (a0.size : Int)
   ·rw [if_pos c2] at H; replace c2 := dT c2; obtain ⟨c3, H⟩ := iN H; replace c3 := dT c3; by_cases c5 : (bt a0 x3_1) < 97
    ·exact dB4
    ·rw [if_neg c5] at H; replace c5 := dF c5; by_cases c14 : (bt a0 x3_1) > 122
     ·rename _ => c5; exact dB4
     ·rw [if_neg c14] at H; replace c14 := dF c14; have H' := aM H; clear H; have p4 : 0 ≤ (x3_1 : Int) := sO; have q4 : x3_1 < (a0.size : Int) := sO; have hx4 := kv a0 x3_1; replace p4 := eq_true p4; replace q4 := eq_true q4; go_wp2; go_roundg k1
      case measure => have := HK1.out; omega
      case rel => exact ⟨(wrap64 (x3_1 + 1)), sR, H', ⟨by have := HK1.out; omega⟩, by repeat (first | exact bR.refl _ | apply bR.step)⟩
   ·rw [if_neg c2] at H; replace c2 := dF c2; obtain ⟨t114, A23, H⟩ := bS H; (try dsimp only at H); by_cases c24 : t114 = true
    ·subst c24; rw [if_pos rfl] at H; by_cases c25 : a0.toList = ([46] : List UInt8)
     ·rw [if_pos c25] at H; obtain ⟨_, _⟩ := eQ c25; clear c25; obtain rfl := sI H
      exact AL
     ·rw [if_neg c25] at H; obtain ⟨_, _⟩ := nQ c25; obtain rfl := sI H
      exact AL
    ·replace c24 := Bool.eq_false_iff.mpr c24; subst c24; rw [if_neg nt] at H; obtain rfl := sI H
     go_wp2_with (first | ((with_reducible refine gt 34 rfl ?_); refine gL 34 42 Tryz.func34 #[.int .i64 (a0.size : Int), .int .i64 1, .int .i64 8] ?_; (with_reducible refine (ay.calls (a0.size : Int) 1 8 false _ A23.out).mono ?_); rintro e w' ⟨rfl, ⟨nd, rfl⟩⟩; refine ⟨_, rfl, ?_⟩))
     go_ret
     exact eD
end Go.Proofs.YtmhjmicplaolmaaGreatDoor.PRm
