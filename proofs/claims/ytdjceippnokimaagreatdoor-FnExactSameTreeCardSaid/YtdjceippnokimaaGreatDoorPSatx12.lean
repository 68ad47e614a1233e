import Derived.Test.YtdjceippnokimaaGreatDoorPSatx0
namespace Go.Proofs.YtdjceippnokimaaGreatDoor.PSat
open Go.RowKit Go.Proofs.YtdjceippnokimaaGreatDoorW.PrintWords Go.Proofs.YtdjceippnokimaaGreatDoorW.PrintLast Go.Proofs.YtdjceippnokimaaGreatDoorW.PrintMore
attribute [local go_sem] max2_int min2_int max_two min_two max_three min_three max_four min_four
set_option linter.unusedVariables false
set_option linter.unusedSimpArgs false
set_option maxHeartbeats 8000000
set_option maxRecDepth 100000
/-! ### spec_l7SameTexts: function 39 -/
def spec_l7SameTexts.l0 : Nat → List ByteArray → List ByteArray → Int → Int → Option (Bool)
 | 0, _, _, _, _ => none
 | k + 1, x0, x1, x12, x13 => if x13 < x12 then (if 0 ≤ x13 then (if x13 < (x0.length : Int) then (if x13 < (x1.length : Int) then (if (rdOf ByteArray.empty x0 x13).toList = (rdOf ByteArray.empty x1 x13).toList then (spec_l7SameTexts.l0 k x0 x1 x12 (wrap64 (x13 + 1))) else (some false)) else (none)) else (none)) else (none)) else (some true)
def spec_l7SameTexts.f (k : Nat) (l0 : List ByteArray) (l1 : List ByteArray) : Option (Bool) := if (l0.length : Int) = (l1.length : Int) then (spec_l7SameTexts.l0 k l0 l1 (l0.length : Int) 0) else (some false)
theorem spec_l7SameTexts.calls (k : Nat) (A0 : Option Addr) (c0 : Nat) (l0 : List ByteArray) (A1 : Option Addr) (c1 : Nat) (l1 : List ByteArray) (r : Bool) (w : World) (hr0 : Kd.C Kd.string w A0 l0.length l0) (hc0 : l0.length ≤ c0) (hr1 : Kd.C Kd.string w A1 l1.length l1) (hc1 : l1.length ≤ c1) (h : spec_l7SameTexts.f k l0 l1 = some r) :
  Calls Tryz.prog 39 #[.slice A0 l0.length c0, .slice A1 l1.length c1] w fun e w' => e = .returned (.bool r) ∧ Drawn0 w w' := by
 have HR0 := aM hr0; have HC0 := aM hc0; clear hr0 hc0; have HR1 := aM hr1; have HC1 := aM hc1; clear hr1 hc1; have H : (if (l0.length : Int) = (l1.length : Int) then (spec_l7SameTexts.l0 k l0 l1 (l0.length : Int) 0) else (some false)) = some r := h; clear h; by_cases c3 : (l0.length : Int) = (l1.length : Int)
 ·rw [if_pos c3] at H; have c3b0 := beq_iff_eq.mpr c3; have c3b1 := bne_eq_false_iff_eq.mpr c3; have c3b2 : (l0.length == l1.length) = true := by first | simpa using c3 | (simp at c3 ⊢; omega)
  clear c3; have H' := aM H; clear H; go_enter Tryz.func39, Tryz.ntmps39; go_wp2
  repeat (go_quiet (fail); try go_wp2)
  go_loopg [13] k (fun kq v13 w' => ∃ (x13_1 : Int), v13 = .int .i64 x13_1 ∧ Aside0 (spec_l7SameTexts.l0 kq l0 l1 (l0.length : Int) x13_1 = some r) ∧ Aside0 (kq ≤ k) ∧ Drawn0 w w')
  case atStart => exact ⟨(0), sR, H', ⟨Nat.le_refl _⟩, by repeat (first | exact Drawn0.refl _ | apply Drawn0.step)⟩
  case round =>
   clear H'; obtain ⟨x13_1, rfl, HA, HK1, ⟨m1, rfl⟩⟩ := hrel; cases gk with
   | zero => exact absurd HA.out (by simp [spec_l7SameTexts.l0])
   | succ k1 =>
    have H := HA.out; clear HA; simp only [spec_l7SameTexts.l0] at H; by_cases c4 : x13_1 < (l0.length : Int)
    ·rw [if_pos c4] at H; have c4b0 := decide_eq_true c4; clear c4; obtain ⟨c5, H⟩ := iN H; have c5b0 := decide_eq_true c5; clear c5; obtain ⟨c6, H⟩ := iN H; have c6b0 := decide_eq_true c6; clear c6; obtain ⟨c7, H⟩ := iN H; have c7b0 := decide_eq_true c7; clear c7; by_cases c8 : (rdOf ByteArray.empty l0 x13_1).toList = (rdOf ByteArray.empty l1 x13_1).toList
     ·rw [if_pos c8] at H; have c8b0 := beq_iff_eq.mpr c8; have c8b1 := bne_eq_false_iff_eq.mpr c8; clear c8; have H' := aM H; clear H; have p308 : 0 ≤ (x13_1 : Int) := sO; have q308 : x13_1 < (l0.length : Int) := sO; obtain ⟨ad308, e308, hx308_0⟩ := Kd.at_string HR0.out x13_1 p308 q308; cases e308; replace p308 := eq_true p308; replace q308 := eq_true q308; have p309 : 0 ≤ (x13_1 : Int) := sO; have q309 : x13_1 < (l1.length : Int) := sO; obtain ⟨ad309, e309, hx309_0⟩ := Kd.at_string HR1.out x13_1 p309 q309; cases e309; replace p309 := eq_true p309; replace q309 := eq_true q309; go_wp2
      repeat (go_quiet (fail); try go_wp2)
      go_roundg k1
      case measure => have := HK1.out; omega
      case rel => exact ⟨(wrap64 (x13_1 + 1)), sR, H', ⟨by have := HK1.out; omega⟩, by repeat (first | exact Drawn0.refl _ | apply Drawn0.step)⟩
     ·rw [if_neg c8] at H; have c8b0 := beq_eq_false_iff_ne.mpr c8; have c8b1 := bne_iff_ne.mpr c8; obtain rfl := sI H; have p308 : 0 ≤ (x13_1 : Int) := sO; have q308 : x13_1 < (l0.length : Int) := sO; obtain ⟨ad308, e308, hx308_0⟩ := Kd.at_string HR0.out x13_1 p308 q308; cases e308; replace p308 := eq_true p308; replace q308 := eq_true q308; have p309 : 0 ≤ (x13_1 : Int) := sO; have q309 : x13_1 < (l1.length : Int) := sO; obtain ⟨ad309, e309, hx309_0⟩ := Kd.at_string HR1.out x13_1 p309 q309; cases e309; replace p309 := eq_true p309; replace q309 := eq_true q309; go_wp2
      repeat (go_quiet (fail); try go_wp2)
      go_ret
      exact eD
    ·rw [if_neg c4] at H; have c4b0 := decide_eq_false c4; clear c4; obtain rfl := sI H; go_wp2
     repeat (go_quiet (fail); try go_wp2)
     go_ret
     exact eD
 ·rw [if_neg c3] at H; have c3b0 := beq_eq_false_iff_ne.mpr c3; have c3b1 := bne_iff_ne.mpr c3; have c3b2 : (l0.length == l1.length) = false := by first | simpa using c3 | (simp at c3 ⊢; omega)
  obtain rfl := sI H; go_enter Tryz.func39, Tryz.ntmps39; go_wp2
  repeat (go_quiet (fail); try go_wp2)
  go_ret
  exact eD
end Go.Proofs.YtdjceippnokimaaGreatDoor.PSat
