import Derived.Test.YtdjceippnokimaaGreatDoorPSatx0
import Derived.Test.YtdjceippnokimaaGreatDoorPSatx14
namespace Go.Proofs.YtdjceippnokimaaGreatDoor.PSat
open Go.RowKit Go.Proofs.YtdjceippnokimaaGreatDoorW.PrintWords Go.Proofs.YtdjceippnokimaaGreatDoorW.PrintLast Go.Proofs.YtdjceippnokimaaGreatDoorW.PrintMore
attribute [local go_sem] max2_int min2_int max_two min_two max_three min_three max_four min_four
set_option linter.unusedVariables false
set_option linter.unusedSimpArgs false
set_option maxHeartbeats 8000000
set_option maxRecDepth 100000
/-! ### impl_isNameByte: function 107 -/
def impl_isNameByte.f (a0 : Int) : Option (Bool) := if a0 ≥ 97 then (if a0 ≤ 122 then (some true) else (if a0 ≥ 48 then (if a0 ≤ 57 then (some true) else (if a0 = 46 then (some true) else (if a0 = 95 then (some true) else (some (a0 == 45))))) else (if a0 = 46 then (some true) else (if a0 = 95 then (some true) else (some (a0 == 45)))))) else (if a0 ≥ 48 then (if a0 ≤ 57 then (some true) else (if a0 = 46 then (some true) else (if a0 = 95 then (some true) else (some (a0 == 45))))) else (if a0 = 46 then (some true) else (if a0 = 95 then (some true) else (some (a0 == 45)))))
theorem impl_isNameByte.calls (a0 : Int) (r : Bool) (w : World) (h : impl_isNameByte.f a0 = some r) :
  Calls Tryz.prog 107 #[.int .u8 a0] w fun e w' => e = .returned (.bool r) ∧ Drawn0 w w' := by
 have H : (if a0 ≥ 97 then (if a0 ≤ 122 then (some true) else (if a0 ≥ 48 then (if a0 ≤ 57 then (some true) else (if a0 = 46 then (some true) else (if a0 = 95 then (some true) else (some (a0 == 45))))) else (if a0 = 46 then (some true) else (if a0 = 95 then (some true) else (some (a0 == 45)))))) else (if a0 ≥ 48 then (if a0 ≤ 57 then (some true) else (if a0 = 46 then (some true) else (if a0 = 95 then (some true) else (some (a0 == 45))))) else (if a0 = 46 then (some true) else (if a0 = 95 then (some true) else (some (a0 == 45)))))) = some r := h; clear h; by_cases c2 : a0 ≥ 97
 ·rw [if_pos c2] at H; have c2b0 := decide_eq_true c2; clear c2; by_cases c3 : a0 ≤ 122
  ·rw [if_pos c3] at H; have c3b0 := decide_eq_true c3; clear c3; obtain rfl := sI H; go_enter Tryz.func107, Tryz.ntmps107; go_wp2; go_ret
   exact eD
  ·rw [if_neg c3] at H; have c3b0 := decide_eq_false c3; clear c3; by_cases c4 : a0 ≥ 48
   ·rw [if_pos c4] at H; have c4b0 := decide_eq_true c4; clear c4; by_cases c5 : a0 ≤ 57
    ·rw [if_pos c5] at H; have c5b0 := decide_eq_true c5; clear c5; obtain rfl := sI H; go_enter Tryz.func107, Tryz.ntmps107; go_wp2; go_ret
     exact eD
    ·rw [if_neg c5] at H; have c5b0 := decide_eq_false c5; clear c5; by_cases c6 : a0 = 46
     ·rw [if_pos c6] at H; have c6b0 := beq_iff_eq.mpr c6; have c6b1 := bne_eq_false_iff_eq.mpr c6; clear c6; obtain rfl := sI H; go_enter Tryz.func107, Tryz.ntmps107; go_wp2; go_ret
      exact eD
     ·rw [if_neg c6] at H; have c6b0 := beq_eq_false_iff_ne.mpr c6; have c6b1 := bne_iff_ne.mpr c6; by_cases c7 : a0 = 95
      ·rw [if_pos c7] at H; have c7b0 := beq_iff_eq.mpr c7; have c7b1 := bne_eq_false_iff_eq.mpr c7; clear c7; obtain rfl := sI H; go_enter Tryz.func107, Tryz.ntmps107; go_wp2; go_ret
       exact eD
      ·rw [if_neg c7] at H; have c7b0 := beq_eq_false_iff_ne.mpr c7; have c7b1 := bne_iff_ne.mpr c7; obtain rfl := sI H; go_enter Tryz.func107, Tryz.ntmps107; go_wp2; go_ret
       exact eD
   ·rw [if_neg c4] at H; have c4b0 := decide_eq_false c4; clear c4; by_cases c8 : a0 = 46
    ·rw [if_pos c8] at H; have c8b0 := beq_iff_eq.mpr c8; have c8b1 := bne_eq_false_iff_eq.mpr c8; clear c8; obtain rfl := sI H; go_enter Tryz.func107, Tryz.ntmps107; go_wp2; go_ret
     exact eD
    ·rw [if_neg c8] at H; have c8b0 := beq_eq_false_iff_ne.mpr c8; have c8b1 := bne_iff_ne.mpr c8; by_cases c9 : a0 = 95
     ·rw [if_pos c9] at H; have c9b0 := beq_iff_eq.mpr c9; have c9b1 := bne_eq_false_iff_eq.mpr c9; clear c9; obtain rfl := sI H; go_enter Tryz.func107, Tryz.ntmps107; go_wp2; go_ret
      exact eD
     ·rw [if_neg c9] at H; have c9b0 := beq_eq_false_iff_ne.mpr c9; have c9b1 := bne_iff_ne.mpr c9; obtain rfl := sI H; go_enter Tryz.func107, Tryz.ntmps107; go_wp2; go_ret
      exact eD
 ·rw [if_neg c2] at H; have c2b0 := decide_eq_false c2; clear c2; by_cases c10 : a0 ≥ 48
  ·rw [if_pos c10] at H; have c10b0 := decide_eq_true c10; clear c10; by_cases c11 : a0 ≤ 57
   ·rw [if_pos c11] at H; have c11b0 := decide_eq_true c11; clear c11; obtain rfl := sI H; go_enter Tryz.func107, Tryz.ntmps107; go_wp2; go_ret
    exact eD
   ·rw [if_neg c11] at H; have c11b0 := decide_eq_false c11; clear c11; by_cases c12 : a0 = 46
    ·rw [if_pos c12] at H; have c12b0 := beq_iff_eq.mpr c12; have c12b1 := bne_eq_false_iff_eq.mpr c12; clear c12; obtain rfl := sI H; go_enter Tryz.func107, Tryz.ntmps107; go_wp2; go_ret
     exact eD
    ·rw [if_neg c12] at H; have c12b0 := beq_eq_false_iff_ne.mpr c12; have c12b1 := bne_iff_ne.mpr c12; by_cases c13 : a0 = 95
     ·rw [if_pos c13] at H; have c13b0 := beq_iff_eq.mpr c13; have c13b1 := bne_eq_false_iff_eq.mpr c13; clear c13; obtain rfl := sI H; go_enter Tryz.func107, Tryz.ntmps107; go_wp2; go_ret
      exact eD
     ·rw [if_neg c13] at H; have c13b0 := beq_eq_false_iff_ne.mpr c13; have c13b1 := bne_iff_ne.mpr c13; obtain rfl := sI H; go_enter Tryz.func107, Tryz.ntmps107; go_wp2; go_ret
      exact eD
  ·rw [if_neg c10] at H; have c10b0 := decide_eq_false c10; clear c10; by_cases c14 : a0 = 46
   ·rw [if_pos c14] at H; have c14b0 := beq_iff_eq.mpr c14; have c14b1 := bne_eq_false_iff_eq.mpr c14; clear c14; obtain rfl := sI H; go_enter Tryz.func107, Tryz.ntmps107; go_wp2; go_ret
    exact eD
   ·rw [if_neg c14] at H; have c14b0 := beq_eq_false_iff_ne.mpr c14; have c14b1 := bne_iff_ne.mpr c14; by_cases c15 : a0 = 95
    ·rw [if_pos c15] at H; have c15b0 := beq_iff_eq.mpr c15; have c15b1 := bne_eq_false_iff_eq.mpr c15; clear c15; obtain rfl := sI H; go_enter Tryz.func107, Tryz.ntmps107; go_wp2; go_ret
     exact eD
    ·rw [if_neg c15] at H; have c15b0 := beq_eq_false_iff_ne.mpr c15; have c15b1 := bne_iff_ne.mpr c15; obtain rfl := sI H; go_enter Tryz.func107, Tryz.ntmps107; go_wp2; go_ret
     exact eD
def impl_isPart_1.f (a0 : Int) : Option (Bool) := (impl_isNameByte.f a0).bind fun t372 => (some (!t372))
theorem impl_isPart_1.calls (a0 : Int) (r : Bool) (w : World) (h : impl_isPart_1.f a0 = some r) :
  Calls Tryz.prog 106 #[.int .u8 a0] w fun e w' => e = .returned (.bool r) ∧ Drawn0 w w' := by
 have H : ((impl_isNameByte.f a0).bind fun t372 => (some (!t372))) = some r := h; clear h; obtain ⟨t372, A2, H⟩ := bS H; (try dsimp only at H); obtain rfl := sI H; go_enter Tryz.func106, Tryz.ntmps106
 go_wp2_with (first | ((with_reducible refine gt 107 rfl ?_); refine gL 107 4 Tryz.func107 #[.int .u8 a0] ?_; (with_reducible refine (impl_isNameByte.calls a0 t372 _ A2.out).mono ?_); rintro e w' ⟨rfl, ⟨nd, rfl⟩⟩; refine ⟨_, rfl, ?_⟩))
 go_ret
 exact eD
def slices_IndexFunc_byte_byte__impl_isPart_1.l0 : Nat → List Int → Int → Int → Option (Int)
 | 0, _, _, _ => none
 | k + 1, x0, x7, x8 => if x8 < x7 then (if 0 ≤ x8 then (if x8 < (x0.length : Int) then ((impl_isPart_1.f (rd x0 x8)).bind fun t374 => (if t374 = true then (some x8) else (slices_IndexFunc_byte_byte__impl_isPart_1.l0 k x0 x7 (wrap64 (x8 + 1))))) else (none)) else (none)) else (some (-1))
def slices_IndexFunc_byte_byte__impl_isPart_1.f (k : Nat) (l0 : List Int)  : Option (Int) := slices_IndexFunc_byte_byte__impl_isPart_1.l0 k l0 (l0.length : Int) 0
theorem slices_IndexFunc_byte_byte__impl_isPart_1.calls (k : Nat) (A0 : Option Addr) (c0 : Nat) (l0 : List Int)  (r : Int) (w : World) (hr0 : Kd.C (Kd.int .u8) w A0 l0.length l0) (hc0 : l0.length ≤ c0) (h : slices_IndexFunc_byte_byte__impl_isPart_1.f k l0 = some r) :
  Calls Tryz.prog 116 #[.slice A0 l0.length c0, .func (.func 106) #[] #[]] w fun e w' => e = .returned (.int .i64 r) ∧ Below w.heap.size w w' := by
 have HR0 := aM hr0; have HC0 := aM hc0; clear hr0 hc0; have HB := b0 w; have H : (slices_IndexFunc_byte_byte__impl_isPart_1.l0 k l0 (l0.length : Int) 0) = some r := h; clear h; have H' := aM H; clear H; go_enter Tryz.func116, Tryz.ntmps116; go_wp2
 go_loopg [8] k (fun kq v8 w' => ∃ (x8_1 : Int), v8 = .int .i64 x8_1 ∧ Aside0 (slices_IndexFunc_byte_byte__impl_isPart_1.l0 kq l0 (l0.length : Int) x8_1 = some r) ∧ Aside0 (kq ≤ k) ∧ Aside0 (Below w.heap.size w w'))
 case atStart => exact ⟨(0), sR, H', ⟨Nat.le_refl _⟩, ⟨sB⟩⟩
 case round =>
  clear H'; obtain ⟨x8_1, rfl, HA, HK1, HB⟩ := hrel; cases gk with
  | zero => exact absurd HA.out (by simp [slices_IndexFunc_byte_byte__impl_isPart_1.l0])
  | succ k1 =>
   have H := HA.out; clear HA; simp only [slices_IndexFunc_byte_byte__impl_isPart_1.l0] at H; by_cases c3 : x8_1 < (l0.length : Int)
   ·rw [if_pos c3] at H; have c3b0 := decide_eq_true c3; clear c3; obtain ⟨c4, H⟩ := iN H; have c4b0 := decide_eq_true c4; clear c4; obtain ⟨c5, H⟩ := iN H; have c5b0 := decide_eq_true c5; clear c5; obtain ⟨t374, A6, H⟩ := bS H; (try dsimp only at H); by_cases c7 : t374 = true
    ·subst c7; rw [if_pos rfl] at H; obtain rfl := sI H; have p373 : 0 ≤ (x8_1 : Int) := sO; have q373 : x8_1 < (l0.length : Int) := sO; obtain ⟨ad373, e373, hx373_0⟩ := Kd.at_int HR0.out x8_1 p373 q373; cases e373; replace hx373_0 := hB HB hx373_0; replace p373 := eq_true p373; replace q373 := eq_true q373
     go_wp2_with (first | (go_at_call 106; (with_reducible refine (impl_isPart_1.calls (rd l0 x8_1) true _ A6.out).mono ?_); rintro e w' ⟨rfl, ⟨nd, rfl⟩⟩))
     go_ret
     exact ⟨sE, sB⟩
    ·replace c7 := Bool.eq_false_iff.mpr c7; subst c7; rw [if_neg nt] at H; have H' := aM H; clear H; have p373 : 0 ≤ (x8_1 : Int) := sO; have q373 : x8_1 < (l0.length : Int) := sO; obtain ⟨ad373, e373, hx373_0⟩ := Kd.at_int HR0.out x8_1 p373 q373; cases e373; replace hx373_0 := hB HB hx373_0; replace p373 := eq_true p373; replace q373 := eq_true q373
     go_wp2_with (first | (go_at_call 106; (with_reducible refine (impl_isPart_1.calls (rd l0 x8_1) false _ A6.out).mono ?_); rintro e w' ⟨rfl, ⟨nd, rfl⟩⟩))
     go_roundg k1
     case measure => have := HK1.out; omega
     case rel => exact ⟨(wrap64 (x8_1 + 1)), sR, H', ⟨by have := HK1.out; omega⟩, ⟨sB⟩⟩
   ·rw [if_neg c3] at H; have c3b0 := decide_eq_false c3; clear c3; obtain rfl := sI H; go_wp2; go_ret
    exact ⟨sE, sB⟩
def slices_ContainsFunc_byte_byte__impl_isPart_1.f (k : Nat) (l0 : List Int)  : Option (Bool) := (slices_IndexFunc_byte_byte__impl_isPart_1.f k l0).bind fun t375 => (some (decide (t375 ≥ 0)))
theorem slices_ContainsFunc_byte_byte__impl_isPart_1.calls (k : Nat) (A0 : Option Addr) (c0 : Nat) (l0 : List Int)  (r : Bool) (w : World) (hr0 : Kd.C (Kd.int .u8) w A0 l0.length l0) (hc0 : l0.length ≤ c0) (h : slices_ContainsFunc_byte_byte__impl_isPart_1.f k l0 = some r) :
  Calls Tryz.prog 105 #[.slice A0 l0.length c0, .func (.func 106) #[] #[]] w fun e w' => e = .returned (.bool r) ∧ Below w.heap.size w w' := by
 have HR0 := aM hr0; have HC0 := aM hc0; clear hr0 hc0; have HB := b0 w; have H : ((slices_IndexFunc_byte_byte__impl_isPart_1.f k l0).bind fun t375 => (some (decide (t375 ≥ 0)))) = some r := h; clear h; obtain ⟨t375, A3, H⟩ := bS H; (try dsimp only at H); obtain rfl := sI H; go_enter Tryz.func105, Tryz.ntmps105
 go_wp2_with (first | ((with_reducible refine gt 116 rfl ?_); refine gL 116 7 Tryz.func116 #[.slice A0 l0.length c0, .func (.func 106) #[] #[]] ?_; (with_reducible refine (slices_IndexFunc_byte_byte__impl_isPart_1.calls k _ _ l0  t375 _ ?side1 ?side2 A3.out).mono ?_); (case side1 => repeat (first | exact HR0.out | (with_reducible refine Kd.C_alloc ?_ _) | (with_reducible refine Kd.C_drewN ?_ _) | (with_reducible refine Kd.C_drew ?_))); (case side2 => exact HC0.out); rintro e w4 ⟨rfl, hb⟩; refine ⟨_, rfl, ?_⟩; replace HB := nSB hb; try clear hb))
 go_ret
 exact ⟨sE, sB⟩
def impl_isPart.f (k : Nat) (a0 : ByteArray) : Option Bool := (impl_within.f (a0.size : Int) 1 8).bind fun t => if t = true then ((slices_ContainsFunc_byte_byte__impl_isPart_1.f k (bytesOf a0)).bind fun b => some (!b)) else some false
theorem impl_isPart.within (n : Int) : impl_within.f n 1 8 = some (decide (1 ≤ n) && decide (n ≤ 8)) := by
 unfold impl_within.f; by_cases h : n ≥ 1
 ·rw [if_pos h]; simp [show (1 : Int) ≤ n from h]
 ·rw [if_neg h]; simp [show ¬ (1 : Int) ≤ n from h]
set_option maxHeartbeats 1000000 in
theorem impl_isPart.calls (k : Nat) (a0 : ByteArray) (r : Bool) (w : World) (h : impl_isPart.f k a0 = some r) :
  Calls Tryz.prog 99 #[.string a0] w fun e w' => e = .returned (.bool r) ∧ Below w.heap.size w w' := by
 unfold impl_isPart.f at h; rw [impl_isPart.within] at h; simp only [Option.bind_some] at h; have hw := impl_isPart.within (a0.size : Int); generalize hb : (decide (1 ≤ (a0.size : Int)) && decide ((a0.size : Int) ≤ 8)) = b at h hw; cases b with
 | false =>
  simp only [Bool.false_eq_true, if_false] at h; obtain rfl := Option.some.inj h; clear h hb; have HW := aM hw; clear hw; go_enter Tryz.func99, Tryz.ntmps99
  go_wp2_with (go_at_call 66; (with_reducible refine (impl_within.calls _ 1 8 false _ HW.out).mono ?_); rintro e w' ⟨rfl, ⟨nd, rfl⟩⟩)
  go_ret
  exact ⟨rfl, pw_below_drewN (Below.refl _ _) _⟩
 | true =>
  have hs : a0.size ≤ 8 := by simp at hb; omega
  simp only [if_true] at h; obtain ⟨b, hc, h⟩ := Option.bind_eq_some_iff.mp h; obtain rfl := Option.some.inj h; clear h hb; have HW := aM hw; have HS := aM hs
  have HCC := aM (fun (A : Option Addr) (c : Nat) (W : World) (hr : Kd.C (Kd.int .u8) W A a0.size (bytesOf a0)) (hc0 : a0.size ≤ c) =>
   (show Calls Tryz.prog 105 #[.slice A a0.size c, .func (.func 106) #[] #[]] W fun e w' => e = .returned (.bool b) ∧ Below W.heap.size W w' by
    have h := slices_ContainsFunc_byte_byte__impl_isPart_1.calls k A c (bytesOf a0) b W; rw [bytesOf_length] at h
    exact h hr hc0 hc))
  clear hw hc hs; have kb := fun W => print_bytes (P := Tryz.prog) 9 69 5 Tryz.underlying9 Tryz.underlying69 Tryz.underlying5 a0 W
  go_enter Tryz.func99, Tryz.ntmps99
  go_wp2_with (first | (go_at_call 66; (with_reducible refine (impl_within.calls _ 1 8 true _ HW.out).mono ?_); rintro e w' ⟨rfl, ⟨nd, rfl⟩⟩) | (go_at_call 105; (with_reducible refine (HCC.out _ _ _ ?hr ?hc).mono ?_); (case hr => exact Kd.C_of_reads (d := (0 : Int)) (h1 := fun _ => rfl) (bytes_reads (w.drewN nd) 5 a0 (by have := HS.out; omega))); (case hc => exact grownCap_ge _ _ _ _); rintro e w2 ⟨rfl, hb2⟩))
  go_ret
  exact ⟨rfl, below_step (bytes_below (pw_below_drewN (Below.refl _ _) _) (Nat.le_refl _) 5 a0) hb2⟩
def impl_isLong_1.f (k : Nat) (a0 : ByteArray) : Option (Bool) := (impl_isPart.f k a0).bind fun t376 => (some (!t376))
theorem impl_isLong_1.calls (k : Nat) (a0 : ByteArray) (r : Bool) (w : World) (h : impl_isLong_1.f k a0 = some r) :
  Calls Tryz.prog 104 #[.string a0] w fun e w' => e = .returned (.bool r) ∧ Below w.heap.size w w' := by
 have HB := b0 w; have H : ((impl_isPart.f k a0).bind fun t376 => (some (!t376))) = some r := h; clear h; obtain ⟨t376, A2, H⟩ := bS H; (try dsimp only at H); obtain rfl := sI H; go_enter Tryz.func104, Tryz.ntmps104
 go_wp2_with (first | ((with_reducible refine gt 99 rfl ?_); refine gL 99 4 Tryz.func99 #[.string a0] ?_; (with_reducible refine (impl_isPart.calls k a0 t376 _ A2.out).mono ?_); rintro e w3 ⟨rfl, hb⟩; refine ⟨_, rfl, ?_⟩; replace HB := nSB hb; try clear hb))
 go_ret
 exact ⟨sE, sB⟩
def slices_IndexFunc_string_string__impl_isLong_1.l0 : Nat → List ByteArray → Int → Int → Option (Int)
 | 0, _, _, _ => none
 | k + 1, x0, x7, x8 => if x8 < x7 then (if 0 ≤ x8 then (if x8 < (x0.length : Int) then ((impl_isLong_1.f k (rdOf ByteArray.empty x0 x8)).bind fun t378 => (if t378 = true then (some x8) else (slices_IndexFunc_string_string__impl_isLong_1.l0 k x0 x7 (wrap64 (x8 + 1))))) else (none)) else (none)) else (some (-1))
def slices_IndexFunc_string_string__impl_isLong_1.f (k : Nat) (l0 : List ByteArray)  : Option (Int) := slices_IndexFunc_string_string__impl_isLong_1.l0 k l0 (l0.length : Int) 0
theorem slices_IndexFunc_string_string__impl_isLong_1.calls (k : Nat) (A0 : Option Addr) (c0 : Nat) (l0 : List ByteArray)  (r : Int) (w : World) (hr0 : Kd.C Kd.string w A0 l0.length l0) (hc0 : l0.length ≤ c0) (h : slices_IndexFunc_string_string__impl_isLong_1.f k l0 = some r) :
  Calls Tryz.prog 112 #[.slice A0 l0.length c0, .func (.func 104) #[] #[]] w fun e w' => e = .returned (.int .i64 r) ∧ Below w.heap.size w w' := by
 have HR0 := aM hr0; have HC0 := aM hc0; clear hr0 hc0; have HB := b0 w; have H : (slices_IndexFunc_string_string__impl_isLong_1.l0 k l0 (l0.length : Int) 0) = some r := h; clear h; have H' := aM H; clear H; go_enter Tryz.func112, Tryz.ntmps112; go_wp2
 go_loopg [8] k (fun kq v8 w' => ∃ (x8_1 : Int), v8 = .int .i64 x8_1 ∧ Aside0 (slices_IndexFunc_string_string__impl_isLong_1.l0 kq l0 (l0.length : Int) x8_1 = some r) ∧ Aside0 (kq ≤ k) ∧ Aside0 (Below w.heap.size w w'))
 case atStart => exact ⟨(0), sR, H', ⟨Nat.le_refl _⟩, ⟨sB⟩⟩
 case round =>
  clear H'; obtain ⟨x8_1, rfl, HA, HK1, HB⟩ := hrel; cases gk with
  | zero => exact absurd HA.out (by simp [slices_IndexFunc_string_string__impl_isLong_1.l0])
  | succ k1 =>
   have H := HA.out; clear HA; simp only [slices_IndexFunc_string_string__impl_isLong_1.l0] at H; by_cases c3 : x8_1 < (l0.length : Int)
   ·rw [if_pos c3] at H; have c3b0 := decide_eq_true c3; clear c3; obtain ⟨c4, H⟩ := iN H; have c4b0 := decide_eq_true c4; clear c4; obtain ⟨c5, H⟩ := iN H; have c5b0 := decide_eq_true c5; clear c5; obtain ⟨t378, A6, H⟩ := bS H; (try dsimp only at H); by_cases c7 : t378 = true
    ·subst c7; rw [if_pos rfl] at H; obtain rfl := sI H; have p377 : 0 ≤ (x8_1 : Int) := sO; have q377 : x8_1 < (l0.length : Int) := sO; obtain ⟨ad377, e377, hx377_0⟩ := Kd.at_string HR0.out x8_1 p377 q377; cases e377; replace hx377_0 := hB HB hx377_0; replace p377 := eq_true p377; replace q377 := eq_true q377
     go_wp2_with (first | (go_at_call 104; (with_reducible refine (impl_isLong_1.calls k1 (rdOf ByteArray.empty l0 x8_1) true _ A6.out).mono ?_); rintro e w8 ⟨rfl, hb⟩; replace HB := nSB hb; try clear hb))
     go_ret
     exact ⟨sE, sB⟩
    ·replace c7 := Bool.eq_false_iff.mpr c7; subst c7; rw [if_neg nt] at H; have H' := aM H; clear H; have p377 : 0 ≤ (x8_1 : Int) := sO; have q377 : x8_1 < (l0.length : Int) := sO; obtain ⟨ad377, e377, hx377_0⟩ := Kd.at_string HR0.out x8_1 p377 q377; cases e377; replace hx377_0 := hB HB hx377_0; replace p377 := eq_true p377; replace q377 := eq_true q377
     go_wp2_with (first | (go_at_call 104; (with_reducible refine (impl_isLong_1.calls k1 (rdOf ByteArray.empty l0 x8_1) false _ A6.out).mono ?_); rintro e w9 ⟨rfl, hb⟩; replace HB := nSB hb; try clear hb))
     go_roundg k1
     case measure => have := HK1.out; omega
     case rel => exact ⟨(wrap64 (x8_1 + 1)), sR, H', ⟨by have := HK1.out; omega⟩, ⟨sB⟩⟩
   ·rw [if_neg c3] at H; have c3b0 := decide_eq_false c3; clear c3; obtain rfl := sI H; go_wp2; go_ret
    exact ⟨sE, sB⟩
def slices_ContainsFunc_string_string__impl_isLong_1.f (k : Nat) (l0 : List ByteArray)  : Option (Bool) := (slices_IndexFunc_string_string__impl_isLong_1.f k l0).bind fun t379 => (some (decide (t379 ≥ 0)))
theorem slices_ContainsFunc_string_string__impl_isLong_1.calls (k : Nat) (A0 : Option Addr) (c0 : Nat) (l0 : List ByteArray)  (r : Bool) (w : World) (hr0 : Kd.C Kd.string w A0 l0.length l0) (hc0 : l0.length ≤ c0) (h : slices_ContainsFunc_string_string__impl_isLong_1.f k l0 = some r) :
  Calls Tryz.prog 102 #[.slice A0 l0.length c0, .func (.func 104) #[] #[]] w fun e w' => e = .returned (.bool r) ∧ Below w.heap.size w w' := by
 have HR0 := aM hr0; have HC0 := aM hc0; clear hr0 hc0; have HB := b0 w; have H : ((slices_IndexFunc_string_string__impl_isLong_1.f k l0).bind fun t379 => (some (decide (t379 ≥ 0)))) = some r := h; clear h; obtain ⟨t379, A3, H⟩ := bS H; (try dsimp only at H); obtain rfl := sI H; go_enter Tryz.func102, Tryz.ntmps102
 go_wp2_with (first | ((with_reducible refine gt 112 rfl ?_); refine gL 112 7 Tryz.func112 #[.slice A0 l0.length c0, .func (.func 104) #[] #[]] ?_; (with_reducible refine (slices_IndexFunc_string_string__impl_isLong_1.calls k _ _ l0  t379 _ ?side1 ?side2 A3.out).mono ?_); (case side1 => repeat (first | exact HR0.out | (with_reducible refine Kd.C_alloc ?_ _) | (with_reducible refine Kd.C_drewN ?_ _) | (with_reducible refine Kd.C_drew ?_))); (case side2 => exact HC0.out); rintro e w4 ⟨rfl, hb⟩; refine ⟨_, rfl, ?_⟩; replace HB := nSB hb; try clear hb))
 go_ret
 exact ⟨sE, sB⟩
def impl_isLong.f (k : Nat) (a0 : ByteArray) : Option (Bool) := if a0.toList = ([] : List UInt8) then (some false) else ((impl_partsOf.f a0).bind fun t380 => ((slices_ContainsFunc_string_string__impl_isLong_1.f k t380).bind fun t383 => (some (!t383))))
theorem impl_isLong.calls (k : Nat) (a0 : ByteArray) (r : Bool) (w : World) (h : impl_isLong.f k a0 = some r) :
  Calls Tryz.prog 98 #[.string a0] w fun e w' => e = .returned (.bool r) ∧ Below w.heap.size w w' := by
 have HB := b0 w; have H : (if a0.toList = ([] : List UInt8) then (some false) else ((impl_partsOf.f a0).bind fun t380 => ((slices_ContainsFunc_string_string__impl_isLong_1.f k t380).bind fun t383 => (some (!t383))))) = some r := h; clear h; by_cases c2 : a0.toList = ([] : List UInt8)
 ·rw [if_pos c2] at H; have c2b0 := beq_iff_eq.mpr c2; have c2b1 := bne_eq_false_iff_eq.mpr c2; clear c2; obtain rfl := sI H; go_enter Tryz.func98, Tryz.ntmps98; go_wp2; go_ret
  exact ⟨sE, sB⟩
 ·rw [if_neg c2] at H; have c2b0 := beq_eq_false_iff_ne.mpr c2; have c2b1 := bne_iff_ne.mpr c2; obtain ⟨t380, A3, H⟩ := bS H; (try dsimp only at H); obtain ⟨t383, A4, H⟩ := bS H; (try dsimp only at H); obtain rfl := sI H; go_enter Tryz.func98, Tryz.ntmps98
  go_wp2_with (first | (go_at_call 103; (with_reducible refine (impl_partsOf.calls a0 t380 _ A3.out).mono ?_); rintro e w5 ⟨v381, rfl, ho0, hb⟩; have HO382 := aM (Kd.R_lower ho0 (below_size sB)); replace HB := nSB hb; try clear hb; obtain ⟨Ao6, co6, eo6⟩ := Kd.R_slice HO382.out; subst eo6) | (go_at_call 102; (with_reducible refine (slices_ContainsFunc_string_string__impl_isLong_1.calls k _ _ t380  t383 _ ?side1 ?side2 A4.out).mono ?_); (case side1 => exact sD (Kd.R_reads' HO382.out).2.2); (case side2 => exact (Kd.R_reads' HO382.out).2.1); rintro e w7 ⟨rfl, hb⟩; replace HO382 := nR HO382 hb; replace HB := nSB hb; try clear hb))
  go_ret
  exact ⟨sE, sB⟩
def impl_GoodPath.f (k : Nat) (a0 : ByteArray) : Option (Bool) := if (a0.size : Int) ≤ 60 then ((impl_isLong.f k a0).bind fun t384 => (some t384)) else (some false)
theorem impl_GoodPath.calls (k : Nat) (a0 : ByteArray) (r : Bool) (w : World) (h : impl_GoodPath.f k a0 = some r) :
  Calls Tryz.prog 90 #[.string a0] w fun e w' => e = .returned (.bool r) ∧ Below w.heap.size w w' := by
 have HB := b0 w; have H : (if (a0.size : Int) ≤ 60 then ((impl_isLong.f k a0).bind fun t384 => (some t384)) else (some false)) = some r := h; clear h; by_cases c2 : (a0.size : Int) ≤ 60
 ·rw [if_pos c2] at H; have c2b0 := decide_eq_true c2; have c2b1 : decide (a0.size ≤ 60) = true := decide_eq_true (by omega); clear c2; obtain ⟨t384, A3, H⟩ := bS H; (try dsimp only at H); obtain rfl := sI H; go_enter Tryz.func90, Tryz.ntmps90
  go_wp2_with (first | (go_at_call 98; (with_reducible refine (impl_isLong.calls k a0 t384 _ A3.out).mono ?_); rintro e w4 ⟨rfl, hb⟩; replace HB := nSB hb; try clear hb))
  go_ret
  exact ⟨sE, sB⟩
 ·rw [if_neg c2] at H; have c2b0 := decide_eq_false c2; have c2b1 : decide (a0.size ≤ 60) = false := decide_eq_false (by omega); clear c2; obtain rfl := sI H; go_enter Tryz.func90, Tryz.ntmps90; go_wp2; go_ret
  exact ⟨sE, sB⟩
def impl_isDots.f (a0 : ByteArray) : Option (Bool) := if a0.toList = ([46] : List UInt8) then (some true) else (some (a0.toList == ([46, 46] : List UInt8)))
theorem impl_isDots.calls (a0 : ByteArray) (r : Bool) (w : World) (h : impl_isDots.f a0 = some r) :
  Calls Tryz.prog 100 #[.string a0] w fun e w' => e = .returned (.bool r) ∧ Drawn0 w w' := by
 have H : (if a0.toList = ([46] : List UInt8) then (some true) else (some (a0.toList == ([46, 46] : List UInt8)))) = some r := h; clear h; by_cases c2 : a0.toList = ([46] : List UInt8)
 ·rw [if_pos c2] at H; have c2b0 := beq_iff_eq.mpr c2; have c2b1 := bne_eq_false_iff_eq.mpr c2; clear c2; obtain rfl := sI H; go_enter Tryz.func100, Tryz.ntmps100; go_wp2; go_ret
  exact eD
 ·rw [if_neg c2] at H; have c2b0 := beq_eq_false_iff_ne.mpr c2; have c2b1 := bne_iff_ne.mpr c2; obtain rfl := sI H; go_enter Tryz.func100, Tryz.ntmps100; go_wp2; go_ret
  exact eD
def impl_GoodName.f (k : Nat) (a0 : ByteArray) : Option (Bool) := (impl_isPart.f k a0).bind fun t385 => (if t385 = true then ((impl_isDots.f a0).bind fun t386 => (some (!t386))) else (some false))
theorem impl_GoodName.calls (k : Nat) (a0 : ByteArray) (r : Bool) (w : World) (h : impl_GoodName.f k a0 = some r) :
  Calls Tryz.prog 91 #[.string a0] w fun e w' => e = .returned (.bool r) ∧ Below w.heap.size w w' := by
 have HB := b0 w; have H : ((impl_isPart.f k a0).bind fun t385 => (if t385 = true then ((impl_isDots.f a0).bind fun t386 => (some (!t386))) else (some false))) = some r := h; clear h; obtain ⟨t385, A2, H⟩ := bS H; (try dsimp only at H); by_cases c3 : t385 = true
 ·subst c3; rw [if_pos rfl] at H; obtain ⟨t386, A4, H⟩ := bS H; (try dsimp only at H); obtain rfl := sI H; go_enter Tryz.func91, Tryz.ntmps91
  go_wp2_with (first | ((with_reducible refine gt 99 rfl ?_); refine gL 99 4 Tryz.func99 #[.string a0] ?_; (with_reducible refine (impl_isPart.calls k a0 true _ A2.out).mono ?_); rintro e w5 ⟨rfl, hb⟩; refine ⟨_, rfl, ?_⟩; replace HB := nSB hb; try clear hb) | (go_at_call 100; (with_reducible refine (impl_isDots.calls a0 t386 _ A4.out).mono ?_); rintro e w' ⟨rfl, ⟨nd, rfl⟩⟩))
  go_ret
  exact ⟨sE, sB⟩
 ·replace c3 := Bool.eq_false_iff.mpr c3; subst c3; rw [if_neg nt] at H; obtain rfl := sI H; go_enter Tryz.func91, Tryz.ntmps91
  go_wp2_with (first | ((with_reducible refine gt 99 rfl ?_); refine gL 99 4 Tryz.func99 #[.string a0] ?_; (with_reducible refine (impl_isPart.calls k a0 false _ A2.out).mono ?_); rintro e w6 ⟨rfl, hb⟩; refine ⟨_, rfl, ?_⟩; replace HB := nSB hb; try clear hb))
  go_ret
  exact ⟨sE, sB⟩
end Go.Proofs.YtdjceippnokimaaGreatDoor.PSat
