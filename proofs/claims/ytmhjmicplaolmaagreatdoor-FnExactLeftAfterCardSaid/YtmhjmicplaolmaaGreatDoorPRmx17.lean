import Derived.Test.YtmhjmicplaolmaaGreatDoorPRmx16
namespace Go.Proofs.YtmhjmicplaolmaaGreatDoor.PRm
open Go.RowKit Go.Proofs.YtmhjmicplaolmaaGreatDoorW.PrintWords Go.Proofs.YtmhjmicplaolmaaGreatDoorW.PrintLast Go.Proofs.YtmhjmicplaolmaaGreatDoorW.PrintMore
attribute [local go_sem] dY dW eZ eY dH dG dX dV
set_option linter.unusedVariables false
set_option linter.unusedSimpArgs false
set_option maxHeartbeats 8000000
set_option maxRecDepth 100000
/-! ### fe: function 115 -/
def fe.f (a0 : Int) : Option (Bool) := if a0 ≥ 97 then (if a0 ≤ 122 then (some true) else (if a0 ≥ 48 then (if a0 ≤ 57 then (some true) else (if a0 = 46 then (some true) else (if a0 = 95 then (some true) else (some (a0 == 45))))) else (if a0 = 46 then (some true) else (if a0 = 95 then (some true) else (some (a0 == 45)))))) else (if a0 ≥ 48 then (if a0 ≤ 57 then (some true) else (if a0 = 46 then (some true) else (if a0 = 95 then (some true) else (some (a0 == 45))))) else (if a0 = 46 then (some true) else (if a0 = 95 then (some true) else (some (a0 == 45)))))
theorem fe.calls (a0 : Int) (r : Bool) (w : World) (h : fe.f a0 = some r) :
  Calls Tryz.prog 115 #[.int .u8 a0] w fun e w' => e = .returned (.bool r) ∧ bR w w' := by
 have H : (if a0 ≥ 97 then (if a0 ≤ 122 then (some true) else (if a0 ≥ 48 then (if a0 ≤ 57 then (some true) else (if a0 = 46 then (some true) else (if a0 = 95 then (some true) else (some (a0 == 45))))) else (if a0 = 46 then (some true) else (if a0 = 95 then (some true) else (some (a0 == 45)))))) else (if a0 ≥ 48 then (if a0 ≤ 57 then (some true) else (if a0 = 46 then (some true) else (if a0 = 95 then (some true) else (some (a0 == 45))))) else (if a0 = 46 then (some true) else (if a0 = 95 then (some true) else (some (a0 == 45)))))) = some r := h; clear h; by_cases c2 : a0 ≥ 97
 ·rw [if_pos c2] at H; replace c2 := dT c2; by_cases c3 : a0 ≤ 122
  ·rw [if_pos c3] at H; replace c3 := dT c3; obtain rfl := sI H; go_enter Tryz.func115, Tryz.ntmps115; go_wp2; go_ret
   exact eD
  ·exact dB7
 ·rename _ => c3; exact dB7
def gm.f (a0 : Int) : Option (Bool) := (fe.f a0).bind fun t416 => (some (!t416))
theorem gm.calls (a0 : Int) (r : Bool) (w : World) (h : gm.f a0 = some r) :
  Calls Tryz.prog 114 #[.int .u8 a0] w fun e w' => e = .returned (.bool r) ∧ bR w w' := by
 have H : ((fe.f a0).bind fun t416 => (some (!t416))) = some r := h; clear h; obtain ⟨t416, A2, H⟩ := bS H; (try dsimp only at H); obtain rfl := sI H; go_enter Tryz.func114, Tryz.ntmps114
 go_wp2_with (first | ((with_reducible refine gt 115 rfl ?_); refine gL 115 4 Tryz.func115 #[.int .u8 a0] ?_; (with_reducible refine (fe.calls a0 t416 _ A2.out).mono ?_); rintro e w' ⟨rfl, ⟨nd, rfl⟩⟩; refine ⟨_, rfl, ?_⟩))
 go_ret
 exact eD
def au.l0 : Nat → List Int → Int → Int → Option (Int)
 | 0, _, _, _ => none
 | k + 1, x0, x7, x8 => if x8 < x7 then (if 0 ≤ x8 then (if x8 < (x0.length : Int) then ((gm.f (rd x0 x8)).bind fun t418 => (if t418 = true then (some x8) else (au.l0 k x0 x7 (wrap64 (x8 + 1))))) else (none)) else (none)) else (some (-1))
def au.f (k : Nat) (l0 : List Int)  : Option (Int) := au.l0 k l0 (l0.length : Int) 0
theorem au.calls (k : Nat) (A0 : Option Addr) (c0 : Nat) (l0 : List Int)  (r : Int) (w : World) (hr0 : Kd.C (Kd.int .u8) w A0 l0.length l0) (hc0 : l0.length ≤ c0) (h : au.f k l0 = some r) :
  Calls Tryz.prog 120 #[.slice A0 l0.length c0, .func (.func 114) #[] #[]] w fun e w' => e = .returned (.int .i64 r) ∧ Below w.heap.size w w' := by
 have HR0 := aM hr0; have HC0 := aM hc0; clear hr0 hc0; have HB := b0 w; have H : (au.l0 k l0 (l0.length : Int) 0) = some r := h; clear h; have H' := aM H; clear H; go_enter Tryz.func120, Tryz.ntmps120; go_wp2
 go_loopg [8] k (fun kq v8 w' => ∃ (x8_1 : Int), v8 = .int .i64 x8_1 ∧ aa (au.l0 kq l0 (l0.length : Int) x8_1 = some r) ∧ aa (kq ≤ k) ∧ aa (Below w.heap.size w w'))
 case atStart => exact ⟨(0), sR, H', ⟨Nat.le_refl _⟩, ⟨sB⟩⟩
 case round =>
  clear H'; obtain ⟨x8_1, rfl, HA, HK1, HB⟩ := hrel; cases gk with
  | zero => exact absurd HA.out (by simp [au.l0])
  | succ k1 =>
   have H := HA.out; clear HA; simp only [au.l0] at H; by_cases c3 : x8_1 < (l0.length : Int)
   ·rw [if_pos c3] at H; replace c3 := dT c3; obtain ⟨c4, H⟩ := iN H; replace c4 := dT c4; obtain ⟨c5, H⟩ := iN H; replace c5 := dT c5; obtain ⟨t418, A6, H⟩ := bS H; (try dsimp only at H); by_cases c7 : t418 = true
    ·subst c7; rw [if_pos rfl] at H; obtain rfl := sI H; obtain ⟨p417, q417, ad417, e417, hx417_0⟩ := iX (Kd.jg HR0.out x8_1); cases e417; replace hx417_0 := hB HB hx417_0
     go_wp2_with (first | (go_at_call 114; (with_reducible refine (gm.calls (rd l0 x8_1) true _ A6.out).mono ?_); rintro e w' ⟨rfl, ⟨nd, rfl⟩⟩))
     go_ret
     exact ⟨sE, sB⟩
    ·replace c7 := Bool.eq_false_iff.mpr c7; subst c7; rw [if_neg nt] at H; have H' := aM H; clear H; obtain ⟨p417, q417, ad417, e417, hx417_0⟩ := iX (Kd.jg HR0.out x8_1); cases e417; replace hx417_0 := hB HB hx417_0
     go_wp2_with (first | (go_at_call 114; (with_reducible refine (gm.calls (rd l0 x8_1) false _ A6.out).mono ?_); rintro e w' ⟨rfl, ⟨nd, rfl⟩⟩))
     go_roundg k1
     case measure => have := HK1.out; omega
     case rel => exact ⟨(wrap64 (x8_1 + 1)), sR, H', ⟨by have := HK1.out; omega⟩, ⟨sB⟩⟩
   ·rw [if_neg c3] at H; replace c3 := dF c3; obtain rfl := sI H; go_wp2; go_ret
    exact ⟨sE, sB⟩
def dB.f (k : Nat) (l0 : List Int)  : Option (Bool) := (au.f k l0).bind fun t419 => (some (decide (t419 ≥ 0)))
theorem dB.calls (k : Nat) (A0 : Option Addr) (c0 : Nat) (l0 : List Int)  (r : Bool) (w : World) (hr0 : Kd.C (Kd.int .u8) w A0 l0.length l0) (hc0 : l0.length ≤ c0) (h : dB.f k l0 = some r) :
  Calls Tryz.prog 113 #[.slice A0 l0.length c0, .func (.func 114) #[] #[]] w fun e w' => e = .returned (.bool r) ∧ Below w.heap.size w w' := by
 have HR0 := aM hr0; have HC0 := aM hc0; clear hr0 hc0; have HB := b0 w; have H : ((au.f k l0).bind fun t419 => (some (decide (t419 ≥ 0)))) = some r := h; clear h; obtain ⟨t419, A3, H⟩ := bS H; (try dsimp only at H); obtain rfl := sI H; go_enter Tryz.func113, Tryz.ntmps113
 go_wp2_with (first | ((with_reducible refine gt 120 rfl ?_); refine gL 120 7 Tryz.func120 #[.slice A0 l0.length c0, .func (.func 114) #[] #[]] ?_; (with_reducible refine (au.calls k _ _ l0  t419 _ ?side1 ?side2 A3.out).mono ?_); (case side1 => repeat (first | exact HR0.out | (with_reducible refine Kd.C_alloc ?_ _) | (with_reducible refine Kd.C_drewN ?_ _) | (with_reducible refine Kd.dO ?_))); (case side2 => exact HC0.out); rintro e w4 ⟨rfl, hb⟩; refine ⟨_, rfl, ?_⟩; replace HB := nSB hb; try clear hb))
 go_ret
 exact ⟨sE, sB⟩
def d9.f (k : Nat) (a0 : ByteArray) : Option Bool := (aG.f (a0.size : Int) 1 8).bind fun t => if t = true then ((dB.f k (bytesOf a0)).bind fun b => some (!b)) else some false
theorem d9.within (n : Int) : aG.f n 1 8 = some (decide (1 ≤ n) && decide (n ≤ 8)) := by
 unfold aG.f; by_cases h : n ≥ 1
 ·rw [if_pos h]; simp [show (1 : Int) ≤ n from h]
 ·rw [if_neg h]; simp [show ¬ (1 : Int) ≤ n from h]
set_option maxHeartbeats 1000000 in
theorem d9.calls (k : Nat) (a0 : ByteArray) (r : Bool) (w : World) (h : d9.f k a0 = some r) :
  Calls Tryz.prog 107 #[.string a0] w fun e w' => e = .returned (.bool r) ∧ Below w.heap.size w w' := by
 unfold d9.f at h; rw [d9.within] at h; simp only [Option.bind_some] at h; have hw := d9.within (a0.size : Int); generalize hb : (decide (1 ≤ (a0.size : Int)) && decide ((a0.size : Int) ≤ 8)) = b at h hw; cases b with
 | false =>
  simp only [Bool.false_eq_true, if_false] at h; obtain rfl := Option.some.inj h; clear h hb; have HW := aM hw; clear hw; go_enter Tryz.func107, Tryz.ntmps107
  go_wp2_with (go_at_call 64; (with_reducible refine (aG.calls _ 1 8 false _ HW.out).mono ?_); rintro e w' ⟨rfl, ⟨nd, rfl⟩⟩)
  go_ret
  exact ⟨rfl, bQ (Below.refl _ _) _⟩
 | true =>
  have hs : a0.size ≤ 8 := by simp at hb; omega
  simp only [if_true] at h; obtain ⟨b, hc, h⟩ := Option.bind_eq_some_iff.mp h; obtain rfl := Option.some.inj h; clear h hb; have HW := aM hw; have HS := aM hs
  have HCC := aM (fun (A : Option Addr) (c : Nat) (W : World) (hr : Kd.C (Kd.int .u8) W A a0.size (bytesOf a0)) (hc0 : a0.size ≤ c) =>
   (show Calls Tryz.prog 113 #[.slice A a0.size c, .func (.func 114) #[] #[]] W fun e w' => e = .returned (.bool b) ∧ Below W.heap.size W w' by
    have h := dB.calls k A c (bytesOf a0) b W; rw [bytesOf_length] at h
    exact h hr hc0 hc))
  clear hw hc hs; have kb := fun W => sZ (P := Tryz.prog) 9 93 5 Tryz.underlying9 Tryz.underlying93 Tryz.underlying5 a0 W
  go_enter Tryz.func107, Tryz.ntmps107
  go_wp2_with (first | (go_at_call 64; (with_reducible refine (aG.calls _ 1 8 true _ HW.out).mono ?_); rintro e w' ⟨rfl, ⟨nd, rfl⟩⟩) | (go_at_call 113; (with_reducible refine (HCC.out _ _ _ ?hr ?hc).mono ?_); (case hr => exact Kd.vw (d := (0 : Int)) (h1 := fun _ => rfl) (tY (w.drewN nd) 5 a0 (by have := HS.out; omega))); (case hc => exact grownCap_ge _ _ _ _); rintro e w2 ⟨rfl, hb2⟩))
  go_ret
  exact ⟨rfl, mQ (tZ (bQ (Below.refl _ _) _) (Nat.le_refl _) 5 a0) hb2⟩
def gp.f (k : Nat) (a0 : ByteArray) : Option (Bool) := (d9.f k a0).bind fun t420 => (some (!t420))
theorem gp.calls (k : Nat) (a0 : ByteArray) (r : Bool) (w : World) (h : gp.f k a0 = some r) :
  Calls Tryz.prog 112 #[.string a0] w fun e w' => e = .returned (.bool r) ∧ Below w.heap.size w w' := by
 have HB := b0 w; have H : ((d9.f k a0).bind fun t420 => (some (!t420))) = some r := h; clear h; obtain ⟨t420, A2, H⟩ := bS H; (try dsimp only at H); obtain rfl := sI H; go_enter Tryz.func112, Tryz.ntmps112
 go_wp2_with (first | ((with_reducible refine gt 107 rfl ?_); refine gL 107 4 Tryz.func107 #[.string a0] ?_; (with_reducible refine (d9.calls k a0 t420 _ A2.out).mono ?_); rintro e w3 ⟨rfl, hb⟩; refine ⟨_, rfl, ?_⟩; replace HB := nSB hb; try clear hb))
 go_ret
 exact ⟨sE, sB⟩
def ak.l0 : Nat → List ByteArray → Int → Int → Option (Int)
 | 0, _, _, _ => none
 | k + 1, x0, x7, x8 => if x8 < x7 then (if 0 ≤ x8 then (if x8 < (x0.length : Int) then ((gp.f k (dx ByteArray.empty x0 x8)).bind fun t422 => (if t422 = true then (some x8) else (ak.l0 k x0 x7 (wrap64 (x8 + 1))))) else (none)) else (none)) else (some (-1))
def ak.f (k : Nat) (l0 : List ByteArray)  : Option (Int) := ak.l0 k l0 (l0.length : Int) 0
theorem ak.calls (k : Nat) (A0 : Option Addr) (c0 : Nat) (l0 : List ByteArray)  (r : Int) (w : World) (hr0 : Kd.C Kd.string w A0 l0.length l0) (hc0 : l0.length ≤ c0) (h : ak.f k l0 = some r) :
  Calls Tryz.prog 116 #[.slice A0 l0.length c0, .func (.func 112) #[] #[]] w fun e w' => e = .returned (.int .i64 r) ∧ Below w.heap.size w w' := by
 have HR0 := aM hr0; have HC0 := aM hc0; clear hr0 hc0; have HB := b0 w; have H : (ak.l0 k l0 (l0.length : Int) 0) = some r := h; clear h; have H' := aM H; clear H; go_enter Tryz.func116, Tryz.ntmps116; go_wp2
 go_loopg [8] k (fun kq v8 w' => ∃ (x8_1 : Int), v8 = .int .i64 x8_1 ∧ aa (ak.l0 kq l0 (l0.length : Int) x8_1 = some r) ∧ aa (kq ≤ k) ∧ aa (Below w.heap.size w w'))
 case atStart => exact ⟨(0), sR, H', ⟨Nat.le_refl _⟩, ⟨sB⟩⟩
 case round =>
  clear H'; obtain ⟨x8_1, rfl, HA, HK1, HB⟩ := hrel; cases gk with
  | zero => exact absurd HA.out (by simp [ak.l0])
  | succ k1 =>
   have H := HA.out; clear HA; simp only [ak.l0] at H; by_cases c3 : x8_1 < (l0.length : Int)
   ·rw [if_pos c3] at H; replace c3 := dT c3; obtain ⟨c4, H⟩ := iN H; replace c4 := dT c4; obtain ⟨c5, H⟩ := iN H; replace c5 := dT c5; obtain ⟨t422, A6, H⟩ := bS H; (try dsimp only at H); by_cases c7 : t422 = true
    ·subst c7; rw [if_pos rfl] at H; obtain rfl := sI H; obtain ⟨p421, q421, ad421, e421, hx421_0⟩ := iX (Kd.ek HR0.out x8_1); cases e421; replace hx421_0 := hB HB hx421_0
     go_wp2_with (first | (go_at_call 112; (with_reducible refine (gp.calls k1 (dx ByteArray.empty l0 x8_1) true _ A6.out).mono ?_); rintro e w8 ⟨rfl, hb⟩; replace HB := nSB hb; try clear hb))
     go_ret
     exact ⟨sE, sB⟩
    ·replace c7 := Bool.eq_false_iff.mpr c7; subst c7; rw [if_neg nt] at H; have H' := aM H; clear H; obtain ⟨p421, q421, ad421, e421, hx421_0⟩ := iX (Kd.ek HR0.out x8_1); cases e421; replace hx421_0 := hB HB hx421_0
     go_wp2_with (first | (go_at_call 112; (with_reducible refine (gp.calls k1 (dx ByteArray.empty l0 x8_1) false _ A6.out).mono ?_); rintro e w9 ⟨rfl, hb⟩; replace HB := nSB hb; try clear hb))
     go_roundg k1
     case measure => have := HK1.out; omega
     case rel => exact ⟨(wrap64 (x8_1 + 1)), sR, H', ⟨by have := HK1.out; omega⟩, ⟨sB⟩⟩
   ·rw [if_neg c3] at H; replace c3 := dF c3; obtain rfl := sI H; go_wp2; go_ret
    exact ⟨sE, sB⟩
def bP.f (k : Nat) (l0 : List ByteArray)  : Option (Bool) := (ak.f k l0).bind fun t423 => (some (decide (t423 ≥ 0)))
theorem bP.calls (k : Nat) (A0 : Option Addr) (c0 : Nat) (l0 : List ByteArray)  (r : Bool) (w : World) (hr0 : Kd.C Kd.string w A0 l0.length l0) (hc0 : l0.length ≤ c0) (h : bP.f k l0 = some r) :
  Calls Tryz.prog 110 #[.slice A0 l0.length c0, .func (.func 112) #[] #[]] w fun e w' => e = .returned (.bool r) ∧ Below w.heap.size w w' := by
 have HR0 := aM hr0; have HC0 := aM hc0; clear hr0 hc0; have HB := b0 w; have H : ((ak.f k l0).bind fun t423 => (some (decide (t423 ≥ 0)))) = some r := h; clear h; obtain ⟨t423, A3, H⟩ := bS H; (try dsimp only at H); obtain rfl := sI H; go_enter Tryz.func110, Tryz.ntmps110
 go_wp2_with (first | ((with_reducible refine gt 116 rfl ?_); refine gL 116 7 Tryz.func116 #[.slice A0 l0.length c0, .func (.func 112) #[] #[]] ?_; (with_reducible refine (ak.calls k _ _ l0  t423 _ ?side1 ?side2 A3.out).mono ?_); (case side1 => repeat (first | exact HR0.out | (with_reducible refine Kd.C_alloc ?_ _) | (with_reducible refine Kd.C_drewN ?_ _) | (with_reducible refine Kd.dO ?_))); (case side2 => exact HC0.out); rintro e w4 ⟨rfl, hb⟩; refine ⟨_, rfl, ?_⟩; replace HB := nSB hb; try clear hb))
 go_ret
 exact ⟨sE, sB⟩
def iE.f (k : Nat) (a0 : ByteArray) : Option (Bool) := if a0.toList = ([] : List UInt8) then (some false) else ((bD.f a0).bind fun t424 => ((bP.f k t424).bind fun t427 => (some (!t427))))
theorem iE.calls (k : Nat) (a0 : ByteArray) (r : Bool) (w : World) (h : iE.f k a0 = some r) :
  Calls Tryz.prog 106 #[.string a0] w fun e w' => e = .returned (.bool r) ∧ Below w.heap.size w w' := by
 have HB := b0 w; have H : (if a0.toList = ([] : List UInt8) then (some false) else ((bD.f a0).bind fun t424 => ((bP.f k t424).bind fun t427 => (some (!t427))))) = some r := h; clear h; by_cases c2 : a0.toList = ([] : List UInt8)
 ·rw [if_pos c2] at H; obtain ⟨c2b0, c2b1⟩ := eQ c2; clear c2; obtain rfl := sI H; go_enter Tryz.func106, Tryz.ntmps106; go_wp2; go_ret
  exact ⟨sE, sB⟩
 ·rw [if_neg c2] at H; obtain ⟨c2b0, c2b1⟩ := nQ c2; obtain ⟨t424, A3, H⟩ := bS H; (try dsimp only at H); obtain ⟨t427, A4, H⟩ := bS H; (try dsimp only at H); obtain rfl := sI H; go_enter Tryz.func106, Tryz.ntmps106
  go_wp2_with (first | (go_at_call 111; (with_reducible refine (bD.calls a0 t424 _ A3.out).mono ?_); rintro e w5 ⟨v425, rfl, ho0, hb⟩; have HO426 := aM (Kd.dA ho0 (aA sB)); replace HB := nSB hb; try clear hb; obtain ⟨Ao6, co6, eo6⟩ := Kd.aU HO426.out; subst eo6) | (go_at_call 110; (with_reducible refine (bP.calls k _ _ t424  t427 _ ?side1 ?side2 A4.out).mono ?_); (case side1 => exact sD (Kd.ai HO426.out).2.2); (case side2 => exact (Kd.ai HO426.out).2.1); rintro e w7 ⟨rfl, hb⟩; replace HO426 := nR HO426 hb; replace HB := nSB hb; try clear hb))
  go_ret
  exact ⟨sE, sB⟩
def gq.f (k : Nat) (a0 : ByteArray) : Option (Bool) := if (a0.size : Int) ≤ 60 then ((iE.f k a0).bind fun t428 => (some t428)) else (some false)
theorem gq.calls (k : Nat) (a0 : ByteArray) (r : Bool) (w : World) (h : gq.f k a0 = some r) :
  Calls Tryz.prog 100 #[.string a0] w fun e w' => e = .returned (.bool r) ∧ Below w.heap.size w w' := by
 have HB := b0 w; have H : (if (a0.size : Int) ≤ 60 then ((iE.f k a0).bind fun t428 => (some t428)) else (some false)) = some r := h; clear h; by_cases c2 : (a0.size : Int) ≤ 60
 ·rw [if_pos c2] at H; have c2b0 := decide_eq_true c2; have c2b1 : decide (a0.size ≤ 60) = true := decide_eq_true (by omega); clear c2; obtain ⟨t428, A3, H⟩ := bS H; (try dsimp only at H); obtain rfl := sI H; go_enter Tryz.func100, Tryz.ntmps100
  go_wp2_with (first | (go_at_call 106; (with_reducible refine (iE.calls k a0 t428 _ A3.out).mono ?_); rintro e w4 ⟨rfl, hb⟩; replace HB := nSB hb; try clear hb))
  go_ret
  exact ⟨sE, sB⟩
 ·rw [if_neg c2] at H; have c2b0 := decide_eq_false c2; have c2b1 : decide (a0.size ≤ 60) = false := decide_eq_false (by omega); clear c2; obtain rfl := sI H; go_enter Tryz.func100, Tryz.ntmps100; go_wp2; go_ret
  exact ⟨sE, sB⟩
def iF.f (a0 : ByteArray) : Option (Bool) := if a0.toList = ([46] : List UInt8) then (some true) else (some (a0.toList == ([46, 46] : List UInt8)))
theorem iF.calls (a0 : ByteArray) (r : Bool) (w : World) (h : iF.f a0 = some r) :
  Calls Tryz.prog 108 #[.string a0] w fun e w' => e = .returned (.bool r) ∧ bR w w' := by
 have H : (if a0.toList = ([46] : List UInt8) then (some true) else (some (a0.toList == ([46, 46] : List UInt8)))) = some r := h; clear h; by_cases c2 : a0.toList = ([46] : List UInt8)
 ·rw [if_pos c2] at H; obtain ⟨c2b0, c2b1⟩ := eQ c2; clear c2; obtain rfl := sI H; go_enter Tryz.func108, Tryz.ntmps108; go_wp2; go_ret
  exact eD
 ·rw [if_neg c2] at H; obtain ⟨c2b0, c2b1⟩ := nQ c2; obtain rfl := sI H; go_enter Tryz.func108, Tryz.ntmps108; go_wp2; go_ret
  exact eD
def eP.f (k : Nat) (a0 : ByteArray) : Option (Bool) := (d9.f k a0).bind fun t429 => (if t429 = true then ((iF.f a0).bind fun t430 => (some (!t430))) else (some false))
theorem eP.calls (k : Nat) (a0 : ByteArray) (r : Bool) (w : World) (h : eP.f k a0 = some r) :
  Calls Tryz.prog 101 #[.string a0] w fun e w' => e = .returned (.bool r) ∧ Below w.heap.size w w' := by
 have HB := b0 w; have H : ((d9.f k a0).bind fun t429 => (if t429 = true then ((iF.f a0).bind fun t430 => (some (!t430))) else (some false))) = some r := h; clear h; obtain ⟨t429, A2, H⟩ := bS H; (try dsimp only at H); by_cases c3 : t429 = true
 ·subst c3; rw [if_pos rfl] at H; obtain ⟨t430, A4, H⟩ := bS H; (try dsimp only at H); obtain rfl := sI H; go_enter Tryz.func101, Tryz.ntmps101
  go_wp2_with (first | ((with_reducible refine gt 107 rfl ?_); refine gL 107 4 Tryz.func107 #[.string a0] ?_; (with_reducible refine (d9.calls k a0 true _ A2.out).mono ?_); rintro e w5 ⟨rfl, hb⟩; refine ⟨_, rfl, ?_⟩; replace HB := nSB hb; try clear hb) | (go_at_call 108; (with_reducible refine (iF.calls a0 t430 _ A4.out).mono ?_); rintro e w' ⟨rfl, ⟨nd, rfl⟩⟩))
  go_ret
  exact ⟨sE, sB⟩
 ·replace c3 := Bool.eq_false_iff.mpr c3; subst c3; rw [if_neg nt] at H; obtain rfl := sI H; go_enter Tryz.func101, Tryz.ntmps101
  go_wp2_with (first | ((with_reducible refine gt 107 rfl ?_); refine gL 107 4 Tryz.func107 #[.string a0] ?_; (with_reducible refine (d9.calls k a0 false _ A2.out).mono ?_); rintro e w6 ⟨rfl, hb⟩; refine ⟨_, rfl, ?_⟩; replace HB := nSB hb; try clear hb))
  go_ret
  exact ⟨sE, sB⟩
end Go.Proofs.YtmhjmicplaolmaaGreatDoor.PRm
