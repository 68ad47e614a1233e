-- Written by a program of this session (wip/print2) out of the translation. Lean checks it.
import Derived.Test.YtnmiglfmainhiaaGreatDoorPNbx0
import Derived.Test.YtnmiglfmainhiaaGreatDoorPNbx10
namespace Go.Proofs.YtnmiglfmainhiaaGreatDoor.PNb
open Go.RowKit Go.Proofs.YtnmiglfmainhiaaGreatDoorW.PrintWords Go.Proofs.YtnmiglfmainhiaaGreatDoorW.PrintLast Go.Proofs.YtnmiglfmainhiaaGreatDoorW.PrintMore
attribute [local go_sem] max2_int min2_int max_two min_two max_three min_three max_four min_four   -- for this text's walks alone
set_option linter.unusedVariables false
set_option linter.unusedSimpArgs false
set_option maxHeartbeats 8000000
set_option maxRecDepth 100000

/-! ### impl_isPart: function 176 -/
def impl_isPart.f (k : Nat) (a0 : ByteArray) : Option Bool := (impl_within.f (a0.size : Int) 1 8).bind fun t => if t = true then ((slices_ContainsFunc_byte_byte__impl_isPart_1.f k (bytesOf a0)).bind fun b => some (!b)) else some false
theorem impl_isPart.mono : ∀ a0 k, LeO (impl_isPart.f k a0) (impl_isPart.f (k + 1) a0) := by
 intro a0 k
 unfold impl_isPart.f
 refine LeO.bind (LeO.refl _) (fun t => ?_)
 refine LeO.ite ?_ (LeO.refl _)
 exact LeO.bind (slices_ContainsFunc_byte_byte__impl_isPart_1.mono _ _) (fun _ => LeO.refl _)
theorem impl_isPart.within (n : Int) : impl_within.f n 1 8 = some (decide (1 ≤ n) && decide (n ≤ 8)) := by
 unfold impl_within.f
 by_cases h : n ≥ 1
 ·rw [if_pos h]; simp [show (1 : Int) ≤ n from h]
 ·rw [if_neg h]; simp [show ¬ (1 : Int) ≤ n from h]
set_option maxHeartbeats 1000000 in
theorem impl_isPart.calls (k : Nat) (a0 : ByteArray) (r : Bool) (w : World) (h : impl_isPart.f k a0 = some r) :
  Calls Tryz.prog 176 #[.string a0] w fun e w' => e = .returned (.bool r) ∧ Below w.heap.size w w' := by
 unfold impl_isPart.f at h
 rw [impl_isPart.within] at h
 simp only [Option.bind_some] at h
 have hw := impl_isPart.within (a0.size : Int)
 generalize hb : (decide (1 ≤ (a0.size : Int)) && decide ((a0.size : Int) ≤ 8)) = b at h hw
 cases b with
 | false =>
  simp only [Bool.false_eq_true, if_false] at h
  obtain rfl := Option.some.inj h
  clear h hb
  have HW := Aside0.mk hw
  clear hw
  go_enter Tryz.func176, Tryz.ntmps176
  go_wp2_with (go_at_call 97; (with_reducible refine (impl_within.calls _ 1 8 false _ HW.out).mono ?_); rintro e w' ⟨rfl, ⟨nd, rfl⟩⟩)
  go_ret
  exact ⟨rfl, pw_below_drewN (Below.refl _ _) _⟩
 | true =>
  have hs : a0.size ≤ 8 := by simp at hb; omega
  simp only [if_true] at h
  obtain ⟨b, hc, h⟩ := Option.bind_eq_some_iff.mp h
  obtain rfl := Option.some.inj h
  clear h hb
  have HW := Aside0.mk hw
  have HS := Aside0.mk hs
  have HCC := Aside0.mk (fun (A : Option Addr) (c : Nat) (W : World) (hr : Kd.C (Kd.int .u8) W A a0.size (bytesOf a0)) (hc0 : a0.size ≤ c) =>
   (show Calls Tryz.prog 194 #[.slice A a0.size c, .func (.func 195) #[] #[]] W fun e w' => e = .returned (.bool b) ∧ Below W.heap.size W w' by
    have h := slices_ContainsFunc_byte_byte__impl_isPart_1.calls k A c (bytesOf a0) b W
    rw [bytesOf_length] at h
    exact h hr hc0 hc))
  clear hw hc hs
  have kb := fun W => print_bytes (P := Tryz.prog) 9 117 5 Tryz.underlying9 Tryz.underlying117 Tryz.underlying5 a0 W
  go_enter Tryz.func176, Tryz.ntmps176
  go_wp2_with (first | (go_at_call 97; (with_reducible refine (impl_within.calls _ 1 8 true _ HW.out).mono ?_); rintro e w' ⟨rfl, ⟨nd, rfl⟩⟩) | (go_at_call 194; (with_reducible refine (HCC.out _ _ _ ?hr ?hc).mono ?_); (case hr => exact Kd.C_of_reads (d := (0 : Int)) (h1 := fun _ => rfl) (bytes_reads (w.drewN nd) 5 a0 (by have := HS.out; omega))); (case hc => exact grownCap_ge _ _ _ _); rintro e w2 ⟨rfl, hb2⟩))
  go_ret
  exact ⟨rfl, below_step (bytes_below (pw_below_drewN (Below.refl _ _) _) (Nat.le_refl _) 5 a0) hb2⟩

/-! ### impl_isLong_1: function 179 -/
def impl_isLong_1.f (k : Nat) (a0 : ByteArray) : Option (Bool) := (impl_isPart.f k a0).bind fun t303 => (some (!t303))
theorem impl_isLong_1.mono : ∀ a0 k, LeO (impl_isLong_1.f k a0) (impl_isLong_1.f (k + 1) a0) := by
 intro a0 k
 unfold impl_isLong_1.f
 have m0 := @impl_isPart.mono
 exact mo
theorem impl_isLong_1.calls (k : Nat) (a0 : ByteArray) (r : Bool) (w : World) (h : impl_isLong_1.f k a0 = some r) :
  Calls Tryz.prog 179 #[.string a0] w fun e w' => e = .returned (.bool r) ∧ Below w.heap.size w w' := by
 have HB := Aside0.mk (Below.refl w.heap.size w)
 have H : ((impl_isPart.f k a0).bind fun t303 => (some (!t303))) = some r := h
 clear h
 obtain ⟨t303, A2, H⟩ := bS H
 try dsimp only at H
 obtain rfl := Option.some.inj H
 go_enter Tryz.func179, Tryz.ntmps179
 go_wp2_with (first | ((with_reducible refine gt 176 rfl ?_); refine gL 176 4 Tryz.func176 #[.string a0] ?_; (with_reducible refine (impl_isPart.calls k a0 t303 _ A2.out).mono ?_); rintro e w3 ⟨rfl, hb⟩; refine ⟨_, rfl, ?_⟩; replace HB := nSB hb; try clear hb))
 go_ret
 exact ⟨sE, sB⟩

/-! ### slices_IndexFunc_string_string__impl_isLong_1: function 180 -/
def slices_IndexFunc_string_string__impl_isLong_1.l0 : Nat → List ByteArray → Int → Int → Option (Int)
 | 0, _, _, _ => none
 | k + 1, x0, x7, x8 => if x8 < x7 then (if 0 ≤ x8 then (if x8 < (x0.length : Int) then ((impl_isLong_1.f k (rdOf ByteArray.empty x0 x8)).bind fun t305 => (if t305 = true then (some x8) else (slices_IndexFunc_string_string__impl_isLong_1.l0 k x0 x7 (wrap64 (x8 + 1))))) else (none)) else (none)) else (some (-1))
def slices_IndexFunc_string_string__impl_isLong_1.f (k : Nat) (l0 : List ByteArray)  : Option (Int) := slices_IndexFunc_string_string__impl_isLong_1.l0 k l0 (l0.length : Int) 0
theorem slices_IndexFunc_string_string__impl_isLong_1.mono_l : ∀ k, (∀ y0 y1 y2, LeO (slices_IndexFunc_string_string__impl_isLong_1.l0 k y0 y1 y2) (slices_IndexFunc_string_string__impl_isLong_1.l0 (k + 1) y0 y1 y2))
 | 0 => fun _ _ _ r h => by simp [slices_IndexFunc_string_string__impl_isLong_1.l0] at h
 | k + 1 => by
  have ih0 := slices_IndexFunc_string_string__impl_isLong_1.mono_l k
  ·intro y0 y1 y2
   unfold slices_IndexFunc_string_string__impl_isLong_1.l0
   have m0 := @impl_isLong_1.mono
   exact mo
theorem slices_IndexFunc_string_string__impl_isLong_1.mono : ∀ a0 k, LeO (slices_IndexFunc_string_string__impl_isLong_1.f k a0) (slices_IndexFunc_string_string__impl_isLong_1.f (k + 1) a0) := by
 intro a0 k
 have ih0 := slices_IndexFunc_string_string__impl_isLong_1.mono_l k
 unfold slices_IndexFunc_string_string__impl_isLong_1.f
 have m0 := @impl_isLong_1.mono
 exact mo
theorem slices_IndexFunc_string_string__impl_isLong_1.calls (k : Nat) (A0 : Option Addr) (c0 : Nat) (l0 : List ByteArray)  (r : Int) (w : World) (hr0 : Kd.C Kd.string w A0 l0.length l0) (hc0 : l0.length ≤ c0) (h : slices_IndexFunc_string_string__impl_isLong_1.f k l0 = some r) :
  Calls Tryz.prog 180 #[.slice A0 l0.length c0, .func (.func 179) #[] #[]] w fun e w' => e = .returned (.int .i64 r) ∧ Below w.heap.size w w' := by
 have HR0 := Aside0.mk hr0
 have HC0 := Aside0.mk hc0
 clear hr0 hc0
 have HB := Aside0.mk (Below.refl w.heap.size w)
 have H : (slices_IndexFunc_string_string__impl_isLong_1.l0 k l0 (l0.length : Int) 0) = some r := h
 clear h
 have H' := Aside0.mk H
 clear H
 go_enter Tryz.func180, Tryz.ntmps180
 go_wp2
 go_loopg [8] k (fun kq v8 w' => ∃ (x8_1 : Int), v8 = .int .i64 x8_1 ∧ Aside0 (slices_IndexFunc_string_string__impl_isLong_1.l0 kq l0 (l0.length : Int) x8_1 = some r) ∧ Aside0 (kq ≤ k) ∧ Aside0 (Below w.heap.size w w'))
 case atStart => exact ⟨(0), sR, H', ⟨Nat.le_refl _⟩, ⟨sB⟩⟩
 case round =>
  clear H'
  try clear p2
  obtain ⟨x8_1, rfl, HA, HK1, HB⟩ := hrel
  cases gk with
  | zero => exact absurd HA.out (by simp [slices_IndexFunc_string_string__impl_isLong_1.l0])
  | succ k1 =>
   have H := HA.out
   clear HA
   simp only [slices_IndexFunc_string_string__impl_isLong_1.l0] at H
   by_cases c3 : x8_1 < (l0.length : Int)
   ·rw [if_pos c3] at H
    have c3b0 := decide_eq_true c3
    clear c3
    obtain ⟨c4, H⟩ := iN H
    have c4b0 := decide_eq_true c4
    clear c4
    obtain ⟨c5, H⟩ := iN H
    have c5b0 := decide_eq_true c5
    clear c5
    obtain ⟨t305, A6, H⟩ := bS H
    try dsimp only at H
    by_cases c7 : t305 = true
    ·subst c7
     rw [if_pos rfl] at H
     obtain rfl := Option.some.inj H
     have p304 : 0 ≤ (x8_1 : Int) := sO
     have q304 : x8_1 < (l0.length : Int) := sO
     obtain ⟨ad304, e304, hx304_0⟩ := Kd.at_string HR0.out x8_1 p304 q304
     cases e304
     replace hx304_0 := hB HB hx304_0
     replace p304 := eq_true p304
     replace q304 := eq_true q304
     go_wp2_with (first | (go_at_call 179; (with_reducible refine (impl_isLong_1.calls k1 (rdOf ByteArray.empty l0 x8_1) true _ A6.out).mono ?_); rintro e w8 ⟨rfl, hb⟩; replace HB := nSB hb; try clear hb))
     go_ret
     exact ⟨sE, sB⟩
    ·replace c7 := Bool.eq_false_iff.mpr c7
     subst c7
     rw [if_neg (show ¬ (false = true) by decide)] at H
     have H' := Aside0.mk H
     clear H
     have p304 : 0 ≤ (x8_1 : Int) := sO
     have q304 : x8_1 < (l0.length : Int) := sO
     obtain ⟨ad304, e304, hx304_0⟩ := Kd.at_string HR0.out x8_1 p304 q304
     cases e304
     replace hx304_0 := hB HB hx304_0
     replace p304 := eq_true p304
     replace q304 := eq_true q304
     go_wp2_with (first | (go_at_call 179; (with_reducible refine (impl_isLong_1.calls k1 (rdOf ByteArray.empty l0 x8_1) false _ A6.out).mono ?_); rintro e w9 ⟨rfl, hb⟩; replace HB := nSB hb; try clear hb))
     go_roundg k1
     case measure => have := HK1.out; omega
     case rel => exact ⟨(wrap64 (x8_1 + 1)), sR, H', ⟨by have := HK1.out; omega⟩, ⟨sB⟩⟩
   ·rw [if_neg c3] at H
    have c3b0 := decide_eq_false c3
    clear c3
    obtain rfl := Option.some.inj H
    go_wp2
    go_ret
    exact ⟨sE, sB⟩

/-! ### slices_ContainsFunc_string_string__impl_isLong_1: function 178 -/
def slices_ContainsFunc_string_string__impl_isLong_1.f (k : Nat) (l0 : List ByteArray)  : Option (Bool) := (slices_IndexFunc_string_string__impl_isLong_1.f k l0).bind fun t306 => (some (decide (t306 ≥ 0)))
theorem slices_ContainsFunc_string_string__impl_isLong_1.mono : ∀ a0 k, LeO (slices_ContainsFunc_string_string__impl_isLong_1.f k a0) (slices_ContainsFunc_string_string__impl_isLong_1.f (k + 1) a0) := by
 intro a0 k
 unfold slices_ContainsFunc_string_string__impl_isLong_1.f
 have m0 := @slices_IndexFunc_string_string__impl_isLong_1.mono
 exact mo
theorem slices_ContainsFunc_string_string__impl_isLong_1.calls (k : Nat) (A0 : Option Addr) (c0 : Nat) (l0 : List ByteArray)  (r : Bool) (w : World) (hr0 : Kd.C Kd.string w A0 l0.length l0) (hc0 : l0.length ≤ c0) (h : slices_ContainsFunc_string_string__impl_isLong_1.f k l0 = some r) :
  Calls Tryz.prog 178 #[.slice A0 l0.length c0, .func (.func 179) #[] #[]] w fun e w' => e = .returned (.bool r) ∧ Below w.heap.size w w' := by
 have HR0 := Aside0.mk hr0
 have HC0 := Aside0.mk hc0
 clear hr0 hc0
 have HB := Aside0.mk (Below.refl w.heap.size w)
 have H : ((slices_IndexFunc_string_string__impl_isLong_1.f k l0).bind fun t306 => (some (decide (t306 ≥ 0)))) = some r := h
 clear h
 obtain ⟨t306, A3, H⟩ := bS H
 try dsimp only at H
 obtain rfl := Option.some.inj H
 go_enter Tryz.func178, Tryz.ntmps178
 go_wp2_with (first | ((with_reducible refine gt 180 rfl ?_); refine gL 180 7 Tryz.func180 #[.slice A0 l0.length c0, .func (.func 179) #[] #[]] ?_; (with_reducible refine (slices_IndexFunc_string_string__impl_isLong_1.calls k _ _ l0  t306 _ ?side1 ?side2 A3.out).mono ?_); (case side1 => repeat (first | exact HR0.out | (with_reducible refine Kd.C_alloc ?_ _) | (with_reducible refine Kd.C_drewN ?_ _) | (with_reducible refine Kd.C_drew ?_))); (case side2 => exact HC0.out); rintro e w4 ⟨rfl, hb⟩; refine ⟨_, rfl, ?_⟩; replace HB := nSB hb; try clear hb))
 go_ret
 exact ⟨sE, sB⟩

/-! ### impl_isLong: function 138 -/
def impl_isLong.f (k : Nat) (a0 : ByteArray) : Option (Bool) := if a0.toList = ([] : List UInt8) then (some false) else ((impl_partsOf.f a0).bind fun t307 => ((slices_ContainsFunc_string_string__impl_isLong_1.f k t307).bind fun t310 => (some (!t310))))
theorem impl_isLong.mono : ∀ a0 k, LeO (impl_isLong.f k a0) (impl_isLong.f (k + 1) a0) := by
 intro a0 k
 unfold impl_isLong.f
 have m0 := @slices_ContainsFunc_string_string__impl_isLong_1.mono
 exact mo
theorem impl_isLong.calls (k : Nat) (a0 : ByteArray) (r : Bool) (w : World) (h : impl_isLong.f k a0 = some r) :
  Calls Tryz.prog 138 #[.string a0] w fun e w' => e = .returned (.bool r) ∧ Below w.heap.size w w' := by
 have HB := Aside0.mk (Below.refl w.heap.size w)
 have H : (if a0.toList = ([] : List UInt8) then (some false) else ((impl_partsOf.f a0).bind fun t307 => ((slices_ContainsFunc_string_string__impl_isLong_1.f k t307).bind fun t310 => (some (!t310))))) = some r := h
 clear h
 by_cases c2 : a0.toList = ([] : List UInt8)
 ·rw [if_pos c2] at H
  have c2b0 := beq_iff_eq.mpr c2
  have c2b1 := bne_eq_false_iff_eq.mpr c2
  clear c2
  obtain rfl := Option.some.inj H
  go_enter Tryz.func138, Tryz.ntmps138
  go_wp2
  go_ret
  exact ⟨sE, sB⟩
 ·rw [if_neg c2] at H
  have c2b0 := beq_eq_false_iff_ne.mpr c2
  have c2b1 := bne_iff_ne.mpr c2
  obtain ⟨t307, A3, H⟩ := bS H
  try dsimp only at H
  obtain ⟨t310, A4, H⟩ := bS H
  try dsimp only at H
  obtain rfl := Option.some.inj H
  go_enter Tryz.func138, Tryz.ntmps138
  go_wp2_with (first | (go_at_call 103; (with_reducible refine (impl_partsOf.calls a0 t307 _ A3.out).mono ?_); rintro e w5 ⟨v308, rfl, ho0, hb⟩; have HO309 := Aside0.mk (Kd.R_lower ho0 (below_size sB)); replace HB := nSB hb; try clear hb; (try clear ho0); obtain ⟨Ao6, co6, eo6⟩ := Kd.R_slice HO309.out; subst eo6) | (go_at_call 178; (with_reducible refine (slices_ContainsFunc_string_string__impl_isLong_1.calls k _ _ t307  t310 _ ?side1 ?side2 A4.out).mono ?_); (case side1 => exact sD (Kd.R_reads' HO309.out).2.2); (case side2 => exact (Kd.R_reads' HO309.out).2.1); rintro e w7 ⟨rfl, hb⟩; replace HO309 := nR HO309 hb; replace HB := nSB hb; try clear hb))
  go_ret
  exact ⟨sE, sB⟩

/-! ### impl_GoodPath: function 102 -/
def impl_GoodPath.f (k : Nat) (a0 : ByteArray) : Option (Bool) := if (a0.size : Int) ≤ 60 then ((impl_isLong.f k a0).bind fun t311 => (some t311)) else (some false)
theorem impl_GoodPath.mono : ∀ a0 k, LeO (impl_GoodPath.f k a0) (impl_GoodPath.f (k + 1) a0) := by
 intro a0 k
 unfold impl_GoodPath.f
 have m0 := @impl_isLong.mono
 exact mo
theorem impl_GoodPath.calls (k : Nat) (a0 : ByteArray) (r : Bool) (w : World) (h : impl_GoodPath.f k a0 = some r) :
  Calls Tryz.prog 102 #[.string a0] w fun e w' => e = .returned (.bool r) ∧ Below w.heap.size w w' := by
 have HB := Aside0.mk (Below.refl w.heap.size w)
 have H : (if (a0.size : Int) ≤ 60 then ((impl_isLong.f k a0).bind fun t311 => (some t311)) else (some false)) = some r := h
 clear h
 by_cases c2 : (a0.size : Int) ≤ 60
 ·rw [if_pos c2] at H
  have c2b0 := decide_eq_true c2
  have c2b1 : decide (a0.size ≤ 60) = true := decide_eq_true (by omega)
  clear c2
  obtain ⟨t311, A3, H⟩ := bS H
  try dsimp only at H
  obtain rfl := Option.some.inj H
  go_enter Tryz.func102, Tryz.ntmps102
  go_wp2_with (first | (go_at_call 138; (with_reducible refine (impl_isLong.calls k a0 t311 _ A3.out).mono ?_); rintro e w4 ⟨rfl, hb⟩; replace HB := nSB hb; try clear hb))
  go_ret
  exact ⟨sE, sB⟩
 ·rw [if_neg c2] at H
  have c2b0 := decide_eq_false c2
  have c2b1 : decide (a0.size ≤ 60) = false := decide_eq_false (by omega)
  clear c2
  obtain rfl := Option.some.inj H
  go_enter Tryz.func102, Tryz.ntmps102
  go_wp2
  go_ret
  exact ⟨sE, sB⟩

/-! ### impl_Node_isFree: function 133 -/
def impl_Node_isFree.f (a0_0 : Int) (a0_1 : Int) (a0_2 : Int) (a0_3 : Int) (a0_4 : Int) (a0_5 : ByteArray) (l0_6 : List (S105)) : Option (Bool) := if a0_0 = 0 then (if a0_1 = 0 then (if a0_2 = 0 then (if a0_3 = 0 then (if a0_4 = 0 then (if a0_5.toList = ([] : List UInt8) then (some ((l0_6.length : Int) == 0)) else (some false)) else (some false)) else (some false)) else (some false)) else (some false)) else (some false)
theorem impl_Node_isFree.calls (a0_0 : Int) (a0_1 : Int) (a0_2 : Int) (a0_3 : Int) (a0_4 : Int) (a0_5 : ByteArray) (A0_6 : Option Addr) (c0_6 : Nat) (l0_6 : List (S105)) (r : Bool) (w : World) (hr0_6 : Kd.C k105 w A0_6 l0_6.length l0_6) (hc0_6 : l0_6.length ≤ c0_6) (h : impl_Node_isFree.f a0_0 a0_1 a0_2 a0_3 a0_4 a0_5 l0_6 = some r) :
  Calls Tryz.prog 133 #[.agg #[.int .i64 a0_0, .int .i64 a0_1, .int .i64 a0_2, .int .i64 a0_3, .int .i64 a0_4, .string a0_5, .slice A0_6 l0_6.length c0_6]] w fun e w' => e = .returned (.bool r) ∧ Below w.heap.size w w' := by
 have hu74 := Tryz.underlying74
 have HR0_6 := Aside0.mk hr0_6
 have HC0_6 := Aside0.mk hc0_6
 clear hr0_6 hc0_6
 have HB := Aside0.mk (Below.refl w.heap.size w)
 have H : (if a0_0 = 0 then (if a0_1 = 0 then (if a0_2 = 0 then (if a0_3 = 0 then (if a0_4 = 0 then (if a0_5.toList = ([] : List UInt8) then (some ((l0_6.length : Int) == 0)) else (some false)) else (some false)) else (some false)) else (some false)) else (some false)) else (some false)) = some r := h
 clear h
 by_cases c2 : a0_0 = 0
 ·rw [if_pos c2] at H
  have c2b0 := beq_iff_eq.mpr c2
  have c2b1 := bne_eq_false_iff_eq.mpr c2
  clear c2
  by_cases c3 : a0_1 = 0
  ·rw [if_pos c3] at H
   have c3b0 := beq_iff_eq.mpr c3
   have c3b1 := bne_eq_false_iff_eq.mpr c3
   clear c3
   by_cases c4 : a0_2 = 0
   ·rw [if_pos c4] at H
    have c4b0 := beq_iff_eq.mpr c4
    have c4b1 := bne_eq_false_iff_eq.mpr c4
    clear c4
    by_cases c5 : a0_3 = 0
    ·rw [if_pos c5] at H
     have c5b0 := beq_iff_eq.mpr c5
     have c5b1 := bne_eq_false_iff_eq.mpr c5
     clear c5
     by_cases c6 : a0_4 = 0
     ·rw [if_pos c6] at H
      have c6b0 := beq_iff_eq.mpr c6
      have c6b1 := bne_eq_false_iff_eq.mpr c6
      clear c6
      by_cases c7 : a0_5.toList = ([] : List UInt8)
      ·rw [if_pos c7] at H
       have c7b0 := beq_iff_eq.mpr c7
       have c7b1 := bne_eq_false_iff_eq.mpr c7
       clear c7
       obtain rfl := Option.some.inj H
       go_enter Tryz.func133, Tryz.ntmps133
       go_wp2_with (first | ((with_reducible refine gd 1 rfl ?_); (first | refine bxE 1 #[.int .i64 a0_0, .int .i64 a0_1, .int .i64 a0_2, .int .i64 a0_3, .int .i64 a0_4, .string a0_5, .slice A0_6 l0_6.length c0_6] 74 ?_ | refine bgE 1 #[.int .i64 a0_0, .int .i64 a0_1, .int .i64 a0_2, .int .i64 a0_3, .int .i64 a0_4, .string a0_5, .slice A0_6 l0_6.length c0_6] 74 ?_); intro gb312 hg w8 hbox hb; have BK312 := Aside0.mk hbox; have GW312 := nGB hg; have GE312 := nGB hg; replace HB := nSB hb; clear hb hbox hg; have hcz9 := cb7 BK312))
       go_ret
       exact ⟨sE, sC⟩
      ·rw [if_neg c7] at H
       have c7b0 := beq_eq_false_iff_ne.mpr c7
       have c7b1 := bne_iff_ne.mpr c7
       obtain rfl := Option.some.inj H
       go_enter Tryz.func133, Tryz.ntmps133
       go_wp2_with (first | ((with_reducible refine gd 1 rfl ?_); (first | refine bxE 1 #[.int .i64 a0_0, .int .i64 a0_1, .int .i64 a0_2, .int .i64 a0_3, .int .i64 a0_4, .string a0_5, .slice A0_6 l0_6.length c0_6] 74 ?_ | refine bgE 1 #[.int .i64 a0_0, .int .i64 a0_1, .int .i64 a0_2, .int .i64 a0_3, .int .i64 a0_4, .string a0_5, .slice A0_6 l0_6.length c0_6] 74 ?_); intro gb312 hg w10 hbox hb; have BK312 := Aside0.mk hbox; have GW312 := nGB hg; have GE312 := nGB hg; replace HB := nSB hb; clear hb hbox hg; have hcz11 := cb7 BK312))
       go_ret
       exact ⟨sE, sC⟩
     ·rw [if_neg c6] at H
      have c6b0 := beq_eq_false_iff_ne.mpr c6
      have c6b1 := bne_iff_ne.mpr c6
      obtain rfl := Option.some.inj H
      go_enter Tryz.func133, Tryz.ntmps133
      go_wp2_with (first | ((with_reducible refine gd 1 rfl ?_); (first | refine bxE 1 #[.int .i64 a0_0, .int .i64 a0_1, .int .i64 a0_2, .int .i64 a0_3, .int .i64 a0_4, .string a0_5, .slice A0_6 l0_6.length c0_6] 74 ?_ | refine bgE 1 #[.int .i64 a0_0, .int .i64 a0_1, .int .i64 a0_2, .int .i64 a0_3, .int .i64 a0_4, .string a0_5, .slice A0_6 l0_6.length c0_6] 74 ?_); intro gb312 hg w12 hbox hb; have BK312 := Aside0.mk hbox; have GW312 := nGB hg; have GE312 := nGB hg; replace HB := nSB hb; clear hb hbox hg; have hcz13 := cb7 BK312))
      go_ret
      exact ⟨sE, sC⟩
    ·rw [if_neg c5] at H
     have c5b0 := beq_eq_false_iff_ne.mpr c5
     have c5b1 := bne_iff_ne.mpr c5
     obtain rfl := Option.some.inj H
     go_enter Tryz.func133, Tryz.ntmps133
     go_wp2_with (first | ((with_reducible refine gd 1 rfl ?_); (first | refine bxE 1 #[.int .i64 a0_0, .int .i64 a0_1, .int .i64 a0_2, .int .i64 a0_3, .int .i64 a0_4, .string a0_5, .slice A0_6 l0_6.length c0_6] 74 ?_ | refine bgE 1 #[.int .i64 a0_0, .int .i64 a0_1, .int .i64 a0_2, .int .i64 a0_3, .int .i64 a0_4, .string a0_5, .slice A0_6 l0_6.length c0_6] 74 ?_); intro gb312 hg w14 hbox hb; have BK312 := Aside0.mk hbox; have GW312 := nGB hg; have GE312 := nGB hg; replace HB := nSB hb; clear hb hbox hg; have hcz15 := cb7 BK312))
     go_ret
     exact ⟨sE, sC⟩
   ·rw [if_neg c4] at H
    have c4b0 := beq_eq_false_iff_ne.mpr c4
    have c4b1 := bne_iff_ne.mpr c4
    obtain rfl := Option.some.inj H
    go_enter Tryz.func133, Tryz.ntmps133
    go_wp2_with (first | ((with_reducible refine gd 1 rfl ?_); (first | refine bxE 1 #[.int .i64 a0_0, .int .i64 a0_1, .int .i64 a0_2, .int .i64 a0_3, .int .i64 a0_4, .string a0_5, .slice A0_6 l0_6.length c0_6] 74 ?_ | refine bgE 1 #[.int .i64 a0_0, .int .i64 a0_1, .int .i64 a0_2, .int .i64 a0_3, .int .i64 a0_4, .string a0_5, .slice A0_6 l0_6.length c0_6] 74 ?_); intro gb312 hg w16 hbox hb; have BK312 := Aside0.mk hbox; have GW312 := nGB hg; have GE312 := nGB hg; replace HB := nSB hb; clear hb hbox hg; have hcz17 := cb7 BK312))
    go_ret
    exact ⟨sE, sC⟩
  ·rw [if_neg c3] at H
   have c3b0 := beq_eq_false_iff_ne.mpr c3
   have c3b1 := bne_iff_ne.mpr c3
   obtain rfl := Option.some.inj H
   go_enter Tryz.func133, Tryz.ntmps133
   go_wp2_with (first | ((with_reducible refine gd 1 rfl ?_); (first | refine bxE 1 #[.int .i64 a0_0, .int .i64 a0_1, .int .i64 a0_2, .int .i64 a0_3, .int .i64 a0_4, .string a0_5, .slice A0_6 l0_6.length c0_6] 74 ?_ | refine bgE 1 #[.int .i64 a0_0, .int .i64 a0_1, .int .i64 a0_2, .int .i64 a0_3, .int .i64 a0_4, .string a0_5, .slice A0_6 l0_6.length c0_6] 74 ?_); intro gb312 hg w18 hbox hb; have BK312 := Aside0.mk hbox; have GW312 := nGB hg; have GE312 := nGB hg; replace HB := nSB hb; clear hb hbox hg; have hcz19 := cb7 BK312))
   go_ret
   exact ⟨sE, sC⟩
 ·rw [if_neg c2] at H
  have c2b0 := beq_eq_false_iff_ne.mpr c2
  have c2b1 := bne_iff_ne.mpr c2
  obtain rfl := Option.some.inj H
  go_enter Tryz.func133, Tryz.ntmps133
  go_wp2_with (first | ((with_reducible refine gd 1 rfl ?_); (first | refine bxE 1 #[.int .i64 a0_0, .int .i64 a0_1, .int .i64 a0_2, .int .i64 a0_3, .int .i64 a0_4, .string a0_5, .slice A0_6 l0_6.length c0_6] 74 ?_ | refine bgE 1 #[.int .i64 a0_0, .int .i64 a0_1, .int .i64 a0_2, .int .i64 a0_3, .int .i64 a0_4, .string a0_5, .slice A0_6 l0_6.length c0_6] 74 ?_); intro gb312 hg w20 hbox hb; have BK312 := Aside0.mk hbox; have GW312 := nGB hg; have GE312 := nGB hg; replace HB := nSB hb; clear hb hbox hg; have hcz21 := cb7 BK312))
  go_ret
  exact ⟨sE, sC⟩

/-! ### impl_isMode: function 134 -/
def impl_isMode.f (a0 : Int) : Option (Bool) := (impl_within.f a0 0 511).bind fun t313 => (some t313)
theorem impl_isMode.calls (a0 : Int) (r : Bool) (w : World) (h : impl_isMode.f a0 = some r) :
  Calls Tryz.prog 134 #[.int .i64 a0] w fun e w' => e = .returned (.bool r) ∧ Drawn0 w w' := by
 have H : ((impl_within.f a0 0 511).bind fun t313 => (some t313)) = some r := h
 clear h
 obtain ⟨t313, A2, H⟩ := bS H
 try dsimp only at H
 obtain rfl := Option.some.inj H
 go_enter Tryz.func134, Tryz.ntmps134
 go_wp2_with (first | ((with_reducible refine gt 97 rfl ?_); refine gL 97 4 Tryz.func97 #[.int .i64 a0, .int .i64 0, .int .i64 511] ?_; (with_reducible refine (impl_within.calls a0 0 511 t313 _ A2.out).mono ?_); rintro e w' ⟨rfl, ⟨nd, rfl⟩⟩; refine ⟨_, rfl, ?_⟩))
 go_ret
 exact ⟨by first | rfl | (simp; done) | (simp [*]; done), by repeat (first | exact Drawn0.refl _ | apply Drawn0.step)⟩

/-! ### impl_isId: function 135 -/
def impl_isId.f (a0 : Int) : Option (Bool) := (impl_within.f a0 0 99).bind fun t314 => (some t314)
theorem impl_isId.calls (a0 : Int) (r : Bool) (w : World) (h : impl_isId.f a0 = some r) :
  Calls Tryz.prog 135 #[.int .i64 a0] w fun e w' => e = .returned (.bool r) ∧ Drawn0 w w' := by
 have H : ((impl_within.f a0 0 99).bind fun t314 => (some t314)) = some r := h
 clear h
 obtain ⟨t314, A2, H⟩ := bS H
 try dsimp only at H
 obtain rfl := Option.some.inj H
 go_enter Tryz.func135, Tryz.ntmps135
 go_wp2_with (first | ((with_reducible refine gt 97 rfl ?_); refine gL 97 4 Tryz.func97 #[.int .i64 a0, .int .i64 0, .int .i64 99] ?_; (with_reducible refine (impl_within.calls a0 0 99 t314 _ A2.out).mono ?_); rintro e w' ⟨rfl, ⟨nd, rfl⟩⟩; refine ⟨_, rfl, ?_⟩))
 go_ret
 exact ⟨by first | rfl | (simp; done) | (simp [*]; done), by repeat (first | exact Drawn0.refl _ | apply Drawn0.step)⟩

/-! ### impl_isTime: function 136 -/
def impl_isTime.f (a0 : Int) : Option (Bool) := (impl_within.f a0 0 1000000).bind fun t315 => (some t315)
theorem impl_isTime.calls (a0 : Int) (r : Bool) (w : World) (h : impl_isTime.f a0 = some r) :
  Calls Tryz.prog 136 #[.int .i64 a0] w fun e w' => e = .returned (.bool r) ∧ Drawn0 w w' := by
 have H : ((impl_within.f a0 0 1000000).bind fun t315 => (some t315)) = some r := h
 clear h
 obtain ⟨t315, A2, H⟩ := bS H
 try dsimp only at H
 obtain rfl := Option.some.inj H
 go_enter Tryz.func136, Tryz.ntmps136
 go_wp2_with (first | ((with_reducible refine gt 97 rfl ?_); refine gL 97 4 Tryz.func97 #[.int .i64 a0, .int .i64 0, .int .i64 1000000] ?_; (with_reducible refine (impl_within.calls a0 0 1000000 t315 _ A2.out).mono ?_); rintro e w' ⟨rfl, ⟨nd, rfl⟩⟩; refine ⟨_, rfl, ?_⟩))
 go_ret
 exact ⟨by first | rfl | (simp; done) | (simp [*]; done), by repeat (first | exact Drawn0.refl _ | apply Drawn0.step)⟩

/-! ### impl_isDots: function 177 -/
def impl_isDots.f (a0 : ByteArray) : Option (Bool) := if a0.toList = ([46] : List UInt8) then (some true) else (some (a0.toList == ([46, 46] : List UInt8)))
theorem impl_isDots.calls (a0 : ByteArray) (r : Bool) (w : World) (h : impl_isDots.f a0 = some r) :
  Calls Tryz.prog 177 #[.string a0] w fun e w' => e = .returned (.bool r) ∧ Drawn0 w w' := by
 have H : (if a0.toList = ([46] : List UInt8) then (some true) else (some (a0.toList == ([46, 46] : List UInt8)))) = some r := h
 clear h
 by_cases c2 : a0.toList = ([46] : List UInt8)
 ·rw [if_pos c2] at H
  have c2b0 := beq_iff_eq.mpr c2
  have c2b1 := bne_eq_false_iff_eq.mpr c2
  clear c2
  obtain rfl := Option.some.inj H
  go_enter Tryz.func177, Tryz.ntmps177
  go_wp2
  go_ret
  exact ⟨by first | rfl | (simp; done) | (simp [*]; done), by repeat (first | exact Drawn0.refl _ | apply Drawn0.step)⟩
 ·rw [if_neg c2] at H
  have c2b0 := beq_eq_false_iff_ne.mpr c2
  have c2b1 := bne_iff_ne.mpr c2
  obtain rfl := Option.some.inj H
  go_enter Tryz.func177, Tryz.ntmps177
  go_wp2
  go_ret
  exact ⟨by first | rfl | (simp; done) | (simp [*]; done), by repeat (first | exact Drawn0.refl _ | apply Drawn0.step)⟩

/-! ### impl_GoodName: function 137 -/
def impl_GoodName.f (k : Nat) (a0 : ByteArray) : Option (Bool) := (impl_isPart.f k a0).bind fun t316 => (if t316 = true then ((impl_isDots.f a0).bind fun t317 => (some (!t317))) else (some false))
theorem impl_GoodName.mono : ∀ a0 k, LeO (impl_GoodName.f k a0) (impl_GoodName.f (k + 1) a0) := by
 intro a0 k
 unfold impl_GoodName.f
 have m0 := @impl_isPart.mono
 exact mo
theorem impl_GoodName.calls (k : Nat) (a0 : ByteArray) (r : Bool) (w : World) (h : impl_GoodName.f k a0 = some r) :
  Calls Tryz.prog 137 #[.string a0] w fun e w' => e = .returned (.bool r) ∧ Below w.heap.size w w' := by
 have HB := Aside0.mk (Below.refl w.heap.size w)
 have H : ((impl_isPart.f k a0).bind fun t316 => (if t316 = true then ((impl_isDots.f a0).bind fun t317 => (some (!t317))) else (some false))) = some r := h
 clear h
 obtain ⟨t316, A2, H⟩ := bS H
 try dsimp only at H
 by_cases c3 : t316 = true
 ·subst c3
  rw [if_pos rfl] at H
  obtain ⟨t317, A4, H⟩ := bS H
  try dsimp only at H
  obtain rfl := Option.some.inj H
  go_enter Tryz.func137, Tryz.ntmps137
  go_wp2_with (first | ((with_reducible refine gt 176 rfl ?_); refine gL 176 4 Tryz.func176 #[.string a0] ?_; (with_reducible refine (impl_isPart.calls k a0 true _ A2.out).mono ?_); rintro e w5 ⟨rfl, hb⟩; refine ⟨_, rfl, ?_⟩; replace HB := nSB hb; try clear hb) | (go_at_call 177; (with_reducible refine (impl_isDots.calls a0 t317 _ A4.out).mono ?_); rintro e w' ⟨rfl, ⟨nd, rfl⟩⟩))
  go_ret
  exact ⟨sE, sB⟩
 ·replace c3 := Bool.eq_false_iff.mpr c3
  subst c3
  rw [if_neg (show ¬ (false = true) by decide)] at H
  obtain rfl := Option.some.inj H
  go_enter Tryz.func137, Tryz.ntmps137
  go_wp2_with (first | ((with_reducible refine gt 176 rfl ?_); refine gL 176 4 Tryz.func176 #[.string a0] ?_; (with_reducible refine (impl_isPart.calls k a0 false _ A2.out).mono ?_); rintro e w6 ⟨rfl, hb⟩; refine ⟨_, rfl, ?_⟩; replace HB := nSB hb; try clear hb))
  go_ret
  exact ⟨sE, sB⟩

end Go.Proofs.YtnmiglfmainhiaaGreatDoor.PNb
