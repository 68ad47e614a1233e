-- Written by a program of this session (wip/print2) out of the translation. Lean checks it.
import Derived.Test.YtpgdgkogllalnaaPFnExactReadModex0
namespace Go.Proofs.Ytpgdgkogllalnaa.PFnExactReadMode
open Go.RowKit Go.Proofs.YtpgdgkogllalnaaW.PrintWords Go.Proofs.YtpgdgkogllalnaaW.PrintLast Go.Proofs.YtpgdgkogllalnaaW.PrintMore
attribute [local go_sem] max2_int min2_int max_two min_two max_three min_three max_four min_four   -- for this text's walks alone
set_option linter.unusedVariables false
set_option linter.unusedSimpArgs false

/-! ### spec_l1Signs: function 54 -/
def spec_l1Signs.l0 : Nat → Int → ByteArray → Int → Option (ByteArray)
  | 0, _, _, _ => none
  | k + 1, x0, x3, x4 => if x4 ≥ 0 then (if 0 ≤ (IntKind.u64.wrap (x4)) then (if (Go.bits .and .i64 (shr .i64 x0 (IntKind.u64.wrap (x4))) 1) = 1 then (if 0 ≤ (Int.tmod x4 3) then (if (Int.tmod x4 3) ≤ (wrap64 ((Int.tmod x4 3) + 1)) then (if (wrap64 ((Int.tmod x4 3) + 1)) ≤ 3 then (if x3.size + ((⟨#[120, 119, 114]⟩ : ByteArray).extract ((Int.tmod x4 3) : Int).toNat ((wrap64 ((Int.tmod x4 3) + 1)) : Int).toNat).size ≤ 9223372036854775807 then (spec_l1Signs.l0 k x0 (x3 ++ ((⟨#[120, 119, 114]⟩ : ByteArray).extract ((Int.tmod x4 3) : Int).toNat ((wrap64 ((Int.tmod x4 3) + 1)) : Int).toNat)) (wrap64 (x4 - 1))) else (none)) else (none)) else (none)) else (none)) else (if x3.size + 1 ≤ 9223372036854775807 then (spec_l1Signs.l0 k x0 (x3 ++ (⟨#[45]⟩ : ByteArray)) (wrap64 (x4 - 1))) else (none))) else (none)) else (some x3)
def spec_l1Signs.f (k : Nat) (a0 : Int) : Option (ByteArray) := spec_l1Signs.l0 k a0 (⟨#[]⟩ : ByteArray) 8
theorem spec_l1Signs.mono_l : ∀ k, (∀ y0 y1 y2, LeO (spec_l1Signs.l0 k y0 y1 y2) (spec_l1Signs.l0 (k + 1) y0 y1 y2))
  | 0 => fun _ _ _ r h => by simp [spec_l1Signs.l0] at h
  | k + 1 => by
    have ih0 := spec_l1Signs.mono_l k
    · intro y0 y1 y2
      unfold spec_l1Signs.l0
      repeat' first
      | (with_reducible exact ih0 _ _ _)
      | (with_reducible exact LeO.refl _)
      | (with_reducible exact LeO.none _)
      | (with_reducible refine LeO.ite ?_ ?_)
      | (with_reducible refine LeO.bind ?_ (fun _ => ?_))
      | exact ih0 _ _ _
      | exact LeO.none _
      | refine LeO.ite ?_ ?_
      | refine LeO.bind ?_ (fun _ => ?_)
theorem spec_l1Signs.mono : ∀ a0 k, LeO (spec_l1Signs.f k a0) (spec_l1Signs.f (k + 1) a0) := by
  intro a0 k
  have ih0 := spec_l1Signs.mono_l k
  unfold spec_l1Signs.f
  repeat' first
      | (with_reducible exact ih0 _ _ _)
      | (with_reducible exact LeO.refl _)
      | (with_reducible exact LeO.none _)
      | (with_reducible refine LeO.ite ?_ ?_)
      | (with_reducible refine LeO.bind ?_ (fun _ => ?_))
      | exact ih0 _ _ _
      | exact LeO.none _
      | refine LeO.ite ?_ ?_
      | refine LeO.bind ?_ (fun _ => ?_)
set_option maxHeartbeats 8000000 in
set_option maxRecDepth 100000 in
theorem spec_l1Signs.calls (k : Nat) (a0 : Int) (r : ByteArray) (w : World) (h : spec_l1Signs.f k a0 = some r) :
    Calls Try.prog 54 #[.int .i64 a0] w fun e w' => e = .returned (.string r) ∧ Drawn0 w w' := by
  have H : (spec_l1Signs.l0 k a0 (⟨#[]⟩ : ByteArray) 8) = some r := h
  clear h
  have H' := Aside0.mk H
  clear H
  go_enter Try.func54, Try.ntmps54
  go_wp2
  go_loopg [3, 4] k (fun kq v3 v4 w' => ∃ (x3_1 : ByteArray) (x4_1 : Int), v3 = .string x3_1 ∧ v4 = .int .i64 x4_1 ∧ Aside0 (spec_l1Signs.l0 kq a0 x3_1 x4_1 = some r) ∧ Aside0 (kq ≤ k) ∧ Drawn0 w w')
  case atStart => exact ⟨((⟨#[]⟩ : ByteArray)), (8), (by first | rfl | (simp; done) | (simp [*]; done)), (by first | rfl | (simp; done) | (simp [*]; done)), H', ⟨Nat.le_refl _⟩, by repeat (first | exact Drawn0.refl _ | apply Drawn0.step)⟩
  case round =>
    clear H'
    obtain ⟨x3_1, x4_1, rfl, rfl, HA, HK1, ⟨m1, rfl⟩⟩ := hrel
    cases gk with
    | zero => exact absurd HA.out (by simp [spec_l1Signs.l0])
    | succ k1 =>
      have H := HA.out
      clear HA
      simp only [spec_l1Signs.l0] at H
      by_cases c2 : x4_1 ≥ 0
      · rw [if_pos c2] at H
        have c2b0 : decide (0 ≤ x4_1) = true := decide_eq_true c2
        clear c2
        obtain ⟨ji3, hji3⟩ : ∃ j_ : Int, (IntKind.u64.wrap (x4_1)) = j_ := ⟨_, rfl⟩
        replace H : (if 0 ≤ (ji3) then (if (Go.bits .and .i64 (shr .i64 a0 (ji3)) 1) = 1 then (if 0 ≤ (Int.tmod x4_1 3) then (if (Int.tmod x4_1 3) ≤ (wrap64 ((Int.tmod x4_1 3) + 1)) then (if (wrap64 ((Int.tmod x4_1 3) + 1)) ≤ 3 then (if x3_1.size + ((⟨#[120, 119, 114]⟩ : ByteArray).extract ((Int.tmod x4_1 3) : Int).toNat ((wrap64 ((Int.tmod x4_1 3) + 1)) : Int).toNat).size ≤ 9223372036854775807 then (spec_l1Signs.l0 k1 a0 (x3_1 ++ ((⟨#[120, 119, 114]⟩ : ByteArray).extract ((Int.tmod x4_1 3) : Int).toNat ((wrap64 ((Int.tmod x4_1 3) + 1)) : Int).toNat)) (wrap64 (x4_1 - 1))) else (none)) else (none)) else (none)) else (none)) else (if x3_1.size + 1 ≤ 9223372036854775807 then (spec_l1Signs.l0 k1 a0 (x3_1 ++ (⟨#[45]⟩ : ByteArray)) (wrap64 (x4_1 - 1))) else (none))) else (none)) = some r := by first | (rw [hji3] at H; exact H) | (simp only [hji3] at H ⊢; exact H)
        by_cases c4 : 0 ≤ (ji3)
        · rw [if_pos c4] at H
          have c4b0 := eq_true c4
          have c4b1 : decide (0 ≤ (ji3)) = true := decide_eq_true c4
          clear c4
          obtain ⟨ji5, hji5⟩ : ∃ j_ : Int, (shr .i64 a0 (ji3)) = j_ := ⟨_, rfl⟩
          replace H : (if (Go.bits .and .i64 (ji5) 1) = 1 then (if 0 ≤ (Int.tmod x4_1 3) then (if (Int.tmod x4_1 3) ≤ (wrap64 ((Int.tmod x4_1 3) + 1)) then (if (wrap64 ((Int.tmod x4_1 3) + 1)) ≤ 3 then (if x3_1.size + ((⟨#[120, 119, 114]⟩ : ByteArray).extract ((Int.tmod x4_1 3) : Int).toNat ((wrap64 ((Int.tmod x4_1 3) + 1)) : Int).toNat).size ≤ 9223372036854775807 then (spec_l1Signs.l0 k1 a0 (x3_1 ++ ((⟨#[120, 119, 114]⟩ : ByteArray).extract ((Int.tmod x4_1 3) : Int).toNat ((wrap64 ((Int.tmod x4_1 3) + 1)) : Int).toNat)) (wrap64 (x4_1 - 1))) else (none)) else (none)) else (none)) else (none)) else (if x3_1.size + 1 ≤ 9223372036854775807 then (spec_l1Signs.l0 k1 a0 (x3_1 ++ (⟨#[45]⟩ : ByteArray)) (wrap64 (x4_1 - 1))) else (none))) = some r := by first | (rw [hji5] at H; exact H) | (simp only [hji5] at H ⊢; exact H)
          have hji5_ : (a0 / 2 ^ min (ji3).toNat 64) = ji5 := hji5
          have hji5z : (ji3) ≤ 64 → (a0 / 2 ^ (ji3).toNat) = ji5 := shr_small hji5
          by_cases c6 : (Go.bits .and .i64 (ji5) 1) = 1
          · rw [if_pos c6] at H
            have c6b0 : ((Go.bits .and .i64 (ji5) 1) == 1) = true := beq_iff_eq.mpr c6
            have c6b1 : ((Go.bits .and .i64 (ji5) 1) != 1) = false := bne_eq_false_iff_eq.mpr c6
            clear c6
            obtain ⟨ji7, hji7⟩ : ∃ j_ : Int, (Int.tmod x4_1 3) = j_ := ⟨_, rfl⟩
            replace H : (if 0 ≤ (ji7) then (if (ji7) ≤ (wrap64 ((ji7) + 1)) then (if (wrap64 ((ji7) + 1)) ≤ 3 then (if x3_1.size + ((⟨#[120, 119, 114]⟩ : ByteArray).extract ((ji7) : Int).toNat ((wrap64 ((ji7) + 1)) : Int).toNat).size ≤ 9223372036854775807 then (spec_l1Signs.l0 k1 a0 (x3_1 ++ ((⟨#[120, 119, 114]⟩ : ByteArray).extract ((ji7) : Int).toNat ((wrap64 ((ji7) + 1)) : Int).toNat)) (wrap64 (x4_1 - 1))) else (none)) else (none)) else (none)) else (none)) = some r := by first | (rw [hji7] at H; exact H) | (simp only [hji7] at H ⊢; exact H)
            by_cases c8 : 0 ≤ (ji7)
            · rw [if_pos c8] at H
              have c8b0 := eq_true c8
              have c8b1 : decide (0 ≤ (ji7)) = true := decide_eq_true c8
              clear c8
              by_cases c9 : (ji7) ≤ (wrap64 ((ji7) + 1))
              · rw [if_pos c9] at H
                have c9b0 := eq_true c9
                have c9b1 : decide ((ji7) ≤ (wrap64 ((ji7) + 1))) = true := decide_eq_true c9
                by_cases c10 : (wrap64 ((ji7) + 1)) ≤ 3
                · rw [if_pos c10] at H
                  have c10b0 := eq_true c10
                  have c10b1 : decide ((wrap64 ((ji7) + 1)) ≤ 3) = true := decide_eq_true c10
                  by_cases c11 : x3_1.size + ((⟨#[120, 119, 114]⟩ : ByteArray).extract ((ji7) : Int).toNat ((wrap64 ((ji7) + 1)) : Int).toNat).size ≤ 9223372036854775807
                  · rw [if_pos c11] at H
                    have c11b0 := eq_true c11
                    have c11b1 : decide (x3_1.size + ((⟨#[120, 119, 114]⟩ : ByteArray).extract ((ji7) : Int).toNat ((wrap64 ((ji7) + 1)) : Int).toNat).size ≤ 9223372036854775807) = true := decide_eq_true c11
                    try have c11b2 : (9223372036854775807 < x3_1.size + ((⟨#[120, 119, 114]⟩ : ByteArray).extract ((ji7) : Int).toNat ((wrap64 ((ji7) + 1)) : Int).toNat).size) = False := eq_false (Nat.not_lt.2 c11)
                    have H' := Aside0.mk H
                    clear H
                    go_wp2
                    go_roundg k1
                    case measure => have := HK1.out; omega
                    case rel => exact ⟨(x3_1 ++ ((⟨#[120, 119, 114]⟩ : ByteArray).extract ((ji7) : Int).toNat ((wrap64 ((ji7) + 1)) : Int).toNat)), (wrap64 (x4_1 - 1)), (by first | rfl | (simp; done) | (simp only [← hji7] <;> (first | rfl | simp)) | (simp [*]; done)), (by first | rfl | (simp; done) | (simp [*]; done)), H', ⟨by have := HK1.out; omega⟩, by repeat (first | exact Drawn0.refl _ | apply Drawn0.step)⟩
                  · rw [if_neg c11] at H
                    exact absurd H (by simp)
                · rw [if_neg c10] at H
                  exact absurd H (by simp)
              · rw [if_neg c9] at H
                exact absurd H (by simp)
            · rw [if_neg c8] at H
              exact absurd H (by simp)
          · rw [if_neg c6] at H
            have c6b0 : ((Go.bits .and .i64 (ji5) 1) == 1) = false := beq_eq_false_iff_ne.mpr c6
            have c6b1 : ((Go.bits .and .i64 (ji5) 1) != 1) = true := bne_iff_ne.mpr c6
            by_cases c12 : x3_1.size + 1 ≤ 9223372036854775807
            · rw [if_pos c12] at H
              have c12b0 := eq_true c12
              have c12b1 : decide (x3_1.size + 1 ≤ 9223372036854775807) = true := decide_eq_true c12
              try have c12b2 : (9223372036854775807 < x3_1.size + 1) = False := eq_false (Nat.not_lt.2 c12)
              have H' := Aside0.mk H
              clear H
              go_wp2
              go_roundg k1
              case measure => have := HK1.out; omega
              case rel => exact ⟨(x3_1 ++ (⟨#[45]⟩ : ByteArray)), (wrap64 (x4_1 - 1)), (by first | rfl | (simp; done) | (simp [*]; done)), (by first | rfl | (simp; done) | (simp [*]; done)), H', ⟨by have := HK1.out; omega⟩, by repeat (first | exact Drawn0.refl _ | apply Drawn0.step)⟩
            · rw [if_neg c12] at H
              exact absurd H (by simp)
        · rw [if_neg c4] at H
          exact absurd H (by simp)
      · rw [if_neg c2] at H
        have c2b0 : decide (0 ≤ x4_1) = false := decide_eq_false c2
        clear c2
        obtain rfl := Option.some.inj H
        go_wp2
        go_ret
        exact ⟨by first | rfl | (simp; done) | (simp [*]; done), by repeat (first | exact Drawn0.refl _ | apply Drawn0.step)⟩

/-! ### spec_ReadMode: function 30 -/
def spec_ReadMode.l0 : Nat → ByteArray → Int → Option (Int × Bool)
  | 0, _, _ => none
  | k + 1, x0, x4 => if x4 < 512 then ((spec_l1Signs.f k x4).bind fun t101 => (if t101.toList = x0.toList then (some (x4, true)) else (spec_ReadMode.l0 k x0 (wrap64 (x4 + 1))))) else (some (0, false))
def spec_ReadMode.f (k : Nat) (a0 : ByteArray) : Option (Int × Bool) := spec_ReadMode.l0 k a0 0
theorem spec_ReadMode.mono_l : ∀ k, (∀ y0 y1, LeO (spec_ReadMode.l0 k y0 y1) (spec_ReadMode.l0 (k + 1) y0 y1))
  | 0 => fun _ _ r h => by simp [spec_ReadMode.l0] at h
  | k + 1 => by
    have ih0 := spec_ReadMode.mono_l k
    · intro y0 y1
      unfold spec_ReadMode.l0
      repeat' first
      | (with_reducible exact ih0 _ _)
      | (with_reducible exact spec_l1Signs.mono _ _)
      | (with_reducible exact LeO.refl _)
      | (with_reducible exact LeO.none _)
      | (with_reducible refine LeO.ite ?_ ?_)
      | (with_reducible refine LeO.bind ?_ (fun _ => ?_))
      | exact ih0 _ _
      | exact spec_l1Signs.mono _ _
      | exact LeO.none _
      | refine LeO.ite ?_ ?_
      | refine LeO.bind ?_ (fun _ => ?_)
theorem spec_ReadMode.mono : ∀ a0 k, LeO (spec_ReadMode.f k a0) (spec_ReadMode.f (k + 1) a0) := by
  intro a0 k
  have ih0 := spec_ReadMode.mono_l k
  unfold spec_ReadMode.f
  repeat' first
      | (with_reducible exact ih0 _ _)
      | (with_reducible exact spec_l1Signs.mono _ _)
      | (with_reducible exact LeO.refl _)
      | (with_reducible exact LeO.none _)
      | (with_reducible refine LeO.ite ?_ ?_)
      | (with_reducible refine LeO.bind ?_ (fun _ => ?_))
      | exact ih0 _ _
      | exact spec_l1Signs.mono _ _
      | exact LeO.none _
      | refine LeO.ite ?_ ?_
      | refine LeO.bind ?_ (fun _ => ?_)
set_option maxHeartbeats 8000000 in
set_option maxRecDepth 100000 in
theorem spec_ReadMode.calls (k : Nat) (a0 : ByteArray) (r1 : Int) (r2 : Bool) (w : World) (h : spec_ReadMode.f k a0 = some (r1, r2)) :
    Calls Try.prog 30 #[.string a0] w fun e w' => e = .returned (.tuple #[.int .i64 r1, .bool r2]) ∧ Drawn0 w w' := by
  have H : (spec_ReadMode.l0 k a0 0) = some (r1, r2) := h
  clear h
  have H' := Aside0.mk H
  clear H
  go_enter Try.func30, Try.ntmps30
  go_wp2
  go_loopg [4] k (fun kq v4 w' => ∃ (x4_1 : Int), v4 = .int .i64 x4_1 ∧ Aside0 (spec_ReadMode.l0 kq a0 x4_1 = some (r1, r2)) ∧ Aside0 (kq ≤ k) ∧ Drawn0 w w')
  case atStart => exact ⟨(0), (by first | rfl | (simp; done) | (simp [*]; done)), H', ⟨Nat.le_refl _⟩, by repeat (first | exact Drawn0.refl _ | apply Drawn0.step)⟩
  case round =>
    clear H'
    obtain ⟨x4_1, rfl, HA, HK1, ⟨m1, rfl⟩⟩ := hrel
    cases gk with
    | zero => exact absurd HA.out (by simp [spec_ReadMode.l0])
    | succ k1 =>
      have H := HA.out
      clear HA
      simp only [spec_ReadMode.l0] at H
      by_cases c2 : x4_1 < 512
      · rw [if_pos c2] at H
        have c2b0 : decide (x4_1 < 512) = true := decide_eq_true c2
        clear c2
        replace H := Option.bind_eq_some_iff.mp H
        obtain ⟨t101, A30, H⟩ := H
        replace H : (if t101.toList = a0.toList then (some (x4_1, true)) else (spec_ReadMode.l0 k1 a0 (wrap64 (x4_1 + 1)))) = some (r1, r2) := H
        have A3 := Aside0.mk A30
        clear A30
        by_cases c4 : t101.toList = a0.toList
        · rw [if_pos c4] at H
          have c4b0 : (t101.toList == a0.toList) = true := beq_iff_eq.mpr c4
          have c4b1 : (t101.toList != a0.toList) = false := bne_eq_false_iff_eq.mpr c4
          clear c4
          simp only [Option.some.injEq, Prod.mk.injEq] at H
          obtain ⟨rfl, rfl⟩ := H
          go_wp2_with (first | ((with_reducible refine gate_callee (f := 54) rfl ?_); refine goesL_ (some 10) rfl rfl Try.func54 (by kernel_rfl) rfl #[.int .i64 x4_1] rfl (by (try simp only [List.map_toArray, List.map_cons, List.map_nil]); first | done | rfl | (simp only [List.length_drop, List.length_take]; rfl)) ?_; (with_reducible refine (spec_l1Signs.calls k1 x4_1 t101 _ A3.out).mono ?_); rintro e w' ⟨rfl, ⟨nd, rfl⟩⟩; refine ⟨_, rfl, ?_⟩))
          go_ret2
          exact ⟨by first | rfl | (simp; done) | (simp [*]; done), by repeat (first | exact Drawn0.refl _ | apply Drawn0.step)⟩
        · rw [if_neg c4] at H
          have c4b0 : (t101.toList == a0.toList) = false := beq_eq_false_iff_ne.mpr c4
          have c4b1 : (t101.toList != a0.toList) = true := bne_iff_ne.mpr c4
          have H' := Aside0.mk H
          clear H
          go_wp2_with (first | ((with_reducible refine gate_callee (f := 54) rfl ?_); refine goesL_ (some 10) rfl rfl Try.func54 (by kernel_rfl) rfl #[.int .i64 x4_1] rfl (by (try simp only [List.map_toArray, List.map_cons, List.map_nil]); first | done | rfl | (simp only [List.length_drop, List.length_take]; rfl)) ?_; (with_reducible refine (spec_l1Signs.calls k1 x4_1 t101 _ A3.out).mono ?_); rintro e w' ⟨rfl, ⟨nd, rfl⟩⟩; refine ⟨_, rfl, ?_⟩))
          go_roundg k1
          case measure => have := HK1.out; omega
          case rel => exact ⟨(wrap64 (x4_1 + 1)), (by first | rfl | (simp; done) | (simp [*]; done)), H', ⟨by have := HK1.out; omega⟩, by repeat (first | exact Drawn0.refl _ | apply Drawn0.step)⟩
      · rw [if_neg c2] at H
        have c2b0 : decide (x4_1 < 512) = false := decide_eq_false c2
        clear c2
        simp only [Option.some.injEq, Prod.mk.injEq] at H
        obtain ⟨rfl, rfl⟩ := H
        go_wp2
        go_ret2
        exact ⟨by first | rfl | (simp; done) | (simp [*]; done), by repeat (first | exact Drawn0.refl _ | apply Drawn0.step)⟩

/-! ### impl_modeText: function 55 -/
def impl_modeText.bit (a0 : Int) (j : Nat) : Bool := Go.bits .and .i64 (a0 / 2 ^ j) 1 == 0
def impl_modeText.base : List Int := [114, 119, 120, 114, 119, 120, 114, 119, 120]
def impl_modeText.list (a0 : Int) : List Int := [if impl_modeText.bit a0 8 then 45 else 114, if impl_modeText.bit a0 7 then 45 else 119, if impl_modeText.bit a0 6 then 45 else 120, if impl_modeText.bit a0 5 then 45 else 114, if impl_modeText.bit a0 4 then 45 else 119, if impl_modeText.bit a0 3 then 45 else 120, if impl_modeText.bit a0 2 then 45 else 114, if impl_modeText.bit a0 1 then 45 else 119, if impl_modeText.bit a0 0 then 45 else 120]
def impl_modeText.f (a0 : Int) : Option ByteArray := some (strOfNums (impl_modeText.list a0))
def impl_modeText.at_ (a0 : Int) (k : Nat) : List Int := (impl_modeText.list a0).take k ++ impl_modeText.base.drop k
/-- The row while the loop runs. -/
def impl_modeText.Row (a0 : Int) (g k : Nat) (W : World) : Prop := W.heap[g]? = some (.cells ((impl_modeText.at_ a0 k).map (Value.int .u8)).toArray 5 (9, 10))
theorem impl_modeText.row_cell {a0 : Int} {g k : Nat} {W : World} (h : impl_modeText.Row a0 g k W) (i : Nat) : W.cell? ⟨g, i, none⟩ = ((impl_modeText.at_ a0 k).map (Value.int .u8))[i]? := by
  unfold impl_modeText.Row at h
  simp [World.cell?, h]
theorem impl_modeText.row_free {a0 : Int} {g k : Nat} {W : World} (h : impl_modeText.Row a0 g k W) (i : Nat) (hi : i < 9) : W.frozen? ⟨g, i, none⟩ = false := by
  unfold impl_modeText.Row at h
  simp [World.frozen?, h]; omega
theorem impl_modeText.row_set {a0 : Int} {g k : Nat} {W : World} (h : impl_modeText.Row a0 g k W) (v : Value) (c : Array Value) (hc : ((impl_modeText.at_ a0 k).map (Value.int .u8)).toArray.setIfInBounds k v = c) : (W.setCell ⟨g, k, none⟩ v).heap[g]? = some (.cells c 5 (9, 10)) := by
  unfold impl_modeText.Row at h
  subst hc
  simp [World.setCell, Array.getElem?_modify, h]
theorem impl_modeText.row_put {a0 : Int} {g k : Nat} {W : World} (hk : k < 9) (hb : impl_modeText.bit a0 (8 - k) = true) (h : impl_modeText.Row a0 g k W) : impl_modeText.Row a0 g (k + 1) (W.setCell ⟨g, k, none⟩ (.int .u8 45)) := by
  refine impl_modeText.row_set h _ _ ?_
  rcases (by omega : k = 0 ∨ k = 1 ∨ k = 2 ∨ k = 3 ∨ k = 4 ∨ k = 5 ∨ k = 6 ∨ k = 7 ∨ k = 8) with rfl | rfl | rfl | rfl | rfl | rfl | rfl | rfl | rfl <;> simp only [Nat.reduceSub] at hb <;> simp [impl_modeText.at_, impl_modeText.base, impl_modeText.list, hb]
theorem impl_modeText.row_stay {a0 : Int} {g k : Nat} {W : World} (hk : k < 9) (hb : impl_modeText.bit a0 (8 - k) = false) (h : impl_modeText.Row a0 g k W) : impl_modeText.Row a0 g (k + 1) W := by
  have e : impl_modeText.at_ a0 (k + 1) = impl_modeText.at_ a0 k := by
    rcases (by omega : k = 0 ∨ k = 1 ∨ k = 2 ∨ k = 3 ∨ k = 4 ∨ k = 5 ∨ k = 6 ∨ k = 7 ∨ k = 8) with rfl | rfl | rfl | rfl | rfl | rfl | rfl | rfl | rfl <;> simp only [Nat.reduceSub] at hb <;> simp [impl_modeText.at_, impl_modeText.base, impl_modeText.list, hb]
  unfold impl_modeText.Row at h ⊢
  rw [e]; exact h
theorem impl_modeText.row_text {a0 : Int} {g : Nat} {W : World} (h : impl_modeText.Row a0 g 9 W) : (convert 60 9 (.slice (some ⟨g, 0, none⟩) 9 9)).run Try.prog W = .ok (.string (strOfNums (impl_modeText.list a0))) W := by
  refine run_convert_bytes_arg W 60 5 Try.underlying60 Try.underlying5 g 0 9 9 (impl_modeText.list a0) rfl (fun i hi => ?_) 9 Try.underlying9
  have hl : i < (impl_modeText.list a0).length := hi
  have e : impl_modeText.at_ a0 9 = impl_modeText.list a0 := by simp [impl_modeText.at_, impl_modeText.base, impl_modeText.list]
  rw [Nat.zero_add, impl_modeText.row_cell h, e]
  simp [List.getElem?_eq_getElem hl]
set_option maxHeartbeats 4000000 in
theorem impl_modeText.calls (a0 : Int) (r : ByteArray) (w : World) (h : impl_modeText.f a0 = some r) :
    Calls Try.prog 55 #[.int .i64 a0] w fun e w' => e = .returned (.string r) ∧ Below w.heap.size w w' := by
  obtain rfl := Option.some.inj h
  clear h
  have kc := fun (w : World) (C : Array Value) (n c : Nat) => Lib.run_convert_bytes_const (P := Try.prog) w 60 5 C n c Try.underlying60 Try.underlying5
  go_enter Try.func55, Try.ntmps55
  go_wp2
  go_loopw [9] (fun i wr => ∃ k : Nat, k ≤ 9 ∧ i = .int .i64 k ∧ impl_modeText.Row a0 w.heap.size k wr ∧ Below w.heap.size w wr) (fun i _ => 9 - (intOf i).toNat)
  case atStart => exact ⟨0, by omega, rfl, by unfold impl_modeText.Row; simpa [impl_modeText.at_, impl_modeText.base] using heap_alloc_new w _, (Below.refl _ w).alloc (Nat.le_refl _) _⟩
  case round =>
    obtain ⟨k, hk, rfl, hrow, hb⟩ := hrel
    have HB := Aside0.mk hb
    have HR := Aside0.mk hrow
    clear hb hrow
    by_cases hlt : k < 9
    · rcases (by omega : k = 0 ∨ k = 1 ∨ k = 2 ∨ k = 3 ∨ k = 4 ∨ k = 5 ∨ k = 6 ∨ k = 7 ∨ k = 8) with rfl | rfl | rfl | rfl | rfl | rfl | rfl | rfl | rfl
      · have hc := impl_modeText.row_cell HR.out 0
        have hf := impl_modeText.row_free HR.out 0 (by omega)
        simp [impl_modeText.at_, impl_modeText.base, impl_modeText.list] at hc
        go_wp2
        · rename_i hb_
          exact ⟨⟨1, by omega, rfl, impl_modeText.row_put (k := 0) (by omega) (by simpa [impl_modeText.bit] using hb_) HR.out, HB.out.setCell (Nat.le_refl _) _⟩, by simp [intOf]⟩
        · rename_i hb_
          exact ⟨⟨1, by omega, rfl, impl_modeText.row_stay (k := 0) (by omega) (by simpa [impl_modeText.bit] using hb_) HR.out, HB.out⟩, by simp [intOf]⟩
      · have hc := impl_modeText.row_cell HR.out 1
        have hf := impl_modeText.row_free HR.out 1 (by omega)
        simp [impl_modeText.at_, impl_modeText.base, impl_modeText.list] at hc
        go_wp2
        · rename_i hb_
          exact ⟨⟨2, by omega, rfl, impl_modeText.row_put (k := 1) (by omega) (by simpa [impl_modeText.bit] using hb_) HR.out, HB.out.setCell (Nat.le_refl _) _⟩, by simp [intOf]⟩
        · rename_i hb_
          exact ⟨⟨2, by omega, rfl, impl_modeText.row_stay (k := 1) (by omega) (by simpa [impl_modeText.bit] using hb_) HR.out, HB.out⟩, by simp [intOf]⟩
      · have hc := impl_modeText.row_cell HR.out 2
        have hf := impl_modeText.row_free HR.out 2 (by omega)
        simp [impl_modeText.at_, impl_modeText.base, impl_modeText.list] at hc
        go_wp2
        · rename_i hb_
          exact ⟨⟨3, by omega, rfl, impl_modeText.row_put (k := 2) (by omega) (by simpa [impl_modeText.bit] using hb_) HR.out, HB.out.setCell (Nat.le_refl _) _⟩, by simp [intOf]⟩
        · rename_i hb_
          exact ⟨⟨3, by omega, rfl, impl_modeText.row_stay (k := 2) (by omega) (by simpa [impl_modeText.bit] using hb_) HR.out, HB.out⟩, by simp [intOf]⟩
      · have hc := impl_modeText.row_cell HR.out 3
        have hf := impl_modeText.row_free HR.out 3 (by omega)
        simp [impl_modeText.at_, impl_modeText.base, impl_modeText.list] at hc
        go_wp2
        · rename_i hb_
          exact ⟨⟨4, by omega, rfl, impl_modeText.row_put (k := 3) (by omega) (by simpa [impl_modeText.bit] using hb_) HR.out, HB.out.setCell (Nat.le_refl _) _⟩, by simp [intOf]⟩
        · rename_i hb_
          exact ⟨⟨4, by omega, rfl, impl_modeText.row_stay (k := 3) (by omega) (by simpa [impl_modeText.bit] using hb_) HR.out, HB.out⟩, by simp [intOf]⟩
      · have hc := impl_modeText.row_cell HR.out 4
        have hf := impl_modeText.row_free HR.out 4 (by omega)
        simp [impl_modeText.at_, impl_modeText.base, impl_modeText.list] at hc
        go_wp2
        · rename_i hb_
          exact ⟨⟨5, by omega, rfl, impl_modeText.row_put (k := 4) (by omega) (by simpa [impl_modeText.bit] using hb_) HR.out, HB.out.setCell (Nat.le_refl _) _⟩, by simp [intOf]⟩
        · rename_i hb_
          exact ⟨⟨5, by omega, rfl, impl_modeText.row_stay (k := 4) (by omega) (by simpa [impl_modeText.bit] using hb_) HR.out, HB.out⟩, by simp [intOf]⟩
      · have hc := impl_modeText.row_cell HR.out 5
        have hf := impl_modeText.row_free HR.out 5 (by omega)
        simp [impl_modeText.at_, impl_modeText.base, impl_modeText.list] at hc
        go_wp2
        · rename_i hb_
          exact ⟨⟨6, by omega, rfl, impl_modeText.row_put (k := 5) (by omega) (by simpa [impl_modeText.bit] using hb_) HR.out, HB.out.setCell (Nat.le_refl _) _⟩, by simp [intOf]⟩
        · rename_i hb_
          exact ⟨⟨6, by omega, rfl, impl_modeText.row_stay (k := 5) (by omega) (by simpa [impl_modeText.bit] using hb_) HR.out, HB.out⟩, by simp [intOf]⟩
      · have hc := impl_modeText.row_cell HR.out 6
        have hf := impl_modeText.row_free HR.out 6 (by omega)
        simp [impl_modeText.at_, impl_modeText.base, impl_modeText.list] at hc
        go_wp2
        · rename_i hb_
          exact ⟨⟨7, by omega, rfl, impl_modeText.row_put (k := 6) (by omega) (by simpa [impl_modeText.bit] using hb_) HR.out, HB.out.setCell (Nat.le_refl _) _⟩, by simp [intOf]⟩
        · rename_i hb_
          exact ⟨⟨7, by omega, rfl, impl_modeText.row_stay (k := 6) (by omega) (by simpa [impl_modeText.bit] using hb_) HR.out, HB.out⟩, by simp [intOf]⟩
      · have hc := impl_modeText.row_cell HR.out 7
        have hf := impl_modeText.row_free HR.out 7 (by omega)
        simp [impl_modeText.at_, impl_modeText.base, impl_modeText.list] at hc
        go_wp2
        · rename_i hb_
          exact ⟨⟨8, by omega, rfl, impl_modeText.row_put (k := 7) (by omega) (by simpa [impl_modeText.bit] using hb_) HR.out, HB.out.setCell (Nat.le_refl _) _⟩, by simp [intOf]⟩
        · rename_i hb_
          exact ⟨⟨8, by omega, rfl, impl_modeText.row_stay (k := 7) (by omega) (by simpa [impl_modeText.bit] using hb_) HR.out, HB.out⟩, by simp [intOf]⟩
      · have hc := impl_modeText.row_cell HR.out 8
        have hf := impl_modeText.row_free HR.out 8 (by omega)
        simp [impl_modeText.at_, impl_modeText.base, impl_modeText.list] at hc
        go_wp2
        · rename_i hb_
          exact ⟨⟨9, by omega, rfl, impl_modeText.row_put (k := 8) (by omega) (by simpa [impl_modeText.bit] using hb_) HR.out, HB.out.setCell (Nat.le_refl _) _⟩, by simp [intOf]⟩
        · rename_i hb_
          exact ⟨⟨9, by omega, rfl, impl_modeText.row_stay (k := 8) (by omega) (by simpa [impl_modeText.bit] using hb_) HR.out, HB.out⟩, by simp [intOf]⟩
    · obtain rfl : k = 9 := by omega
      have hcv := impl_modeText.row_text HR.out
      go_wp2
      go_ret
      exact ⟨rfl, HB.out⟩

/-! ### impl_ReadMode: function 31 -/
def impl_ReadMode.l0 : Nat → ByteArray → Int → Int → Int → Option (Int × Bool)
  | 0, _, _, _, _ => none
  | k + 1, x0, x4, x8, x9 => if x9 < x8 then (if 0 ≤ x9 then (if x9 < (x0.size : Int) then (if (bt x0 x9) = 45 then (impl_ReadMode.l0 k x0 (wrap64 (x4 * 2)) x8 (wrap64 (x9 + 1))) else (impl_ReadMode.l0 k x0 (wrap64 ((wrap64 (x4 * 2)) + 1)) x8 (wrap64 (x9 + 1)))) else (none)) else (none)) else ((impl_modeText.f x4).bind fun t102 => (if t102.toList = x0.toList then (some (x4, true)) else (some (0, false))))
def impl_ReadMode.f (k : Nat) (a0 : ByteArray) : Option (Int × Bool) := impl_ReadMode.l0 k a0 0 (mn (a0.size : Int) 9) 0
theorem impl_ReadMode.mono_l : ∀ k, (∀ y0 y1 y2 y3, LeO (impl_ReadMode.l0 k y0 y1 y2 y3) (impl_ReadMode.l0 (k + 1) y0 y1 y2 y3))
  | 0 => fun _ _ _ _ r h => by simp [impl_ReadMode.l0] at h
  | k + 1 => by
    have ih0 := impl_ReadMode.mono_l k
    · intro y0 y1 y2 y3
      unfold impl_ReadMode.l0
      repeat' first
      | (with_reducible exact ih0 _ _ _ _)
      | (with_reducible exact LeO.refl _)
      | (with_reducible exact LeO.none _)
      | (with_reducible refine LeO.ite ?_ ?_)
      | (with_reducible refine LeO.bind ?_ (fun _ => ?_))
      | exact ih0 _ _ _ _
      | exact LeO.none _
      | refine LeO.ite ?_ ?_
      | refine LeO.bind ?_ (fun _ => ?_)
theorem impl_ReadMode.mono : ∀ a0 k, LeO (impl_ReadMode.f k a0) (impl_ReadMode.f (k + 1) a0) := by
  intro a0 k
  have ih0 := impl_ReadMode.mono_l k
  unfold impl_ReadMode.f
  repeat' first
      | (with_reducible exact ih0 _ _ _ _)
      | (with_reducible exact LeO.refl _)
      | (with_reducible exact LeO.none _)
      | (with_reducible refine LeO.ite ?_ ?_)
      | (with_reducible refine LeO.bind ?_ (fun _ => ?_))
      | exact ih0 _ _ _ _
      | exact LeO.none _
      | refine LeO.ite ?_ ?_
      | refine LeO.bind ?_ (fun _ => ?_)
set_option maxHeartbeats 8000000 in
set_option maxRecDepth 100000 in
theorem impl_ReadMode.calls (k : Nat) (a0 : ByteArray) (r1 : Int) (r2 : Bool) (w : World) (h : impl_ReadMode.f k a0 = some (r1, r2)) :
    Calls Try.prog 31 #[.string a0] w fun e w' => e = .returned (.tuple #[.int .i64 r1, .bool r2]) ∧ Below w.heap.size w w' := by
  have HB := Aside0.mk (Below.refl w.heap.size w)
  have H : (impl_ReadMode.l0 k a0 0 (mn (a0.size : Int) 9) 0) = some (r1, r2) := h
  clear h
  obtain ⟨ji2, hji2⟩ : ∃ j_ : Int, (mn (a0.size : Int) 9) = j_ := ⟨_, rfl⟩
  replace H : (impl_ReadMode.l0 k a0 0 ji2 0) = some (r1, r2) := by first | (rw [hji2] at H; exact H) | (simp only [hji2] at H ⊢; exact H)
  (try (have hji2h : ji2 ≤ 9 := by (rw [← hji2]; unfold mn; (repeat' split) <;> omega)))
  (try (have hji2g : ji2 ≤ 64 := by omega))
  (try (have hji2l : 0 ≤ ji2 := by (rw [← hji2]; unfold mn; (repeat' split) <;> omega)))
  (try (have hji2m : 0 ≤ ji2 := by omega))
  have hji2_ : (if 9 < (a0.size : Int) then 9 else (a0.size : Int)) = ji2 := hji2
  have H' := Aside0.mk H
  clear H
  go_enter Try.func31, Try.ntmps31
  go_wp2
  go_loopg [4, 9] k (fun kq v4 v9 w' => ∃ (x4_1 : Int) (x9_1 : Int), v4 = .int .i64 x4_1 ∧ v9 = .int .i64 x9_1 ∧ Aside0 (impl_ReadMode.l0 kq a0 x4_1 ji2 x9_1 = some (r1, r2)) ∧ Aside0 (kq ≤ k) ∧ Aside0 (Below w.heap.size w w'))
  case atStart => exact ⟨(0), (0), (by first | rfl | (simp; done) | (simp [*]; done)), (by first | rfl | (simp; done) | (simp [*]; done)), H', ⟨Nat.le_refl _⟩, ⟨by repeat (first | (with_reducible first | exact HB.out | apply below_alloc | apply pw_below_drewN | apply below_drew1) | exact HB.out)⟩⟩
  case round =>
    clear H'
    try clear p2
    obtain ⟨x4_1, x9_1, rfl, rfl, HA, HK1, HB⟩ := hrel
    cases gk with
    | zero => exact absurd HA.out (by simp [impl_ReadMode.l0])
    | succ k1 =>
      have H := HA.out
      clear HA
      simp only [impl_ReadMode.l0] at H
      by_cases c3 : x9_1 < ji2
      · rw [if_pos c3] at H
        have c3b0 : decide (x9_1 < ji2) = true := decide_eq_true c3
        clear c3
        by_cases c4 : 0 ≤ x9_1
        · rw [if_pos c4] at H
          have c4b0 : decide (0 ≤ x9_1) = true := decide_eq_true c4
          clear c4
          by_cases c5 : x9_1 < (a0.size : Int)
          · rw [if_pos c5] at H
            have c5b0 : decide (x9_1 < (a0.size : Int)) = true := decide_eq_true c5
            clear c5
            by_cases c7 : (bt a0 x9_1) = 45
            · rw [if_pos c7] at H
              have c7b0 : ((bt a0 x9_1) == 45) = true := beq_iff_eq.mpr c7
              have c7b1 : ((bt a0 x9_1) != 45) = false := bne_eq_false_iff_eq.mpr c7
              clear c7
              have H' := Aside0.mk H
              clear H
              have p6 : 0 ≤ (x9_1 : Int) := of_decide_eq_true (by first | (with_reducible assumption) | assumption)
              have q6 : x9_1 < (a0.size : Int) := of_decide_eq_true (by first | (with_reducible assumption) | assumption)
              have hx6 := bt_at a0 x9_1
              replace p6 := eq_true p6
              replace q6 := eq_true q6
              go_wp2
              go_roundg k1
              case measure => have := HK1.out; omega
              case rel => exact ⟨(wrap64 (x4_1 * 2)), (wrap64 (x9_1 + 1)), (by first | rfl | (simp; done) | (simp [*]; done)), (by first | rfl | (simp; done) | (simp [*]; done)), H', ⟨by have := HK1.out; omega⟩, ⟨by repeat (first | (with_reducible first | exact HB.out | apply below_alloc | apply pw_below_drewN | apply below_drew1) | exact HB.out)⟩⟩
            · rw [if_neg c7] at H
              have c7b0 : ((bt a0 x9_1) == 45) = false := beq_eq_false_iff_ne.mpr c7
              have c7b1 : ((bt a0 x9_1) != 45) = true := bne_iff_ne.mpr c7
              have H' := Aside0.mk H
              clear H
              have p6 : 0 ≤ (x9_1 : Int) := of_decide_eq_true (by first | (with_reducible assumption) | assumption)
              have q6 : x9_1 < (a0.size : Int) := of_decide_eq_true (by first | (with_reducible assumption) | assumption)
              have hx6 := bt_at a0 x9_1
              replace p6 := eq_true p6
              replace q6 := eq_true q6
              go_wp2
              go_roundg k1
              case measure => have := HK1.out; omega
              case rel => exact ⟨(wrap64 ((wrap64 (x4_1 * 2)) + 1)), (wrap64 (x9_1 + 1)), (by first | rfl | (simp; done) | (simp [*]; done)), (by first | rfl | (simp; done) | (simp [*]; done)), H', ⟨by have := HK1.out; omega⟩, ⟨by repeat (first | (with_reducible first | exact HB.out | apply below_alloc | apply pw_below_drewN | apply below_drew1) | exact HB.out)⟩⟩
          · rw [if_neg c5] at H
            exact absurd H (by simp)
        · rw [if_neg c4] at H
          exact absurd H (by simp)
      · rw [if_neg c3] at H
        have c3b0 : decide (x9_1 < ji2) = false := decide_eq_false c3
        clear c3
        replace H := Option.bind_eq_some_iff.mp H
        obtain ⟨t102, A80, H⟩ := H
        replace H : (if t102.toList = a0.toList then (some (x4_1, true)) else (some (0, false))) = some (r1, r2) := H
        have A8 := Aside0.mk A80
        clear A80
        by_cases c9 : t102.toList = a0.toList
        · rw [if_pos c9] at H
          have c9b0 : (t102.toList == a0.toList) = true := beq_iff_eq.mpr c9
          have c9b1 : (t102.toList != a0.toList) = false := bne_eq_false_iff_eq.mpr c9
          clear c9
          simp only [Option.some.injEq, Prod.mk.injEq] at H
          obtain ⟨rfl, rfl⟩ := H
          go_wp2_with (first | ((with_reducible refine gate_callee (f := 55) rfl ?_); refine goesL_ (some 22) rfl rfl Try.func55 (by kernel_rfl) rfl #[.int .i64 x4_1] rfl (by (try simp only [List.map_toArray, List.map_cons, List.map_nil]); first | done | rfl | (simp only [List.length_drop, List.length_take]; rfl)) ?_; (with_reducible refine (impl_modeText.calls x4_1 t102 _ A8.out).mono ?_); rintro e w10 ⟨rfl, hb⟩; refine ⟨_, rfl, ?_⟩; have n0_ := Aside0.mk (below_step (by repeat (first | (with_reducible first | exact HB.out | apply below_alloc | apply pw_below_drewN | apply below_drew1) | exact HB.out)) hb); clear HB; have HB := n0_; clear n0_; (try clear hb); (try clear hb2); (try clear hk); (try clear hi)))
          go_ret2
          exact ⟨by first | rfl | (simp [errW_none, errW_some] <;> rfl) | (simp only [← hji2]; first | rfl | (simp [errW_none, errW_some] <;> rfl)) | (simp [*, errW_none, errW_some] <;> rfl), by repeat (first | (with_reducible first | exact HB.out | apply below_alloc | apply pw_below_drewN | apply below_drew1) | exact HB.out)⟩
        · rw [if_neg c9] at H
          have c9b0 : (t102.toList == a0.toList) = false := beq_eq_false_iff_ne.mpr c9
          have c9b1 : (t102.toList != a0.toList) = true := bne_iff_ne.mpr c9
          simp only [Option.some.injEq, Prod.mk.injEq] at H
          obtain ⟨rfl, rfl⟩ := H
          go_wp2_with (first | ((with_reducible refine gate_callee (f := 55) rfl ?_); refine goesL_ (some 22) rfl rfl Try.func55 (by kernel_rfl) rfl #[.int .i64 x4_1] rfl (by (try simp only [List.map_toArray, List.map_cons, List.map_nil]); first | done | rfl | (simp only [List.length_drop, List.length_take]; rfl)) ?_; (with_reducible refine (impl_modeText.calls x4_1 t102 _ A8.out).mono ?_); rintro e w11 ⟨rfl, hb⟩; refine ⟨_, rfl, ?_⟩; have n0_ := Aside0.mk (below_step (by repeat (first | (with_reducible first | exact HB.out | apply below_alloc | apply pw_below_drewN | apply below_drew1) | exact HB.out)) hb); clear HB; have HB := n0_; clear n0_; (try clear hb); (try clear hb2); (try clear hk); (try clear hi)))
          go_ret2
          exact ⟨by first | rfl | (simp [errW_none, errW_some] <;> rfl) | (simp only [← hji2]; first | rfl | (simp [errW_none, errW_some] <;> rfl)) | (simp [*, errW_none, errW_some] <;> rfl), by repeat (first | (with_reducible first | exact HB.out | apply below_alloc | apply pw_below_drewN | apply below_drew1) | exact HB.out)⟩

/-! ### laws_FnExactReadMode: function 11 -/
def laws_FnExactReadMode.f (k : Nat) (a0 : ByteArray) : Option (Bool) := if (a0.size : Int) > 1048576 then (some true) else ((spec_ReadMode.f k a0).bind fun bt103 => ((impl_ReadMode.f k a0).bind fun bt105 => (if bt105.1 = bt103.1 then (if (bt105.2 != bt103.2) = true then (some false) else (some true)) else (some false))))
theorem laws_FnExactReadMode.mono : ∀ a0 k, LeO (laws_FnExactReadMode.f k a0) (laws_FnExactReadMode.f (k + 1) a0) := by
  intro a0 k
  unfold laws_FnExactReadMode.f
  repeat' first
      | (with_reducible exact impl_ReadMode.mono _ _)
      | (with_reducible exact spec_ReadMode.mono _ _)
      | (with_reducible exact LeO.refl _)
      | (with_reducible exact LeO.none _)
      | (with_reducible refine LeO.ite ?_ ?_)
      | (with_reducible refine LeO.bind ?_ (fun _ => ?_))
      | exact impl_ReadMode.mono _ _
      | exact spec_ReadMode.mono _ _
      | exact LeO.none _
      | refine LeO.ite ?_ ?_
      | refine LeO.bind ?_ (fun _ => ?_)
set_option maxHeartbeats 8000000 in
set_option maxRecDepth 100000 in
theorem laws_FnExactReadMode.calls (k : Nat) (a0 : ByteArray) (r : Bool) (w : World) (h : laws_FnExactReadMode.f k a0 = some r) :
    Calls Try.prog 11 #[.string a0] w fun e w' => e = .returned (.bool r) ∧ Below w.heap.size w w' := by
  have HB := Aside0.mk (Below.refl w.heap.size w)
  have H : (if (a0.size : Int) > 1048576 then (some true) else ((spec_ReadMode.f k a0).bind fun bt103 => ((impl_ReadMode.f k a0).bind fun bt105 => (if bt105.1 = bt103.1 then (if (bt105.2 != bt103.2) = true then (some false) else (some true)) else (some false))))) = some r := h
  clear h
  by_cases c2 : (a0.size : Int) > 1048576
  · rw [if_pos c2] at H
    have c2b0 : decide (1048576 < (a0.size : Int)) = true := decide_eq_true c2
    have c2b1 : decide (1048576 < a0.size) = true := decide_eq_true (by omega)
    clear c2
    obtain rfl := Option.some.inj H
    go_enter Try.func11, Try.ntmps11
    go_wp2
    go_ret
    exact ⟨by first | rfl | (simp [errW_none, errW_some] <;> rfl) | (simp [*, errW_none, errW_some] <;> rfl), by repeat (first | (with_reducible first | exact HB.out | apply below_alloc | apply pw_below_drewN | apply below_drew1) | exact HB.out)⟩
  · rw [if_neg c2] at H
    have c2b0 : decide (1048576 < (a0.size : Int)) = false := decide_eq_false c2
    have c2b1 : decide (1048576 < a0.size) = false := decide_eq_false (by omega)
    clear c2
    replace H := Option.bind_eq_some_iff.mp H
    obtain ⟨⟨t103, t104⟩, A30, H⟩ := H
    replace H : ((impl_ReadMode.f k a0).bind fun bt105 => (if bt105.1 = t103 then (if (bt105.2 != t104) = true then (some false) else (some true)) else (some false))) = some r := H
    have A3 := Aside0.mk A30
    clear A30
    replace H := Option.bind_eq_some_iff.mp H
    obtain ⟨⟨t105, t106⟩, A40, H⟩ := H
    replace H : (if t105 = t103 then (if (t106 != t104) = true then (some false) else (some true)) else (some false)) = some r := H
    have A4 := Aside0.mk A40
    clear A40
    by_cases c5 : t105 = t103
    · rw [if_pos c5] at H
      have c5b0 : (t105 == t103) = true := beq_iff_eq.mpr c5
      have c5b1 : (t105 != t103) = false := bne_eq_false_iff_eq.mpr c5
      clear c5
      by_cases c6 : (t106 != t104) = true
      · rw [if_pos c6] at H
        have c6b0 : (t106 != t104) = true := c6
        (try (have c6b1 : decide (t106 = t104) = false := by simpa using c6))
        (try (have c6b2 : (t106 == t104) = false := by simpa using c6))
        (try (have c6b3 : ¬ (t106 = t104) := by simpa using c6))
        clear c6
        obtain rfl := Option.some.inj H
        go_enter Try.func11, Try.ntmps11
        go_wp2_with (first | ((with_reducible refine gate_callee (f := 30) rfl ?_); refine goesL_ (some 12) rfl rfl Try.func30 (by kernel_rfl) rfl #[.string a0] rfl (by (try simp only [List.map_toArray, List.map_cons, List.map_nil]); first | done | rfl | (simp only [List.length_drop, List.length_take]; rfl)) ?_; (with_reducible refine (spec_ReadMode.calls k a0 t103 t104 _ A3.out).mono ?_); rintro e w' ⟨rfl, ⟨nd, rfl⟩⟩; refine ⟨_, rfl, ?_⟩) | ((with_reducible refine gate_callee (f := 31) rfl ?_); refine goesL_ (some 17) rfl rfl Try.func31 (by kernel_rfl) rfl #[.string a0] rfl (by (try simp only [List.map_toArray, List.map_cons, List.map_nil]); first | done | rfl | (simp only [List.length_drop, List.length_take]; rfl)) ?_; (with_reducible refine (impl_ReadMode.calls k a0 t105 t106 _ A4.out).mono ?_); rintro e w7 ⟨rfl, hb⟩; refine ⟨_, rfl, ?_⟩; have n0_ := Aside0.mk (below_step (by repeat (first | (with_reducible first | exact HB.out | apply below_alloc | apply pw_below_drewN | apply below_drew1) | exact HB.out)) hb); clear HB; have HB := n0_; clear n0_; (try clear hb); (try clear hb2); (try clear hk); (try clear hi)))
        go_ret
        exact ⟨by first | rfl | (simp [errW_none, errW_some] <;> rfl) | (simp [*, errW_none, errW_some] <;> rfl), by repeat (first | (with_reducible first | exact HB.out | apply below_alloc | apply pw_below_drewN | apply below_drew1) | exact HB.out)⟩
      · rw [if_neg c6] at H
        have c6b0 : (t106 != t104) = false := by simpa using c6
        (try (have c6b1 : decide (t106 = t104) = true := by simpa using c6))
        (try (have c6b2 : (t106 == t104) = true := by simpa using c6))
        clear c6
        obtain rfl := Option.some.inj H
        go_enter Try.func11, Try.ntmps11
        go_wp2_with (first | ((with_reducible refine gate_callee (f := 30) rfl ?_); refine goesL_ (some 12) rfl rfl Try.func30 (by kernel_rfl) rfl #[.string a0] rfl (by (try simp only [List.map_toArray, List.map_cons, List.map_nil]); first | done | rfl | (simp only [List.length_drop, List.length_take]; rfl)) ?_; (with_reducible refine (spec_ReadMode.calls k a0 t103 t104 _ A3.out).mono ?_); rintro e w' ⟨rfl, ⟨nd, rfl⟩⟩; refine ⟨_, rfl, ?_⟩) | ((with_reducible refine gate_callee (f := 31) rfl ?_); refine goesL_ (some 17) rfl rfl Try.func31 (by kernel_rfl) rfl #[.string a0] rfl (by (try simp only [List.map_toArray, List.map_cons, List.map_nil]); first | done | rfl | (simp only [List.length_drop, List.length_take]; rfl)) ?_; (with_reducible refine (impl_ReadMode.calls k a0 t105 t106 _ A4.out).mono ?_); rintro e w8 ⟨rfl, hb⟩; refine ⟨_, rfl, ?_⟩; have n0_ := Aside0.mk (below_step (by repeat (first | (with_reducible first | exact HB.out | apply below_alloc | apply pw_below_drewN | apply below_drew1) | exact HB.out)) hb); clear HB; have HB := n0_; clear n0_; (try clear hb); (try clear hb2); (try clear hk); (try clear hi)))
        go_ret
        exact ⟨by first | rfl | (simp [errW_none, errW_some] <;> rfl) | (simp [*, errW_none, errW_some] <;> rfl), by repeat (first | (with_reducible first | exact HB.out | apply below_alloc | apply pw_below_drewN | apply below_drew1) | exact HB.out)⟩
    · rw [if_neg c5] at H
      have c5b0 : (t105 == t103) = false := beq_eq_false_iff_ne.mpr c5
      have c5b1 : (t105 != t103) = true := bne_iff_ne.mpr c5
      obtain rfl := Option.some.inj H
      go_enter Try.func11, Try.ntmps11
      go_wp2_with (first | ((with_reducible refine gate_callee (f := 30) rfl ?_); refine goesL_ (some 12) rfl rfl Try.func30 (by kernel_rfl) rfl #[.string a0] rfl (by (try simp only [List.map_toArray, List.map_cons, List.map_nil]); first | done | rfl | (simp only [List.length_drop, List.length_take]; rfl)) ?_; (with_reducible refine (spec_ReadMode.calls k a0 t103 t104 _ A3.out).mono ?_); rintro e w' ⟨rfl, ⟨nd, rfl⟩⟩; refine ⟨_, rfl, ?_⟩) | ((with_reducible refine gate_callee (f := 31) rfl ?_); refine goesL_ (some 17) rfl rfl Try.func31 (by kernel_rfl) rfl #[.string a0] rfl (by (try simp only [List.map_toArray, List.map_cons, List.map_nil]); first | done | rfl | (simp only [List.length_drop, List.length_take]; rfl)) ?_; (with_reducible refine (impl_ReadMode.calls k a0 t105 t106 _ A4.out).mono ?_); rintro e w9 ⟨rfl, hb⟩; refine ⟨_, rfl, ?_⟩; have n0_ := Aside0.mk (below_step (by repeat (first | (with_reducible first | exact HB.out | apply below_alloc | apply pw_below_drewN | apply below_drew1) | exact HB.out)) hb); clear HB; have HB := n0_; clear n0_; (try clear hb); (try clear hb2); (try clear hk); (try clear hi)))
      go_ret
      exact ⟨by first | rfl | (simp [errW_none, errW_some] <;> rfl) | (simp [*, errW_none, errW_some] <;> rfl), by repeat (first | (with_reducible first | exact HB.out | apply below_alloc | apply pw_below_drewN | apply below_drew1) | exact HB.out)⟩

/-- The one pure statement of laws_FnExactReadMode. -/
def laws_FnExactReadMode.Pure : Prop := ∀ (a0 : ByteArray), a0.size ≤ 9223372036854775807 → ∃ k, laws_FnExactReadMode.f k a0 = some true

end Go.Proofs.Ytpgdgkogllalnaa.PFnExactReadMode
