-- Written by a program of this session (wip/print2) out of the translation. Lean checks it.
import Derived.Test.YtpgdgkogllalnaaPFnExactModeTextx0
namespace Go.Proofs.Ytpgdgkogllalnaa.PFnExactModeText
open Go.RowKit Go.Proofs.YtpgdgkogllalnaaW.PrintWords Go.Proofs.YtpgdgkogllalnaaW.PrintLast Go.Proofs.YtpgdgkogllalnaaW.PrintMore
attribute [local go_sem] max2_int min2_int max_two min_two max_three min_three max_four min_four   -- for this text's walks alone
set_option linter.unusedVariables false
set_option linter.unusedSimpArgs false

/-! ### spec_l1In: function 45 -/
def spec_l1In.f (a0 : Int) (a1 : Int) (a2 : Int) : Option (Bool) := if a0 ≥ a1 then (some (decide (a0 ≤ a2))) else (some false)
set_option maxHeartbeats 8000000 in
set_option maxRecDepth 100000 in
theorem spec_l1In.calls (a0 : Int) (a1 : Int) (a2 : Int) (r : Bool) (w : World) (h : spec_l1In.f a0 a1 a2 = some r) :
    Calls Try.prog 45 #[.int .i64 a0, .int .i64 a1, .int .i64 a2] w fun e w' => e = .returned (.bool r) ∧ Drawn0 w w' := by
  have H : (if a0 ≥ a1 then (some (decide (a0 ≤ a2))) else (some false)) = some r := h
  clear h
  by_cases c4 : a0 ≥ a1
  · rw [if_pos c4] at H
    have c4b0 : decide (a1 ≤ a0) = true := decide_eq_true c4
    clear c4
    obtain rfl := Option.some.inj H
    go_enter Try.func45, Try.ntmps45
    go_wp2
    go_ret
    exact ⟨by first | rfl | (simp; done) | (simp [*]; done), by repeat (first | exact Drawn0.refl _ | apply Drawn0.step)⟩
  · rw [if_neg c4] at H
    have c4b0 : decide (a1 ≤ a0) = false := decide_eq_false c4
    clear c4
    obtain rfl := Option.some.inj H
    go_enter Try.func45, Try.ntmps45
    go_wp2
    go_ret
    exact ⟨by first | rfl | (simp; done) | (simp [*]; done), by repeat (first | exact Drawn0.refl _ | apply Drawn0.step)⟩

/-! ### spec_l1Mode: function 43 -/
def spec_l1Mode.f (a0 : Int) : Option (Bool) := (spec_l1In.f a0 0 511).bind fun t101 => (some t101)
set_option maxHeartbeats 8000000 in
set_option maxRecDepth 100000 in
theorem spec_l1Mode.calls (a0 : Int) (r : Bool) (w : World) (h : spec_l1Mode.f a0 = some r) :
    Calls Try.prog 43 #[.int .i64 a0] w fun e w' => e = .returned (.bool r) ∧ Drawn0 w w' := by
  have H : ((spec_l1In.f a0 0 511).bind fun t101 => (some t101)) = some r := h
  clear h
  replace H := Option.bind_eq_some_iff.mp H
  obtain ⟨t101, A20, H⟩ := H
  replace H : (some t101) = some r := H
  have A2 := Aside0.mk A20
  clear A20
  obtain rfl := Option.some.inj H
  go_enter Try.func43, Try.ntmps43
  go_wp2_with (first | ((with_reducible refine gate_callee (f := 45) rfl ?_); refine goesL_ (some 4) rfl rfl Try.func45 (by kernel_rfl) rfl #[.int .i64 a0, .int .i64 0, .int .i64 511] rfl (by (try simp only [List.map_toArray, List.map_cons, List.map_nil]); first | done | rfl | (simp only [List.length_drop, List.length_take]; rfl)) ?_; (with_reducible refine (spec_l1In.calls a0 0 511 t101 _ A2.out).mono ?_); rintro e w' ⟨rfl, ⟨nd, rfl⟩⟩; refine ⟨_, rfl, ?_⟩))
  go_ret
  exact ⟨by first | rfl | (simp; done) | (simp [*]; done), by repeat (first | exact Drawn0.refl _ | apply Drawn0.step)⟩

/-! ### spec_l1Signs: function 54 -/
def spec_l1Signs.l0 : Nat → Int → ByteArray → Int → Option (ByteArray)
  | 0, _, _, _ => none
  | k + 1, x0, x3, x4 => if x4 ≥ 0 then (if 0 ≤ (IntKind.u64.wrap (x4)) then (if (Go.bits .and .i64 (shr .i64 x0 (IntKind.u64.wrap (x4))) 1) = 1 then (if 0 ≤ (Int.tmod x4 3) then (if (Int.tmod x4 3) ≤ (wrap64 ((Int.tmod x4 3) + 1)) then (if (wrap64 ((Int.tmod x4 3) + 1)) ≤ 3 then (if x3.size + ((⟨#[120, 119, 114]⟩ : ByteArray).extract ((Int.tmod x4 3) : Int).toNat ((wrap64 ((Int.tmod x4 3) + 1)) : Int).toNat).size ≤ 9223372036854775807 then (spec_l1Signs.l0 k x0 (x3 ++ ((⟨#[120, 119, 114]⟩ : ByteArray).extract ((Int.tmod x4 3) : Int).toNat ((wrap64 ((Int.tmod x4 3) + 1)) : Int).toNat)) (wrap64 (x4 - 1))) else (none)) else (none)) else (none)) else (none)) else (if x3.size + 1 ≤ 9223372036854775807 then (spec_l1Signs.l0 k x0 (x3 ++ (⟨#[45]⟩ : ByteArray)) (wrap64 (x4 - 1))) else (none))) else (none)) else (some x3)
def spec_l1Signs.f (k : Nat) (a0 : Int) : Option (ByteArray) := spec_l1Signs.l0 k a0 (⟨#[]⟩ : ByteArray) 8
theorem spec_l1Signs.mono_l : ∀ k, (∀ y0 y1 y2, LeO (spec_l1Signs.l0 k y0 y1 y2) (spec_l1Signs.l0 (k + 1) y0 y1 y2))
  | 0 => fun _ _ _ r h => by simp [spec_l1Signs.l0] at h
  | k + 1 => by
    have ih0 := spec_l1Signs.mono_l k
    · intro y0 y1 y2
      unfold spec_l1Signs.l0
      repeat' first
      | (with_reducible exact ih0 _ _ _)
      | (with_reducible exact LeO.refl _)
      | (with_reducible exact LeO.none _)
      | (with_reducible refine LeO.ite ?_ ?_)
      | (with_reducible refine LeO.bind ?_ (fun _ => ?_))
      | exact ih0 _ _ _
      | exact LeO.none _
      | refine LeO.ite ?_ ?_
      | refine LeO.bind ?_ (fun _ => ?_)
theorem spec_l1Signs.mono : ∀ a0 k, LeO (spec_l1Signs.f k a0) (spec_l1Signs.f (k + 1) a0) := by
  intro a0 k
  have ih0 := spec_l1Signs.mono_l k
  unfold spec_l1Signs.f
  repeat' first
      | (with_reducible exact ih0 _ _ _)
      | (with_reducible exact LeO.refl _)
      | (with_reducible exact LeO.none _)
      | (with_reducible refine LeO.ite ?_ ?_)
      | (with_reducible refine LeO.bind ?_ (fun _ => ?_))
      | exact ih0 _ _ _
      | exact LeO.none _
      | refine LeO.ite ?_ ?_
      | refine LeO.bind ?_ (fun _ => ?_)
set_option maxHeartbeats 8000000 in
set_option maxRecDepth 100000 in
theorem spec_l1Signs.calls (k : Nat) (a0 : Int) (r : ByteArray) (w : World) (h : spec_l1Signs.f k a0 = some r) :
    Calls Try.prog 54 #[.int .i64 a0] w fun e w' => e = .returned (.string r) ∧ Drawn0 w w' := by
  have H : (spec_l1Signs.l0 k a0 (⟨#[]⟩ : ByteArray) 8) = some r := h
  clear h
  have H' := Aside0.mk H
  clear H
  go_enter Try.func54, Try.ntmps54
  go_wp2
  go_loopg [3, 4] k (fun kq v3 v4 w' => ∃ (x3_1 : ByteArray) (x4_1 : Int), v3 = .string x3_1 ∧ v4 = .int .i64 x4_1 ∧ Aside0 (spec_l1Signs.l0 kq a0 x3_1 x4_1 = some r) ∧ Aside0 (kq ≤ k) ∧ Drawn0 w w')
  case atStart => exact ⟨((⟨#[]⟩ : ByteArray)), (8), (by first | rfl | (simp; done) | (simp [*]; done)), (by first | rfl | (simp; done) | (simp [*]; done)), H', ⟨Nat.le_refl _⟩, by repeat (first | exact Drawn0.refl _ | apply Drawn0.step)⟩
  case round =>
    clear H'
    obtain ⟨x3_1, x4_1, rfl, rfl, HA, HK1, ⟨m1, rfl⟩⟩ := hrel
    cases gk with
    | zero => exact absurd HA.out (by simp [spec_l1Signs.l0])
    | succ k1 =>
      have H := HA.out
      clear HA
      simp only [spec_l1Signs.l0] at H
      by_cases c2 : x4_1 ≥ 0
      · rw [if_pos c2] at H
        have c2b0 : decide (0 ≤ x4_1) = true := decide_eq_true c2
        clear c2
        obtain ⟨ji3, hji3⟩ : ∃ j_ : Int, (IntKind.u64.wrap (x4_1)) = j_ := ⟨_, rfl⟩
        replace H : (if 0 ≤ (ji3) then (if (Go.bits .and .i64 (shr .i64 a0 (ji3)) 1) = 1 then (if 0 ≤ (Int.tmod x4_1 3) then (if (Int.tmod x4_1 3) ≤ (wrap64 ((Int.tmod x4_1 3) + 1)) then (if (wrap64 ((Int.tmod x4_1 3) + 1)) ≤ 3 then (if x3_1.size + ((⟨#[120, 119, 114]⟩ : ByteArray).extract ((Int.tmod x4_1 3) : Int).toNat ((wrap64 ((Int.tmod x4_1 3) + 1)) : Int).toNat).size ≤ 9223372036854775807 then (spec_l1Signs.l0 k1 a0 (x3_1 ++ ((⟨#[120, 119, 114]⟩ : ByteArray).extract ((Int.tmod x4_1 3) : Int).toNat ((wrap64 ((Int.tmod x4_1 3) + 1)) : Int).toNat)) (wrap64 (x4_1 - 1))) else (none)) else (none)) else (none)) else (none)) else (if x3_1.size + 1 ≤ 9223372036854775807 then (spec_l1Signs.l0 k1 a0 (x3_1 ++ (⟨#[45]⟩ : ByteArray)) (wrap64 (x4_1 - 1))) else (none))) else (none)) = some r := by first | (rw [hji3] at H; exact H) | (simp only [hji3] at H ⊢; exact H)
        by_cases c4 : 0 ≤ (ji3)
        · rw [if_pos c4] at H
          have c4b0 := eq_true c4
          have c4b1 : decide (0 ≤ (ji3)) = true := decide_eq_true c4
          clear c4
          obtain ⟨ji5, hji5⟩ : ∃ j_ : Int, (shr .i64 a0 (ji3)) = j_ := ⟨_, rfl⟩
          replace H : (if (Go.bits .and .i64 (ji5) 1) = 1 then (if 0 ≤ (Int.tmod x4_1 3) then (if (Int.tmod x4_1 3) ≤ (wrap64 ((Int.tmod x4_1 3) + 1)) then (if (wrap64 ((Int.tmod x4_1 3) + 1)) ≤ 3 then (if x3_1.size + ((⟨#[120, 119, 114]⟩ : ByteArray).extract ((Int.tmod x4_1 3) : Int).toNat ((wrap64 ((Int.tmod x4_1 3) + 1)) : Int).toNat).size ≤ 9223372036854775807 then (spec_l1Signs.l0 k1 a0 (x3_1 ++ ((⟨#[120, 119, 114]⟩ : ByteArray).extract ((Int.tmod x4_1 3) : Int).toNat ((wrap64 ((Int.tmod x4_1 3) + 1)) : Int).toNat)) (wrap64 (x4_1 - 1))) else (none)) else (none)) else (none)) else (none)) else (if x3_1.size + 1 ≤ 9223372036854775807 then (spec_l1Signs.l0 k1 a0 (x3_1 ++ (⟨#[45]⟩ : ByteArray)) (wrap64 (x4_1 - 1))) else (none))) = some r := by first | (rw [hji5] at H; exact H) | (simp only [hji5] at H ⊢; exact H)
          have hji5_ : (a0 / 2 ^ min (ji3).toNat 64) = ji5 := hji5
          have hji5z : (ji3) ≤ 64 → (a0 / 2 ^ (ji3).toNat) = ji5 := shr_small hji5
          by_cases c6 : (Go.bits .and .i64 (ji5) 1) = 1
          · rw [if_pos c6] at H
            have c6b0 : ((Go.bits .and .i64 (ji5) 1) == 1) = true := beq_iff_eq.mpr c6
            have c6b1 : ((Go.bits .and .i64 (ji5) 1) != 1) = false := bne_eq_false_iff_eq.mpr c6
            clear c6
            obtain ⟨ji7, hji7⟩ : ∃ j_ : Int, (Int.tmod x4_1 3) = j_ := ⟨_, rfl⟩
            replace H : (if 0 ≤ (ji7) then (if (ji7) ≤ (wrap64 ((ji7) + 1)) then (if (wrap64 ((ji7) + 1)) ≤ 3 then (if x3_1.size + ((⟨#[120, 119, 114]⟩ : ByteArray).extract ((ji7) : Int).toNat ((wrap64 ((ji7) + 1)) : Int).toNat).size ≤ 9223372036854775807 then (spec_l1Signs.l0 k1 a0 (x3_1 ++ ((⟨#[120, 119, 114]⟩ : ByteArray).extract ((ji7) : Int).toNat ((wrap64 ((ji7) + 1)) : Int).toNat)) (wrap64 (x4_1 - 1))) else (none)) else (none)) else (none)) else (none)) = some r := by first | (rw [hji7] at H; exact H) | (simp only [hji7] at H ⊢; exact H)
            by_cases c8 : 0 ≤ (ji7)
            · rw [if_pos c8] at H
              have c8b0 := eq_true c8
              have c8b1 : decide (0 ≤ (ji7)) = true := decide_eq_true c8
              clear c8
              by_cases c9 : (ji7) ≤ (wrap64 ((ji7) + 1))
              · rw [if_pos c9] at H
                have c9b0 := eq_true c9
                have c9b1 : decide ((ji7) ≤ (wrap64 ((ji7) + 1))) = true := decide_eq_true c9
                by_cases c10 : (wrap64 ((ji7) + 1)) ≤ 3
                · rw [if_pos c10] at H
                  have c10b0 := eq_true c10
                  have c10b1 : decide ((wrap64 ((ji7) + 1)) ≤ 3) = true := decide_eq_true c10
                  by_cases c11 : x3_1.size + ((⟨#[120, 119, 114]⟩ : ByteArray).extract ((ji7) : Int).toNat ((wrap64 ((ji7) + 1)) : Int).toNat).size ≤ 9223372036854775807
                  · rw [if_pos c11] at H
                    have c11b0 := eq_true c11
                    have c11b1 : decide (x3_1.size + ((⟨#[120, 119, 114]⟩ : ByteArray).extract ((ji7) : Int).toNat ((wrap64 ((ji7) + 1)) : Int).toNat).size ≤ 9223372036854775807) = true := decide_eq_true c11
                    try have c11b2 : (9223372036854775807 < x3_1.size + ((⟨#[120, 119, 114]⟩ : ByteArray).extract ((ji7) : Int).toNat ((wrap64 ((ji7) + 1)) : Int).toNat).size) = False := eq_false (Nat.not_lt.2 c11)
                    have H' := Aside0.mk H
                    clear H
                    go_wp2
                    go_roundg k1
                    case measure => have := HK1.out; omega
                    case rel => exact ⟨(x3_1 ++ ((⟨#[120, 119, 114]⟩ : ByteArray).extract ((ji7) : Int).toNat ((wrap64 ((ji7) + 1)) : Int).toNat)), (wrap64 (x4_1 - 1)), (by first | rfl | (simp; done) | (simp only [← hji7] <;> (first | rfl | simp)) | (simp [*]; done)), (by first | rfl | (simp; done) | (simp [*]; done)), H', ⟨by have := HK1.out; omega⟩, by repeat (first | exact Drawn0.refl _ | apply Drawn0.step)⟩
                  · rw [if_neg c11] at H
                    exact absurd H (by simp)
                · rw [if_neg c10] at H
                  exact absurd H (by simp)
              · rw [if_neg c9] at H
                exact absurd H (by simp)
            · rw [if_neg c8] at H
              exact absurd H (by simp)
          · rw [if_neg c6] at H
            have c6b0 : ((Go.bits .and .i64 (ji5) 1) == 1) = false := beq_eq_false_iff_ne.mpr c6
            have c6b1 : ((Go.bits .and .i64 (ji5) 1) != 1) = true := bne_iff_ne.mpr c6
            by_cases c12 : x3_1.size + 1 ≤ 9223372036854775807
            · rw [if_pos c12] at H
              have c12b0 := eq_true c12
              have c12b1 : decide (x3_1.size + 1 ≤ 9223372036854775807) = true := decide_eq_true c12
              try have c12b2 : (9223372036854775807 < x3_1.size + 1) = False := eq_false (Nat.not_lt.2 c12)
              have H' := Aside0.mk H
              clear H
              go_wp2
              go_roundg k1
              case measure => have := HK1.out; omega
              case rel => exact ⟨(x3_1 ++ (⟨#[45]⟩ : ByteArray)), (wrap64 (x4_1 - 1)), (by first | rfl | (simp; done) | (simp [*]; done)), (by first | rfl | (simp; done) | (simp [*]; done)), H', ⟨by have := HK1.out; omega⟩, by repeat (first | exact Drawn0.refl _ | apply Drawn0.step)⟩
            · rw [if_neg c12] at H
              exact absurd H (by simp)
        · rw [if_neg c4] at H
          exact absurd H (by simp)
      · rw [if_neg c2] at H
        have c2b0 : decide (0 ≤ x4_1) = false := decide_eq_false c2
        clear c2
        obtain rfl := Option.some.inj H
        go_wp2
        go_ret
        exact ⟨by first | rfl | (simp; done) | (simp [*]; done), by repeat (first | exact Drawn0.refl _ | apply Drawn0.step)⟩

/-! ### spec_ModeText: function 28 -/
def spec_ModeText.f (k : Nat) (a0 : Int) : Option (ByteArray × Bool) := (spec_l1Mode.f a0).bind fun t102 => (if t102 = true then ((spec_l1Signs.f k a0).bind fun t103 => (some (t103, true))) else (some ((⟨#[]⟩ : ByteArray), false)))
theorem spec_ModeText.mono : ∀ a0 k, LeO (spec_ModeText.f k a0) (spec_ModeText.f (k + 1) a0) := by
  intro a0 k
  unfold spec_ModeText.f
  repeat' first
      | (with_reducible exact spec_l1Signs.mono _ _)
      | (with_reducible exact LeO.refl _)
      | (with_reducible exact LeO.none _)
      | (with_reducible refine LeO.ite ?_ ?_)
      | (with_reducible refine LeO.bind ?_ (fun _ => ?_))
      | exact spec_l1Signs.mono _ _
      | exact LeO.none _
      | refine LeO.ite ?_ ?_
      | refine LeO.bind ?_ (fun _ => ?_)
set_option maxHeartbeats 8000000 in
set_option maxRecDepth 100000 in
theorem spec_ModeText.calls (k : Nat) (a0 : Int) (r1 : ByteArray) (r2 : Bool) (w : World) (h : spec_ModeText.f k a0 = some (r1, r2)) :
    Calls Try.prog 28 #[.int .i64 a0] w fun e w' => e = .returned (.tuple #[.string r1, .bool r2]) ∧ Drawn0 w w' := by
  have H : ((spec_l1Mode.f a0).bind fun t102 => (if t102 = true then ((spec_l1Signs.f k a0).bind fun t103 => (some (t103, true))) else (some ((⟨#[]⟩ : ByteArray), false)))) = some (r1, r2) := h
  clear h
  replace H := Option.bind_eq_some_iff.mp H
  obtain ⟨t102, A20, H⟩ := H
  replace H : (if t102 = true then ((spec_l1Signs.f k a0).bind fun t103 => (some (t103, true))) else (some ((⟨#[]⟩ : ByteArray), false))) = some (r1, r2) := H
  have A2 := Aside0.mk A20
  clear A20
  by_cases c3 : t102 = true
  · subst c3
    have H1 : ((spec_l1Signs.f k a0).bind fun t103 => (some (t103, true))) = some (r1, r2) := by rw [if_pos rfl] at H; exact H
    clear H
    have H := H1
    clear H1
    replace H := Option.bind_eq_some_iff.mp H
    obtain ⟨t103, A40, H⟩ := H
    replace H : (some (t103, true)) = some (r1, r2) := H
    have A4 := Aside0.mk A40
    clear A40
    simp only [Option.some.injEq, Prod.mk.injEq] at H
    obtain ⟨rfl, rfl⟩ := H
    go_enter Try.func28, Try.ntmps28
    go_wp2_with (first | ((with_reducible refine gate_callee (f := 43) rfl ?_); refine goesL_ (some 5) rfl rfl Try.func43 (by kernel_rfl) rfl #[.int .i64 a0] rfl (by (try simp only [List.map_toArray, List.map_cons, List.map_nil]); first | done | rfl | (simp only [List.length_drop, List.length_take]; rfl)) ?_; (with_reducible refine (spec_l1Mode.calls a0 true _ A2.out).mono ?_); rintro e w' ⟨rfl, ⟨nd, rfl⟩⟩; refine ⟨_, rfl, ?_⟩) | ((with_reducible refine gate_callee (f := 54) rfl ?_); refine goesL_ (some 8) rfl rfl Try.func54 (by kernel_rfl) rfl #[.int .i64 a0] rfl (by (try simp only [List.map_toArray, List.map_cons, List.map_nil]); first | done | rfl | (simp only [List.length_drop, List.length_take]; rfl)) ?_; (with_reducible refine (spec_l1Signs.calls k a0 t103 _ A4.out).mono ?_); rintro e w' ⟨rfl, ⟨nd, rfl⟩⟩; refine ⟨_, rfl, ?_⟩))
    go_ret2
    exact ⟨by first | rfl | (simp; done) | (simp [*]; done), by repeat (first | exact Drawn0.refl _ | apply Drawn0.step)⟩
  · replace c3 := Bool.eq_false_iff.mpr c3
    subst c3
    have H1 : (some ((⟨#[]⟩ : ByteArray), false)) = some (r1, r2) := by rw [if_neg (show ¬ (false = true) by decide)] at H; exact H
    clear H
    have H := H1
    clear H1
    simp only [Option.some.injEq, Prod.mk.injEq] at H
    obtain ⟨rfl, rfl⟩ := H
    go_enter Try.func28, Try.ntmps28
    go_wp2_with (first | ((with_reducible refine gate_callee (f := 43) rfl ?_); refine goesL_ (some 5) rfl rfl Try.func43 (by kernel_rfl) rfl #[.int .i64 a0] rfl (by (try simp only [List.map_toArray, List.map_cons, List.map_nil]); first | done | rfl | (simp only [List.length_drop, List.length_take]; rfl)) ?_; (with_reducible refine (spec_l1Mode.calls a0 false _ A2.out).mono ?_); rintro e w' ⟨rfl, ⟨nd, rfl⟩⟩; refine ⟨_, rfl, ?_⟩))
    go_ret2
    exact ⟨by first | rfl | (simp; done) | (simp [*]; done), by repeat (first | exact Drawn0.refl _ | apply Drawn0.step)⟩

/-! ### impl_within: function 47 -/
def impl_within.f (a0 : Int) (a1 : Int) (a2 : Int) : Option (Bool) := if a0 ≥ a1 then (some (decide (a0 ≤ a2))) else (some false)
set_option maxHeartbeats 8000000 in
set_option maxRecDepth 100000 in
theorem impl_within.calls (a0 : Int) (a1 : Int) (a2 : Int) (r : Bool) (w : World) (h : impl_within.f a0 a1 a2 = some r) :
    Calls Try.prog 47 #[.int .i64 a0, .int .i64 a1, .int .i64 a2] w fun e w' => e = .returned (.bool r) ∧ Drawn0 w w' := by
  have H : (if a0 ≥ a1 then (some (decide (a0 ≤ a2))) else (some false)) = some r := h
  clear h
  by_cases c4 : a0 ≥ a1
  · rw [if_pos c4] at H
    have c4b0 : decide (a1 ≤ a0) = true := decide_eq_true c4
    clear c4
    obtain rfl := Option.some.inj H
    go_enter Try.func47, Try.ntmps47
    go_wp2
    go_ret
    exact ⟨by first | rfl | (simp; done) | (simp [*]; done), by repeat (first | exact Drawn0.refl _ | apply Drawn0.step)⟩
  · rw [if_neg c4] at H
    have c4b0 : decide (a1 ≤ a0) = false := decide_eq_false c4
    clear c4
    obtain rfl := Option.some.inj H
    go_enter Try.func47, Try.ntmps47
    go_wp2
    go_ret
    exact ⟨by first | rfl | (simp; done) | (simp [*]; done), by repeat (first | exact Drawn0.refl _ | apply Drawn0.step)⟩

/-! ### impl_isMode: function 44 -/
def impl_isMode.f (a0 : Int) : Option (Bool) := (impl_within.f a0 0 511).bind fun t104 => (some t104)
set_option maxHeartbeats 8000000 in
set_option maxRecDepth 100000 in
theorem impl_isMode.calls (a0 : Int) (r : Bool) (w : World) (h : impl_isMode.f a0 = some r) :
    Calls Try.prog 44 #[.int .i64 a0] w fun e w' => e = .returned (.bool r) ∧ Drawn0 w w' := by
  have H : ((impl_within.f a0 0 511).bind fun t104 => (some t104)) = some r := h
  clear h
  replace H := Option.bind_eq_some_iff.mp H
  obtain ⟨t104, A20, H⟩ := H
  replace H : (some t104) = some r := H
  have A2 := Aside0.mk A20
  clear A20
  obtain rfl := Option.some.inj H
  go_enter Try.func44, Try.ntmps44
  go_wp2_with (first | ((with_reducible refine gate_callee (f := 47) rfl ?_); refine goesL_ (some 4) rfl rfl Try.func47 (by kernel_rfl) rfl #[.int .i64 a0, .int .i64 0, .int .i64 511] rfl (by (try simp only [List.map_toArray, List.map_cons, List.map_nil]); first | done | rfl | (simp only [List.length_drop, List.length_take]; rfl)) ?_; (with_reducible refine (impl_within.calls a0 0 511 t104 _ A2.out).mono ?_); rintro e w' ⟨rfl, ⟨nd, rfl⟩⟩; refine ⟨_, rfl, ?_⟩))
  go_ret
  exact ⟨by first | rfl | (simp; done) | (simp [*]; done), by repeat (first | exact Drawn0.refl _ | apply Drawn0.step)⟩

/-! ### impl_modeText: function 55 -/
def impl_modeText.bit (a0 : Int) (j : Nat) : Bool := Go.bits .and .i64 (a0 / 2 ^ j) 1 == 0
def impl_modeText.base : List Int := [114, 119, 120, 114, 119, 120, 114, 119, 120]
def impl_modeText.list (a0 : Int) : List Int := [if impl_modeText.bit a0 8 then 45 else 114, if impl_modeText.bit a0 7 then 45 else 119, if impl_modeText.bit a0 6 then 45 else 120, if impl_modeText.bit a0 5 then 45 else 114, if impl_modeText.bit a0 4 then 45 else 119, if impl_modeText.bit a0 3 then 45 else 120, if impl_modeText.bit a0 2 then 45 else 114, if impl_modeText.bit a0 1 then 45 else 119, if impl_modeText.bit a0 0 then 45 else 120]
def impl_modeText.f (a0 : Int) : Option ByteArray := some (strOfNums (impl_modeText.list a0))
def impl_modeText.at_ (a0 : Int) (k : Nat) : List Int := (impl_modeText.list a0).take k ++ impl_modeText.base.drop k
/-- The row while the loop runs. -/
def impl_modeText.Row (a0 : Int) (g k : Nat) (W : World) : Prop := W.heap[g]? = some (.cells ((impl_modeText.at_ a0 k).map (Value.int .u8)).toArray 5 (9, 10))
theorem impl_modeText.row_cell {a0 : Int} {g k : Nat} {W : World} (h : impl_modeText.Row a0 g k W) (i : Nat) : W.cell? ⟨g, i, none⟩ = ((impl_modeText.at_ a0 k).map (Value.int .u8))[i]? := by
  unfold impl_modeText.Row at h
  simp [World.cell?, h]
theorem impl_modeText.row_free {a0 : Int} {g k : Nat} {W : World} (h : impl_modeText.Row a0 g k W) (i : Nat) (hi : i < 9) : W.frozen? ⟨g, i, none⟩ = false := by
  unfold impl_modeText.Row at h
  simp [World.frozen?, h]; omega
theorem impl_modeText.row_set {a0 : Int} {g k : Nat} {W : World} (h : impl_modeText.Row a0 g k W) (v : Value) (c : Array Value) (hc : ((impl_modeText.at_ a0 k).map (Value.int .u8)).toArray.setIfInBounds k v = c) : (W.setCell ⟨g, k, none⟩ v).heap[g]? = some (.cells c 5 (9, 10)) := by
  unfold impl_modeText.Row at h
  subst hc
  simp [World.setCell, Array.getElem?_modify, h]
theorem impl_modeText.row_put {a0 : Int} {g k : Nat} {W : World} (hk : k < 9) (hb : impl_modeText.bit a0 (8 - k) = true) (h : impl_modeText.Row a0 g k W) : impl_modeText.Row a0 g (k + 1) (W.setCell ⟨g, k, none⟩ (.int .u8 45)) := by
  refine impl_modeText.row_set h _ _ ?_
  rcases (by omega : k = 0 ∨ k = 1 ∨ k = 2 ∨ k = 3 ∨ k = 4 ∨ k = 5 ∨ k = 6 ∨ k = 7 ∨ k = 8) with rfl | rfl | rfl | rfl | rfl | rfl | rfl | rfl | rfl <;> simp only [Nat.reduceSub] at hb <;> simp [impl_modeText.at_, impl_modeText.base, impl_modeText.list, hb]
theorem impl_modeText.row_stay {a0 : Int} {g k : Nat} {W : World} (hk : k < 9) (hb : impl_modeText.bit a0 (8 - k) = false) (h : impl_modeText.Row a0 g k W) : impl_modeText.Row a0 g (k + 1) W := by
  have e : impl_modeText.at_ a0 (k + 1) = impl_modeText.at_ a0 k := by
    rcases (by omega : k = 0 ∨ k = 1 ∨ k = 2 ∨ k = 3 ∨ k = 4 ∨ k = 5 ∨ k = 6 ∨ k = 7 ∨ k = 8) with rfl | rfl | rfl | rfl | rfl | rfl | rfl | rfl | rfl <;> simp only [Nat.reduceSub] at hb <;> simp [impl_modeText.at_, impl_modeText.base, impl_modeText.list, hb]
  unfold impl_modeText.Row at h ⊢
  rw [e]; exact h
theorem impl_modeText.row_text {a0 : Int} {g : Nat} {W : World} (h : impl_modeText.Row a0 g 9 W) : (convert 60 9 (.slice (some ⟨g, 0, none⟩) 9 9)).run Try.prog W = .ok (.string (strOfNums (impl_modeText.list a0))) W := by
  refine run_convert_bytes_arg W 60 5 Try.underlying60 Try.underlying5 g 0 9 9 (impl_modeText.list a0) rfl (fun i hi => ?_) 9 Try.underlying9
  have hl : i < (impl_modeText.list a0).length := hi
  have e : impl_modeText.at_ a0 9 = impl_modeText.list a0 := by simp [impl_modeText.at_, impl_modeText.base, impl_modeText.list]
  rw [Nat.zero_add, impl_modeText.row_cell h, e]
  simp [List.getElem?_eq_getElem hl]
set_option maxHeartbeats 4000000 in
theorem impl_modeText.calls (a0 : Int) (r : ByteArray) (w : World) (h : impl_modeText.f a0 = some r) :
    Calls Try.prog 55 #[.int .i64 a0] w fun e w' => e = .returned (.string r) ∧ Below w.heap.size w w' := by
  obtain rfl := Option.some.inj h
  clear h
  have kc := fun (w : World) (C : Array Value) (n c : Nat) => Lib.run_convert_bytes_const (P := Try.prog) w 60 5 C n c Try.underlying60 Try.underlying5
  go_enter Try.func55, Try.ntmps55
  go_wp2
  go_loopw [9] (fun i wr => ∃ k : Nat, k ≤ 9 ∧ i = .int .i64 k ∧ impl_modeText.Row a0 w.heap.size k wr ∧ Below w.heap.size w wr) (fun i _ => 9 - (intOf i).toNat)
  case atStart => exact ⟨0, by omega, rfl, by unfold impl_modeText.Row; simpa [impl_modeText.at_, impl_modeText.base] using heap_alloc_new w _, (Below.refl _ w).alloc (Nat.le_refl _) _⟩
  case round =>
    obtain ⟨k, hk, rfl, hrow, hb⟩ := hrel
    have HB := Aside0.mk hb
    have HR := Aside0.mk hrow
    clear hb hrow
    by_cases hlt : k < 9
    · rcases (by omega : k = 0 ∨ k = 1 ∨ k = 2 ∨ k = 3 ∨ k = 4 ∨ k = 5 ∨ k = 6 ∨ k = 7 ∨ k = 8) with rfl | rfl | rfl | rfl | rfl | rfl | rfl | rfl | rfl
      · have hc := impl_modeText.row_cell HR.out 0
        have hf := impl_modeText.row_free HR.out 0 (by omega)
        simp [impl_modeText.at_, impl_modeText.base, impl_modeText.list] at hc
        go_wp2
        · rename_i hb_
          exact ⟨⟨1, by omega, rfl, impl_modeText.row_put (k := 0) (by omega) (by simpa [impl_modeText.bit] using hb_) HR.out, HB.out.setCell (Nat.le_refl _) _⟩, by simp [intOf]⟩
        · rename_i hb_
          exact ⟨⟨1, by omega, rfl, impl_modeText.row_stay (k := 0) (by omega) (by simpa [impl_modeText.bit] using hb_) HR.out, HB.out⟩, by simp [intOf]⟩
      · have hc := impl_modeText.row_cell HR.out 1
        have hf := impl_modeText.row_free HR.out 1 (by omega)
        simp [impl_modeText.at_, impl_modeText.base, impl_modeText.list] at hc
        go_wp2
        · rename_i hb_
          exact ⟨⟨2, by omega, rfl, impl_modeText.row_put (k := 1) (by omega) (by simpa [impl_modeText.bit] using hb_) HR.out, HB.out.setCell (Nat.le_refl _) _⟩, by simp [intOf]⟩
        · rename_i hb_
          exact ⟨⟨2, by omega, rfl, impl_modeText.row_stay (k := 1) (by omega) (by simpa [impl_modeText.bit] using hb_) HR.out, HB.out⟩, by simp [intOf]⟩
      · have hc := impl_modeText.row_cell HR.out 2
        have hf := impl_modeText.row_free HR.out 2 (by omega)
        simp [impl_modeText.at_, impl_modeText.base, impl_modeText.list] at hc
        go_wp2
        · rename_i hb_
          exact ⟨⟨3, by omega, rfl, impl_modeText.row_put (k := 2) (by omega) (by simpa [impl_modeText.bit] using hb_) HR.out, HB.out.setCell (Nat.le_refl _) _⟩, by simp [intOf]⟩
        · rename_i hb_
          exact ⟨⟨3, by omega, rfl, impl_modeText.row_stay (k := 2) (by omega) (by simpa [impl_modeText.bit] using hb_) HR.out, HB.out⟩, by simp [intOf]⟩
      · have hc := impl_modeText.row_cell HR.out 3
        have hf := impl_modeText.row_free HR.out 3 (by omega)
        simp [impl_modeText.at_, impl_modeText.base, impl_modeText.list] at hc
        go_wp2
        · rename_i hb_
          exact ⟨⟨4, by omega, rfl, impl_modeText.row_put (k := 3) (by omega) (by simpa [impl_modeText.bit] using hb_) HR.out, HB.out.setCell (Nat.le_refl _) _⟩, by simp [intOf]⟩
        · rename_i hb_
          exact ⟨⟨4, by omega, rfl, impl_modeText.row_stay (k := 3) (by omega) (by simpa [impl_modeText.bit] using hb_) HR.out, HB.out⟩, by simp [intOf]⟩
      · have hc := impl_modeText.row_cell HR.out 4
        have hf := impl_modeText.row_free HR.out 4 (by omega)
        simp [impl_modeText.at_, impl_modeText.base, impl_modeText.list] at hc
        go_wp2
        · rename_i hb_
          exact ⟨⟨5, by omega, rfl, impl_modeText.row_put (k := 4) (by omega) (by simpa [impl_modeText.bit] using hb_) HR.out, HB.out.setCell (Nat.le_refl _) _⟩, by simp [intOf]⟩
        · rename_i hb_
          exact ⟨⟨5, by omega, rfl, impl_modeText.row_stay (k := 4) (by omega) (by simpa [impl_modeText.bit] using hb_) HR.out, HB.out⟩, by simp [intOf]⟩
      · have hc := impl_modeText.row_cell HR.out 5
        have hf := impl_modeText.row_free HR.out 5 (by omega)
        simp [impl_modeText.at_, impl_modeText.base, impl_modeText.list] at hc
        go_wp2
        · rename_i hb_
          exact ⟨⟨6, by omega, rfl, impl_modeText.row_put (k := 5) (by omega) (by simpa [impl_modeText.bit] using hb_) HR.out, HB.out.setCell (Nat.le_refl _) _⟩, by simp [intOf]⟩
        · rename_i hb_
          exact ⟨⟨6, by omega, rfl, impl_modeText.row_stay (k := 5) (by omega) (by simpa [impl_modeText.bit] using hb_) HR.out, HB.out⟩, by simp [intOf]⟩
      · have hc := impl_modeText.row_cell HR.out 6
        have hf := impl_modeText.row_free HR.out 6 (by omega)
        simp [impl_modeText.at_, impl_modeText.base, impl_modeText.list] at hc
        go_wp2
        · rename_i hb_
          exact ⟨⟨7, by omega, rfl, impl_modeText.row_put (k := 6) (by omega) (by simpa [impl_modeText.bit] using hb_) HR.out, HB.out.setCell (Nat.le_refl _) _⟩, by simp [intOf]⟩
        · rename_i hb_
          exact ⟨⟨7, by omega, rfl, impl_modeText.row_stay (k := 6) (by omega) (by simpa [impl_modeText.bit] using hb_) HR.out, HB.out⟩, by simp [intOf]⟩
      · have hc := impl_modeText.row_cell HR.out 7
        have hf := impl_modeText.row_free HR.out 7 (by omega)
        simp [impl_modeText.at_, impl_modeText.base, impl_modeText.list] at hc
        go_wp2
        · rename_i hb_
          exact ⟨⟨8, by omega, rfl, impl_modeText.row_put (k := 7) (by omega) (by simpa [impl_modeText.bit] using hb_) HR.out, HB.out.setCell (Nat.le_refl _) _⟩, by simp [intOf]⟩
        · rename_i hb_
          exact ⟨⟨8, by omega, rfl, impl_modeText.row_stay (k := 7) (by omega) (by simpa [impl_modeText.bit] using hb_) HR.out, HB.out⟩, by simp [intOf]⟩
      · have hc := impl_modeText.row_cell HR.out 8
        have hf := impl_modeText.row_free HR.out 8 (by omega)
        simp [impl_modeText.at_, impl_modeText.base, impl_modeText.list] at hc
        go_wp2
        · rename_i hb_
          exact ⟨⟨9, by omega, rfl, impl_modeText.row_put (k := 8) (by omega) (by simpa [impl_modeText.bit] using hb_) HR.out, HB.out.setCell (Nat.le_refl _) _⟩, by simp [intOf]⟩
        · rename_i hb_
          exact ⟨⟨9, by omega, rfl, impl_modeText.row_stay (k := 8) (by omega) (by simpa [impl_modeText.bit] using hb_) HR.out, HB.out⟩, by simp [intOf]⟩
    · obtain rfl : k = 9 := by omega
      have hcv := impl_modeText.row_text HR.out
      go_wp2
      go_ret
      exact ⟨rfl, HB.out⟩

/-! ### impl_ModeText: function 29 -/
def impl_ModeText.f (a0 : Int) : Option (ByteArray × Bool) := (impl_isMode.f a0).bind fun t105 => (if t105 = true then ((impl_modeText.f a0).bind fun t106 => (some (t106, true))) else (some ((⟨#[]⟩ : ByteArray), false)))
set_option maxHeartbeats 8000000 in
set_option maxRecDepth 100000 in
theorem impl_ModeText.calls (a0 : Int) (r1 : ByteArray) (r2 : Bool) (w : World) (h : impl_ModeText.f a0 = some (r1, r2)) :
    Calls Try.prog 29 #[.int .i64 a0] w fun e w' => e = .returned (.tuple #[.string r1, .bool r2]) ∧ Below w.heap.size w w' := by
  have HB := Aside0.mk (Below.refl w.heap.size w)
  have H : ((impl_isMode.f a0).bind fun t105 => (if t105 = true then ((impl_modeText.f a0).bind fun t106 => (some (t106, true))) else (some ((⟨#[]⟩ : ByteArray), false)))) = some (r1, r2) := h
  clear h
  replace H := Option.bind_eq_some_iff.mp H
  obtain ⟨t105, A20, H⟩ := H
  replace H : (if t105 = true then ((impl_modeText.f a0).bind fun t106 => (some (t106, true))) else (some ((⟨#[]⟩ : ByteArray), false))) = some (r1, r2) := H
  have A2 := Aside0.mk A20
  clear A20
  by_cases c3 : t105 = true
  · subst c3
    have H1 : ((impl_modeText.f a0).bind fun t106 => (some (t106, true))) = some (r1, r2) := by rw [if_pos rfl] at H; exact H
    clear H
    have H := H1
    clear H1
    replace H := Option.bind_eq_some_iff.mp H
    obtain ⟨t106, A40, H⟩ := H
    replace H : (some (t106, true)) = some (r1, r2) := H
    have A4 := Aside0.mk A40
    clear A40
    simp only [Option.some.injEq, Prod.mk.injEq] at H
    obtain ⟨rfl, rfl⟩ := H
    go_enter Try.func29, Try.ntmps29
    go_wp2_with (first | ((with_reducible refine gate_callee (f := 44) rfl ?_); refine goesL_ (some 5) rfl rfl Try.func44 (by kernel_rfl) rfl #[.int .i64 a0] rfl (by (try simp only [List.map_toArray, List.map_cons, List.map_nil]); first | done | rfl | (simp only [List.length_drop, List.length_take]; rfl)) ?_; (with_reducible refine (impl_isMode.calls a0 true _ A2.out).mono ?_); rintro e w' ⟨rfl, ⟨nd, rfl⟩⟩; refine ⟨_, rfl, ?_⟩) | ((with_reducible refine gate_callee (f := 55) rfl ?_); refine goesL_ (some 8) rfl rfl Try.func55 (by kernel_rfl) rfl #[.int .i64 a0] rfl (by (try simp only [List.map_toArray, List.map_cons, List.map_nil]); first | done | rfl | (simp only [List.length_drop, List.length_take]; rfl)) ?_; (with_reducible refine (impl_modeText.calls a0 t106 _ A4.out).mono ?_); rintro e w5 ⟨rfl, hb⟩; refine ⟨_, rfl, ?_⟩; have n0_ := Aside0.mk (below_step (by repeat (first | (with_reducible first | exact HB.out | apply below_alloc | apply pw_below_drewN | apply below_drew1) | exact HB.out)) hb); clear HB; have HB := n0_; clear n0_; (try clear hb); (try clear hb2); (try clear hk); (try clear hi)))
    go_ret2
    exact ⟨by first | rfl | (simp [errW_none, errW_some] <;> rfl) | (simp [*, errW_none, errW_some] <;> rfl), by repeat (first | (with_reducible first | exact HB.out | apply below_alloc | apply pw_below_drewN | apply below_drew1) | exact HB.out)⟩
  · replace c3 := Bool.eq_false_iff.mpr c3
    subst c3
    have H1 : (some ((⟨#[]⟩ : ByteArray), false)) = some (r1, r2) := by rw [if_neg (show ¬ (false = true) by decide)] at H; exact H
    clear H
    have H := H1
    clear H1
    simp only [Option.some.injEq, Prod.mk.injEq] at H
    obtain ⟨rfl, rfl⟩ := H
    go_enter Try.func29, Try.ntmps29
    go_wp2_with (first | ((with_reducible refine gate_callee (f := 44) rfl ?_); refine goesL_ (some 5) rfl rfl Try.func44 (by kernel_rfl) rfl #[.int .i64 a0] rfl (by (try simp only [List.map_toArray, List.map_cons, List.map_nil]); first | done | rfl | (simp only [List.length_drop, List.length_take]; rfl)) ?_; (with_reducible refine (impl_isMode.calls a0 false _ A2.out).mono ?_); rintro e w' ⟨rfl, ⟨nd, rfl⟩⟩; refine ⟨_, rfl, ?_⟩))
    go_ret2
    exact ⟨by first | rfl | (simp [errW_none, errW_some] <;> rfl) | (simp [*, errW_none, errW_some] <;> rfl), by repeat (first | (with_reducible first | exact HB.out | apply below_alloc | apply pw_below_drewN | apply below_drew1) | exact HB.out)⟩

/-! ### laws_FnExactModeText: function 10 -/
def laws_FnExactModeText.f (k : Nat) (a0 : Int) : Option (Bool) := (spec_ModeText.f k a0).bind fun bt107 => ((impl_ModeText.f a0).bind fun bt109 => (if bt109.1.toList = bt107.1.toList then (if (bt109.2 != bt107.2) = true then (some false) else (some true)) else (some false)))
theorem laws_FnExactModeText.mono : ∀ a0 k, LeO (laws_FnExactModeText.f k a0) (laws_FnExactModeText.f (k + 1) a0) := by
  intro a0 k
  unfold laws_FnExactModeText.f
  repeat' first
      | (with_reducible exact spec_ModeText.mono _ _)
      | (with_reducible exact LeO.refl _)
      | (with_reducible exact LeO.none _)
      | (with_reducible refine LeO.ite ?_ ?_)
      | (with_reducible refine LeO.bind ?_ (fun _ => ?_))
      | exact spec_ModeText.mono _ _
      | exact LeO.none _
      | refine LeO.ite ?_ ?_
      | refine LeO.bind ?_ (fun _ => ?_)
set_option maxHeartbeats 8000000 in
set_option maxRecDepth 100000 in
theorem laws_FnExactModeText.calls (k : Nat) (a0 : Int) (r : Bool) (w : World) (h : laws_FnExactModeText.f k a0 = some r) :
    Calls Try.prog 10 #[.int .i64 a0] w fun e w' => e = .returned (.bool r) ∧ Below w.heap.size w w' := by
  have HB := Aside0.mk (Below.refl w.heap.size w)
  have H : ((spec_ModeText.f k a0).bind fun bt107 => ((impl_ModeText.f a0).bind fun bt109 => (if bt109.1.toList = bt107.1.toList then (if (bt109.2 != bt107.2) = true then (some false) else (some true)) else (some false)))) = some r := h
  clear h
  replace H := Option.bind_eq_some_iff.mp H
  obtain ⟨⟨t107, t108⟩, A20, H⟩ := H
  replace H : ((impl_ModeText.f a0).bind fun bt109 => (if bt109.1.toList = t107.toList then (if (bt109.2 != t108) = true then (some false) else (some true)) else (some false))) = some r := H
  have A2 := Aside0.mk A20
  clear A20
  replace H := Option.bind_eq_some_iff.mp H
  obtain ⟨⟨t109, t110⟩, A30, H⟩ := H
  replace H : (if t109.toList = t107.toList then (if (t110 != t108) = true then (some false) else (some true)) else (some false)) = some r := H
  have A3 := Aside0.mk A30
  clear A30
  by_cases c4 : t109.toList = t107.toList
  · rw [if_pos c4] at H
    have c4b0 : (t109.toList == t107.toList) = true := beq_iff_eq.mpr c4
    have c4b1 : (t109.toList != t107.toList) = false := bne_eq_false_iff_eq.mpr c4
    clear c4
    by_cases c5 : (t110 != t108) = true
    · rw [if_pos c5] at H
      have c5b0 : (t110 != t108) = true := c5
      (try (have c5b1 : decide (t110 = t108) = false := by simpa using c5))
      (try (have c5b2 : (t110 == t108) = false := by simpa using c5))
      (try (have c5b3 : ¬ (t110 = t108) := by simpa using c5))
      clear c5
      obtain rfl := Option.some.inj H
      go_enter Try.func10, Try.ntmps10
      go_wp2_with (first | ((with_reducible refine gate_callee (f := 28) rfl ?_); refine goesL_ (some 9) rfl rfl Try.func28 (by kernel_rfl) rfl #[.int .i64 a0] rfl (by (try simp only [List.map_toArray, List.map_cons, List.map_nil]); first | done | rfl | (simp only [List.length_drop, List.length_take]; rfl)) ?_; (with_reducible refine (spec_ModeText.calls k a0 t107 t108 _ A2.out).mono ?_); rintro e w' ⟨rfl, ⟨nd, rfl⟩⟩; refine ⟨_, rfl, ?_⟩) | ((with_reducible refine gate_callee (f := 29) rfl ?_); refine goesL_ (some 14) rfl rfl Try.func29 (by kernel_rfl) rfl #[.int .i64 a0] rfl (by (try simp only [List.map_toArray, List.map_cons, List.map_nil]); first | done | rfl | (simp only [List.length_drop, List.length_take]; rfl)) ?_; (with_reducible refine (impl_ModeText.calls a0 t109 t110 _ A3.out).mono ?_); rintro e w6 ⟨rfl, hb⟩; refine ⟨_, rfl, ?_⟩; have n0_ := Aside0.mk (below_step (by repeat (first | (with_reducible first | exact HB.out | apply below_alloc | apply pw_below_drewN | apply below_drew1) | exact HB.out)) hb); clear HB; have HB := n0_; clear n0_; (try clear hb); (try clear hb2); (try clear hk); (try clear hi)))
      go_ret
      exact ⟨by first | rfl | (simp [errW_none, errW_some] <;> rfl) | (simp [*, errW_none, errW_some] <;> rfl), by repeat (first | (with_reducible first | exact HB.out | apply below_alloc | apply pw_below_drewN | apply below_drew1) | exact HB.out)⟩
    · rw [if_neg c5] at H
      have c5b0 : (t110 != t108) = false := by simpa using c5
      (try (have c5b1 : decide (t110 = t108) = true := by simpa using c5))
      (try (have c5b2 : (t110 == t108) = true := by simpa using c5))
      clear c5
      obtain rfl := Option.some.inj H
      go_enter Try.func10, Try.ntmps10
      go_wp2_with (first | ((with_reducible refine gate_callee (f := 28) rfl ?_); refine goesL_ (some 9) rfl rfl Try.func28 (by kernel_rfl) rfl #[.int .i64 a0] rfl (by (try simp only [List.map_toArray, List.map_cons, List.map_nil]); first | done | rfl | (simp only [List.length_drop, List.length_take]; rfl)) ?_; (with_reducible refine (spec_ModeText.calls k a0 t107 t108 _ A2.out).mono ?_); rintro e w' ⟨rfl, ⟨nd, rfl⟩⟩; refine ⟨_, rfl, ?_⟩) | ((with_reducible refine gate_callee (f := 29) rfl ?_); refine goesL_ (some 14) rfl rfl Try.func29 (by kernel_rfl) rfl #[.int .i64 a0] rfl (by (try simp only [List.map_toArray, List.map_cons, List.map_nil]); first | done | rfl | (simp only [List.length_drop, List.length_take]; rfl)) ?_; (with_reducible refine (impl_ModeText.calls a0 t109 t110 _ A3.out).mono ?_); rintro e w7 ⟨rfl, hb⟩; refine ⟨_, rfl, ?_⟩; have n0_ := Aside0.mk (below_step (by repeat (first | (with_reducible first | exact HB.out | apply below_alloc | apply pw_below_drewN | apply below_drew1) | exact HB.out)) hb); clear HB; have HB := n0_; clear n0_; (try clear hb); (try clear hb2); (try clear hk); (try clear hi)))
      go_ret
      exact ⟨by first | rfl | (simp [errW_none, errW_some] <;> rfl) | (simp [*, errW_none, errW_some] <;> rfl), by repeat (first | (with_reducible first | exact HB.out | apply below_alloc | apply pw_below_drewN | apply below_drew1) | exact HB.out)⟩
  · rw [if_neg c4] at H
    have c4b0 : (t109.toList == t107.toList) = false := beq_eq_false_iff_ne.mpr c4
    have c4b1 : (t109.toList != t107.toList) = true := bne_iff_ne.mpr c4
    obtain rfl := Option.some.inj H
    go_enter Try.func10, Try.ntmps10
    go_wp2_with (first | ((with_reducible refine gate_callee (f := 28) rfl ?_); refine goesL_ (some 9) rfl rfl Try.func28 (by kernel_rfl) rfl #[.int .i64 a0] rfl (by (try simp only [List.map_toArray, List.map_cons, List.map_nil]); first | done | rfl | (simp only [List.length_drop, List.length_take]; rfl)) ?_; (with_reducible refine (spec_ModeText.calls k a0 t107 t108 _ A2.out).mono ?_); rintro e w' ⟨rfl, ⟨nd, rfl⟩⟩; refine ⟨_, rfl, ?_⟩) | ((with_reducible refine gate_callee (f := 29) rfl ?_); refine goesL_ (some 14) rfl rfl Try.func29 (by kernel_rfl) rfl #[.int .i64 a0] rfl (by (try simp only [List.map_toArray, List.map_cons, List.map_nil]); first | done | rfl | (simp only [List.length_drop, List.length_take]; rfl)) ?_; (with_reducible refine (impl_ModeText.calls a0 t109 t110 _ A3.out).mono ?_); rintro e w8 ⟨rfl, hb⟩; refine ⟨_, rfl, ?_⟩; have n0_ := Aside0.mk (below_step (by repeat (first | (with_reducible first | exact HB.out | apply below_alloc | apply pw_below_drewN | apply below_drew1) | exact HB.out)) hb); clear HB; have HB := n0_; clear n0_; (try clear hb); (try clear hb2); (try clear hk); (try clear hi)))
    go_ret
    exact ⟨by first | rfl | (simp [errW_none, errW_some] <;> rfl) | (simp [*, errW_none, errW_some] <;> rfl), by repeat (first | (with_reducible first | exact HB.out | apply below_alloc | apply pw_below_drewN | apply below_drew1) | exact HB.out)⟩

/-- The one pure statement of laws_FnExactModeText. -/
def laws_FnExactModeText.Pure : Prop := ∀ (a0 : Int), (Lit.int .i64 a0).wf = true → ∃ k, laws_FnExactModeText.f k a0 = some true

end Go.Proofs.Ytpgdgkogllalnaa.PFnExactModeText
