-- Written by a program of this session (wip/print2) out of the translation. Lean checks it.
import Derived.Test.YtkkcpgahgehedaaPFormx0
import Derived.Test.YtkkcpgahgehedaaPFormx3
namespace Go.Proofs.Ytkkcpgahgehedaa.PForm
open Go.RowKit Go.Proofs.YtkkcpgahgehedaaW.PrintWords Go.Proofs.YtkkcpgahgehedaaW.PrintLast Go.Proofs.YtkkcpgahgehedaaW.PrintMore
attribute [local go_sem] max2_int min2_int max_two min_two max_three min_three max_four min_four   -- for this text's walks alone
set_option linter.unusedVariables false
set_option linter.unusedSimpArgs false

/-! ### impl_GoodName: function 10 -/
def impl_GoodName.f (k : Nat) (a0 : ByteArray) : Option (Bool) := (impl_isPart.f k a0).bind fun t119 => (if t119 = true then ((impl_isDots.f a0).bind fun t120 => (some (!t120))) else (some false))
theorem impl_GoodName.mono : ∀ a0 k, LeO (impl_GoodName.f k a0) (impl_GoodName.f (k + 1) a0) := by
  intro a0 k
  unfold impl_GoodName.f
  repeat' first
      | (with_reducible exact impl_isPart.mono _ _)
      | (with_reducible exact LeO.refl _)
      | (with_reducible exact LeO.none _)
      | (with_reducible refine LeO.ite ?_ ?_)
      | (with_reducible refine LeO.bind ?_ (fun _ => ?_))
      | exact impl_isPart.mono _ _
      | exact LeO.none _
      | refine LeO.ite ?_ ?_
      | refine LeO.bind ?_ (fun _ => ?_)
set_option maxHeartbeats 8000000 in
set_option maxRecDepth 100000 in
theorem impl_GoodName.calls (k : Nat) (a0 : ByteArray) (r : Bool) (w : World) (h : impl_GoodName.f k a0 = some r) :
    Calls Try.prog 10 #[.string a0] w fun e w' => e = .returned (.bool r) ∧ Below w.heap.size w w' := by
  have HB := Aside0.mk (Below.refl w.heap.size w)
  have H : ((impl_isPart.f k a0).bind fun t119 => (if t119 = true then ((impl_isDots.f a0).bind fun t120 => (some (!t120))) else (some false))) = some r := h
  clear h
  replace H := Option.bind_eq_some_iff.mp H
  obtain ⟨t119, A20, H⟩ := H
  replace H : (if t119 = true then ((impl_isDots.f a0).bind fun t120 => (some (!t120))) else (some false)) = some r := H
  have A2 := Aside0.mk A20
  clear A20
  by_cases c3 : t119 = true
  · subst c3
    have H1 : ((impl_isDots.f a0).bind fun t120 => (some (!t120))) = some r := by rw [if_pos rfl] at H; exact H
    clear H
    have H := H1
    clear H1
    replace H := Option.bind_eq_some_iff.mp H
    obtain ⟨t120, A40, H⟩ := H
    replace H : (some (!t120)) = some r := H
    have A4 := Aside0.mk A40
    clear A40
    obtain rfl := Option.some.inj H
    go_enter Try.func10, Try.ntmps10
    go_wp2_with (first | ((with_reducible refine gate_callee (f := 17) rfl ?_); refine goesL_ (some 4) rfl rfl Try.func17 (by kernel_rfl) rfl #[.string a0] rfl (by (try simp only [List.map_toArray, List.map_cons, List.map_nil]); first | done | rfl | (simp only [List.length_drop, List.length_take]; rfl)) ?_; (with_reducible refine (impl_isPart.calls k a0 true _ A2.out).mono ?_); rintro e w5 ⟨rfl, hb⟩; refine ⟨_, rfl, ?_⟩; have n0_ := Aside0.mk (below_step (by repeat (first | (with_reducible first | exact HB.out | apply below_alloc | apply pw_below_drewN | apply below_drew1) | exact HB.out)) hb); clear HB; have HB := n0_; clear n0_; (try clear hb); (try clear hb2); (try clear hk); (try clear hi)) | (go_at_call 18; (with_reducible refine (impl_isDots.calls a0 t120 _ A4.out).mono ?_); rintro e w' ⟨rfl, ⟨nd, rfl⟩⟩))
    go_ret
    exact ⟨by first | rfl | (simp [errW_none, errW_some] <;> rfl) | (simp [errW_none, errW_some]; exact isEmpty_ne _) | (simp [*, errW_none, errW_some] <;> rfl), by repeat (first | (with_reducible first | exact HB.out | apply below_alloc | apply pw_below_drewN | apply below_drew1) | exact HB.out)⟩
  · replace c3 := Bool.eq_false_iff.mpr c3
    subst c3
    have H1 : (some false) = some r := by rw [if_neg (show ¬ (false = true) by decide)] at H; exact H
    clear H
    have H := H1
    clear H1
    obtain rfl := Option.some.inj H
    go_enter Try.func10, Try.ntmps10
    go_wp2_with (first | ((with_reducible refine gate_callee (f := 17) rfl ?_); refine goesL_ (some 4) rfl rfl Try.func17 (by kernel_rfl) rfl #[.string a0] rfl (by (try simp only [List.map_toArray, List.map_cons, List.map_nil]); first | done | rfl | (simp only [List.length_drop, List.length_take]; rfl)) ?_; (with_reducible refine (impl_isPart.calls k a0 false _ A2.out).mono ?_); rintro e w6 ⟨rfl, hb⟩; refine ⟨_, rfl, ?_⟩; have n0_ := Aside0.mk (below_step (by repeat (first | (with_reducible first | exact HB.out | apply below_alloc | apply pw_below_drewN | apply below_drew1) | exact HB.out)) hb); clear HB; have HB := n0_; clear n0_; (try clear hb); (try clear hb2); (try clear hk); (try clear hi)))
    go_ret
    exact ⟨by first | rfl | (simp [errW_none, errW_some] <;> rfl) | (simp [errW_none, errW_some]; exact isEmpty_ne _) | (simp [*, errW_none, errW_some] <;> rfl), by repeat (first | (with_reducible first | exact HB.out | apply below_alloc | apply pw_below_drewN | apply below_drew1) | exact HB.out)⟩

/-! ### impl_fitsForm: function 11 -/
mutual
def impl_fitsForm.l0 : Nat → ByteArray → List Bool → List Int → Int → Int → Option (Bool)
  | 0, _, _, _, _, _ => none
  | k + 1, x1, x5, x17, x18, x19 => if x19 < x18 then (if 0 ≤ x19 then (if x19 < (x17.length : Int) then (if 0 ≤ (wrap64 ((x1.size : Int) + 1)) then (if (wrap64 ((x1.size : Int) + 1) : Int).toNat ≤ 281474976710656 then ((some (List.replicate (wrap64 ((x1.size : Int) + 1) : Int).toNat false : List Bool)).bind fun y130 => (impl_fitsForm.l1 k x1 x5 (rd x17 x19) y130 x17 x18 x19 (y130.length : Int) 0)) else (none)) else (none)) else (none)) else (none)) else (if 0 ≤ (x1.size : Int) then (if (x1.size : Int) < (x5.length : Int) then (some (rdOf false x5 (x1.size : Int))) else (none)) else (none))
def impl_fitsForm.l1 : Nat → ByteArray → List Bool → Int → List Bool → List Int → Int → Int → Int → Int → Option (Bool)
  | 0, _, _, _, _, _, _, _, _, _ => none
  | k + 1, x1, x5, x7, x8, x17, x18, x19, x28, x29 => if x29 < x28 then (if x7 = 42 then (if 0 ≤ x29 then (if x29 < (x5.length : Int) then (if rdOf false x5 x29 = true then (if x29 < (x8.length : Int) then (impl_fitsForm.l1 k x1 x5 x7 (x8.set (x29 : Int).toNat true) x17 x18 x19 x28 (wrap64 (x29 + 1))) else (none)) else (if x29 > 0 then (if 0 ≤ (wrap64 (x29 - 1)) then (if (wrap64 (x29 - 1)) < (x8.length : Int) then (if x29 < (x8.length : Int) then (impl_fitsForm.l1 k x1 x5 x7 (x8.set (x29 : Int).toNat (rdOf false x8 (wrap64 (x29 - 1)))) x17 x18 x19 x28 (wrap64 (x29 + 1))) else (none)) else (none)) else (none)) else (if x29 < (x8.length : Int) then (impl_fitsForm.l1 k x1 x5 x7 (x8.set (x29 : Int).toNat false) x17 x18 x19 x28 (wrap64 (x29 + 1))) else (none)))) else (none)) else (none)) else (if x29 > 0 then (if x7 = 63 then (if 0 ≤ (wrap64 (x29 - 1)) then (if (wrap64 (x29 - 1)) < (x5.length : Int) then (if 0 ≤ x29 then (if x29 < (x8.length : Int) then (impl_fitsForm.l1 k x1 x5 x7 (x8.set (x29 : Int).toNat (rdOf false x5 (wrap64 (x29 - 1)))) x17 x18 x19 x28 (wrap64 (x29 + 1))) else (none)) else (none)) else (none)) else (none)) else (if 0 ≤ (wrap64 (x29 - 1)) then (if (wrap64 (x29 - 1)) < (x1.size : Int) then (if x7 = (bt x1 (wrap64 (x29 - 1))) then (if (wrap64 (x29 - 1)) < (x5.length : Int) then (if 0 ≤ x29 then (if x29 < (x8.length : Int) then (impl_fitsForm.l1 k x1 x5 x7 (x8.set (x29 : Int).toNat (rdOf false x5 (wrap64 (x29 - 1)))) x17 x18 x19 x28 (wrap64 (x29 + 1))) else (none)) else (none)) else (none)) else (impl_fitsForm.l1 k x1 x5 x7 x8 x17 x18 x19 x28 (wrap64 (x29 + 1)))) else (none)) else (none))) else (impl_fitsForm.l1 k x1 x5 x7 x8 x17 x18 x19 x28 (wrap64 (x29 + 1))))) else (impl_fitsForm.l0 k x1 x8 x17 x18 (wrap64 (x19 + 1)))
end
def impl_fitsForm.f (k : Nat) (a0 : ByteArray) (a1 : ByteArray) : Option (Bool) := if 0 ≤ (wrap64 ((a1.size : Int) + 1)) then (if (wrap64 ((a1.size : Int) + 1) : Int).toNat ≤ 281474976710656 then ((some (List.replicate (wrap64 ((a1.size : Int) + 1) : Int).toNat false : List Bool)).bind fun y121 => (if 0 < (y121.length : Int) then (if a0.size ≤ 140737488355328 then ((some (bytesOf a0 : List Int)).bind fun y125 => (impl_fitsForm.l0 k a1 (y121.set (0 : Int).toNat true) y125 (y125.length : Int) 0)) else (none)) else (none))) else (none)) else (none)
theorem impl_fitsForm.mono_l : ∀ k, (∀ y0 y1 y2 y3 y4, LeO (impl_fitsForm.l0 k y0 y1 y2 y3 y4) (impl_fitsForm.l0 (k + 1) y0 y1 y2 y3 y4)) ∧ (∀ y0 y1 y2 y3 y4 y5 y6 y7 y8, LeO (impl_fitsForm.l1 k y0 y1 y2 y3 y4 y5 y6 y7 y8) (impl_fitsForm.l1 (k + 1) y0 y1 y2 y3 y4 y5 y6 y7 y8))
  | 0 => ⟨fun _ _ _ _ _ r h => by simp [impl_fitsForm.l0] at h, fun _ _ _ _ _ _ _ _ _ r h => by simp [impl_fitsForm.l1] at h⟩
  | k + 1 => by
    obtain ⟨ih0, ih1⟩ := impl_fitsForm.mono_l k
    refine ⟨?_, ?_⟩
    · intro y0 y1 y2 y3 y4
      unfold impl_fitsForm.l0
      repeat' first
      | (with_reducible exact ih0 _ _ _ _ _)
      | (with_reducible exact ih1 _ _ _ _ _ _ _ _ _)
      | (with_reducible exact LeO.refl _)
      | (with_reducible exact LeO.none _)
      | (with_reducible refine LeO.ite ?_ ?_)
      | (with_reducible refine LeO.bind ?_ (fun _ => ?_))
      | exact ih0 _ _ _ _ _
      | exact ih1 _ _ _ _ _ _ _ _ _
      | exact LeO.none _
      | refine LeO.ite ?_ ?_
      | refine LeO.bind ?_ (fun _ => ?_)
    · intro y0 y1 y2 y3 y4 y5 y6 y7 y8
      unfold impl_fitsForm.l1
      repeat' first
      | (with_reducible exact ih0 _ _ _ _ _)
      | (with_reducible exact ih1 _ _ _ _ _ _ _ _ _)
      | (with_reducible exact LeO.refl _)
      | (with_reducible exact LeO.none _)
      | (with_reducible refine LeO.ite ?_ ?_)
      | (with_reducible refine LeO.bind ?_ (fun _ => ?_))
      | exact ih0 _ _ _ _ _
      | exact ih1 _ _ _ _ _ _ _ _ _
      | exact LeO.none _
      | refine LeO.ite ?_ ?_
      | refine LeO.bind ?_ (fun _ => ?_)
theorem impl_fitsForm.mono : ∀ a0 a1 k, LeO (impl_fitsForm.f k a0 a1) (impl_fitsForm.f (k + 1) a0 a1) := by
  intro a0 a1 k
  obtain ⟨ih0, ih1⟩ := impl_fitsForm.mono_l k
  unfold impl_fitsForm.f
  repeat' first
      | (with_reducible exact ih0 _ _ _ _ _)
      | (with_reducible exact ih1 _ _ _ _ _ _ _ _ _)
      | (with_reducible exact LeO.refl _)
      | (with_reducible exact LeO.none _)
      | (with_reducible refine LeO.ite ?_ ?_)
      | (with_reducible refine LeO.bind ?_ (fun _ => ?_))
      | exact ih0 _ _ _ _ _
      | exact ih1 _ _ _ _ _ _ _ _ _
      | exact LeO.none _
      | refine LeO.ite ?_ ?_
      | refine LeO.bind ?_ (fun _ => ?_)
set_option maxHeartbeats 8000000 in
set_option maxRecDepth 100000 in
theorem impl_fitsForm.calls (k : Nat) (a0 : ByteArray) (a1 : ByteArray) (r : Bool) (w : World) (h : impl_fitsForm.f k a0 a1 = some r) :
    Calls Try.prog 11 #[.string a0, .string a1] w fun e w' => e = .returned (.bool r) ∧ Below w.heap.size w w' := by
  have HB := Aside0.mk (Below.refl w.heap.size w)
  have H : (if 0 ≤ (wrap64 ((a1.size : Int) + 1)) then (if (wrap64 ((a1.size : Int) + 1) : Int).toNat ≤ 281474976710656 then ((some (List.replicate (wrap64 ((a1.size : Int) + 1) : Int).toNat false : List Bool)).bind fun y121 => (if 0 < (y121.length : Int) then (if a0.size ≤ 140737488355328 then ((some (bytesOf a0 : List Int)).bind fun y125 => (impl_fitsForm.l0 k a1 (y121.set (0 : Int).toNat true) y125 (y125.length : Int) 0)) else (none)) else (none))) else (none)) else (none)) = some r := h
  clear h
  obtain ⟨ji3, hji3⟩ : ∃ j_ : Int, (wrap64 ((a1.size : Int) + 1)) = j_ := ⟨_, rfl⟩
  replace H : (if 0 ≤ (ji3) then (if (ji3 : Int).toNat ≤ 281474976710656 then ((some (List.replicate (ji3 : Int).toNat false : List Bool)).bind fun y121 => (if 0 < (y121.length : Int) then (if a0.size ≤ 140737488355328 then ((some (bytesOf a0 : List Int)).bind fun y125 => (impl_fitsForm.l0 k a1 (y121.set (0 : Int).toNat true) y125 (y125.length : Int) 0)) else (none)) else (none))) else (none)) else (none)) = some r := by first | (rw [hji3] at H; exact H) | (simp only [hji3] at H ⊢; exact H)
  have hji3w : (IntKind.i64.wrap ((a1.size : Int) + 1)) = ji3 := (i64_w _).trans hji3
  by_cases c4 : 0 ≤ (ji3)
  · rw [if_pos c4] at H
    have c4b0 := eq_true c4
    have c4b1 : decide (0 ≤ (ji3)) = true := decide_eq_true c4
    clear c4
    by_cases c5 : (ji3 : Int).toNat ≤ 281474976710656
    · rw [if_pos c5] at H
      have c5b0 := eq_true c5
      have c5b1 : decide ((ji3 : Int).toNat ≤ 281474976710656) = true := decide_eq_true c5
      clear c5
      obtain ⟨y121, hy121⟩ : ∃ y_ : List Bool, y_ = (List.replicate (ji3 : Int).toNat false) := ⟨_, rfl⟩
      replace H : (if 0 < (y121.length : Int) then (if a0.size ≤ 140737488355328 then ((some (bytesOf a0 : List Int)).bind fun y125 => (impl_fitsForm.l0 k a1 (y121.set (0 : Int).toNat true) y125 (y125.length : Int) 0)) else (none)) else (none)) = some r := by first | (rw [hy121]; with_reducible exact H) | (have H2_ := (Option.bind_some _ _).symm.trans H; rw [hy121]; with_reducible exact H2_) | (have H2_ := (Option.bind_some _ _).symm.trans H; with_reducible exact H2_) | with_reducible exact H | (rw [hy121]; exact H) | exact H
      have Ny121 := Aside0.mk hy121
      clear hy121
      by_cases c6 : 0 < (y121.length : Int)
      · rw [if_pos c6] at H
        have c6b0 : decide (0 < (y121.length : Int)) = true := decide_eq_true c6
        have c6b1 : decide (0 < y121.length) = true := decide_eq_true (by omega)
        clear c6
        obtain ⟨y124, hy124⟩ : ∃ y_ : List Bool, y_ = (y121.set (0 : Int).toNat true) := ⟨_, rfl⟩
        replace H : (if a0.size ≤ 140737488355328 then ((some (bytesOf a0 : List Int)).bind fun y125 => (impl_fitsForm.l0 k a1 y124 y125 (y125.length : Int) 0)) else (none)) = some r := by first | (rw [hy124]; with_reducible exact H) | (have H2_ := (Option.bind_some _ _).symm.trans H; rw [hy124]; with_reducible exact H2_) | (have H2_ := (Option.bind_some _ _).symm.trans H; with_reducible exact H2_) | with_reducible exact H | (rw [hy124]; exact H) | exact H
        have Ny124 := Aside0.mk hy124
        clear hy124
        by_cases c8 : a0.size ≤ 140737488355328
        · rw [if_pos c8] at H
          have c8b0 := eq_true c8
          have c8b1 : decide (a0.size ≤ 140737488355328) = true := decide_eq_true c8
          clear c8
          obtain ⟨y125, hy125⟩ : ∃ y_ : List Int, y_ = (bytesOf a0) := ⟨_, rfl⟩
          replace H : (impl_fitsForm.l0 k a1 y124 y125 (y125.length : Int) 0) = some r := by first | (rw [hy125]; with_reducible exact H) | (have H2_ := (Option.bind_some _ _).symm.trans H; rw [hy125]; with_reducible exact H2_) | (have H2_ := (Option.bind_some _ _).symm.trans H; with_reducible exact H2_) | with_reducible exact H | (rw [hy125]; exact H) | exact H
          have Ny125 := Aside0.mk hy125
          clear hy125
          have H' := Aside0.mk H
          clear H
          go_enter Try.func11, Try.ntmps11
          go_wp2_with (first | ((with_reducible refine gate_dst (N := 13) rfl ?_); refine Kd.R_make Kd.bool _ 4 rfl (N := 13) rfl 30 _ _ rfl ji3 rfl rfl Try.underlying30 (.bool false) 1 info4 rfl (by decide) (by omega) false (ok := fun _ => True) (okp := fun _ => True) rfl (fun _ hk => hk) trivial (of_decide_eq_true (by first | (with_reducible assumption) | assumption)) (Nat.le_trans (Nat.mul_le_mul_right _ (of_decide_eq_true (by first | (with_reducible assumption) | assumption) : ji3.toNat ≤ 281474976710656)) (by omega)) (Below.refl _ _) (Nat.le_refl _) ?_; intro v122 w9 ho10 hb hg_ hnew_; clear hg_ hnew_; (first | rw [← Ny121.out] at ho10 | (simp only [Int.reduceToNat] at ho10; rw [← Ny121.out] at ho10)); have n0_ := Aside0.mk (Kd.R_lower ho10 (below_size (by repeat (first | (with_reducible first | exact HB.out | apply below_alloc | apply pw_below_drewN | apply below_drew1) | exact HB.out)))); have n1_ := Aside0.mk (below_step (by repeat (first | (with_reducible first | exact HB.out | apply below_alloc | apply pw_below_drewN | apply below_drew1) | exact HB.out)) hb); clear HB; have HO123 := n0_; have HB := n1_; clear n0_ n1_; clear hb ho10; have p7 : 0 ≤ (0 : Int) := (by omega); have q7 : (0 : Int) < ((y121.length : Int) : Int) := of_decide_eq_true (by first | (with_reducible assumption) | assumption); have qi7 : (0 < y121.length) = True := eq_true (by omega); obtain ⟨go7, co7, eo7, gb7, gl7, cl7, HG7⟩ := Kd.R_form HO123.out (by omega); (first | cases eo7 | (injection eo7 with ea_ en_ ec_; (first | subst ea_ | (injection ea_ with ea_; subst ea_)); subst ec_; clear en_)); have GB7 := Aside0.mk gb7; have GG7 := Aside0.mk HG7; clear gb7 gl7 HG7; obtain ⟨hx7_0, hf7_0⟩ := Kd.R_celln false HO123.out (0 : Int) p7 q7; (try rw [show ((0 : Int)).toNat = 0 from rfl] at hx7_0); (try simp only [Nat.reduceMul, Nat.zero_mul, Nat.zero_add, Nat.reduceAdd] at hx7_0); (try rw [show ((0 : Int)).toNat = 0 from rfl] at hf7_0); (try simp only [Nat.reduceMul, Nat.zero_mul, Nat.zero_add, Nat.reduceAdd] at hf7_0); replace p7 := eq_true p7; replace q7 := eq_true q7; obtain ⟨hy11_, hz11_⟩ := Kd.R_celln false HO123.out (0 : Int) (by omega) (of_decide_eq_true (by first | (with_reducible assumption) | assumption)); (try simp only [Int.reduceToNat, Int.toNat_zero, Int.toNat_ofNat, Nat.reduceMul, Nat.zero_mul, Nat.zero_add] at hy11_ hz11_); (try rw [show ((0 : Int)).toNat = 0 from rfl] at hy11_); (try rw [show ((0 : Int)).toNat = 0 from rfl] at hz11_); have HP11 := Kd.R_putg HO123.out (0 : Int) true) | ((with_reducible refine gate_store (t := 4) (p := 15) rfl ?_); refine store_event (t := 4) (p := 15) (v := ?vo_w12) (w1 := (w9.setCell ⟨go7, (0 : Int).toNat, none⟩ (.bool true))) ?hg ?ho ?hn ?hr ?_; (case ho => rfl); (case hg => rfl); (case hn => rfl); (case hr => first | (go_simp; done) | (go_simp; rfl)); intro w12 hw; have hg : w9.grownBy w12 (some go7) := (by rw [hw]; exact HP11.2); have hp_ : Kd.R Kd.bool 4 w12 w.heap.size (fun _ => True) (.slice (some ⟨go7, 0, none⟩) y121.length co7) y124 := (by rw [hw, Ny124.out]; exact HP11.1); clear HP11; have n0_ := Aside0.mk (hp_); have n1_ := Aside0.mk ((by rw [hw]; exact below_set (HB.out) GB7.out : Below w.heap.size w w12)); clear HO123; clear HB; have HO123 := n0_; have HB := n1_; clear n0_ n1_; clear hg hw hp_) | ((with_reducible refine gate_dst (N := 17) rfl ?_); refine KF.R_conv _ 5 rfl (N := 17) rfl 9 28 _ rfl a0 (by first | rfl | (go_simp; done)) Try.underlying9 Try.underlying28 Try.underlying5 (Nat.le_trans (of_decide_eq_true (by first | (with_reducible assumption) | assumption)) (by decide : 140737488355328 ≤ 9223372036854775807)) (ok := fun _ => True) (Below.refl _ _) (Nat.le_refl _) ?_; intro v126 w13 ho14 hb hg_ hnew_; clear hg_ hnew_; (first | rw [← Ny125.out] at ho14 | (simp only [Int.reduceToNat] at ho14; rw [← Ny125.out] at ho14)); have n0_ := Aside0.mk (Kd.R_below (by (with_reducible repeat (first | apply Kd.R_alloc | apply Kd.R_drewN | apply Kd.R_drew)); exact HO123.out) hb); have n1_ := Aside0.mk (KF.R_lower ho14 (below_size (by repeat (first | (with_reducible first | exact HB.out | apply below_alloc | apply pw_below_drewN | apply below_drew1) | exact HB.out)))); have n2_ := Aside0.mk (below_step (by repeat (first | (with_reducible first | exact HB.out | apply below_alloc | apply pw_below_drewN | apply below_drew1) | exact HB.out)) hb); clear HO123; clear HB; have HO123 := n0_; have HO127 := n1_; have HB := n2_; clear n0_ n1_ n2_; clear hb ho14; obtain ⟨Ao15, co15, eo15⟩ := KF.R_slice HO127.out; subst eo15))
          go_loopg [5, 19] k (fun kq v5 v19 w' => ∃ (x5_1 : List Bool) (x19_1 : Int), v19 = .int .i64 x19_1 ∧ Aside0 (impl_fitsForm.l0 kq a1 x5_1 y125 (y125.length : Int) x19_1 = some r) ∧ Aside0 (kq ≤ k) ∧ Aside0 (Kd.R Kd.bool 4 w' w.heap.size (fun _ => True) v5 x5_1) ∧ Aside0 (KF.R 5 w' w.heap.size (fun _ => True) (.slice Ao15 y125.length co15) y125) ∧ Aside0 (Below w.heap.size w w'))
          case atStart => exact ⟨(y124), (0), (by first | rfl | (simp; done) | (simp [*]; done)), H', ⟨Nat.le_refl _⟩, ⟨by (with_reducible repeat (first | apply Kd.R_alloc | apply Kd.R_drewN | apply Kd.R_drew)); first | exact HO123.out | exact Kd.R_mono HO123.out (fun k_ hk => by simpa only [own_map] using hk) | exact Kd.S_mono HO123.out (fun k_ hk => by simpa only [own_map] using hk)⟩, ⟨by (with_reducible repeat (first | apply KF.R_alloc | apply KF.R_drewN | apply KF.R_drew)); first | exact HO127.out | exact Kd.R_mono HO127.out (fun k_ hk => by simpa only [own_map] using hk) | exact Kd.S_mono HO127.out (fun k_ hk => by simpa only [own_map] using hk)⟩, ⟨by repeat (first | (with_reducible first | exact HB.out | apply below_alloc | apply pw_below_drewN | apply below_drew1) | exact HB.out)⟩⟩
          case round =>
            clear H'
            try clear c1
            try clear p2
            try clear c4
            try clear c4b0
            try clear c4b1
            try clear c5
            try clear c5b0
            try clear c5b1
            try clear c6
            try clear c6b0
            try clear c6b1
            try clear p6
            try clear p7
            try clear q7
            try clear hx7
            try clear qi7
            try clear hf7
            try clear c8
            try clear c8b0
            try clear c8b1
            try clear c11
            try clear hx7_0
            try clear p7
            try clear q7
            obtain ⟨x5_1, x19_1, rfl, HA, HK1, HO_5, HO_17, HB⟩ := hrel
            cases gk with
            | zero => exact absurd HA.out (by simp [impl_fitsForm.l0])
            | succ k1 =>
              have H := HA.out
              clear HA
              simp only [impl_fitsForm.l0] at H
              by_cases c16 : x19_1 < (y125.length : Int)
              · rw [if_pos c16] at H
                have c16b0 : decide (x19_1 < (y125.length : Int)) = true := decide_eq_true c16
                clear c16
                by_cases c17 : 0 ≤ x19_1
                · rw [if_pos c17] at H
                  have c17b0 : decide (0 ≤ x19_1) = true := decide_eq_true c17
                  clear c17
                  by_cases c18 : x19_1 < (y125.length : Int)
                  · rw [if_pos c18] at H
                    have c18b0 : decide (x19_1 < (y125.length : Int)) = true := decide_eq_true c18
                    clear c18
                    try clear hji3w hji3
                    obtain ⟨ji19, hji19⟩ : ∃ j_ : Int, (wrap64 ((a1.size : Int) + 1)) = j_ := ⟨_, rfl⟩
                    replace H : (if 0 ≤ (ji19) then (if (ji19 : Int).toNat ≤ 281474976710656 then ((some (List.replicate (ji19 : Int).toNat false : List Bool)).bind fun y130 => (impl_fitsForm.l1 k1 a1 x5_1 (rd y125 x19_1) y130 y125 (y125.length : Int) x19_1 (y130.length : Int) 0)) else (none)) else (none)) = some r := by first | (rw [hji19] at H; exact H) | (simp only [hji19] at H ⊢; exact H)
                    have hji19w : (IntKind.i64.wrap ((a1.size : Int) + 1)) = ji19 := (i64_w _).trans hji19
                    by_cases c20 : 0 ≤ (ji19)
                    · rw [if_pos c20] at H
                      have c20b0 := eq_true c20
                      have c20b1 : decide (0 ≤ (ji19)) = true := decide_eq_true c20
                      clear c20
                      by_cases c21 : (ji19 : Int).toNat ≤ 281474976710656
                      · rw [if_pos c21] at H
                        have c21b0 := eq_true c21
                        have c21b1 : decide ((ji19 : Int).toNat ≤ 281474976710656) = true := decide_eq_true c21
                        clear c21
                        obtain ⟨y130, hy130⟩ : ∃ y_ : List Bool, y_ = (List.replicate (ji19 : Int).toNat false) := ⟨_, rfl⟩
                        replace H : (impl_fitsForm.l1 k1 a1 x5_1 (rd y125 x19_1) y130 y125 (y125.length : Int) x19_1 (y130.length : Int) 0) = some r := by first | (rw [hy130]; with_reducible exact H) | (have H2_ := (Option.bind_some _ _).symm.trans H; rw [hy130]; with_reducible exact H2_) | (have H2_ := (Option.bind_some _ _).symm.trans H; with_reducible exact H2_) | with_reducible exact H | (rw [hy130]; exact H) | exact H
                        have Ny130 := Aside0.mk hy130
                        clear hy130
                        have H' := Aside0.mk H
                        clear H
                        have p129 : 0 ≤ (x19_1 : Int) := of_decide_eq_true (by first | (with_reducible assumption) | assumption)
                        have q129 : x19_1 < (y125.length : Int) := of_decide_eq_true (by first | (with_reducible assumption) | assumption)
                        obtain ⟨ad129, e129, hx129_0⟩ := Kd.at_int (KF.R_reads' HO_17.out).2.2 x19_1 p129 q129
                        cases e129
                        replace p129 := eq_true p129
                        replace q129 := eq_true q129
                        go_wp2_with (first | ((with_reducible refine gate_dst (N := 26) rfl ?_); refine Kd.R_make Kd.bool _ 4 rfl (N := 26) rfl 30 _ _ rfl ji19 rfl rfl Try.underlying30 (.bool false) 1 info4 rfl (by decide) (by omega) false (ok := fun _ => True) (okp := fun _ => True) rfl (fun _ hk => hk) trivial (of_decide_eq_true (by first | (with_reducible assumption) | assumption)) (Nat.le_trans (Nat.mul_le_mul_right _ (of_decide_eq_true (by first | (with_reducible assumption) | assumption) : ji19.toNat ≤ 281474976710656)) (by omega)) (Below.refl _ _) (Nat.le_refl _) ?_; intro v131 w22 ho23 hb hg_ hnew_; clear hg_ hnew_; (first | rw [← Ny130.out] at ho23 | (simp only [Int.reduceToNat] at ho23; rw [← Ny130.out] at ho23)); have n0_ := Aside0.mk (Kd.R_elder' (by (with_reducible repeat (first | apply Kd.R_alloc | apply Kd.R_drewN | apply Kd.R_drew)); exact HO_5.out) (Kd.R_base ho23) hb); have n1_ := Aside0.mk (KF.R_below (by (with_reducible repeat (first | apply KF.R_alloc | apply KF.R_drewN | apply KF.R_drew)); exact HO_17.out) hb); have n2_ := Aside0.mk (Kd.R_lower (Kd.R_new' ho23 (Kd.R_lt (by (with_reducible repeat (first | apply Kd.R_alloc | apply Kd.R_drewN | apply Kd.R_drew)); exact HO_5.out))) (below_size (by repeat (first | (with_reducible first | exact HB.out | apply below_alloc | apply pw_below_drewN | apply below_drew1) | exact HB.out)))); have n3_ := Aside0.mk (below_step (by repeat (first | (with_reducible first | exact HB.out | apply below_alloc | apply pw_below_drewN | apply below_drew1) | exact HB.out)) hb); clear HO_5; clear HO_17; clear HB; have HO_5 := n0_; have HO_17 := n1_; have HO132 := n2_; have HB := n3_; clear n0_ n1_ n2_ n3_; clear hb ho23; obtain ⟨Ao24, co24, eo24⟩ := Kd.R_slice HO132.out; subst eo24))
                        go_loopg [29] k1 (fun kq v29 w' => ∃ (x8_2 : List Bool) (x29_2 : Int), v29 = .int .i64 x29_2 ∧ Aside0 (impl_fitsForm.l1 kq a1 x5_1 (rd y125 x19_1) x8_2 y125 (y125.length : Int) x19_1 (y130.length : Int) x29_2 = some r) ∧ Aside0 (kq ≤ k1) ∧ Aside0 (Kd.R Kd.bool 4 w' w.heap.size (fun k_ => some k_ ≠ ((.slice Ao24 y130.length co24) : Value).ownBlock) u5 x5_1) ∧ Aside0 (Kd.R Kd.bool 4 w' w.heap.size (fun k_ => some k_ ≠ (u5 : Value).ownBlock) (.slice Ao24 y130.length co24) x8_2) ∧ Aside0 (KF.R 5 w' w.heap.size (fun _ => True) (.slice (some ad129) y125.length co15) y125) ∧ Aside0 (Below w.heap.size w w'))
                        case atStart => exact ⟨(y130), (0), (by first | rfl | (simp; done) | (simp [*]; done)), H', ⟨Nat.le_refl _⟩, ⟨by (with_reducible repeat (first | apply Kd.R_alloc | apply Kd.R_drewN | apply Kd.R_drew)); exact Kd.R_mono HO_5.out (fun _ hk => hk.2)⟩, ⟨by (with_reducible repeat (first | apply Kd.R_alloc | apply Kd.R_drewN | apply Kd.R_drew)); exact Kd.R_mono HO132.out (fun _ hk => hk.2)⟩, ⟨by (with_reducible repeat (first | apply KF.R_alloc | apply KF.R_drewN | apply KF.R_drew)); first | exact HO_17.out | exact Kd.R_mono HO_17.out (fun k_ hk => by simpa only [own_map] using hk) | exact Kd.S_mono HO_17.out (fun k_ hk => by simpa only [own_map] using hk)⟩, ⟨by repeat (first | (with_reducible first | exact HB.out | apply below_alloc | apply pw_below_drewN | apply below_drew1) | exact HB.out)⟩⟩
                        case round =>
                          clear H'
                          try clear c1
                          try clear p1
                          try clear q1
                          try clear hx1
                          try clear c2
                          try clear p2
                          try clear c4
                          try clear c4b0
                          try clear c4b1
                          try clear c5
                          try clear c5b0
                          try clear c5b1
                          try clear c6
                          try clear c6b0
                          try clear c6b1
                          try clear p6
                          try clear p7
                          try clear q7
                          try clear hx7
                          try clear qi7
                          try clear hf7
                          try clear c8
                          try clear c8b0
                          try clear c8b1
                          try clear c11
                          try clear p12
                          try clear q12
                          try clear hx12
                          try clear c16
                          try clear c16b0
                          try clear c17
                          try clear c17b0
                          try clear c18
                          try clear c18b0
                          try clear c20
                          try clear c20b0
                          try clear c20b1
                          try clear c21
                          try clear c21b0
                          try clear c21b1
                          try clear hx129_0
                          try clear hx7_0
                          try clear p129
                          try clear p2
                          try clear p6
                          try clear p7
                          try clear q129
                          try clear q7
                          obtain ⟨x8_2, x29_2, rfl, HA, HK2, HO_5, HO_8, HO_17, HB⟩ := hrel
                          have hl8_2 := (Kd.R_reads' HO_8.out).1
                          rw [hl8_2] at HO_8
                          (try simp only [hl8_2])
                          (try simp only [hl8_2] at HO_5)
                          (try simp only [hl8_2] at HO_17)
                          cases gk with
                          | zero => exact absurd HA.out (by simp [impl_fitsForm.l1])
                          | succ k2 =>
                            have H := HA.out
                            clear HA
                            simp only [impl_fitsForm.l1] at H
                            by_cases c25 : x29_2 < (y130.length : Int)
                            · rw [if_pos c25] at H
                              have c25b0 : decide (x29_2 < (y130.length : Int)) = true := decide_eq_true c25
                              have c25z := c25b0
                              (try simp only [hl8_2] at c25z)
                              clear c25
                              by_cases c26 : (rd y125 x19_1) = 42
                              · rw [if_pos c26] at H
                                have c26b0 : ((rd y125 x19_1) == 42) = true := beq_iff_eq.mpr c26
                                have c26b1 : ((rd y125 x19_1) != 42) = false := bne_eq_false_iff_eq.mpr c26
                                clear c26
                                by_cases c27 : 0 ≤ x29_2
                                · rw [if_pos c27] at H
                                  have c27b0 : decide (0 ≤ x29_2) = true := decide_eq_true c27
                                  clear c27
                                  by_cases c28 : x29_2 < (x5_1.length : Int)
                                  · rw [if_pos c28] at H
                                    have c28b0 : decide (x29_2 < (x5_1.length : Int)) = true := decide_eq_true c28
                                    clear c28
                                    obtain ⟨bq29, hbq29⟩ : ∃ b_ : Bool, b_ = (rdOf false x5_1 x29_2) := ⟨_, rfl⟩
                                    replace H : (if bq29 = true then (if x29_2 < (x8_2.length : Int) then (impl_fitsForm.l1 k2 a1 x5_1 (rd y125 x19_1) (x8_2.set (x29_2 : Int).toNat true) y125 (y125.length : Int) x19_1 (y130.length : Int) (wrap64 (x29_2 + 1))) else (none)) else (if x29_2 > 0 then (if 0 ≤ (wrap64 (x29_2 - 1)) then (if (wrap64 (x29_2 - 1)) < (x8_2.length : Int) then (if x29_2 < (x8_2.length : Int) then (impl_fitsForm.l1 k2 a1 x5_1 (rd y125 x19_1) (x8_2.set (x29_2 : Int).toNat (rdOf false x8_2 (wrap64 (x29_2 - 1)))) y125 (y125.length : Int) x19_1 (y130.length : Int) (wrap64 (x29_2 + 1))) else (none)) else (none)) else (none)) else (if x29_2 < (x8_2.length : Int) then (impl_fitsForm.l1 k2 a1 x5_1 (rd y125 x19_1) (x8_2.set (x29_2 : Int).toNat false) y125 (y125.length : Int) x19_1 (y130.length : Int) (wrap64 (x29_2 + 1))) else (none)))) = some r := by rw [← hbq29] at H; exact H
                                    have Nbq29 := Aside0.mk hbq29
                                    clear hbq29
                                    by_cases c30 : bq29 = true
                                    · subst c30
                                      have H1 : (if x29_2 < (x8_2.length : Int) then (impl_fitsForm.l1 k2 a1 x5_1 (rd y125 x19_1) (x8_2.set (x29_2 : Int).toNat true) y125 (y125.length : Int) x19_1 (y130.length : Int) (wrap64 (x29_2 + 1))) else (none)) = some r := by rw [if_pos rfl] at H; exact H
                                      clear H
                                      have H := H1
                                      clear H1
                                      by_cases c31 : x29_2 < (x8_2.length : Int)
                                      · rw [if_pos c31] at H
                                        have c31b0 : decide (x29_2 < (x8_2.length : Int)) = true := decide_eq_true c31
                                        clear c31
                                        obtain ⟨y134, hy134⟩ : ∃ y_ : List Bool, y_ = (x8_2.set (x29_2 : Int).toNat true) := ⟨_, rfl⟩
                                        replace H : (impl_fitsForm.l1 k2 a1 x5_1 (rd y125 x19_1) y134 y125 (y125.length : Int) x19_1 (y130.length : Int) (wrap64 (x29_2 + 1))) = some r := by first | (rw [hy134]; with_reducible exact H) | (have H2_ := (Option.bind_some _ _).symm.trans H; rw [hy134]; with_reducible exact H2_) | (have H2_ := (Option.bind_some _ _).symm.trans H; with_reducible exact H2_) | with_reducible exact H | (rw [hy134]; exact H) | exact H
                                        have Ny134 := Aside0.mk hy134
                                        clear hy134
                                        have H' := Aside0.mk H
                                        clear H
                                        obtain ⟨Ao33, co33, eo33⟩ := Kd.R_slice HO_5.out
                                        subst eo33
                                        have p133 : 0 ≤ (x29_2 : Int) := of_decide_eq_true (by first | (with_reducible assumption) | assumption)
                                        have q133 : x29_2 < (x5_1.length : Int) := of_decide_eq_true (by first | (with_reducible assumption) | assumption)
                                        obtain ⟨ad133, e133, hx133_0⟩ := Kd.at_bool (Kd.R_reads' HO_5.out).2.2 x29_2 p133 q133
                                        (try rw [← Nbq29.out] at hx133_0)
                                        cases e133
                                        replace p133 := eq_true p133
                                        replace q133 := eq_true q133
                                        have p32 : 0 ≤ (x29_2 : Int) := of_decide_eq_true (by first | (with_reducible assumption) | assumption)
                                        have q32 : (x29_2 : Int) < ((x8_2.length : Int) : Int) := of_decide_eq_true (by first | (with_reducible assumption) | assumption)
                                        obtain ⟨go32, co32, eo32, gb32, gl32, cl32, HG32⟩ := Kd.R_form HO_8.out (by omega)
                                        (first | cases eo32 | (injection eo32 with ea_ en_ ec_; (first | subst ea_ | (injection ea_ with ea_; subst ea_)); subst ec_; clear en_))
                                        have GB32 := Aside0.mk gb32
                                        have GG32 := Aside0.mk HG32
                                        clear gb32 gl32 HG32
                                        obtain ⟨hx32_0, hf32_0⟩ := Kd.R_celln false HO_8.out (x29_2 : Int) p32 q32
                                        replace p32 := eq_true p32
                                        replace q32 := eq_true q32
                                        have HP34 := Kd.R_putg HO_8.out (x29_2 : Int) true
                                        go_wp2_with (first | ((with_reducible refine gate_store (t := 4) (p := 52) rfl ?_); refine store_event (t := 4) (p := 52) (v := ?vo_w35) (w1 := (wr.setCell ⟨go32, (x29_2 : Int).toNat, none⟩ (.bool true))) ?hg ?ho ?hn ?hr ?_; (case ho => rfl); (case hg => rfl); (case hn => rfl); (case hr => first | (go_simp; done) | (go_simp; rfl)); intro w35 hw; have hg : wr.grownBy w35 (some go32) := (by rw [hw]; exact HP34.2); have hp_ : Kd.R Kd.bool 4 w35 w.heap.size (fun k_ => some k_ ≠ (.slice (some ad133) x5_1.length co33 : Value).ownBlock) (.slice (some ⟨go32, 0, none⟩) x8_2.length co24) y134 := (by rw [hw, Ny134.out]; exact HP34.1); clear HP34; have n0_ := Aside0.mk (Kd.R_after (v := (.slice (some ⟨go32, 0, none⟩) x8_2.length co24)) (v1 := (.slice (some ⟨go32, 0, none⟩) x8_2.length co24)) (ok := (fun _ => True)) (by (with_reducible repeat (first | apply Kd.R_alloc | apply Kd.R_drewN | apply Kd.R_drew)); exact Kd.R_mono HO_5.out (fun _ hk => ⟨trivial, hk⟩)) hg (.inl rfl)); have n1_ := Aside0.mk (hp_); have n2_ := Aside0.mk (KF.R_over' (v := (.slice (some ⟨go32, 0, none⟩) x8_2.length co24)) (by (with_reducible repeat (first | apply KF.R_alloc | apply KF.R_drewN | apply KF.R_drew)); exact HO_17.out) (Kd.R_typed HO_8.out) (by decide) hg); have n3_ := Aside0.mk ((by rw [hw]; exact below_set (HB.out) GB32.out : Below w.heap.size w w35)); clear HO_5; clear HO_8; clear HO_17; clear HB; have HO_5 := n0_; have HO_8 := n1_; have HO_17 := n2_; have HB := n3_; clear n0_ n1_ n2_ n3_; clear hg hw hp_))
                                        (try simp only [← hl8_2])
                                        go_roundg k2
                                        case measure => have := HK1.out; have := HK2.out; omega
                                        case rel => exact ⟨(y134), (wrap64 (x29_2 + 1)), (by first | rfl | (simp; done) | (simp [*]; done)), (by first | exact H' | (simp only [hji3, hji19]; exact H') | (simp only [hji19]; exact H') | (simp only [hji3]; exact H')), ⟨by have := HK1.out; have := HK2.out; omega⟩, ⟨by (try simp only [hl8_2]); (with_reducible repeat (first | apply Kd.R_alloc | apply Kd.R_drewN | apply Kd.R_drew)); exact Kd.R_mono HO_5.out (fun _ hk => hk.2)⟩, ⟨by (try simp only [hl8_2]); (with_reducible repeat (first | apply Kd.R_alloc | apply Kd.R_drewN | apply Kd.R_drew)); first | exact HO_8.out | exact Kd.R_mono HO_8.out (fun k_ hk => by simpa only [own_map] using hk) | exact Kd.S_mono HO_8.out (fun k_ hk => by simpa only [own_map] using hk)⟩, ⟨by (try simp only [hl8_2]); (with_reducible repeat (first | apply KF.R_alloc | apply KF.R_drewN | apply KF.R_drew)); first | exact HO_17.out | exact Kd.R_mono HO_17.out (fun k_ hk => by simpa only [own_map] using hk) | exact Kd.S_mono HO_17.out (fun k_ hk => by simpa only [own_map] using hk)⟩, ⟨by repeat (first | (with_reducible first | exact HB.out | apply below_alloc | apply pw_below_drewN | apply below_drew1) | exact HB.out)⟩⟩
                                      · rw [if_neg c31] at H
                                        exact absurd H (by simp)
                                    · replace c30 := Bool.eq_false_iff.mpr c30
                                      subst c30
                                      have H1 : (if x29_2 > 0 then (if 0 ≤ (wrap64 (x29_2 - 1)) then (if (wrap64 (x29_2 - 1)) < (x8_2.length : Int) then (if x29_2 < (x8_2.length : Int) then (impl_fitsForm.l1 k2 a1 x5_1 (rd y125 x19_1) (x8_2.set (x29_2 : Int).toNat (rdOf false x8_2 (wrap64 (x29_2 - 1)))) y125 (y125.length : Int) x19_1 (y130.length : Int) (wrap64 (x29_2 + 1))) else (none)) else (none)) else (none)) else (if x29_2 < (x8_2.length : Int) then (impl_fitsForm.l1 k2 a1 x5_1 (rd y125 x19_1) (x8_2.set (x29_2 : Int).toNat false) y125 (y125.length : Int) x19_1 (y130.length : Int) (wrap64 (x29_2 + 1))) else (none))) = some r := by rw [if_neg (show ¬ (false = true) by decide)] at H; exact H
                                      clear H
                                      have H := H1
                                      clear H1
                                      by_cases c36 : x29_2 > 0
                                      · rw [if_pos c36] at H
                                        have c36b0 : decide (0 < x29_2) = true := decide_eq_true c36
                                        clear c36
                                        obtain ⟨ji37, hji37⟩ : ∃ j_ : Int, (wrap64 (x29_2 - 1)) = j_ := ⟨_, rfl⟩
                                        replace H : (if 0 ≤ (ji37) then (if (ji37) < (x8_2.length : Int) then (if x29_2 < (x8_2.length : Int) then (impl_fitsForm.l1 k2 a1 x5_1 (rd y125 x19_1) (x8_2.set (x29_2 : Int).toNat (rdOf false x8_2 (ji37))) y125 (y125.length : Int) x19_1 (y130.length : Int) (wrap64 (x29_2 + 1))) else (none)) else (none)) else (none)) = some r := by first | (rw [hji37] at H; exact H) | (simp only [hji37] at H ⊢; exact H)
                                        have hji37w : (IntKind.i64.wrap (x29_2 - 1)) = ji37 := (i64_w _).trans hji37
                                        by_cases c38 : 0 ≤ (ji37)
                                        · rw [if_pos c38] at H
                                          have c38b0 : decide (0 ≤ (ji37)) = true := decide_eq_true c38
                                          clear c38
                                          by_cases c39 : (ji37) < (x8_2.length : Int)
                                          · rw [if_pos c39] at H
                                            have c39b0 : decide ((ji37) < (x8_2.length : Int)) = true := decide_eq_true c39
                                            clear c39
                                            by_cases c40 : x29_2 < (x8_2.length : Int)
                                            · rw [if_pos c40] at H
                                              have c40b0 : decide (x29_2 < (x8_2.length : Int)) = true := decide_eq_true c40
                                              clear c40
                                              obtain ⟨y136, hy136⟩ : ∃ y_ : List Bool, y_ = (x8_2.set (x29_2 : Int).toNat (rdOf false x8_2 (ji37))) := ⟨_, rfl⟩
                                              replace H : (impl_fitsForm.l1 k2 a1 x5_1 (rd y125 x19_1) y136 y125 (y125.length : Int) x19_1 (y130.length : Int) (wrap64 (x29_2 + 1))) = some r := by first | (rw [hy136]; with_reducible exact H) | (have H2_ := (Option.bind_some _ _).symm.trans H; rw [hy136]; with_reducible exact H2_) | (have H2_ := (Option.bind_some _ _).symm.trans H; with_reducible exact H2_) | with_reducible exact H | (rw [hy136]; exact H) | exact H
                                              have Ny136 := Aside0.mk hy136
                                              clear hy136
                                              have H' := Aside0.mk H
                                              clear H
                                              obtain ⟨Ao42, co42, eo42⟩ := Kd.R_slice HO_5.out
                                              subst eo42
                                              have p133 : 0 ≤ (x29_2 : Int) := of_decide_eq_true (by first | (with_reducible assumption) | assumption)
                                              have q133 : x29_2 < (x5_1.length : Int) := of_decide_eq_true (by first | (with_reducible assumption) | assumption)
                                              obtain ⟨ad133, e133, hx133_0⟩ := Kd.at_bool (Kd.R_reads' HO_5.out).2.2 x29_2 p133 q133
                                              (try rw [← Nbq29.out] at hx133_0)
                                              cases e133
                                              replace p133 := eq_true p133
                                              replace q133 := eq_true q133
                                              have p135 : 0 ≤ ((ji37) : Int) := of_decide_eq_true (by first | (with_reducible assumption) | assumption)
                                              have q135 : (ji37) < (x8_2.length : Int) := of_decide_eq_true (by first | (with_reducible assumption) | assumption)
                                              obtain ⟨ad135, e135, hx135_0⟩ := Kd.at_bool (Kd.R_reads' HO_8.out).2.2 (ji37) p135 q135
                                              (try rw [← Nbq29.out] at hx135_0)
                                              cases e135
                                              replace p135 := eq_true p135
                                              replace q135 := eq_true q135
                                              have p41 : 0 ≤ (x29_2 : Int) := of_decide_eq_true (by first | (with_reducible assumption) | assumption)
                                              have q41 : (x29_2 : Int) < ((x8_2.length : Int) : Int) := of_decide_eq_true (by first | (with_reducible assumption) | assumption)
                                              obtain ⟨go41, co41, eo41, gb41, gl41, cl41, HG41⟩ := Kd.R_form HO_8.out (by omega)
                                              (first | cases eo41 | (injection eo41 with ea_ en_ ec_; (first | subst ea_ | (injection ea_ with ea_; subst ea_)); subst ec_; clear en_))
                                              have GB41 := Aside0.mk gb41
                                              have GG41 := Aside0.mk HG41
                                              clear gb41 gl41 HG41
                                              (first | simp only [add_plain] at hx135_0 | skip)
                                              obtain ⟨hx41_0, hf41_0⟩ := Kd.R_celln false HO_8.out (x29_2 : Int) p41 q41
                                              replace p41 := eq_true p41
                                              replace q41 := eq_true q41
                                              have HP43 := Kd.R_putg HO_8.out (x29_2 : Int) (rdOf false x8_2 (ji37))
                                              go_wp2_with (first | ((with_reducible refine gate_store (t := 4) (p := 52) rfl ?_); refine store_event (t := 4) (p := 52) (v := ?vo_w44) (w1 := (wr.setCell ⟨go41, (x29_2 : Int).toNat, none⟩ (.bool (rdOf false x8_2 (ji37))))) ?hg ?ho ?hn ?hr ?_; (case ho => rfl); (case hg => rfl); (case hn => rfl); (case hr => first | (go_simp; done) | (go_simp; rfl)); intro w44 hw; have hg : wr.grownBy w44 (some go41) := (by rw [hw]; exact HP43.2); have hp_ : Kd.R Kd.bool 4 w44 w.heap.size (fun k_ => some k_ ≠ (.slice (some ad133) x5_1.length co42 : Value).ownBlock) (.slice (some ⟨go41, 0, none⟩) x8_2.length co24) y136 := (by rw [hw, Ny136.out]; exact HP43.1); clear HP43; have n0_ := Aside0.mk (Kd.R_after (v := (.slice (some ⟨go41, 0, none⟩) x8_2.length co24)) (v1 := (.slice (some ⟨go41, 0, none⟩) x8_2.length co24)) (ok := (fun _ => True)) (by (with_reducible repeat (first | apply Kd.R_alloc | apply Kd.R_drewN | apply Kd.R_drew)); exact Kd.R_mono HO_5.out (fun _ hk => ⟨trivial, hk⟩)) hg (.inl rfl)); have n1_ := Aside0.mk (hp_); have n2_ := Aside0.mk (KF.R_over' (v := (.slice (some ⟨go41, 0, none⟩) x8_2.length co24)) (by (with_reducible repeat (first | apply KF.R_alloc | apply KF.R_drewN | apply KF.R_drew)); exact HO_17.out) (Kd.R_typed HO_8.out) (by decide) hg); have n3_ := Aside0.mk ((by rw [hw]; exact below_set (HB.out) GB41.out : Below w.heap.size w w44)); clear HO_5; clear HO_8; clear HO_17; clear HB; have HO_5 := n0_; have HO_8 := n1_; have HO_17 := n2_; have HB := n3_; clear n0_ n1_ n2_ n3_; clear hg hw hp_))
                                              (try simp only [← hl8_2])
                                              go_roundg k2
                                              case measure => have := HK1.out; have := HK2.out; omega
                                              case rel => exact ⟨(y136), (wrap64 (x29_2 + 1)), (by first | rfl | (simp; done) | (simp [*]; done)), (by first | exact H' | (simp only [hji3, hji19, hji37]; exact H') | (simp only [hji37]; exact H') | (simp only [hji19]; exact H') | (simp only [hji3]; exact H')), ⟨by have := HK1.out; have := HK2.out; omega⟩, ⟨by (try simp only [hl8_2]); (with_reducible repeat (first | apply Kd.R_alloc | apply Kd.R_drewN | apply Kd.R_drew)); exact Kd.R_mono HO_5.out (fun _ hk => hk.2)⟩, ⟨by (try simp only [hl8_2]); (with_reducible repeat (first | apply Kd.R_alloc | apply Kd.R_drewN | apply Kd.R_drew)); first | exact HO_8.out | exact Kd.R_mono HO_8.out (fun k_ hk => by simpa only [own_map] using hk) | exact Kd.S_mono HO_8.out (fun k_ hk => by simpa only [own_map] using hk)⟩, ⟨by (try simp only [hl8_2]); (with_reducible repeat (first | apply KF.R_alloc | apply KF.R_drewN | apply KF.R_drew)); first | exact HO_17.out | exact Kd.R_mono HO_17.out (fun k_ hk => by simpa only [own_map] using hk) | exact Kd.S_mono HO_17.out (fun k_ hk => by simpa only [own_map] using hk)⟩, ⟨by repeat (first | (with_reducible first | exact HB.out | apply below_alloc | apply pw_below_drewN | apply below_drew1) | exact HB.out)⟩⟩
                                            · rw [if_neg c40] at H
                                              exact absurd H (by simp)
                                          · rw [if_neg c39] at H
                                            exact absurd H (by simp)
                                        · rw [if_neg c38] at H
                                          exact absurd H (by simp)
                                      · rw [if_neg c36] at H
                                        have c36b0 : decide (0 < x29_2) = false := decide_eq_false c36
                                        clear c36
                                        by_cases c45 : x29_2 < (x8_2.length : Int)
                                        · rw [if_pos c45] at H
                                          have c45b0 : decide (x29_2 < (x8_2.length : Int)) = true := decide_eq_true c45
                                          clear c45
                                          obtain ⟨y137, hy137⟩ : ∃ y_ : List Bool, y_ = (x8_2.set (x29_2 : Int).toNat false) := ⟨_, rfl⟩
                                          replace H : (impl_fitsForm.l1 k2 a1 x5_1 (rd y125 x19_1) y137 y125 (y125.length : Int) x19_1 (y130.length : Int) (wrap64 (x29_2 + 1))) = some r := by first | (rw [hy137]; with_reducible exact H) | (have H2_ := (Option.bind_some _ _).symm.trans H; rw [hy137]; with_reducible exact H2_) | (have H2_ := (Option.bind_some _ _).symm.trans H; with_reducible exact H2_) | with_reducible exact H | (rw [hy137]; exact H) | exact H
                                          have Ny137 := Aside0.mk hy137
                                          clear hy137
                                          have H' := Aside0.mk H
                                          clear H
                                          obtain ⟨Ao47, co47, eo47⟩ := Kd.R_slice HO_5.out
                                          subst eo47
                                          have p133 : 0 ≤ (x29_2 : Int) := of_decide_eq_true (by first | (with_reducible assumption) | assumption)
                                          have q133 : x29_2 < (x5_1.length : Int) := of_decide_eq_true (by first | (with_reducible assumption) | assumption)
                                          obtain ⟨ad133, e133, hx133_0⟩ := Kd.at_bool (Kd.R_reads' HO_5.out).2.2 x29_2 p133 q133
                                          (try rw [← Nbq29.out] at hx133_0)
                                          cases e133
                                          replace p133 := eq_true p133
                                          replace q133 := eq_true q133
                                          have p46 : 0 ≤ (x29_2 : Int) := of_decide_eq_true (by first | (with_reducible assumption) | assumption)
                                          have q46 : (x29_2 : Int) < ((x8_2.length : Int) : Int) := of_decide_eq_true (by first | (with_reducible assumption) | assumption)
                                          obtain ⟨go46, co46, eo46, gb46, gl46, cl46, HG46⟩ := Kd.R_form HO_8.out (by omega)
                                          (first | cases eo46 | (injection eo46 with ea_ en_ ec_; (first | subst ea_ | (injection ea_ with ea_; subst ea_)); subst ec_; clear en_))
                                          have GB46 := Aside0.mk gb46
                                          have GG46 := Aside0.mk HG46
                                          clear gb46 gl46 HG46
                                          obtain ⟨hx46_0, hf46_0⟩ := Kd.R_celln false HO_8.out (x29_2 : Int) p46 q46
                                          replace p46 := eq_true p46
                                          replace q46 := eq_true q46
                                          have HP48 := Kd.R_putg HO_8.out (x29_2 : Int) false
                                          go_wp2_with (first | ((with_reducible refine gate_store (t := 4) (p := 52) rfl ?_); refine store_event (t := 4) (p := 52) (v := ?vo_w49) (w1 := (wr.setCell ⟨go46, (x29_2 : Int).toNat, none⟩ (.bool false))) ?hg ?ho ?hn ?hr ?_; (case ho => rfl); (case hg => rfl); (case hn => rfl); (case hr => first | (go_simp; done) | (go_simp; rfl)); intro w49 hw; have hg : wr.grownBy w49 (some go46) := (by rw [hw]; exact HP48.2); have hp_ : Kd.R Kd.bool 4 w49 w.heap.size (fun k_ => some k_ ≠ (.slice (some ad133) x5_1.length co47 : Value).ownBlock) (.slice (some ⟨go46, 0, none⟩) x8_2.length co24) y137 := (by rw [hw, Ny137.out]; exact HP48.1); clear HP48; have n0_ := Aside0.mk (Kd.R_after (v := (.slice (some ⟨go46, 0, none⟩) x8_2.length co24)) (v1 := (.slice (some ⟨go46, 0, none⟩) x8_2.length co24)) (ok := (fun _ => True)) (by (with_reducible repeat (first | apply Kd.R_alloc | apply Kd.R_drewN | apply Kd.R_drew)); exact Kd.R_mono HO_5.out (fun _ hk => ⟨trivial, hk⟩)) hg (.inl rfl)); have n1_ := Aside0.mk (hp_); have n2_ := Aside0.mk (KF.R_over' (v := (.slice (some ⟨go46, 0, none⟩) x8_2.length co24)) (by (with_reducible repeat (first | apply KF.R_alloc | apply KF.R_drewN | apply KF.R_drew)); exact HO_17.out) (Kd.R_typed HO_8.out) (by decide) hg); have n3_ := Aside0.mk ((by rw [hw]; exact below_set (HB.out) GB46.out : Below w.heap.size w w49)); clear HO_5; clear HO_8; clear HO_17; clear HB; have HO_5 := n0_; have HO_8 := n1_; have HO_17 := n2_; have HB := n3_; clear n0_ n1_ n2_ n3_; clear hg hw hp_))
                                          (try simp only [← hl8_2])
                                          go_roundg k2
                                          case measure => have := HK1.out; have := HK2.out; omega
                                          case rel => exact ⟨(y137), (wrap64 (x29_2 + 1)), (by first | rfl | (simp; done) | (simp [*]; done)), (by first | exact H' | (simp only [hji3, hji19]; exact H') | (simp only [hji19]; exact H') | (simp only [hji3]; exact H')), ⟨by have := HK1.out; have := HK2.out; omega⟩, ⟨by (try simp only [hl8_2]); (with_reducible repeat (first | apply Kd.R_alloc | apply Kd.R_drewN | apply Kd.R_drew)); exact Kd.R_mono HO_5.out (fun _ hk => hk.2)⟩, ⟨by (try simp only [hl8_2]); (with_reducible repeat (first | apply Kd.R_alloc | apply Kd.R_drewN | apply Kd.R_drew)); first | exact HO_8.out | exact Kd.R_mono HO_8.out (fun k_ hk => by simpa only [own_map] using hk) | exact Kd.S_mono HO_8.out (fun k_ hk => by simpa only [own_map] using hk)⟩, ⟨by (try simp only [hl8_2]); (with_reducible repeat (first | apply KF.R_alloc | apply KF.R_drewN | apply KF.R_drew)); first | exact HO_17.out | exact Kd.R_mono HO_17.out (fun k_ hk => by simpa only [own_map] using hk) | exact Kd.S_mono HO_17.out (fun k_ hk => by simpa only [own_map] using hk)⟩, ⟨by repeat (first | (with_reducible first | exact HB.out | apply below_alloc | apply pw_below_drewN | apply below_drew1) | exact HB.out)⟩⟩
                                        · rw [if_neg c45] at H
                                          exact absurd H (by simp)
                                  · rw [if_neg c28] at H
                                    exact absurd H (by simp)
                                · rw [if_neg c27] at H
                                  exact absurd H (by simp)
                              · rw [if_neg c26] at H
                                have c26b0 : ((rd y125 x19_1) == 42) = false := beq_eq_false_iff_ne.mpr c26
                                have c26b1 : ((rd y125 x19_1) != 42) = true := bne_iff_ne.mpr c26
                                by_cases c50 : x29_2 > 0
                                · rw [if_pos c50] at H
                                  have c50b0 : decide (0 < x29_2) = true := decide_eq_true c50
                                  clear c50
                                  by_cases c51 : (rd y125 x19_1) = 63
                                  · rw [if_pos c51] at H
                                    have c51b0 : ((rd y125 x19_1) == 63) = true := beq_iff_eq.mpr c51
                                    have c51b1 : ((rd y125 x19_1) != 63) = false := bne_eq_false_iff_eq.mpr c51
                                    clear c51
                                    try clear hji37w hji37
                                    obtain ⟨ji52, hji52⟩ : ∃ j_ : Int, (wrap64 (x29_2 - 1)) = j_ := ⟨_, rfl⟩
                                    replace H : (if 0 ≤ (ji52) then (if (ji52) < (x5_1.length : Int) then (if 0 ≤ x29_2 then (if x29_2 < (x8_2.length : Int) then (impl_fitsForm.l1 k2 a1 x5_1 (rd y125 x19_1) (x8_2.set (x29_2 : Int).toNat (rdOf false x5_1 (ji52))) y125 (y125.length : Int) x19_1 (y130.length : Int) (wrap64 (x29_2 + 1))) else (none)) else (none)) else (none)) else (none)) = some r := by first | (rw [hji52] at H; exact H) | (simp only [hji52] at H ⊢; exact H)
                                    have hji52w : (IntKind.i64.wrap (x29_2 - 1)) = ji52 := (i64_w _).trans hji52
                                    by_cases c53 : 0 ≤ (ji52)
                                    · rw [if_pos c53] at H
                                      have c53b0 : decide (0 ≤ (ji52)) = true := decide_eq_true c53
                                      clear c53
                                      by_cases c54 : (ji52) < (x5_1.length : Int)
                                      · rw [if_pos c54] at H
                                        have c54b0 : decide ((ji52) < (x5_1.length : Int)) = true := decide_eq_true c54
                                        clear c54
                                        by_cases c55 : 0 ≤ x29_2
                                        · rw [if_pos c55] at H
                                          have c55b0 : decide (0 ≤ x29_2) = true := decide_eq_true c55
                                          clear c55
                                          by_cases c56 : x29_2 < (x8_2.length : Int)
                                          · rw [if_pos c56] at H
                                            have c56b0 : decide (x29_2 < (x8_2.length : Int)) = true := decide_eq_true c56
                                            clear c56
                                            obtain ⟨y139, hy139⟩ : ∃ y_ : List Bool, y_ = (x8_2.set (x29_2 : Int).toNat (rdOf false x5_1 (ji52))) := ⟨_, rfl⟩
                                            replace H : (impl_fitsForm.l1 k2 a1 x5_1 (rd y125 x19_1) y139 y125 (y125.length : Int) x19_1 (y130.length : Int) (wrap64 (x29_2 + 1))) = some r := by first | (rw [hy139]; with_reducible exact H) | (have H2_ := (Option.bind_some _ _).symm.trans H; rw [hy139]; with_reducible exact H2_) | (have H2_ := (Option.bind_some _ _).symm.trans H; with_reducible exact H2_) | with_reducible exact H | (rw [hy139]; exact H) | exact H
                                            have Ny139 := Aside0.mk hy139
                                            clear hy139
                                            have H' := Aside0.mk H
                                            clear H
                                            obtain ⟨Ao58, co58, eo58⟩ := Kd.R_slice HO_5.out
                                            subst eo58
                                            have p138 : 0 ≤ ((ji52) : Int) := of_decide_eq_true (by first | (with_reducible assumption) | assumption)
                                            have q138 : (ji52) < (x5_1.length : Int) := of_decide_eq_true (by first | (with_reducible assumption) | assumption)
                                            obtain ⟨ad138, e138, hx138_0⟩ := Kd.at_bool (Kd.R_reads' HO_5.out).2.2 (ji52) p138 q138
                                            cases e138
                                            replace p138 := eq_true p138
                                            replace q138 := eq_true q138
                                            have p57 : 0 ≤ (x29_2 : Int) := of_decide_eq_true (by first | (with_reducible assumption) | assumption)
                                            have q57 : (x29_2 : Int) < ((x8_2.length : Int) : Int) := of_decide_eq_true (by first | (with_reducible assumption) | assumption)
                                            obtain ⟨go57, co57, eo57, gb57, gl57, cl57, HG57⟩ := Kd.R_form HO_8.out (by omega)
                                            (first | cases eo57 | (injection eo57 with ea_ en_ ec_; (first | subst ea_ | (injection ea_ with ea_; subst ea_)); subst ec_; clear en_))
                                            have GB57 := Aside0.mk gb57
                                            have GG57 := Aside0.mk HG57
                                            clear gb57 gl57 HG57
                                            obtain ⟨hx57_0, hf57_0⟩ := Kd.R_celln false HO_8.out (x29_2 : Int) p57 q57
                                            replace p57 := eq_true p57
                                            replace q57 := eq_true q57
                                            have HP59 := Kd.R_putg HO_8.out (x29_2 : Int) (rdOf false x5_1 (ji52))
                                            go_wp2_with (first | ((with_reducible refine gate_store (t := 4) (p := 75) rfl ?_); refine store_event (t := 4) (p := 75) (v := ?vo_w60) (w1 := (wr.setCell ⟨go57, (x29_2 : Int).toNat, none⟩ (.bool (rdOf false x5_1 (ji52))))) ?hg ?ho ?hn ?hr ?_; (case ho => rfl); (case hg => rfl); (case hn => rfl); (case hr => first | (go_simp; done) | (go_simp; rfl)); intro w60 hw; have hg : wr.grownBy w60 (some go57) := (by rw [hw]; exact HP59.2); have hp_ : Kd.R Kd.bool 4 w60 w.heap.size (fun k_ => some k_ ≠ (.slice (some ad138) x5_1.length co58 : Value).ownBlock) (.slice (some ⟨go57, 0, none⟩) x8_2.length co24) y139 := (by rw [hw, Ny139.out]; exact HP59.1); clear HP59; have n0_ := Aside0.mk (Kd.R_after (v := (.slice (some ⟨go57, 0, none⟩) x8_2.length co24)) (v1 := (.slice (some ⟨go57, 0, none⟩) x8_2.length co24)) (ok := (fun _ => True)) (by (with_reducible repeat (first | apply Kd.R_alloc | apply Kd.R_drewN | apply Kd.R_drew)); exact Kd.R_mono HO_5.out (fun _ hk => ⟨trivial, hk⟩)) hg (.inl rfl)); have n1_ := Aside0.mk (hp_); have n2_ := Aside0.mk (KF.R_over' (v := (.slice (some ⟨go57, 0, none⟩) x8_2.length co24)) (by (with_reducible repeat (first | apply KF.R_alloc | apply KF.R_drewN | apply KF.R_drew)); exact HO_17.out) (Kd.R_typed HO_8.out) (by decide) hg); have n3_ := Aside0.mk ((by rw [hw]; exact below_set (HB.out) GB57.out : Below w.heap.size w w60)); clear HO_5; clear HO_8; clear HO_17; clear HB; have HO_5 := n0_; have HO_8 := n1_; have HO_17 := n2_; have HB := n3_; clear n0_ n1_ n2_ n3_; clear hg hw hp_))
                                            (try simp only [← hl8_2])
                                            go_roundg k2
                                            case measure => have := HK1.out; have := HK2.out; omega
                                            case rel => exact ⟨(y139), (wrap64 (x29_2 + 1)), (by first | rfl | (simp; done) | (simp [*]; done)), (by first | exact H' | (simp only [hji3, hji19, hji52]; exact H') | (simp only [hji52]; exact H') | (simp only [hji19]; exact H') | (simp only [hji3]; exact H')), ⟨by have := HK1.out; have := HK2.out; omega⟩, ⟨by (try simp only [hl8_2]); (with_reducible repeat (first | apply Kd.R_alloc | apply Kd.R_drewN | apply Kd.R_drew)); exact Kd.R_mono HO_5.out (fun _ hk => hk.2)⟩, ⟨by (try simp only [hl8_2]); (with_reducible repeat (first | apply Kd.R_alloc | apply Kd.R_drewN | apply Kd.R_drew)); first | exact HO_8.out | exact Kd.R_mono HO_8.out (fun k_ hk => by simpa only [own_map] using hk) | exact Kd.S_mono HO_8.out (fun k_ hk => by simpa only [own_map] using hk)⟩, ⟨by (try simp only [hl8_2]); (with_reducible repeat (first | apply KF.R_alloc | apply KF.R_drewN | apply KF.R_drew)); first | exact HO_17.out | exact Kd.R_mono HO_17.out (fun k_ hk => by simpa only [own_map] using hk) | exact Kd.S_mono HO_17.out (fun k_ hk => by simpa only [own_map] using hk)⟩, ⟨by repeat (first | (with_reducible first | exact HB.out | apply below_alloc | apply pw_below_drewN | apply below_drew1) | exact HB.out)⟩⟩
                                          · rw [if_neg c56] at H
                                            exact absurd H (by simp)
                                        · rw [if_neg c55] at H
                                          exact absurd H (by simp)
                                      · rw [if_neg c54] at H
                                        exact absurd H (by simp)
                                    · rw [if_neg c53] at H
                                      exact absurd H (by simp)
                                  · rw [if_neg c51] at H
                                    have c51b0 : ((rd y125 x19_1) == 63) = false := beq_eq_false_iff_ne.mpr c51
                                    have c51b1 : ((rd y125 x19_1) != 63) = true := bne_iff_ne.mpr c51
                                    try clear hji37w hji37
                                    try clear hji52w hji52
                                    obtain ⟨ji61, hji61⟩ : ∃ j_ : Int, (wrap64 (x29_2 - 1)) = j_ := ⟨_, rfl⟩
                                    replace H : (if 0 ≤ (ji61) then (if (ji61) < (a1.size : Int) then (if (rd y125 x19_1) = (bt a1 (ji61)) then (if (ji61) < (x5_1.length : Int) then (if 0 ≤ x29_2 then (if x29_2 < (x8_2.length : Int) then (impl_fitsForm.l1 k2 a1 x5_1 (rd y125 x19_1) (x8_2.set (x29_2 : Int).toNat (rdOf false x5_1 (ji61))) y125 (y125.length : Int) x19_1 (y130.length : Int) (wrap64 (x29_2 + 1))) else (none)) else (none)) else (none)) else (impl_fitsForm.l1 k2 a1 x5_1 (rd y125 x19_1) x8_2 y125 (y125.length : Int) x19_1 (y130.length : Int) (wrap64 (x29_2 + 1)))) else (none)) else (none)) = some r := by first | (rw [hji61] at H; exact H) | (simp only [hji61] at H ⊢; exact H)
                                    have hji61w : (IntKind.i64.wrap (x29_2 - 1)) = ji61 := (i64_w _).trans hji61
                                    by_cases c62 : 0 ≤ (ji61)
                                    · rw [if_pos c62] at H
                                      have c62b0 : decide (0 ≤ (ji61)) = true := decide_eq_true c62
                                      clear c62
                                      by_cases c63 : (ji61) < (a1.size : Int)
                                      · rw [if_pos c63] at H
                                        have c63b0 : decide ((ji61) < (a1.size : Int)) = true := decide_eq_true c63
                                        clear c63
                                        by_cases c65 : (rd y125 x19_1) = (bt a1 (ji61))
                                        · rw [if_pos c65] at H
                                          have c65b0 : ((rd y125 x19_1) == (bt a1 (ji61))) = true := beq_iff_eq.mpr c65
                                          have c65b1 : ((rd y125 x19_1) != (bt a1 (ji61))) = false := bne_eq_false_iff_eq.mpr c65
                                          clear c65
                                          by_cases c66 : (ji61) < (x5_1.length : Int)
                                          · rw [if_pos c66] at H
                                            have c66b0 : decide ((ji61) < (x5_1.length : Int)) = true := decide_eq_true c66
                                            clear c66
                                            by_cases c67 : 0 ≤ x29_2
                                            · rw [if_pos c67] at H
                                              have c67b0 : decide (0 ≤ x29_2) = true := decide_eq_true c67
                                              clear c67
                                              by_cases c68 : x29_2 < (x8_2.length : Int)
                                              · rw [if_pos c68] at H
                                                have c68b0 : decide (x29_2 < (x8_2.length : Int)) = true := decide_eq_true c68
                                                clear c68
                                                obtain ⟨y141, hy141⟩ : ∃ y_ : List Bool, y_ = (x8_2.set (x29_2 : Int).toNat (rdOf false x5_1 (ji61))) := ⟨_, rfl⟩
                                                replace H : (impl_fitsForm.l1 k2 a1 x5_1 (rd y125 x19_1) y141 y125 (y125.length : Int) x19_1 (y130.length : Int) (wrap64 (x29_2 + 1))) = some r := by first | (rw [hy141]; with_reducible exact H) | (have H2_ := (Option.bind_some _ _).symm.trans H; rw [hy141]; with_reducible exact H2_) | (have H2_ := (Option.bind_some _ _).symm.trans H; with_reducible exact H2_) | with_reducible exact H | (rw [hy141]; exact H) | exact H
                                                have Ny141 := Aside0.mk hy141
                                                clear hy141
                                                have H' := Aside0.mk H
                                                clear H
                                                have p64 : 0 ≤ ((ji61) : Int) := of_decide_eq_true (by first | (with_reducible assumption) | assumption)
                                                have q64 : (ji61) < (a1.size : Int) := of_decide_eq_true (by first | (with_reducible assumption) | assumption)
                                                have hx64 := bt_at a1 (ji61)
                                                replace p64 := eq_true p64
                                                replace q64 := eq_true q64
                                                obtain ⟨Ao70, co70, eo70⟩ := Kd.R_slice HO_5.out
                                                subst eo70
                                                have p140 : 0 ≤ ((ji61) : Int) := of_decide_eq_true (by first | (with_reducible assumption) | assumption)
                                                have q140 : (ji61) < (x5_1.length : Int) := of_decide_eq_true (by first | (with_reducible assumption) | assumption)
                                                obtain ⟨ad140, e140, hx140_0⟩ := Kd.at_bool (Kd.R_reads' HO_5.out).2.2 (ji61) p140 q140
                                                cases e140
                                                replace p140 := eq_true p140
                                                replace q140 := eq_true q140
                                                have p69 : 0 ≤ (x29_2 : Int) := of_decide_eq_true (by first | (with_reducible assumption) | assumption)
                                                have q69 : (x29_2 : Int) < ((x8_2.length : Int) : Int) := of_decide_eq_true (by first | (with_reducible assumption) | assumption)
                                                obtain ⟨go69, co69, eo69, gb69, gl69, cl69, HG69⟩ := Kd.R_form HO_8.out (by omega)
                                                (first | cases eo69 | (injection eo69 with ea_ en_ ec_; (first | subst ea_ | (injection ea_ with ea_; subst ea_)); subst ec_; clear en_))
                                                have GB69 := Aside0.mk gb69
                                                have GG69 := Aside0.mk HG69
                                                clear gb69 gl69 HG69
                                                obtain ⟨hx69_0, hf69_0⟩ := Kd.R_celln false HO_8.out (x29_2 : Int) p69 q69
                                                replace p69 := eq_true p69
                                                replace q69 := eq_true q69
                                                have HP71 := Kd.R_putg HO_8.out (x29_2 : Int) (rdOf false x5_1 (ji61))
                                                go_wp2_with (first | ((with_reducible refine gate_store (t := 4) (p := 75) rfl ?_); refine store_event (t := 4) (p := 75) (v := ?vo_w72) (w1 := (wr.setCell ⟨go69, (x29_2 : Int).toNat, none⟩ (.bool (rdOf false x5_1 (ji61))))) ?hg ?ho ?hn ?hr ?_; (case ho => rfl); (case hg => rfl); (case hn => rfl); (case hr => first | (go_simp; done) | (go_simp; rfl)); intro w72 hw; have hg : wr.grownBy w72 (some go69) := (by rw [hw]; exact HP71.2); have hp_ : Kd.R Kd.bool 4 w72 w.heap.size (fun k_ => some k_ ≠ (.slice (some ad140) x5_1.length co70 : Value).ownBlock) (.slice (some ⟨go69, 0, none⟩) x8_2.length co24) y141 := (by rw [hw, Ny141.out]; exact HP71.1); clear HP71; have n0_ := Aside0.mk (Kd.R_after (v := (.slice (some ⟨go69, 0, none⟩) x8_2.length co24)) (v1 := (.slice (some ⟨go69, 0, none⟩) x8_2.length co24)) (ok := (fun _ => True)) (by (with_reducible repeat (first | apply Kd.R_alloc | apply Kd.R_drewN | apply Kd.R_drew)); exact Kd.R_mono HO_5.out (fun _ hk => ⟨trivial, hk⟩)) hg (.inl rfl)); have n1_ := Aside0.mk (hp_); have n2_ := Aside0.mk (KF.R_over' (v := (.slice (some ⟨go69, 0, none⟩) x8_2.length co24)) (by (with_reducible repeat (first | apply KF.R_alloc | apply KF.R_drewN | apply KF.R_drew)); exact HO_17.out) (Kd.R_typed HO_8.out) (by decide) hg); have n3_ := Aside0.mk ((by rw [hw]; exact below_set (HB.out) GB69.out : Below w.heap.size w w72)); clear HO_5; clear HO_8; clear HO_17; clear HB; have HO_5 := n0_; have HO_8 := n1_; have HO_17 := n2_; have HB := n3_; clear n0_ n1_ n2_ n3_; clear hg hw hp_))
                                                (try simp only [← hl8_2])
                                                go_roundg k2
                                                case measure => have := HK1.out; have := HK2.out; omega
                                                case rel => exact ⟨(y141), (wrap64 (x29_2 + 1)), (by first | rfl | (simp; done) | (simp [*]; done)), (by first | exact H' | (simp only [hji3, hji19, hji61]; exact H') | (simp only [hji61]; exact H') | (simp only [hji19]; exact H') | (simp only [hji3]; exact H')), ⟨by have := HK1.out; have := HK2.out; omega⟩, ⟨by (try simp only [hl8_2]); (with_reducible repeat (first | apply Kd.R_alloc | apply Kd.R_drewN | apply Kd.R_drew)); exact Kd.R_mono HO_5.out (fun _ hk => hk.2)⟩, ⟨by (try simp only [hl8_2]); (with_reducible repeat (first | apply Kd.R_alloc | apply Kd.R_drewN | apply Kd.R_drew)); first | exact HO_8.out | exact Kd.R_mono HO_8.out (fun k_ hk => by simpa only [own_map] using hk) | exact Kd.S_mono HO_8.out (fun k_ hk => by simpa only [own_map] using hk)⟩, ⟨by (try simp only [hl8_2]); (with_reducible repeat (first | apply KF.R_alloc | apply KF.R_drewN | apply KF.R_drew)); first | exact HO_17.out | exact Kd.R_mono HO_17.out (fun k_ hk => by simpa only [own_map] using hk) | exact Kd.S_mono HO_17.out (fun k_ hk => by simpa only [own_map] using hk)⟩, ⟨by repeat (first | (with_reducible first | exact HB.out | apply below_alloc | apply pw_below_drewN | apply below_drew1) | exact HB.out)⟩⟩
                                              · rw [if_neg c68] at H
                                                exact absurd H (by simp)
                                            · rw [if_neg c67] at H
                                              exact absurd H (by simp)
                                          · rw [if_neg c66] at H
                                            exact absurd H (by simp)
                                        · rw [if_neg c65] at H
                                          have c65b0 : ((rd y125 x19_1) == (bt a1 (ji61))) = false := beq_eq_false_iff_ne.mpr c65
                                          have c65b1 : ((rd y125 x19_1) != (bt a1 (ji61))) = true := bne_iff_ne.mpr c65
                                          have H' := Aside0.mk H
                                          clear H
                                          have p64 : 0 ≤ ((ji61) : Int) := of_decide_eq_true (by first | (with_reducible assumption) | assumption)
                                          have q64 : (ji61) < (a1.size : Int) := of_decide_eq_true (by first | (with_reducible assumption) | assumption)
                                          have hx64 := bt_at a1 (ji61)
                                          replace p64 := eq_true p64
                                          replace q64 := eq_true q64
                                          go_wp2
                                          (try simp only [← hl8_2])
                                          go_roundg k2
                                          case measure => have := HK1.out; have := HK2.out; omega
                                          case rel => exact ⟨(x8_2), (wrap64 (x29_2 + 1)), (by first | rfl | (simp; done) | (simp [*]; done)), (by first | exact H' | (simp only [hji3, hji19, hji61]; exact H') | (simp only [hji61]; exact H') | (simp only [hji19]; exact H') | (simp only [hji3]; exact H')), ⟨by have := HK1.out; have := HK2.out; omega⟩, ⟨by (try simp only [hl8_2]); (with_reducible repeat (first | apply Kd.R_alloc | apply Kd.R_drewN | apply Kd.R_drew)); first | exact HO_5.out | exact Kd.R_mono HO_5.out (fun k_ hk => by simpa only [own_map] using hk) | exact Kd.S_mono HO_5.out (fun k_ hk => by simpa only [own_map] using hk)⟩, ⟨by (try simp only [hl8_2]); (with_reducible repeat (first | apply Kd.R_alloc | apply Kd.R_drewN | apply Kd.R_drew)); first | exact HO_8.out | exact Kd.R_mono HO_8.out (fun k_ hk => by simpa only [own_map] using hk) | exact Kd.S_mono HO_8.out (fun k_ hk => by simpa only [own_map] using hk)⟩, ⟨by (try simp only [hl8_2]); (with_reducible repeat (first | apply KF.R_alloc | apply KF.R_drewN | apply KF.R_drew)); first | exact HO_17.out | exact Kd.R_mono HO_17.out (fun k_ hk => by simpa only [own_map] using hk) | exact Kd.S_mono HO_17.out (fun k_ hk => by simpa only [own_map] using hk)⟩, ⟨by repeat (first | (with_reducible first | exact HB.out | apply below_alloc | apply pw_below_drewN | apply below_drew1) | exact HB.out)⟩⟩
                                      · rw [if_neg c63] at H
                                        exact absurd H (by simp)
                                    · rw [if_neg c62] at H
                                      exact absurd H (by simp)
                                · rw [if_neg c50] at H
                                  have c50b0 : decide (0 < x29_2) = false := decide_eq_false c50
                                  clear c50
                                  have H' := Aside0.mk H
                                  clear H
                                  go_wp2
                                  (try simp only [← hl8_2])
                                  go_roundg k2
                                  case measure => have := HK1.out; have := HK2.out; omega
                                  case rel => exact ⟨(x8_2), (wrap64 (x29_2 + 1)), (by first | rfl | (simp; done) | (simp [*]; done)), (by first | exact H' | (simp only [hji3, hji19]; exact H') | (simp only [hji19]; exact H') | (simp only [hji3]; exact H')), ⟨by have := HK1.out; have := HK2.out; omega⟩, ⟨by (try simp only [hl8_2]); (with_reducible repeat (first | apply Kd.R_alloc | apply Kd.R_drewN | apply Kd.R_drew)); first | exact HO_5.out | exact Kd.R_mono HO_5.out (fun k_ hk => by simpa only [own_map] using hk) | exact Kd.S_mono HO_5.out (fun k_ hk => by simpa only [own_map] using hk)⟩, ⟨by (try simp only [hl8_2]); (with_reducible repeat (first | apply Kd.R_alloc | apply Kd.R_drewN | apply Kd.R_drew)); first | exact HO_8.out | exact Kd.R_mono HO_8.out (fun k_ hk => by simpa only [own_map] using hk) | exact Kd.S_mono HO_8.out (fun k_ hk => by simpa only [own_map] using hk)⟩, ⟨by (try simp only [hl8_2]); (with_reducible repeat (first | apply KF.R_alloc | apply KF.R_drewN | apply KF.R_drew)); first | exact HO_17.out | exact Kd.R_mono HO_17.out (fun k_ hk => by simpa only [own_map] using hk) | exact Kd.S_mono HO_17.out (fun k_ hk => by simpa only [own_map] using hk)⟩, ⟨by repeat (first | (with_reducible first | exact HB.out | apply below_alloc | apply pw_below_drewN | apply below_drew1) | exact HB.out)⟩⟩
                            · rw [if_neg c25] at H
                              have c25b0 : decide (x29_2 < (y130.length : Int)) = false := decide_eq_false c25
                              have c25z := c25b0
                              (try simp only [hl8_2] at c25z)
                              clear c25
                              have H' := Aside0.mk H
                              clear H
                              go_wp2
                              (try simp only [← hl8_2])
                              go_roundg k2
                              case measure => have := HK1.out; have := HK2.out; omega
                              case rel => exact ⟨(x8_2), (wrap64 (x19_1 + 1)), (by first | rfl | (simp; done) | (simp [*]; done)), (by first | exact H' | (simp only [hji3, hji19]; exact H') | (simp only [hji19]; exact H') | (simp only [hji3]; exact H')), ⟨by have := HK1.out; have := HK2.out; omega⟩, ⟨by (try simp only [hl8_2]); (with_reducible repeat (first | apply Kd.R_alloc | apply Kd.R_drewN | apply Kd.R_drew)); exact Kd.R_mono HO_8.out (fun _ hk => trivial)⟩, ⟨by (try simp only [hl8_2]); (with_reducible repeat (first | apply KF.R_alloc | apply KF.R_drewN | apply KF.R_drew)); first | exact HO_17.out | exact Kd.R_mono HO_17.out (fun k_ hk => by simpa only [own_map] using hk) | exact Kd.S_mono HO_17.out (fun k_ hk => by simpa only [own_map] using hk)⟩, ⟨by repeat (first | (with_reducible first | exact HB.out | apply below_alloc | apply pw_below_drewN | apply below_drew1) | exact HB.out)⟩⟩
                      · rw [if_neg c21] at H
                        exact absurd H (by simp)
                    · rw [if_neg c20] at H
                      exact absurd H (by simp)
                  · rw [if_neg c18] at H
                    exact absurd H (by simp)
                · rw [if_neg c17] at H
                  exact absurd H (by simp)
              · rw [if_neg c16] at H
                have c16b0 : decide (x19_1 < (y125.length : Int)) = false := decide_eq_false c16
                clear c16
                by_cases c73 : 0 ≤ (a1.size : Int)
                · rw [if_pos c73] at H
                  have c73b0 : decide (0 ≤ (a1.size : Int)) = true := decide_eq_true c73
                  have c73b1 : decide (0 ≤ a1.size) = true := decide_eq_true (by omega)
                  clear c73
                  by_cases c74 : (a1.size : Int) < (x5_1.length : Int)
                  · rw [if_pos c74] at H
                    have c74b0 : decide ((a1.size : Int) < (x5_1.length : Int)) = true := decide_eq_true c74
                    have c74b1 : decide (a1.size < x5_1.length) = true := decide_eq_true (Int.ofNat_lt.mp c74)
                    clear c74
                    obtain rfl := Option.some.inj H
                    obtain ⟨Ao75, co75, eo75⟩ := Kd.R_slice HO_5.out
                    subst eo75
                    have p128 : 0 ≤ ((a1.size : Int) : Int) := of_decide_eq_true (by first | (with_reducible assumption) | assumption)
                    have q128 : (a1.size : Int) < (x5_1.length : Int) := of_decide_eq_true (by first | (with_reducible assumption) | assumption)
                    obtain ⟨ad128, e128, hx128_0⟩ := Kd.at_bool (Kd.R_reads' HO_5.out).2.2 (a1.size : Int) p128 q128
                    simp only [Int.toNat_natCast] at hx128_0
                    cases e128
                    replace p128 := eq_true p128
                    replace q128 := eq_true q128
                    go_wp2
                    go_ret
                    exact ⟨by first | rfl | (simp [errW_none, errW_some] <;> rfl) | (simp [errW_none, errW_some]; exact isEmpty_ne _) | (simp only [← hji3]; first | rfl | (simp [errW_none, errW_some] <;> rfl)) | (simp [*, errW_none, errW_some] <;> rfl), by repeat (first | (with_reducible first | exact HB.out | apply below_alloc | apply pw_below_drewN | apply below_drew1) | exact HB.out)⟩
                  · rw [if_neg c74] at H
                    exact absurd H (by simp)
                · rw [if_neg c73] at H
                  exact absurd H (by simp)
        · rw [if_neg c8] at H
          exact absurd H (by simp)
      · rw [if_neg c6] at H
        exact absurd H (by simp)
    · rw [if_neg c5] at H
      exact absurd H (by simp)
  · rw [if_neg c4] at H
    exact absurd H (by simp)

/-! ### impl_IsForm: function 5 -/
def impl_IsForm.f (k : Nat) (a0 : ByteArray) (a1 : ByteArray) : Option (Bool × Bool) := (impl_isPattern.f k a0).bind fun t142 => (if t142 = true then ((impl_GoodName.f k a1).bind fun t143 => (if t143 = true then ((impl_fitsForm.f k a0 a1).bind fun t144 => (some (t144, true))) else (some (false, false)))) else (some (false, false)))
theorem impl_IsForm.mono : ∀ a0 a1 k, LeO (impl_IsForm.f k a0 a1) (impl_IsForm.f (k + 1) a0 a1) := by
  intro a0 a1 k
  unfold impl_IsForm.f
  repeat' first
      | (with_reducible exact impl_GoodName.mono _ _)
      | (with_reducible exact impl_fitsForm.mono _ _ _)
      | (with_reducible exact impl_isPattern.mono _ _)
      | (with_reducible exact LeO.refl _)
      | (with_reducible exact LeO.none _)
      | (with_reducible refine LeO.ite ?_ ?_)
      | (with_reducible refine LeO.bind ?_ (fun _ => ?_))
      | exact impl_GoodName.mono _ _
      | exact impl_fitsForm.mono _ _ _
      | exact impl_isPattern.mono _ _
      | exact LeO.none _
      | refine LeO.ite ?_ ?_
      | refine LeO.bind ?_ (fun _ => ?_)
set_option maxHeartbeats 8000000 in
set_option maxRecDepth 100000 in
theorem impl_IsForm.calls (k : Nat) (a0 : ByteArray) (a1 : ByteArray) (r1 : Bool) (r2 : Bool) (w : World) (h : impl_IsForm.f k a0 a1 = some (r1, r2)) :
    Calls Try.prog 5 #[.string a0, .string a1] w fun e w' => e = .returned (.tuple #[.bool r1, .bool r2]) ∧ Below w.heap.size w w' := by
  have HB := Aside0.mk (Below.refl w.heap.size w)
  have H : ((impl_isPattern.f k a0).bind fun t142 => (if t142 = true then ((impl_GoodName.f k a1).bind fun t143 => (if t143 = true then ((impl_fitsForm.f k a0 a1).bind fun t144 => (some (t144, true))) else (some (false, false)))) else (some (false, false)))) = some (r1, r2) := h
  clear h
  replace H := Option.bind_eq_some_iff.mp H
  obtain ⟨t142, A30, H⟩ := H
  replace H : (if t142 = true then ((impl_GoodName.f k a1).bind fun t143 => (if t143 = true then ((impl_fitsForm.f k a0 a1).bind fun t144 => (some (t144, true))) else (some (false, false)))) else (some (false, false))) = some (r1, r2) := H
  have A3 := Aside0.mk A30
  clear A30
  by_cases c4 : t142 = true
  · subst c4
    have H1 : ((impl_GoodName.f k a1).bind fun t143 => (if t143 = true then ((impl_fitsForm.f k a0 a1).bind fun t144 => (some (t144, true))) else (some (false, false)))) = some (r1, r2) := by rw [if_pos rfl] at H; exact H
    clear H
    have H := H1
    clear H1
    replace H := Option.bind_eq_some_iff.mp H
    obtain ⟨t143, A50, H⟩ := H
    replace H : (if t143 = true then ((impl_fitsForm.f k a0 a1).bind fun t144 => (some (t144, true))) else (some (false, false))) = some (r1, r2) := H
    have A5 := Aside0.mk A50
    clear A50
    by_cases c6 : t143 = true
    · subst c6
      have H1 : ((impl_fitsForm.f k a0 a1).bind fun t144 => (some (t144, true))) = some (r1, r2) := by rw [if_pos rfl] at H; exact H
      clear H
      have H := H1
      clear H1
      replace H := Option.bind_eq_some_iff.mp H
      obtain ⟨t144, A70, H⟩ := H
      replace H : (some (t144, true)) = some (r1, r2) := H
      have A7 := Aside0.mk A70
      clear A70
      simp only [Option.some.injEq, Prod.mk.injEq] at H
      obtain ⟨rfl, rfl⟩ := H
      go_enter Try.func5, Try.ntmps5
      go_wp2_with (first | ((with_reducible refine gate_callee (f := 9) rfl ?_); refine goesL_ (some 7) rfl rfl Try.func9 (by kernel_rfl) rfl #[.string a0] rfl (by (try simp only [List.map_toArray, List.map_cons, List.map_nil]); first | done | rfl | (simp only [List.length_drop, List.length_take]; rfl)) ?_; (with_reducible refine (impl_isPattern.calls k a0 true _ A3.out).mono ?_); rintro e w8 ⟨rfl, hb⟩; refine ⟨_, rfl, ?_⟩; have n0_ := Aside0.mk (below_step (by repeat (first | (with_reducible first | exact HB.out | apply below_alloc | apply pw_below_drewN | apply below_drew1) | exact HB.out)) hb); clear HB; have HB := n0_; clear n0_; (try clear hb); (try clear hb2); (try clear hk); (try clear hi)) | (go_at_call 10; (with_reducible refine (impl_GoodName.calls k a1 true _ A5.out).mono ?_); rintro e w9 ⟨rfl, hb⟩; have n0_ := Aside0.mk (below_step (by repeat (first | (with_reducible first | exact HB.out | apply below_alloc | apply pw_below_drewN | apply below_drew1) | exact HB.out)) hb); clear HB; have HB := n0_; clear n0_; (try clear hb); (try clear hb2); (try clear hk); (try clear hi)) | ((with_reducible refine gate_callee (f := 11) rfl ?_); refine goesL_ (some 16) rfl rfl Try.func11 (by kernel_rfl) rfl #[.string a0, .string a1] rfl (by (try simp only [List.map_toArray, List.map_cons, List.map_nil]); first | done | rfl | (simp only [List.length_drop, List.length_take]; rfl)) ?_; (with_reducible refine (impl_fitsForm.calls k a0 a1 t144 _ A7.out).mono ?_); rintro e w10 ⟨rfl, hb⟩; refine ⟨_, rfl, ?_⟩; have n0_ := Aside0.mk (below_step (by repeat (first | (with_reducible first | exact HB.out | apply below_alloc | apply pw_below_drewN | apply below_drew1) | exact HB.out)) hb); clear HB; have HB := n0_; clear n0_; (try clear hb); (try clear hb2); (try clear hk); (try clear hi)))
      go_ret2
      exact ⟨by first | rfl | (simp [errW_none, errW_some] <;> rfl) | (simp [errW_none, errW_some]; exact isEmpty_ne _) | (simp [*, errW_none, errW_some] <;> rfl), by repeat (first | (with_reducible first | exact HB.out | apply below_alloc | apply pw_below_drewN | apply below_drew1) | exact HB.out)⟩
    · replace c6 := Bool.eq_false_iff.mpr c6
      subst c6
      have H1 : (some (false, false)) = some (r1, r2) := by rw [if_neg (show ¬ (false = true) by decide)] at H; exact H
      clear H
      have H := H1
      clear H1
      simp only [Option.some.injEq, Prod.mk.injEq] at H
      obtain ⟨rfl, rfl⟩ := H
      go_enter Try.func5, Try.ntmps5
      go_wp2_with (first | ((with_reducible refine gate_callee (f := 9) rfl ?_); refine goesL_ (some 7) rfl rfl Try.func9 (by kernel_rfl) rfl #[.string a0] rfl (by (try simp only [List.map_toArray, List.map_cons, List.map_nil]); first | done | rfl | (simp only [List.length_drop, List.length_take]; rfl)) ?_; (with_reducible refine (impl_isPattern.calls k a0 true _ A3.out).mono ?_); rintro e w11 ⟨rfl, hb⟩; refine ⟨_, rfl, ?_⟩; have n0_ := Aside0.mk (below_step (by repeat (first | (with_reducible first | exact HB.out | apply below_alloc | apply pw_below_drewN | apply below_drew1) | exact HB.out)) hb); clear HB; have HB := n0_; clear n0_; (try clear hb); (try clear hb2); (try clear hk); (try clear hi)) | (go_at_call 10; (with_reducible refine (impl_GoodName.calls k a1 false _ A5.out).mono ?_); rintro e w12 ⟨rfl, hb⟩; have n0_ := Aside0.mk (below_step (by repeat (first | (with_reducible first | exact HB.out | apply below_alloc | apply pw_below_drewN | apply below_drew1) | exact HB.out)) hb); clear HB; have HB := n0_; clear n0_; (try clear hb); (try clear hb2); (try clear hk); (try clear hi)))
      go_ret2
      exact ⟨by first | rfl | (simp [errW_none, errW_some] <;> rfl) | (simp [errW_none, errW_some]; exact isEmpty_ne _) | (simp [*, errW_none, errW_some] <;> rfl), by repeat (first | (with_reducible first | exact HB.out | apply below_alloc | apply pw_below_drewN | apply below_drew1) | exact HB.out)⟩
  · replace c4 := Bool.eq_false_iff.mpr c4
    subst c4
    have H1 : (some (false, false)) = some (r1, r2) := by rw [if_neg (show ¬ (false = true) by decide)] at H; exact H
    clear H
    have H := H1
    clear H1
    simp only [Option.some.injEq, Prod.mk.injEq] at H
    obtain ⟨rfl, rfl⟩ := H
    go_enter Try.func5, Try.ntmps5
    go_wp2_with (first | ((with_reducible refine gate_callee (f := 9) rfl ?_); refine goesL_ (some 7) rfl rfl Try.func9 (by kernel_rfl) rfl #[.string a0] rfl (by (try simp only [List.map_toArray, List.map_cons, List.map_nil]); first | done | rfl | (simp only [List.length_drop, List.length_take]; rfl)) ?_; (with_reducible refine (impl_isPattern.calls k a0 false _ A3.out).mono ?_); rintro e w13 ⟨rfl, hb⟩; refine ⟨_, rfl, ?_⟩; have n0_ := Aside0.mk (below_step (by repeat (first | (with_reducible first | exact HB.out | apply below_alloc | apply pw_below_drewN | apply below_drew1) | exact HB.out)) hb); clear HB; have HB := n0_; clear n0_; (try clear hb); (try clear hb2); (try clear hk); (try clear hi)))
    go_ret2
    exact ⟨by first | rfl | (simp [errW_none, errW_some] <;> rfl) | (simp [errW_none, errW_some]; exact isEmpty_ne _) | (simp [*, errW_none, errW_some] <;> rfl), by repeat (first | (with_reducible first | exact HB.out | apply below_alloc | apply pw_below_drewN | apply below_drew1) | exact HB.out)⟩

/-! ### laws_FnExactIsForm: function 3 -/
def laws_FnExactIsForm.f (k : Nat) (a0 : ByteArray) (a1 : ByteArray) : Option (Bool) := if (a0.size : Int) > 1048576 then (some true) else (if (a1.size : Int) > 1048576 then (some true) else ((spec_IsForm.f k a0 a1).bind fun bt145 => ((impl_IsForm.f k a0 a1).bind fun bt147 => (if (bt147.1 != bt145.1) = true then (some false) else (if (bt147.2 != bt145.2) = true then (some false) else (some true))))))
theorem laws_FnExactIsForm.mono : ∀ a0 a1 k, LeO (laws_FnExactIsForm.f k a0 a1) (laws_FnExactIsForm.f (k + 1) a0 a1) := by
  intro a0 a1 k
  unfold laws_FnExactIsForm.f
  repeat' first
      | (with_reducible exact impl_IsForm.mono _ _ _)
      | (with_reducible exact spec_IsForm.mono _ _ _)
      | (with_reducible exact LeO.refl _)
      | (with_reducible exact LeO.none _)
      | (with_reducible refine LeO.ite ?_ ?_)
      | (with_reducible refine LeO.bind ?_ (fun _ => ?_))
      | exact impl_IsForm.mono _ _ _
      | exact spec_IsForm.mono _ _ _
      | exact LeO.none _
      | refine LeO.ite ?_ ?_
      | refine LeO.bind ?_ (fun _ => ?_)
set_option maxHeartbeats 8000000 in
set_option maxRecDepth 100000 in
theorem laws_FnExactIsForm.calls (k : Nat) (a0 : ByteArray) (a1 : ByteArray) (r : Bool) (w : World) (h : laws_FnExactIsForm.f k a0 a1 = some r) :
    Calls Try.prog 3 #[.string a0, .string a1] w fun e w' => e = .returned (.bool r) ∧ Below w.heap.size w w' := by
  have HB := Aside0.mk (Below.refl w.heap.size w)
  have H : (if (a0.size : Int) > 1048576 then (some true) else (if (a1.size : Int) > 1048576 then (some true) else ((spec_IsForm.f k a0 a1).bind fun bt145 => ((impl_IsForm.f k a0 a1).bind fun bt147 => (if (bt147.1 != bt145.1) = true then (some false) else (if (bt147.2 != bt145.2) = true then (some false) else (some true))))))) = some r := h
  clear h
  by_cases c3 : (a0.size : Int) > 1048576
  · rw [if_pos c3] at H
    have c3b0 : decide (1048576 < (a0.size : Int)) = true := decide_eq_true c3
    have c3b1 : decide (1048576 < a0.size) = true := decide_eq_true (by omega)
    clear c3
    obtain rfl := Option.some.inj H
    go_enter Try.func3, Try.ntmps3
    go_wp2
    go_ret
    exact ⟨by first | rfl | (simp [errW_none, errW_some] <;> rfl) | (simp [errW_none, errW_some]; exact isEmpty_ne _) | (simp [*, errW_none, errW_some] <;> rfl), by repeat (first | (with_reducible first | exact HB.out | apply below_alloc | apply pw_below_drewN | apply below_drew1) | exact HB.out)⟩
  · rw [if_neg c3] at H
    have c3b0 : decide (1048576 < (a0.size : Int)) = false := decide_eq_false c3
    have c3b1 : decide (1048576 < a0.size) = false := decide_eq_false (by omega)
    clear c3
    by_cases c4 : (a1.size : Int) > 1048576
    · rw [if_pos c4] at H
      have c4b0 : decide (1048576 < (a1.size : Int)) = true := decide_eq_true c4
      have c4b1 : decide (1048576 < a1.size) = true := decide_eq_true (by omega)
      clear c4
      obtain rfl := Option.some.inj H
      go_enter Try.func3, Try.ntmps3
      go_wp2
      go_ret
      exact ⟨by first | rfl | (simp [errW_none, errW_some] <;> rfl) | (simp [errW_none, errW_some]; exact isEmpty_ne _) | (simp [*, errW_none, errW_some] <;> rfl), by repeat (first | (with_reducible first | exact HB.out | apply below_alloc | apply pw_below_drewN | apply below_drew1) | exact HB.out)⟩
    · rw [if_neg c4] at H
      have c4b0 : decide (1048576 < (a1.size : Int)) = false := decide_eq_false c4
      have c4b1 : decide (1048576 < a1.size) = false := decide_eq_false (by omega)
      clear c4
      replace H := Option.bind_eq_some_iff.mp H
      obtain ⟨⟨t145, t146⟩, A50, H⟩ := H
      replace H : ((impl_IsForm.f k a0 a1).bind fun bt147 => (if (bt147.1 != t145) = true then (some false) else (if (bt147.2 != t146) = true then (some false) else (some true)))) = some r := H
      have A5 := Aside0.mk A50
      clear A50
      replace H := Option.bind_eq_some_iff.mp H
      obtain ⟨⟨t147, t148⟩, A60, H⟩ := H
      replace H : (if (t147 != t145) = true then (some false) else (if (t148 != t146) = true then (some false) else (some true))) = some r := H
      have A6 := Aside0.mk A60
      clear A60
      by_cases c7 : (t147 != t145) = true
      · rw [if_pos c7] at H
        have c7b0 : (t147 != t145) = true := c7
        (try (have c7b1 : decide (t147 = t145) = false := by simpa using c7))
        (try (have c7b2 : (t147 == t145) = false := by simpa using c7))
        (try (have c7b3 : ¬ (t147 = t145) := by simpa using c7))
        clear c7
        obtain rfl := Option.some.inj H
        go_enter Try.func3, Try.ntmps3
        go_wp2_with (first | ((with_reducible refine gate_callee (f := 4) rfl ?_); refine goesL_ (some 18) rfl rfl Try.func4 (by kernel_rfl) rfl #[.string a0, .string a1] rfl (by (try simp only [List.map_toArray, List.map_cons, List.map_nil]); first | done | rfl | (simp only [List.length_drop, List.length_take]; rfl)) ?_; (with_reducible refine (spec_IsForm.calls k a0 a1 t145 t146 _ A5.out).mono ?_); rintro e w8 ⟨rfl, hb⟩; refine ⟨_, rfl, ?_⟩; have n0_ := Aside0.mk (below_step (by repeat (first | (with_reducible first | exact HB.out | apply below_alloc | apply pw_below_drewN | apply below_drew1) | exact HB.out)) hb); clear HB; have HB := n0_; clear n0_; (try clear hb); (try clear hb2); (try clear hk); (try clear hi)) | ((with_reducible refine gate_callee (f := 5) rfl ?_); refine goesL_ (some 24) rfl rfl Try.func5 (by kernel_rfl) rfl #[.string a0, .string a1] rfl (by (try simp only [List.map_toArray, List.map_cons, List.map_nil]); first | done | rfl | (simp only [List.length_drop, List.length_take]; rfl)) ?_; (with_reducible refine (impl_IsForm.calls k a0 a1 t147 t148 _ A6.out).mono ?_); rintro e w9 ⟨rfl, hb⟩; refine ⟨_, rfl, ?_⟩; have n0_ := Aside0.mk (below_step (by repeat (first | (with_reducible first | exact HB.out | apply below_alloc | apply pw_below_drewN | apply below_drew1) | exact HB.out)) hb); clear HB; have HB := n0_; clear n0_; (try clear hb); (try clear hb2); (try clear hk); (try clear hi)))
        go_ret
        exact ⟨by first | rfl | (simp [errW_none, errW_some] <;> rfl) | (simp [errW_none, errW_some]; exact isEmpty_ne _) | (simp [*, errW_none, errW_some] <;> rfl), by repeat (first | (with_reducible first | exact HB.out | apply below_alloc | apply pw_below_drewN | apply below_drew1) | exact HB.out)⟩
      · rw [if_neg c7] at H
        have c7b0 : (t147 != t145) = false := by simpa using c7
        (try (have c7b1 : decide (t147 = t145) = true := by simpa using c7))
        (try (have c7b2 : (t147 == t145) = true := by simpa using c7))
        clear c7
        by_cases c10 : (t148 != t146) = true
        · rw [if_pos c10] at H
          have c10b0 : (t148 != t146) = true := c10
          (try (have c10b1 : decide (t148 = t146) = false := by simpa using c10))
          (try (have c10b2 : (t148 == t146) = false := by simpa using c10))
          (try (have c10b3 : ¬ (t148 = t146) := by simpa using c10))
          clear c10
          obtain rfl := Option.some.inj H
          go_enter Try.func3, Try.ntmps3
          go_wp2_with (first | ((with_reducible refine gate_callee (f := 4) rfl ?_); refine goesL_ (some 18) rfl rfl Try.func4 (by kernel_rfl) rfl #[.string a0, .string a1] rfl (by (try simp only [List.map_toArray, List.map_cons, List.map_nil]); first | done | rfl | (simp only [List.length_drop, List.length_take]; rfl)) ?_; (with_reducible refine (spec_IsForm.calls k a0 a1 t145 t146 _ A5.out).mono ?_); rintro e w11 ⟨rfl, hb⟩; refine ⟨_, rfl, ?_⟩; have n0_ := Aside0.mk (below_step (by repeat (first | (with_reducible first | exact HB.out | apply below_alloc | apply pw_below_drewN | apply below_drew1) | exact HB.out)) hb); clear HB; have HB := n0_; clear n0_; (try clear hb); (try clear hb2); (try clear hk); (try clear hi)) | ((with_reducible refine gate_callee (f := 5) rfl ?_); refine goesL_ (some 24) rfl rfl Try.func5 (by kernel_rfl) rfl #[.string a0, .string a1] rfl (by (try simp only [List.map_toArray, List.map_cons, List.map_nil]); first | done | rfl | (simp only [List.length_drop, List.length_take]; rfl)) ?_; (with_reducible refine (impl_IsForm.calls k a0 a1 t147 t148 _ A6.out).mono ?_); rintro e w12 ⟨rfl, hb⟩; refine ⟨_, rfl, ?_⟩; have n0_ := Aside0.mk (below_step (by repeat (first | (with_reducible first | exact HB.out | apply below_alloc | apply pw_below_drewN | apply below_drew1) | exact HB.out)) hb); clear HB; have HB := n0_; clear n0_; (try clear hb); (try clear hb2); (try clear hk); (try clear hi)))
          go_ret
          exact ⟨by first | rfl | (simp [errW_none, errW_some] <;> rfl) | (simp [errW_none, errW_some]; exact isEmpty_ne _) | (simp [*, errW_none, errW_some] <;> rfl), by repeat (first | (with_reducible first | exact HB.out | apply below_alloc | apply pw_below_drewN | apply below_drew1) | exact HB.out)⟩
        · rw [if_neg c10] at H
          have c10b0 : (t148 != t146) = false := by simpa using c10
          (try (have c10b1 : decide (t148 = t146) = true := by simpa using c10))
          (try (have c10b2 : (t148 == t146) = true := by simpa using c10))
          clear c10
          obtain rfl := Option.some.inj H
          go_enter Try.func3, Try.ntmps3
          go_wp2_with (first | ((with_reducible refine gate_callee (f := 4) rfl ?_); refine goesL_ (some 18) rfl rfl Try.func4 (by kernel_rfl) rfl #[.string a0, .string a1] rfl (by (try simp only [List.map_toArray, List.map_cons, List.map_nil]); first | done | rfl | (simp only [List.length_drop, List.length_take]; rfl)) ?_; (with_reducible refine (spec_IsForm.calls k a0 a1 t145 t146 _ A5.out).mono ?_); rintro e w13 ⟨rfl, hb⟩; refine ⟨_, rfl, ?_⟩; have n0_ := Aside0.mk (below_step (by repeat (first | (with_reducible first | exact HB.out | apply below_alloc | apply pw_below_drewN | apply below_drew1) | exact HB.out)) hb); clear HB; have HB := n0_; clear n0_; (try clear hb); (try clear hb2); (try clear hk); (try clear hi)) | ((with_reducible refine gate_callee (f := 5) rfl ?_); refine goesL_ (some 24) rfl rfl Try.func5 (by kernel_rfl) rfl #[.string a0, .string a1] rfl (by (try simp only [List.map_toArray, List.map_cons, List.map_nil]); first | done | rfl | (simp only [List.length_drop, List.length_take]; rfl)) ?_; (with_reducible refine (impl_IsForm.calls k a0 a1 t147 t148 _ A6.out).mono ?_); rintro e w14 ⟨rfl, hb⟩; refine ⟨_, rfl, ?_⟩; have n0_ := Aside0.mk (below_step (by repeat (first | (with_reducible first | exact HB.out | apply below_alloc | apply pw_below_drewN | apply below_drew1) | exact HB.out)) hb); clear HB; have HB := n0_; clear n0_; (try clear hb); (try clear hb2); (try clear hk); (try clear hi)))
          go_ret
          exact ⟨by first | rfl | (simp [errW_none, errW_some] <;> rfl) | (simp [errW_none, errW_some]; exact isEmpty_ne _) | (simp [*, errW_none, errW_some] <;> rfl), by repeat (first | (with_reducible first | exact HB.out | apply below_alloc | apply pw_below_drewN | apply below_drew1) | exact HB.out)⟩

/-- The one pure statement of laws_FnExactIsForm. -/
def laws_FnExactIsForm.Pure : Prop := ∀ (a0 : ByteArray) (a1 : ByteArray), a0.size ≤ 9223372036854775807 → a1.size ≤ 9223372036854775807 → ∃ k, laws_FnExactIsForm.f k a0 a1 = some true

end Go.Proofs.Ytkkcpgahgehedaa.PForm
