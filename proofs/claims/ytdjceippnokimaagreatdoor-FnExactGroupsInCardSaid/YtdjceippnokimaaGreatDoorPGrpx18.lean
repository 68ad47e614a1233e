import Derived.Test.YtdjceippnokimaaGreatDoorPGrpx0
import Derived.Test.YtdjceippnokimaaGreatDoorPGrpx17
namespace Go.Proofs.YtdjceippnokimaaGreatDoor.PGrp
open Go.RowKit Go.Proofs.YtdjceippnokimaaGreatDoorW.PrintWords Go.Proofs.YtdjceippnokimaaGreatDoorW.PrintLast Go.Proofs.YtdjceippnokimaaGreatDoorW.PrintMore
attribute [local go_sem] max2_int min2_int max_two min_two max_three min_three max_four min_four   -- for this text's walks alone
set_option linter.unusedVariables false
set_option linter.unusedSimpArgs false
set_option maxHeartbeats 8000000
set_option maxRecDepth 100000
/-! ### laws_eqStringSS: function 13 -/
def laws_eqStringSS.l0 : Nat → List (List ByteArray) → List (List ByteArray) → Int → Option (Bool)
 | 0, _, _, _ => none
 | k + 1, x0, x1, x5 => if x5 < (x0.length : Int) then (if 0 ≤ x5 then (if x5 < (x1.length : Int) then ((laws_eqStringS.f k (rd_L8 x0 x5) (rd_L8 x1 x5)).bind fun t442 => (if t442 = true then (laws_eqStringSS.l0 k x0 x1 (wrap64 (x5 + 1))) else (some false))) else (none)) else (none)) else (some true)
def laws_eqStringSS.f (k : Nat) (l0 : List (List ByteArray)) (l1 : List (List ByteArray)) : Option (Bool) := if (l0.length : Int) = (l1.length : Int) then (laws_eqStringSS.l0 k l0 l1 0) else (some false)
theorem laws_eqStringSS.calls (k : Nat) (A0 : Option Addr) (c0 : Nat) (l0 : List (List ByteArray)) (A1 : Option Addr) (c1 : Nat) (l1 : List (List ByteArray)) (r : Bool) (w : World) (hr0 : Kd.C (Kd.slice 9 Kd.string) w A0 l0.length l0) (hc0 : l0.length ≤ c0) (hr1 : Kd.C (Kd.slice 9 Kd.string) w A1 l1.length l1) (hc1 : l1.length ≤ c1) (h : laws_eqStringSS.f k l0 l1 = some r) :
  Calls Tryz.prog 13 #[.slice A0 l0.length c0, .slice A1 l1.length c1] w fun e w' => e = .returned (.bool r) ∧ Drawn0 w w' := by
 have HR0 := Aside0.mk hr0
 have HC0 := Aside0.mk hc0
 clear hr0 hc0
 have HR1 := Aside0.mk hr1
 have HC1 := Aside0.mk hc1
 clear hr1 hc1
 have H : (if (l0.length : Int) = (l1.length : Int) then (laws_eqStringSS.l0 k l0 l1 0) else (some false)) = some r := h
 clear h
 by_cases c3 : (l0.length : Int) = (l1.length : Int)
 ·rw [if_pos c3] at H
  have c3b0 := beq_iff_eq.mpr c3
  have c3b1 := bne_eq_false_iff_eq.mpr c3
  have c3b2 : (l0.length == l1.length) = true := by first | simpa using c3 | (simp at c3 ⊢; omega)
  clear c3
  have H' := Aside0.mk H
  clear H
  go_enter Tryz.func13, Tryz.ntmps13
  go_wp2
  repeat (go_quiet (fail); try go_wp2)
  go_loopg [5] k (fun kq v5 w' => ∃ (x5_1 : Int), v5 = .int .i64 x5_1 ∧ Aside0 (laws_eqStringSS.l0 kq l0 l1 x5_1 = some r) ∧ Aside0 (kq ≤ k) ∧ Drawn0 w w')
  case atStart => exact ⟨(0), sR, H', ⟨Nat.le_refl _⟩, by repeat (first | exact Drawn0.refl _ | apply Drawn0.step)⟩
  case round =>
   clear H'
   try clear c1
   try clear p2
   try clear c3
   try clear c3b0
   try clear c3b1
   try clear c3b2
   obtain ⟨x5_1, rfl, HA, HK1, ⟨m1, rfl⟩⟩ := hrel
   cases gk with
   | zero => exact absurd HA.out (by simp [laws_eqStringSS.l0])
   | succ k1 =>
    have H := HA.out
    clear HA
    simp only [laws_eqStringSS.l0] at H
    by_cases c4 : x5_1 < (l0.length : Int)
    ·rw [if_pos c4] at H
     have c4b0 := decide_eq_true c4
     clear c4
     obtain ⟨c5, H⟩ := iN H
     have c5b0 := decide_eq_true c5
     clear c5
     obtain ⟨c6, H⟩ := iN H
     have c6b0 := decide_eq_true c6
     clear c6
     obtain ⟨t442, A7, H⟩ := bS H
     try dsimp only at H
     by_cases c8 : t442 = true
     ·subst c8
      rw [if_pos rfl] at H
      have H' := Aside0.mk H
      clear H
      have p440 : 0 ≤ (x5_1 : Int) := sO
      have q440 : x5_1 < (l0.length : Int) := sO
      obtain ⟨ad440, A440_0, c440_0, e440, hx440_0, hl440_0, hi440_0⟩ := at_L8 HR0.out x5_1 p440 q440
      cases e440
      have HR440_0 := Aside0.mk hi440_0
      have HC440_0 := Aside0.mk hl440_0
      clear hi440_0 hl440_0
      replace p440 := eq_true p440
      replace q440 := eq_true q440
      have p441 : 0 ≤ (x5_1 : Int) := sO
      have q441 : x5_1 < (l1.length : Int) := sO
      obtain ⟨ad441, A441_0, c441_0, e441, hx441_0, hl441_0, hi441_0⟩ := at_L8 HR1.out x5_1 p441 q441
      cases e441
      have HR441_0 := Aside0.mk hi441_0
      have HC441_0 := Aside0.mk hl441_0
      clear hi441_0 hl441_0
      replace p441 := eq_true p441
      replace q441 := eq_true q441
      go_wp2_with (first | (go_at_call 31; (with_reducible refine (laws_eqStringS.calls k1 _ _ (rd_L8 l0 x5_1) _ _ (rd_L8 l1 x5_1) true _ ?side1 ?side2 ?side3 ?side4 A7.out).mono ?_); (case side1 => repeat (first | exact HR440_0.out | (with_reducible refine Kd.C_alloc ?_ _) | (with_reducible refine Kd.C_drewN ?_ _) | (with_reducible refine Kd.C_drew ?_))); (case side2 => exact HC440_0.out); (case side3 => repeat (first | exact HR441_0.out | (with_reducible refine Kd.C_alloc ?_ _) | (with_reducible refine Kd.C_drewN ?_ _) | (with_reducible refine Kd.C_drew ?_))); (case side4 => exact HC441_0.out); rintro e w' ⟨rfl, ⟨nd, rfl⟩⟩; (try first | exact ⟨rfl, _, World.drewN_drewN _ _ _⟩ | exact ⟨rfl, _, Eq.trans (World.drewN_drewN _ _ _) (congrArg (World.drewN _) (Nat.add_assoc _ _ _))⟩)))
      repeat (go_quiet (first | (go_at_call 31; (with_reducible refine (laws_eqStringS.calls k1 _ _ (rd_L8 l0 x5_1) _ _ (rd_L8 l1 x5_1) true _ ?side1 ?side2 ?side3 ?side4 A7.out).mono ?_); (case side1 => repeat (first | exact HR440_0.out | (with_reducible refine Kd.C_alloc ?_ _) | (with_reducible refine Kd.C_drewN ?_ _) | (with_reducible refine Kd.C_drew ?_))); (case side2 => exact HC440_0.out); (case side3 => repeat (first | exact HR441_0.out | (with_reducible refine Kd.C_alloc ?_ _) | (with_reducible refine Kd.C_drewN ?_ _) | (with_reducible refine Kd.C_drew ?_))); (case side4 => exact HC441_0.out); rintro e w' ⟨rfl, ⟨nd, rfl⟩⟩; (try first | exact ⟨rfl, _, World.drewN_drewN _ _ _⟩ | exact ⟨rfl, _, Eq.trans (World.drewN_drewN _ _ _) (congrArg (World.drewN _) (Nat.add_assoc _ _ _))⟩))); try go_wp2_with (first | (go_at_call 31; (with_reducible refine (laws_eqStringS.calls k1 _ _ (rd_L8 l0 x5_1) _ _ (rd_L8 l1 x5_1) true _ ?side1 ?side2 ?side3 ?side4 A7.out).mono ?_); (case side1 => repeat (first | exact HR440_0.out | (with_reducible refine Kd.C_alloc ?_ _) | (with_reducible refine Kd.C_drewN ?_ _) | (with_reducible refine Kd.C_drew ?_))); (case side2 => exact HC440_0.out); (case side3 => repeat (first | exact HR441_0.out | (with_reducible refine Kd.C_alloc ?_ _) | (with_reducible refine Kd.C_drewN ?_ _) | (with_reducible refine Kd.C_drew ?_))); (case side4 => exact HC441_0.out); rintro e w' ⟨rfl, ⟨nd, rfl⟩⟩; (try first | exact ⟨rfl, _, World.drewN_drewN _ _ _⟩ | exact ⟨rfl, _, Eq.trans (World.drewN_drewN _ _ _) (congrArg (World.drewN _) (Nat.add_assoc _ _ _))⟩))))
      go_roundg k1
      case measure => have := HK1.out; omega
      case rel => exact ⟨(wrap64 (x5_1 + 1)), sR, H', ⟨by have := HK1.out; omega⟩, by repeat (first | exact Drawn0.refl _ | apply Drawn0.step)⟩
     ·replace c8 := Bool.eq_false_iff.mpr c8
      subst c8
      rw [if_neg (show ¬ (false = true) by decide)] at H
      obtain rfl := Option.some.inj H
      have p440 : 0 ≤ (x5_1 : Int) := sO
      have q440 : x5_1 < (l0.length : Int) := sO
      obtain ⟨ad440, A440_0, c440_0, e440, hx440_0, hl440_0, hi440_0⟩ := at_L8 HR0.out x5_1 p440 q440
      cases e440
      have HR440_0 := Aside0.mk hi440_0
      have HC440_0 := Aside0.mk hl440_0
      clear hi440_0 hl440_0
      replace p440 := eq_true p440
      replace q440 := eq_true q440
      have p441 : 0 ≤ (x5_1 : Int) := sO
      have q441 : x5_1 < (l1.length : Int) := sO
      obtain ⟨ad441, A441_0, c441_0, e441, hx441_0, hl441_0, hi441_0⟩ := at_L8 HR1.out x5_1 p441 q441
      cases e441
      have HR441_0 := Aside0.mk hi441_0
      have HC441_0 := Aside0.mk hl441_0
      clear hi441_0 hl441_0
      replace p441 := eq_true p441
      replace q441 := eq_true q441
      go_wp2_with (first | (go_at_call 31; (with_reducible refine (laws_eqStringS.calls k1 _ _ (rd_L8 l0 x5_1) _ _ (rd_L8 l1 x5_1) false _ ?side1 ?side2 ?side3 ?side4 A7.out).mono ?_); (case side1 => repeat (first | exact HR440_0.out | (with_reducible refine Kd.C_alloc ?_ _) | (with_reducible refine Kd.C_drewN ?_ _) | (with_reducible refine Kd.C_drew ?_))); (case side2 => exact HC440_0.out); (case side3 => repeat (first | exact HR441_0.out | (with_reducible refine Kd.C_alloc ?_ _) | (with_reducible refine Kd.C_drewN ?_ _) | (with_reducible refine Kd.C_drew ?_))); (case side4 => exact HC441_0.out); rintro e w' ⟨rfl, ⟨nd, rfl⟩⟩; (try first | exact ⟨rfl, _, World.drewN_drewN _ _ _⟩ | exact ⟨rfl, _, Eq.trans (World.drewN_drewN _ _ _) (congrArg (World.drewN _) (Nat.add_assoc _ _ _))⟩)))
      repeat (go_quiet (first | (go_at_call 31; (with_reducible refine (laws_eqStringS.calls k1 _ _ (rd_L8 l0 x5_1) _ _ (rd_L8 l1 x5_1) false _ ?side1 ?side2 ?side3 ?side4 A7.out).mono ?_); (case side1 => repeat (first | exact HR440_0.out | (with_reducible refine Kd.C_alloc ?_ _) | (with_reducible refine Kd.C_drewN ?_ _) | (with_reducible refine Kd.C_drew ?_))); (case side2 => exact HC440_0.out); (case side3 => repeat (first | exact HR441_0.out | (with_reducible refine Kd.C_alloc ?_ _) | (with_reducible refine Kd.C_drewN ?_ _) | (with_reducible refine Kd.C_drew ?_))); (case side4 => exact HC441_0.out); rintro e w' ⟨rfl, ⟨nd, rfl⟩⟩; (try first | exact ⟨rfl, _, World.drewN_drewN _ _ _⟩ | exact ⟨rfl, _, Eq.trans (World.drewN_drewN _ _ _) (congrArg (World.drewN _) (Nat.add_assoc _ _ _))⟩))); try go_wp2_with (first | (go_at_call 31; (with_reducible refine (laws_eqStringS.calls k1 _ _ (rd_L8 l0 x5_1) _ _ (rd_L8 l1 x5_1) false _ ?side1 ?side2 ?side3 ?side4 A7.out).mono ?_); (case side1 => repeat (first | exact HR440_0.out | (with_reducible refine Kd.C_alloc ?_ _) | (with_reducible refine Kd.C_drewN ?_ _) | (with_reducible refine Kd.C_drew ?_))); (case side2 => exact HC440_0.out); (case side3 => repeat (first | exact HR441_0.out | (with_reducible refine Kd.C_alloc ?_ _) | (with_reducible refine Kd.C_drewN ?_ _) | (with_reducible refine Kd.C_drew ?_))); (case side4 => exact HC441_0.out); rintro e w' ⟨rfl, ⟨nd, rfl⟩⟩; (try first | exact ⟨rfl, _, World.drewN_drewN _ _ _⟩ | exact ⟨rfl, _, Eq.trans (World.drewN_drewN _ _ _) (congrArg (World.drewN _) (Nat.add_assoc _ _ _))⟩))))
      go_ret
      exact ⟨by first | rfl | (simp; done) | (simp [*]; done), by repeat (first | exact Drawn0.refl _ | apply Drawn0.step)⟩
    ·rw [if_neg c4] at H
     have c4b0 := decide_eq_false c4
     clear c4
     obtain rfl := Option.some.inj H
     go_wp2
     repeat (go_quiet (fail); try go_wp2)
     go_ret
     exact ⟨by first | rfl | (simp; done) | (simp [*]; done), by repeat (first | exact Drawn0.refl _ | apply Drawn0.step)⟩
 ·rw [if_neg c3] at H
  have c3b0 := beq_eq_false_iff_ne.mpr c3
  have c3b1 := bne_iff_ne.mpr c3
  have c3b2 : (l0.length == l1.length) = false := by first | simpa using c3 | (simp at c3 ⊢; omega)
  obtain rfl := Option.some.inj H
  go_enter Tryz.func13, Tryz.ntmps13
  go_wp2
  repeat (go_quiet (fail); try go_wp2)
  go_ret
  exact ⟨by first | rfl | (simp; done) | (simp [*]; done), by repeat (first | exact Drawn0.refl _ | apply Drawn0.step)⟩
def laws_markText.l0 : Nat → Int → ByteArray → Option (ByteArray)
 | 0, _, _ => none
 | k + 1, x0, x3 => if x0 > 0 then ((some (([(wrap64 (48 + (Int.tmod x0 10))) % 256] : List Int) : List Int)).bind fun y443 => (if (strOfNums y443).size + x3.size ≤ 9223372036854775807 then (laws_markText.l0 k (wrap64 (Int.tdiv x0 10)) ((strOfNums y443) ++ x3)) else (none))) else (if 1 + x3.size ≤ 9223372036854775807 then (some ((⟨#[109]⟩ : ByteArray) ++ x3)) else (none))
def laws_markText.f (k : Nat) (a0 : Int) : Option (ByteArray) := if a0 ≤ 0 then (some (⟨#[109, 48]⟩ : ByteArray)) else (laws_markText.l0 k a0 (⟨#[]⟩ : ByteArray))
theorem laws_markText.calls (k : Nat) (a0 : Int) (r : ByteArray) (w : World) (h : laws_markText.f k a0 = some r) :
  Calls Tryz.prog 55 #[.int .i64 a0] w fun e w' => e = .returned (.string r) ∧ Below w.heap.size w w' := by
 have HB := Aside0.mk (Below.refl w.heap.size w)
 have H : (if a0 ≤ 0 then (some (⟨#[109, 48]⟩ : ByteArray)) else (laws_markText.l0 k a0 (⟨#[]⟩ : ByteArray))) = some r := h
 clear h
 by_cases c2 : a0 ≤ 0
 ·rw [if_pos c2] at H
  have c2b0 := decide_eq_true c2
  clear c2
  obtain rfl := Option.some.inj H
  go_enter Tryz.func55, Tryz.ntmps55
  go_wp2
  go_ret
  exact ⟨sE, sB⟩
 ·rw [if_neg c2] at H
  have c2b0 := decide_eq_false c2
  clear c2
  have H' := Aside0.mk H
  clear H
  go_enter Tryz.func55, Tryz.ntmps55
  go_wp2
  go_loopg [0, 3] k (fun kq v0 v3 w' => ∃ (x0_1 : Int) (x3_1 : ByteArray), v0 = .int .i64 x0_1 ∧ v3 = .string x3_1 ∧ Aside0 (laws_markText.l0 kq x0_1 x3_1 = some r) ∧ Aside0 (kq ≤ k) ∧ Aside0 (Below w.heap.size w w'))
  case atStart => exact ⟨(a0), ((⟨#[]⟩ : ByteArray)), sR, sR, H', ⟨Nat.le_refl _⟩, ⟨sB⟩⟩
  case round =>
   clear H'
   try clear c2
   try clear c2b0
   try clear p2
   obtain ⟨x0_1, x3_1, rfl, rfl, HA, HK1, HB⟩ := hrel
   cases gk with
   | zero => exact absurd HA.out (by simp [laws_markText.l0])
   | succ k1 =>
    have H := HA.out
    clear HA
    simp only [laws_markText.l0] at H
    by_cases c3 : x0_1 > 0
    ·rw [if_pos c3] at H
     have c3b0 := decide_eq_true c3
     clear c3
     obtain ⟨y443, hy443⟩ : ∃ y_ : List Int, y_ = (([(wrap64 (48 + (Int.tmod x0_1 10))) % 256] : List Int)) := ⟨_, rfl⟩
     replace H : (if (strOfNums y443).size + x3_1.size ≤ 9223372036854775807 then (laws_markText.l0 k1 (wrap64 (Int.tdiv x0_1 10)) ((strOfNums y443) ++ x3_1)) else (none)) = some r := by first | (rw [hy443]; with_reducible exact H) | (have H2_ := (Option.bind_some _ _).symm.trans H; rw [hy443]; with_reducible exact H2_) | (have H2_ := (Option.bind_some _ _).symm.trans H; with_reducible exact H2_) | with_reducible exact H | (rw [hy443]; exact H) | exact H
     have Ny443 := Aside0.mk hy443
     clear hy443
     obtain ⟨c4, H⟩ := iN H
     have c4b0 := eq_true c4
     have c4b1 := decide_eq_true c4
     try have c4b2 : (9223372036854775807 < (strOfNums y443).size + x3_1.size) = False := eq_false (Nat.not_lt.2 c4)
     have H' := Aside0.mk H
     clear H
     go_wp2_with (first | ((with_reducible refine gate_dst (N := 12) rfl ?_); refine Kd.R_lit (Kd.int .u8) _ 5 ?hg (N := 12) ?hd (xs := ([(wrap64 (48 + (Int.tmod x0_1 10))) % 256] : List Int)) (inner := [.int .u8 ((wrap64 (48 + (Int.tmod x0_1 10))) % 256)]) (ok := fun _ => True) (okp := fun _ => True) ?hr ?hp (fun _ hk => hk) trivial (Below.refl _ _) (Nat.le_refl _) (by simp) ?_; (case hd => rfl); (case hg => rfl); (case hr => first | (go_simp; done) | (go_simp; rfl)); (case hp => exact (Reps.one (show Kd.M (Kd.int .u8) _ _ _ ((wrap64 (48 + (Int.tmod x0_1 10))) % 256) [.int .u8 ((wrap64 (48 + (Int.tmod x0_1 10))) % 256)] from rfl) (Reps.none _ _))); intro v444 w5 ho6 hb hg_ hnew_; clear hg_ hnew_; (first | rw [← Ny443.out] at ho6 | (simp only [Int.reduceToNat] at ho6; rw [← Ny443.out] at ho6)); have HO445 := Aside0.mk (Kd.R_lower ho6 (below_size sB)); replace HB := nSB hb; clear hb ho6; have hcv7 := own_string (P := Tryz.prog) Tryz.underlying69 Tryz.underlying5 Tryz.underlying9 (Kd.own_of_R HO445.out)))
     go_roundg k1
     case measure => have := HK1.out; omega
     case rel => exact ⟨(wrap64 (Int.tdiv x0_1 10)), ((strOfNums y443) ++ x3_1), sR, sR, H', ⟨by have := HK1.out; omega⟩, ⟨sB⟩⟩
    ·rw [if_neg c3] at H
     have c3b0 := decide_eq_false c3
     clear c3
     by_cases c8 : 1 + x3_1.size ≤ 9223372036854775807
     ·rw [if_pos c8] at H
      have c8b0 := eq_true c8
      have c8b1 := decide_eq_true c8
      try have c8b2 : (9223372036854775807 < 1 + x3_1.size) = False := eq_false (Nat.not_lt.2 c8)
      obtain rfl := Option.some.inj H
      go_wp2
      go_ret
      exact ⟨sE, sB⟩
     ·rw [if_neg c8] at H
      exact absurd H (by simp)
structure Marked (base : Nat) (w w' : World) : Prop where
 below : Below base w w'
 block : ∀ i, i < w.heap.size → w'.heap[i]? = w.heap[i]? ∨ ∃ q cs cs', (q = 65 ∨ q = 104) ∧ w.heap[i]? = some (.cells cs q (0, 0)) ∧ w'.heap[i]? = some (.cells cs' q (0, 0)) ∧ cs'.size = cs.size ∧ (q = 65 → ∀ j, cs'[j * 7 + 6]? = cs[j * 7 + 6]?)
theorem Marked.refl {base : Nat} (w : World) : Marked base w w := ⟨Below.refl _ _, fun _ _ => .inl rfl⟩
theorem Marked.then_ {base : Nat} {w w1 w2 : World} (h : Marked base w w1) (hb : Below w1.heap.size w1 w2) (hz : base ≤ w.heap.size) : Marked base w w2 :=
 ⟨below_then h.below (Nat.le_trans hz h.below.size) hb, fun i hi => by rw [hb.block i (Nat.lt_of_lt_of_le hi h.below.size)]; exact h.block i hi⟩
theorem Marked.trans {base : Nat} {w w1 w2 : World} (h : Marked base w w1) (k : Marked base w1 w2) : Marked base w w2 :=
 ⟨h.below.trans k.below, fun i hi => by
  rcases k.block i (Nat.lt_of_lt_of_le hi h.below.size) with e | ⟨q, cs, cs', hq, h1, h2, h3, h4⟩
  ·rw [e]; exact h.block i hi
  ·rcases h.block i hi with e | ⟨q0, cs0, cs0', hq0, k1, k2, k3, k4⟩
   ·exact .inr ⟨q, cs, cs', hq, by rw [← e]; exact h1, h2, h3, h4⟩
   ·have e := k2.symm.trans h1
    injection e with e
    injection e with e1 e2
    subst e1 e2
    exact .inr ⟨q0, cs0, cs', hq0, k1, h2, h3.trans k3, fun hv j => (h4 hv j).trans (k4 hv j)⟩⟩
theorem Marked.store {base : Nat} {w w1 : World} {g q : Nat} {cs : Array Value} (h : Marked base w w1) (hg : w1.heap[g]? = some (.cells cs q (0, 0))) (hb : base ≤ g) (hq : q = 65 ∨ q = 104) (j : Nat) (u : Value) (h6 : q = 65 → ∀ i, j ≠ i * 7 + 6) : Marked base w (w1.setCell ⟨g, j, none⟩ u) :=
 h.trans ⟨(Below.refl base w1).setCell hb _, fun i hi => by
  by_cases e : i = g
  ·subst e
   exact .inr ⟨q, cs, cs.setIfInBounds j u, hq, hg, blk_set hg j u, Array.size_setIfInBounds, fun hv i => Array.getElem?_setIfInBounds_ne (h6 hv i)⟩
  ·exact .inl (Below.heap_setCell w1 ⟨g, j, none⟩ u i e)⟩
theorem Marked.blk {base g t : Nat} {w w' : World} {cs : Array Value} (hm : Marked base w w') (h : w.heap[g]? = some (.cells cs t (0, 0))) (h1 : t ≠ 65 := by decide) (h2 : t ≠ 104 := by decide) : w'.heap[g]? = some (.cells cs t (0, 0)) := by
 rcases hm.block g (blk_lt h) with e | ⟨q, cs0, _, hq, k1, _⟩
 ·exact e.trans h
 ·have e := h.symm.trans k1
  injection e with e
  injection e with e1 e2
  exact absurd e2 (fun e2 => by subst e2; rcases hq with hq | hq <;> contradiction)
theorem Marked.R {α : Type} {d : Kd α} {e base b : Nat} {ok : Nat → Prop} {v : Value} {xs : List α} {w w' : World} (hm : Marked b w w') (h : Kd.R d e w base ok v xs) (hq : ∀ q, q ∈ e :: d.E → q ≠ 65 ∧ q ≠ 104 := by decide) : Kd.R d e w' base ok v xs :=
 Kd.R_mono (Kd.R_move (Kd.R_bound h) (fun k hk => by
  obtain ⟨_, _, hlt, q, hmem, cells, hc⟩ := hk
  have := hq q hmem
  rw [hm.blk hc this.1 this.2, hc])) (fun _ hk => hk.1)
def Ent (base : Nat) (w : World) (A : Option Addr) (n : Nat) : Prop := 0 < n → ∃ g cs, A = some ⟨g, 0, none⟩ ∧ base ≤ g ∧ w.heap[g]? = some (.cells cs 104 (0, 0)) ∧ n * 2 ≤ cs.size
theorem Ent.marked {base : Nat} {w w' : World} {A : Option Addr} {n : Nat} (h : Ent base w A n) (hm : Marked base w w') : Ent base w' A n := fun hn => by
 obtain ⟨g, cs, e, hb, hc, hs⟩ := h hn
 rcases hm.block g (blk_lt hc) with e1 | ⟨q, cs0, cs', hq, h1, h2, h3, _⟩
 ·exact ⟨g, cs, e, hb, e1.trans hc, hs⟩
 ·have e2 := hc.symm.trans h1
  injection e2 with e2
  injection e2 with e3 e4
  subst e3 e4
  exact ⟨g, cs', e, hb, h2, by omega⟩
theorem cell_size {w : World} {g t j : Nat} {cs : Array Value} {u : Value} (h : w.heap[g]? = some (.cells cs t (0, 0))) (hc : w.cell? ⟨g, j, none⟩ = some u) : j < cs.size := by
 rw [blk_cell h] at hc
 exact (Array.getElem?_eq_some_iff.1 hc).1
theorem Ent.of_R {base : Nat} {ok : Nat → Prop} {w : World} {v : Value} {l : List S104} (h : k104.R 104 w base ok v l) : ∃ A c, v = .slice A l.length c ∧ Ent base w A l.length := by
 obtain ⟨A, c, rfl⟩ := Kd.R_slice h
 refine ⟨A, c, rfl, fun hn => ?_⟩
 obtain ⟨g, cap, e, hb, _, cells, hc⟩ := Kd.R_form h hn
 injection e with e1 _ e3
 subst e1 e3
 obtain ⟨cs, hl, _, hcc, _⟩ := Kd.R_elem h z104 ((l.length - 1 : Nat) : Int) (by omega) (by omega)
 have hl2 : cs.length = 2 := hl
 have := cell_size hc (hcc 1 cs[1] (List.getElem?_eq_getElem (by omega)))
 have hz : (k104).sz = 2 := rfl
 rw [hz] at this
 exact ⟨g, cells, rfl, hb, hc, by omega⟩
def Nod (base : Nat) (w : World) (A : Option Addr) (l : List S65) : Prop := 0 < l.length → ∃ g cs, A = some ⟨g, 0, none⟩ ∧ base ≤ g ∧ w.heap[g]? = some (.cells cs 65 (0, 0)) ∧ l.length * 7 ≤ cs.size ∧ ∀ i, i < l.length → ∃ A6 c6, cs[i * 7 + 6]? = some (.slice A6 (l.getD i z65).f6.length c6) ∧ Ent base w A6 (l.getD i z65).f6.length
theorem Nod.marked {base : Nat} {w w' : World} {A : Option Addr} {l : List S65} (h : Nod base w A l) (hm : Marked base w w') : Nod base w' A l := fun hn => by
 obtain ⟨g, cs, e, hb, hc, hs, hi⟩ := h hn
 rcases hm.block g (blk_lt hc) with e1 | ⟨q, cs0, cs', hq, h1, h2, h3, h4⟩
 ·exact ⟨g, cs, e, hb, e1.trans hc, hs, fun i hl => by obtain ⟨A6, c6, a, b⟩ := hi i hl; exact ⟨A6, c6, a, b.marked hm⟩⟩
 ·have e2 := hc.symm.trans h1
  injection e2 with e2
  injection e2 with e3 e4
  subst e3 e4
  exact ⟨g, cs', e, hb, h2, by omega, fun i hl => by obtain ⟨A6, c6, a, b⟩ := hi i hl; exact ⟨A6, c6, (h4 rfl i).trans a, b.marked hm⟩⟩
theorem Nod.of_S {base : Nat} {ok : Nat → Prop} {w : World} {A : Option Addr} {n c : Nat} {l : List S65} (h : Kd.S k65 65 w base ok (.slice A n c) l) : Nod base w A l := fun hn => by
 obtain ⟨g, cap, e, hb, _, cells, hc⟩ := Kd.S_form h hn
 injection e with e1 e2 e3
 subst e1 e2 e3
 have hz : (k65).sz = 7 := rfl
 refine ⟨g, cells, rfl, hb, hc, ?_, fun i hi => ?_⟩
 ·obtain ⟨_, cs, hl, _, hcc, _⟩ := Kd.S_elem h z65 ((l.length - 1 : Nat) : Int) (by omega) (by omega)
  rw [hz] at hl
  have := cell_size hc (hcc 6 cs[6] (List.getElem?_eq_getElem (by omega)))
  rw [hz] at this
  omega
 ·obtain ⟨_, cs, hl, hM, hcc, _⟩ := Kd.S_elem h z65 (i : Int) (by omega) (by omega)
  obtain ⟨v6, rfl, hR⟩ := k65_openM hM
  obtain ⟨A6, c6, rfl, he⟩ := Ent.of_R hR
  have h6 := hcc 6 _ rfl
  rw [hz, blk_cell hc] at h6
  exact ⟨A6, c6, h6, he⟩
def BS (w : World) (g t m : Nat) : Prop := ∃ cs, w.heap[g]? = some (.cells cs t (0, 0)) ∧ m ≤ cs.size
theorem BS.cell {w : World} {g t m : Nat} (h : BS w g t m) (j : Nat) (hj : j < m) : ∃ u, w.cell? ⟨g, j, none⟩ = some u := by
 obtain ⟨cs, h1, h2⟩ := h
 exact ⟨cs[j], (blk_cell h1 j).trans (Array.getElem?_eq_getElem (by omega))⟩
theorem BS.frozen {w : World} {g t m : Nat} (h : BS w g t m) (j : Nat) : w.frozen? ⟨g, j, none⟩ = false := by
 obtain ⟨cs, h1, _⟩ := h
 exact blk_frozen h1 j
theorem BS.put {w : World} {g t m : Nat} (h : BS w g t m) (j : Nat) (v : Value) : BS (w.setCell ⟨g, j, none⟩ v) g t m := by
 obtain ⟨cs, h1, h2⟩ := h
 exact ⟨_, blk_set h1 j v, by rw [Array.size_setIfInBounds]; exact h2⟩
theorem BS.below {w w' : World} {g t m : Nat} (h : BS w g t m) (hb : Below w.heap.size w w') : BS w' g t m := by
 obtain ⟨cs, h1, h2⟩ := h
 exact ⟨_, blk_below h1 hb, h2⟩
theorem Marked.putB {base : Nat} {w w1 : World} {g q m : Nat} (h : Marked base w w1) (hg : BS w1 g q m) (hb : base ≤ g) (hq : q = 65 ∨ q = 104) (j : Nat) (u : Value) (h6 : q = 65 → ∀ i, j ≠ i * 7 + 6) : Marked base w (w1.setCell ⟨g, j, none⟩ u) := by
 obtain ⟨cs, h1, _⟩ := hg
 exact h.store h1 hb hq j u h6
def laws_markEntryS.l0 : Nat → Nat → Int → Int → Option Int
 | 0, _, _, _ => none
 | k + 1, n, a, i => if i < (n : Int) then (if 0 ≤ i then ((laws_markText.f k a).bind fun _ => laws_markEntryS.l0 k n (wrap64 (wrap64 (a + 1) + 1)) (wrap64 (i + 1))) else none) else some a
theorem laws_markEntryS.marks (k : Nat) (A : Option Addr) (n c : Nat) (a1 r : Int) (base : Nat) (w0 w : World) (hM : Marked base w0 w) (hz : base ≤ w0.heap.size) (hE : Ent base w A n) (h : laws_markEntryS.l0 k n a1 0 = some r) :
  Calls Tryz.prog 56 #[.slice A n c, .int .i64 a1] w fun e w' => e = .returned (.int .i64 r) ∧ Marked base w0 w' := by
 have HM := Aside0.mk hM
 have HE := Aside0.mk hE
 have HZ := Aside0.mk hz
 have H' := Aside0.mk h
 clear hM hE h hz
 go_enter Tryz.func56, Tryz.ntmps56
 go_wp2
 go_loopg [1, 5] k (fun kq v1 v5 w' => ∃ (a i : Int), v1 = .int .i64 a ∧ v5 = .int .i64 i ∧ Aside0 (laws_markEntryS.l0 kq n a i = some r) ∧ Aside0 (kq ≤ k) ∧ Aside0 (Marked base w0 w') ∧ Aside0 (Ent base w' A n))
 case atStart => exact ⟨a1, 0, sR, sR, H', ⟨Nat.le_refl _⟩, ⟨by repeat (first | exact HM.out | apply Marked.drew | apply Marked.drewN)⟩, ⟨by exact HE.out⟩⟩
 case round =>
  clear H' HM HE
  obtain ⟨a, i, rfl, rfl, HA, HK1, HM, HE⟩ := hrel
  cases gk with
  | zero => exact absurd HA.out (by simp [laws_markEntryS.l0])
  | succ k1 =>
  have H := HA.out
  clear HA
  simp only [laws_markEntryS.l0] at H
  by_cases c3 : i < (n : Int)
  rotate_left
  ·rw [if_neg c3] at H
   have c3b := decide_eq_false c3
   obtain rfl := Option.some.inj H
   go_wp2
   go_ret
   exact ⟨rfl, by repeat (first | exact HM.out | apply Marked.drew | apply Marked.drewN)⟩
  rw [if_pos c3] at H
  by_cases c4 : 0 ≤ i
  rotate_left
  ·rw [if_neg c4] at H; cases H
  rw [if_pos c4] at H
  obtain ⟨t1, A4, H⟩ := Option.bind_eq_some_iff.mp H
  replace A4 := Aside0.mk A4
  have H' := Aside0.mk H
  clear H
  obtain ⟨g, cs, eA, hgb, hgc, hgs⟩ := HE.out (by omega)
  subst eA
  have GB := Aside0.mk hgb
  have BK := Aside0.mk (show BS _ g 104 (n * 2) from ⟨cs, hgc, hgs⟩)
  clear hgb hgc hgs HE
  have c3b := decide_eq_true c3
  have c4b := decide_eq_true c4
  have p3 := eq_true c4
  have q3 := eq_true c3
  have C3 := Aside0.mk c3
  have C4 := Aside0.mk c4
  clear c3 c4
  go_wp2_with (first | ((with_reducible refine gt 55 rfl ?_); refine gL 55 15 Tryz.func55 #[.int .i64 a] ?_; (with_reducible refine (laws_markText.calls k1 a t1 _ A4.out).mono ?_); rintro e w8 ⟨rfl, hb⟩; refine ⟨_, rfl, ?_⟩; replace HM := Aside0.mk (Marked.then_ HM.out hb HZ.out); replace BK := Aside0.mk (BK.out.below hb); clear hb; obtain ⟨u1, hx1⟩ := BK.out.cell (i.toNat * 2) (by have := C3.out; have := C4.out; omega); have hf1 := BK.out.frozen (i.toNat * 2)) | ((with_reducible refine gate_store (t := 9) (p := 17) rfl ?_); refine store_event (t := 9) (p := 17) (v := ?vo_w9) (w1 := (w8.setCell ⟨g, i.toNat * 2, none⟩ (.string t1))) ?hg ?ho ?hn ?hr ?_; (case ho => rfl); (case hg => rfl); (case hn => rfl); (case hr => first | (go_simp; done) | (go_simp; rfl)); intro w9 hw; replace HM := Aside0.mk (show Marked base w0 w9 from by rw [hw]; exact HM.out.putB BK.out GB.out (.inr rfl) _ _ (fun h => by cases h)); replace BK := Aside0.mk (show BS w9 g 104 (n * 2) from by rw [hw]; exact BK.out.put _ _); clear hw hx1 hf1; obtain ⟨u2, hx2⟩ := BK.out.cell (i.toNat * 2 + 1) (by have := C3.out; have := C4.out; omega); have hf2 := BK.out.frozen (i.toNat * 2 + 1)) | ((with_reducible refine gate_store (t := 3) (p := 24) rfl ?_); refine store_event (t := 3) (p := 24) (v := ?vo_w10) (w1 := (w9.setCell ⟨g, i.toNat * 2 + 1, none⟩ (.int .i64 (wrap64 (a + 1))))) ?hg ?ho ?hn ?hr ?_; (case ho => rfl); (case hg => rfl); (case hn => rfl); (case hr => first | (go_simp; done) | (go_simp; rfl)); intro w10 hw; replace HM := Aside0.mk (show Marked base w0 w10 from by rw [hw]; exact HM.out.putB BK.out GB.out (.inr rfl) _ _ (fun h => by cases h)); replace BK := Aside0.mk (show BS w10 g 104 (n * 2) from by rw [hw]; exact BK.out.put _ _); clear hw hx2 hf2))
  go_roundg k1
  case measure => have := HK1.out; omega
  case rel => exact ⟨(wrap64 (wrap64 (a + 1) + 1)), (wrap64 (i + 1)), sR, sR, H', ⟨by have := HK1.out; omega⟩, ⟨by repeat (first | exact HM.out | apply Marked.drew | apply Marked.drewN)⟩, ⟨fun _ => by obtain ⟨cs', h1, h2⟩ := BK.out; exact ⟨g, cs', rfl, GB.out, h1, h2⟩⟩⟩
def laws_markNodeS.l0 : Nat → List S65 → Int → Int → Option Int
 | 0, _, _, _ => none
 | k + 1, ns, a, i => if i < (ns.length : Int) then (if 0 ≤ i then ((laws_markText.f k (wrap64 (wrap64 (wrap64 (wrap64 (wrap64 (a + 1) + 1) + 1) + 1) + 1))).bind fun _ => ((laws_markEntryS.l0 k (rd_T65 ns i).f6.length (wrap64 (wrap64 (wrap64 (wrap64 (wrap64 (wrap64 (a + 1) + 1) + 1) + 1) + 1) + 1)) 0).bind fun b => laws_markNodeS.l0 k ns b (wrap64 (i + 1)))) else none) else some a
theorem laws_markNodeS.marks (k : Nat) (A : Option Addr) (c : Nat) (ns : List S65) (a1 r : Int) (base : Nat) (w0 w : World) (hM : Marked base w0 w) (hz : base ≤ w0.heap.size) (hN : Nod base w A ns) (h : laws_markNodeS.l0 k ns a1 0 = some r) :
  Calls Tryz.prog 32 #[.slice A ns.length c, .int .i64 a1] w fun e w' => e = .returned (.int .i64 r) ∧ Marked base w0 w' := by
 have HM := Aside0.mk hM
 have HN := Aside0.mk hN
 have HZ := Aside0.mk hz
 have H' := Aside0.mk h
 clear hM hN h hz
 go_enter Tryz.func32, Tryz.ntmps32
 go_wp2
 go_loopg [1, 5] k (fun kq v1 v5 w' => ∃ (a i : Int), v1 = .int .i64 a ∧ v5 = .int .i64 i ∧ Aside0 (laws_markNodeS.l0 kq ns a i = some r) ∧ Aside0 (kq ≤ k) ∧ Aside0 (Marked base w0 w') ∧ Aside0 (Nod base w' A ns))
 case atStart => exact ⟨a1, 0, sR, sR, H', ⟨Nat.le_refl _⟩, ⟨by repeat (first | exact HM.out | apply Marked.drew | apply Marked.drewN)⟩, ⟨by exact HN.out⟩⟩
 case round =>
  clear H' HM HN
  obtain ⟨a, i, rfl, rfl, HA, HK1, HM, HN⟩ := hrel
  cases gk with
  | zero => exact absurd HA.out (by simp [laws_markNodeS.l0])
  | succ k1 =>
  have H := HA.out
  clear HA
  simp only [laws_markNodeS.l0] at H
  by_cases c3 : i < (ns.length : Int)
  rotate_left
  ·rw [if_neg c3] at H
   have c3b := decide_eq_false c3
   obtain rfl := Option.some.inj H
   go_wp2
   go_ret
   exact ⟨rfl, by repeat (first | exact HM.out | apply Marked.drew | apply Marked.drewN)⟩
  rw [if_pos c3] at H
  by_cases c4 : 0 ≤ i
  rotate_left
  ·rw [if_neg c4] at H; cases H
  rw [if_pos c4] at H
  obtain ⟨t1, A4, H⟩ := Option.bind_eq_some_iff.mp H
  obtain ⟨b1, A5, H⟩ := Option.bind_eq_some_iff.mp H
  replace A4 := Aside0.mk A4
  replace A5 := Aside0.mk A5
  have H' := Aside0.mk H
  clear H
  obtain ⟨g, cs, eA, hgb, hgc, hgs, hgi⟩ := HN.out (by omega)
  subst eA
  have GB := Aside0.mk hgb
  have BK := Aside0.mk (show BS _ g 65 (ns.length * 7) from ⟨cs, hgc, hgs⟩)
  have HR := Aside0.mk (Marked.refl (base := base) wr)
  have HS := Aside0.mk (show base ≤ wr.heap.size from Nat.le_trans HZ.out HM.out.below.size)
  clear hgb hgc hgs hgi
  have c3b := decide_eq_true c3
  have c4b := decide_eq_true c4
  have p3 := eq_true c4
  have q3 := eq_true c3
  have C3 := Aside0.mk c3
  have C4 := Aside0.mk c4
  clear c3 c4
  obtain ⟨u0, hx0⟩ := BK.out.cell (i.toNat * 7) (by have := C3.out; have := C4.out; omega)
  have hf0 := BK.out.frozen (i.toNat * 7)
  go_wp2_with (first | ((with_reducible refine gate_store (t := 3) (p := 16) rfl ?_); refine store_event (t := 3) (p := 16) (v := ?vo_w11) (w1 := (wr.setCell ⟨g, i.toNat * 7, none⟩ (.int .i64 (a)))) ?hg ?ho ?hn ?hr ?_; (case ho => rfl); (case hg => rfl); (case hn => rfl); (case hr => first | (go_simp; done) | (go_simp; rfl)); intro w11 hw; replace HR := Aside0.mk (show Marked base wr w11 from by rw [hw]; exact HR.out.putB BK.out GB.out (.inl rfl) _ _ (fun _ _ => by omega)); replace BK := Aside0.mk (show BS w11 g 65 (ns.length * 7) from by rw [hw]; exact BK.out.put _ _); clear hw hx0 hf0; obtain ⟨u1, hx1⟩ := BK.out.cell (i.toNat * 7 + 1) (by have := C3.out; have := C4.out; omega); have hf1 := BK.out.frozen (i.toNat * 7 + 1)) | ((with_reducible refine gate_store (t := 3) (p := 23) rfl ?_); refine store_event (t := 3) (p := 23) (v := ?vo_w12) (w1 := (w11.setCell ⟨g, i.toNat * 7 + 1, none⟩ (.int .i64 (wrap64 (a + 1))))) ?hg ?ho ?hn ?hr ?_; (case ho => rfl); (case hg => rfl); (case hn => rfl); (case hr => first | (go_simp; done) | (go_simp; rfl)); intro w12 hw; replace HR := Aside0.mk (show Marked base wr w12 from by rw [hw]; exact HR.out.putB BK.out GB.out (.inl rfl) _ _ (fun _ _ => by omega)); replace BK := Aside0.mk (show BS w12 g 65 (ns.length * 7) from by rw [hw]; exact BK.out.put _ _); clear hw hx1 hf1; obtain ⟨u2, hx2⟩ := BK.out.cell (i.toNat * 7 + 2) (by have := C3.out; have := C4.out; omega); have hf2 := BK.out.frozen (i.toNat * 7 + 2)) | ((with_reducible refine gate_store (t := 3) (p := 30) rfl ?_); refine store_event (t := 3) (p := 30) (v := ?vo_w13) (w1 := (w12.setCell ⟨g, i.toNat * 7 + 2, none⟩ (.int .i64 (wrap64 (wrap64 (a + 1) + 1))))) ?hg ?ho ?hn ?hr ?_; (case ho => rfl); (case hg => rfl); (case hn => rfl); (case hr => first | (go_simp; done) | (go_simp; rfl)); intro w13 hw; replace HR := Aside0.mk (show Marked base wr w13 from by rw [hw]; exact HR.out.putB BK.out GB.out (.inl rfl) _ _ (fun _ _ => by omega)); replace BK := Aside0.mk (show BS w13 g 65 (ns.length * 7) from by rw [hw]; exact BK.out.put _ _); clear hw hx2 hf2; obtain ⟨u3, hx3⟩ := BK.out.cell (i.toNat * 7 + 3) (by have := C3.out; have := C4.out; omega); have hf3 := BK.out.frozen (i.toNat * 7 + 3)) | ((with_reducible refine gate_store (t := 3) (p := 37) rfl ?_); refine store_event (t := 3) (p := 37) (v := ?vo_w14) (w1 := (w13.setCell ⟨g, i.toNat * 7 + 3, none⟩ (.int .i64 (wrap64 (wrap64 (wrap64 (a + 1) + 1) + 1))))) ?hg ?ho ?hn ?hr ?_; (case ho => rfl); (case hg => rfl); (case hn => rfl); (case hr => first | (go_simp; done) | (go_simp; rfl)); intro w14 hw; replace HR := Aside0.mk (show Marked base wr w14 from by rw [hw]; exact HR.out.putB BK.out GB.out (.inl rfl) _ _ (fun _ _ => by omega)); replace BK := Aside0.mk (show BS w14 g 65 (ns.length * 7) from by rw [hw]; exact BK.out.put _ _); clear hw hx3 hf3; obtain ⟨u4, hx4⟩ := BK.out.cell (i.toNat * 7 + 4) (by have := C3.out; have := C4.out; omega); have hf4 := BK.out.frozen (i.toNat * 7 + 4)) | ((with_reducible refine gate_store (t := 3) (p := 44) rfl ?_); refine store_event (t := 3) (p := 44) (v := ?vo_w15) (w1 := (w14.setCell ⟨g, i.toNat * 7 + 4, none⟩ (.int .i64 (wrap64 (wrap64 (wrap64 (wrap64 (a + 1) + 1) + 1) + 1))))) ?hg ?ho ?hn ?hr ?_; (case ho => rfl); (case hg => rfl); (case hn => rfl); (case hr => first | (go_simp; done) | (go_simp; rfl)); intro w15 hw; replace HR := Aside0.mk (show Marked base wr w15 from by rw [hw]; exact HR.out.putB BK.out GB.out (.inl rfl) _ _ (fun _ _ => by omega)); replace BK := Aside0.mk (show BS w15 g 65 (ns.length * 7) from by rw [hw]; exact BK.out.put _ _); clear hw hx4 hf4; obtain ⟨u5, hx5⟩ := BK.out.cell (i.toNat * 7 + 5) (by have := C3.out; have := C4.out; omega); have hf5 := BK.out.frozen (i.toNat * 7 + 5)) | ((with_reducible refine gt 55 rfl ?_); refine gL 55 50 Tryz.func55 #[.int .i64 (wrap64 (wrap64 (wrap64 (wrap64 (wrap64 (a + 1) + 1) + 1) + 1) + 1))] ?_; (with_reducible refine (laws_markText.calls k1 (wrap64 (wrap64 (wrap64 (wrap64 (wrap64 (a + 1) + 1) + 1) + 1) + 1)) t1 _ A4.out).mono ?_); rintro e w16 ⟨rfl, hb⟩; refine ⟨_, rfl, ?_⟩; replace HR := Aside0.mk (Marked.then_ HR.out hb HS.out); replace BK := Aside0.mk (BK.out.below hb); clear hb hx5 hf5; obtain ⟨u6, hx6⟩ := BK.out.cell (i.toNat * 7 + 5) (by have := C3.out; have := C4.out; omega); have hf6 := BK.out.frozen (i.toNat * 7 + 5)) | ((with_reducible refine gate_store (t := 9) (p := 52) rfl ?_); refine store_event (t := 9) (p := 52) (v := ?vo_w17) (w1 := (w16.setCell ⟨g, i.toNat * 7 + 5, none⟩ (.string t1))) ?hg ?ho ?hn ?hr ?_; (case ho => rfl); (case hg => rfl); (case hn => rfl); (case hr => first | (go_simp; done) | (go_simp; rfl)); intro w17 hw; replace HR := Aside0.mk (show Marked base wr w17 from by rw [hw]; exact HR.out.putB BK.out GB.out (.inl rfl) _ _ (fun _ _ => by omega)); clear BK hw hx6 hf6; obtain ⟨g2, cs2, e2, _, h2, _, hi2⟩ := (HN.out.marked HR.out) (by have := C3.out; have := C4.out; omega); injection e2 with e2; injection e2 with e2; subst e2; obtain ⟨A6, c6, h6, hE6⟩ := hi2 i.toNat (by have := C3.out; have := C4.out; omega); have hx7 : w17.cell? ⟨g, i.toNat * 7 + 6, none⟩ = some (.slice A6 (rd_T65 ns i).f6.length c6) := (blk_cell h2 (i.toNat * 7 + 6)).trans h6; have HE := Aside0.mk (show Ent base w17 A6 (rd_T65 ns i).f6.length from hE6); clear h2 hi2 h6 hE6) | ((with_reducible refine gt 56 rfl ?_); refine gL 56 61 Tryz.func56 #[.slice A6 (rd_T65 ns i).f6.length c6, .int .i64 (wrap64 (wrap64 (wrap64 (wrap64 (wrap64 (wrap64 (a + 1) + 1) + 1) + 1) + 1) + 1))] ?_; (with_reducible refine (laws_markEntryS.marks k1 A6 (rd_T65 ns i).f6.length c6 (wrap64 (wrap64 (wrap64 (wrap64 (wrap64 (wrap64 (a + 1) + 1) + 1) + 1) + 1) + 1)) b1 base wr _ ?s1 ?s2 ?s3 A5.out).mono ?_); (case s1 => repeat (first | exact HR.out | apply Marked.drew | apply Marked.drewN)); (case s2 => exact HS.out); (case s3 => exact HE.out); rintro e w18 ⟨rfl, hm⟩; refine ⟨_, rfl, ?_⟩; clear HR HE hx7; have HR := Aside0.mk hm; clear hm))
  go_roundg k1
  case measure => have := HK1.out; omega
  case rel => exact ⟨b1, (wrap64 (i + 1)), sR, sR, H', ⟨by have := HK1.out; omega⟩, ⟨by repeat (first | exact HM.out.trans HR.out | apply Marked.drew | apply Marked.drewN)⟩, ⟨by exact HN.out.marked HR.out⟩⟩
def laws_markFs.f (k : Nat) (l0 : List S65) (x a1 : Int) : Option Int := laws_markNodeS.l0 k l0 a1 0
theorem laws_markFs.marks (k : Nat) (A : Option Addr) (c : Nat) (l0 : List S65) (x a1 r : Int) (base : Nat) (w : World) (hz : base ≤ w.heap.size) (hN : Nod base w A l0) (h : laws_markFs.f k l0 x a1 = some r) :
  Calls Tryz.prog 14 #[.agg #[.slice A l0.length c, .int .i64 x], .int .i64 a1] w fun e w' => e = .returned (.int .i64 r) ∧ Marked base w w' := by
 have hu := Tryz.underlying30
 have HN := Aside0.mk hN
 have HZ := Aside0.mk hz
 have HH := Aside0.mk (show laws_markNodeS.l0 k l0 a1 0 = some r from h)
 have HB := Aside0.mk (Below.refl w.heap.size w)
 clear hN hz h
 go_enter Tryz.func14, Tryz.ntmps14
 go_wp2_with (first | ((with_reducible refine gd 2 rfl ?_); refine bxE 2 #[.slice A l0.length c, .int .i64 x] 30 ?_; intro gb hg w5 hbox hb; replace HB := nSB hb; have BK := Aside0.mk hbox; clear hb hbox hg; have hcz := cb2 BK) | ((with_reducible refine gt 32 rfl ?_); refine gL 32 8 Tryz.func32 #[.slice A l0.length c, .int .i64 a1] ?_; have HM := Aside0.mk (show Marked base w _ from (Marked.refl w).then_ (show Below w.heap.size w _ from sB) HZ.out); (with_reducible refine (laws_markNodeS.marks k A c l0 a1 r base w _ HM.out HZ.out ?s1 HH.out).mono ?_); (case s1 => exact HN.out.marked HM.out); rintro e w6 ⟨rfl, hm⟩; refine ⟨_, rfl, ?_⟩; have HR := Aside0.mk hm; clear hm HM HB))
 go_ret
 exact ⟨rfl, by repeat (first | exact HR.out | apply Marked.drew | apply Marked.drewN)⟩
def laws_markStringS.l0 : Nat → List ByteArray → Int → Int → Option (Int × List ByteArray)
 | 0, _, _, _ => none
 | k + 1, x0, x1, x5 => if x5 < (x0.length : Int) then ((laws_markText.f k x1).bind fun t446 => (if 0 ≤ x5 then (laws_markStringS.l0 k (x0.set (x5 : Int).toNat t446) (wrap64 (x1 + 1)) (wrap64 (x5 + 1))) else (none))) else (some (x1, x0))
def laws_markStringS.f (k : Nat) (l0 : List ByteArray) (a1 : Int) : Option (Int × List ByteArray) := laws_markStringS.l0 k l0 a1 0
theorem laws_markStringS.calls (k : Nat) (P0_ : Nat → Prop) (u9000_ : Value) (l0 : List ByteArray) (a1 : Int) (r1 : Int) (r2 : List ByteArray) (w0 w : World) (hB : Below w0.heap.size w0 w) (ho0 : Kd.R Kd.string 9 w w0.heap.size P0_ u9000_ l0) (h : laws_markStringS.f k l0 a1 = some (r1, r2)) :
  Calls Tryz.prog 33 #[u9000_, .int .i64 a1] w fun e w' => e = .returned (.int .i64 r1) ∧ Kd.R Kd.string 9 w' w0.heap.size (fun k_ => (P0_ k_ ∨ w.heap.size ≤ k_)) u9000_ r2 ∧ Below w0.heap.size w0 w' ∧ Kept w w' (fun k_ => P0_ k_) := by
 have HO0 := Aside0.mk (show Kd.R Kd.string 9 w w0.heap.size (fun k_ => (P0_ k_ ∨ w.heap.size ≤ k_)) u9000_ l0 from Kd.R_mono ho0 (fun k_ hk => (.inl hk)))
 have HK := Aside0.mk (Kept.refl w (fun k_ => P0_ k_))
 have HW0 := Aside0.mk hB.size
 have HB := Aside0.mk hB
 clear hB
 have H : (laws_markStringS.l0 k l0 a1 0) = some (r1, r2) := h
 clear h
 have H' := Aside0.mk H
 clear H
 go_enter Tryz.func33, Tryz.ntmps33
 go_wp2
 go_loopg [1, 5] k (fun kq v1 v5 w' => ∃ (x0_1 : List ByteArray) (x1_1 : Int) (x5_1 : Int), v1 = .int .i64 x1_1 ∧ v5 = .int .i64 x5_1 ∧ Aside0 (laws_markStringS.l0 kq x0_1 x1_1 x5_1 = some (r1, r2)) ∧ Aside0 (kq ≤ k) ∧ Aside0 (Kd.R Kd.string 9 w' w0.heap.size (fun k_ => (P0_ k_ ∨ w.heap.size ≤ k_)) u9000_ x0_1) ∧ Aside0 (Kept w w' (fun k_ => P0_ k_)) ∧ Aside0 (Below w0.heap.size w0 w'))
 case atStart => exact ⟨(l0), (a1), (0), sR, sR, H', ⟨Nat.le_refl _⟩, ⟨rR HO0⟩, ⟨by repeat (first | (with_reducible first | exact HK.out | apply Kept.alloc | apply Kept.drewN | apply Kept.drew) | exact HK.out)⟩, ⟨sB⟩⟩
 case round =>
  clear H'
  try clear p2
  obtain ⟨x0_1, x1_1, x5_1, rfl, rfl, HA, HK1, HO_0, HK, HB⟩ := hrel
  cases gk with
  | zero => exact absurd HA.out (by simp [laws_markStringS.l0])
  | succ k1 =>
   have H := HA.out
   clear HA
   simp only [laws_markStringS.l0] at H
   by_cases c3 : x5_1 < (x0_1.length : Int)
   ·rw [if_pos c3] at H
    have c3b0 := decide_eq_true c3
    clear c3
    obtain ⟨t446, A4, H⟩ := bS H
    try dsimp only at H
    obtain ⟨c5, H⟩ := iN H
    have c5b0 := decide_eq_true c5
    clear c5
    obtain ⟨y447, hy447⟩ : ∃ y_ : List ByteArray, y_ = (x0_1.set (x5_1 : Int).toNat t446) := ⟨_, rfl⟩
    replace H : (laws_markStringS.l0 k1 y447 (wrap64 (x1_1 + 1)) (wrap64 (x5_1 + 1))) = some (r1, r2) := by first | (rw [hy447]; with_reducible exact H) | (have H2_ := (Option.bind_some _ _).symm.trans H; rw [hy447]; with_reducible exact H2_) | (have H2_ := (Option.bind_some _ _).symm.trans H; with_reducible exact H2_) | with_reducible exact H | (rw [hy447]; exact H) | exact H
    have Ny447 := Aside0.mk hy447
    clear hy447
    have H' := Aside0.mk H
    clear H
    obtain ⟨Ao7, co7, eo7⟩ := Kd.R_slice HO_0.out
    subst eo7
    go_wp2_with (first | ((with_reducible refine gt 55 rfl ?_); refine gL 55 15 Tryz.func55 #[.int .i64 x1_1] ?_; (with_reducible refine (laws_markText.calls k1 x1_1 t446 _ A4.out).mono ?_); rintro e w8 ⟨rfl, hb⟩; refine ⟨_, rfl, ?_⟩; replace HO_0 := nR HO_0 hb; replace HK := Aside0.mk (Kept.below (S := (fun k_ => P0_ k_)) (by repeat (first | (with_reducible first | exact HK.out | apply Kept.alloc | apply Kept.drewN | apply Kept.drew) | exact HK.out)) hb); replace HB := nSB hb; try clear hb; have p6 : 0 ≤ (x5_1 : Int) := sO; have q6 : (x5_1 : Int) < ((x0_1.length : Int) : Int) := sO; obtain ⟨go6, co6, eo6, gb6, gl6, cl6, HG6⟩ := Kd.R_form HO_0.out (by omega); (first | cases eo6 | (injection eo6 with ea_ en_ ec_; (first | subst ea_ | (injection ea_ with ea_; subst ea_)); subst ec_; clear en_)); have GB6 := Aside0.mk gb6; have GG6 := Aside0.mk HG6; clear gb6 gl6 HG6; have HMgo6 := Aside0.mk (show (P0_ go6 ∨ w.heap.size ≤ go6) from (HO_0.out.1 _ rfl)); obtain ⟨hx6_0, hf6_0⟩ := Kd.R_celln (⟨#[]⟩ : ByteArray) HO_0.out (x5_1 : Int) p6 q6; replace p6 := eq_true p6; replace q6 := eq_true q6; obtain ⟨hy9_, hz9_⟩ := Kd.R_celln (⟨#[]⟩ : ByteArray) HO_0.out (x5_1 : Int) (sO) (sO); have HP9 := Kd.R_putg HO_0.out (x5_1 : Int) t446) | ((with_reducible refine gate_store (t := 9) (p := 16) rfl ?_); refine store_event (t := 9) (p := 16) (v := ?vo_w10) (w1 := (w8.setCell ⟨go6, (x5_1 : Int).toNat, none⟩ (.string t446))) ?hg ?ho ?hn ?hr ?_; (case ho => rfl); (case hg => rfl); (case hn => rfl); (case hr => first | (go_simp; done) | (go_simp; rfl)); intro w10 hw; have hg : w8.grownBy w10 (some go6) := (by rw [hw]; exact HP9.2); have hp_ : Kd.R Kd.string 9 w10 w0.heap.size (fun k_ => (P0_ k_ ∨ w.heap.size ≤ k_)) (.slice (some ⟨go6, 0, none⟩) x0_1.length co7) y447 := (by rw [hw, Ny447.out]; exact HP9.1); clear HP9; replace HB := Aside0.mk ((by rw [hw]; exact below_set (HB.out) GB6.out : Below w0.heap.size w0 w10)); replace HK := Aside0.mk (Kept.of_grown (S := (fun k_ => P0_ k_)) hg (by repeat (first | (with_reducible first | exact HK.out | apply Kept.alloc | apply Kept.drewN | apply Kept.drew) | exact HK.out)) (fun k_ e_ => (HO_0.out.1 k_ e_))); replace HO_0 := Aside0.mk (hp_); clear hg hw hp_))
    go_roundg k1
    case measure => have := HK1.out; omega
    case rel => exact ⟨(y447), (wrap64 (x1_1 + 1)), (wrap64 (x5_1 + 1)), sR, sR, H', ⟨by have := HK1.out; omega⟩, ⟨rR HO_0⟩, ⟨by repeat (first | (with_reducible first | exact HK.out | apply Kept.alloc | apply Kept.drewN | apply Kept.drew) | exact HK.out)⟩, ⟨sB⟩⟩
   ·rw [if_neg c3] at H
    have c3b0 := decide_eq_false c3
    clear c3
    simp only [Option.some.injEq, Prod.mk.injEq] at H
    obtain ⟨rfl, rfl⟩ := H
    obtain ⟨Ao11, co11, eo11⟩ := Kd.R_slice HO_0.out
    subst eo11
    go_wp2
    go_ret
    exact ⟨sE, by (with_reducible repeat (first | apply Kd.R_alloc | apply Kd.R_drewN | apply Kd.R_drew)); exact HO_0.out, by repeat (first | (with_reducible first | exact HB.out | apply below_alloc | apply pw_below_drewN | apply below_drew1) | exact HB.out), by repeat (first | (with_reducible first | exact HK.out | apply Kept.alloc | apply Kept.drewN | apply Kept.drew) | exact HK.out)⟩
def laws_markStringSS.l0 : Nat → List (List ByteArray) → Int → Int → Option (Int × List (List ByteArray))
 | 0, _, _, _ => none
 | k + 1, x0, x1, x5 => if x5 < (x0.length : Int) then (if 0 ≤ x5 then ((laws_markStringS.f k (x0.getD x5.toNat []) x1).bind fun t => (laws_markStringSS.l0 k (x0.set x5.toNat t.2) t.1 (wrap64 (x5 + 1)))) else (none)) else (some (x1, x0))
def laws_markStringSS.f (k : Nat) (l0 : List (List ByteArray)) (a1 : Int) : Option (Int × List (List ByteArray)) := laws_markStringSS.l0 k l0 a1 0
theorem laws_markStringSS.calls (k : Nat) (P0_ : Nat → Prop) (u9000_ : Value) (l0 : List (List ByteArray)) (a1 : Int) (r1 : Int) (r2 : List (List ByteArray)) (w0 w : World) (hB : Below w0.heap.size w0 w) (ho0 : Kd.S (Kd.slice 9 Kd.string) 49 w w0.heap.size P0_ u9000_ l0) (h : laws_markStringSS.f k l0 a1 = some (r1, r2)) :
  Calls Tryz.prog 15 #[u9000_, .int .i64 a1] w fun e w' => e = .returned (.int .i64 r1) ∧ Kd.S (Kd.slice 9 Kd.string) 49 w' w0.heap.size (fun k_ => (P0_ k_ ∨ w.heap.size ≤ k_)) u9000_ r2 ∧ Below w0.heap.size w0 w' ∧ Kept w w' (fun k_ => P0_ k_) := by
 have HO0 := Aside0.mk (show Kd.S (Kd.slice 9 Kd.string) 49 w w0.heap.size (fun k_ => (P0_ k_ ∨ w.heap.size ≤ k_)) u9000_ l0 from Kd.S_mono ho0 (fun k_ hk => (.inl hk)))
 have HB := Aside0.mk hB
 obtain ⟨A0, c0, rfl⟩ := Kd.S_slice ho0
 clear ho0 hB
 have H' := Aside0.mk (show laws_markStringSS.l0 k l0 a1 0 = some (r1, r2) from h)
 clear h
 have HK := Aside0.mk (Kept.refl w (fun k_ => P0_ k_))
 go_enter Tryz.func15, Tryz.ntmps15
 go_wp2
 go_loopg [1, 5] k (fun kq v1 v5 w' => ∃ (x0_1 : List (List ByteArray)) (x1_1 : Int) (x5_1 : Int), v1 = .int .i64 x1_1 ∧ v5 = .int .i64 x5_1 ∧ Aside0 (laws_markStringSS.l0 kq x0_1 x1_1 x5_1 = some (r1, r2)) ∧ Aside0 (kq ≤ k) ∧ Aside0 (x0_1.length = l0.length) ∧ Aside0 (Kd.S (Kd.slice 9 Kd.string) 49 w' w0.heap.size (fun k_ => (P0_ k_ ∨ w.heap.size ≤ k_)) (.slice A0 l0.length c0) x0_1) ∧ Aside0 (Below w0.heap.size w0 w') ∧ Aside0 (Kept w w' (fun k_ => P0_ k_)))
 case atStart => exact ⟨l0, a1, 0, rfl, rfl, H', ⟨Nat.le_refl _⟩, ⟨rfl⟩, HO0, HB, HK⟩
 case round =>
  clear H' HO0 HB HK
  obtain ⟨xs, a, i, rfl, rfl, HA, HK1, HL, HO, HB, HK⟩ := hrel
  have HW : w.heap.size ≤ wr.heap.size := HK.out.1
  cases gk with
  | zero => exact absurd HA.out (by simp [laws_markStringSS.l0])
  | succ k1 =>
   have H := HA.out
   clear HA
   simp only [laws_markStringSS.l0] at H
   by_cases c3 : i < (xs.length : Int)
   ·rw [if_pos c3] at H
    have c3b0 : decide (i < (l0.length : Int)) = true := decide_eq_true (by rw [← HL.out]; exact c3)
    obtain ⟨c4, H⟩ := iN H
    obtain ⟨t, A50, H⟩ := Option.bind_eq_some_iff.mp H
    have A5 := Aside0.mk (show laws_markStringS.f k1 (xs.getD i.toNat []) a = some (t.1, t.2) from A50)
    clear A50
    have H' := Aside0.mk H
    clear H
    obtain ⟨g, cap, e, _⟩ := Kd.S_form HO.out (by omega)
    injection e with e1 e2 e3
    subst e1
    obtain ⟨oki, c, hcl, hM, hcc, hoki, hH⟩ := Kd.S_lend HO.out ([] : List ByteArray) i c4 (by rw [← HL.out]; exact c3)
    obtain ⟨vi, rfl, hR⟩ := hM
    obtain ⟨Ai, ci, rfl⟩ := Kd.R_slice hR
    have hx := hcc 0 _ rfl
    rw [show i.toNat * (Kd.slice 9 Kd.string).sz + 0 = i.toNat from by show i.toNat * 1 + 0 = i.toNat; omega] at hx
    have HR := Aside0.mk hR
    have HH := Aside0.mk hH
    have HI := Aside0.mk hoki
    clear hR hH hoki hcc e2 e3
    have p1 : (0 ≤ i) = True := eq_true c4
    have p2 : (i < (l0.length : Int)) = True := eq_true (by rw [← HL.out]; exact c3)
    generalize hrow : xs.getD i.toNat [] = row at *
    go_wp2_with (first | ((with_reducible refine gt 33 rfl ?_); refine goesL_ (some 17) rfl rfl Tryz.func33 (by kernel_rfl) rfl #[.slice Ai row.length ci, .int .i64 a] rfl (by (try simp only [List.map_toArray, List.map_cons, List.map_nil]); first | done | rfl) ?_; (with_reducible refine (laws_markStringS.calls k1 oki _ row a t.1 t.2 w0 _ ?side1 ?side2 A5.out).mono ?_); (case side1 => repeat (first | exact HB.out | (with_reducible refine pw_below_drewN ?_ _) | (with_reducible refine below_drew ?_))); (case side2 => repeat (first | exact HR.out | (with_reducible refine Kd.R_drewN ?_ _) | (with_reducible refine Kd.R_drew ?_))); rintro e w2 ⟨rfl, hR2, hB2, hK2⟩; refine ⟨_, rfl, ?_⟩))
    go_roundg k1
    case measure => have := HK1.out; omega
    case rel =>
     have hw : w.heap.size ≤ wr.heap.size := HK.out.1
     have hS := Kd.H_back (Kd.H_step (Kd.H_widen HH.out) (fun k _ hn hlt => hK2.2 k hlt (fun hk => hn (.inl hk)))) (x' := t.2) (okp := fun k_ => oki k_ ∨ wr.heap.size ≤ k_) ⟨_, rfl, hR2⟩ (fun k hk => hk.imp id (fun h => ⟨.inr (by omega), h⟩))
     exact ⟨_, _, _, rfl, rfl, H', ⟨by have := HK1.out; omega⟩, ⟨by rw [List.length_set]; exact HL.out⟩, ⟨hS⟩, ⟨hB2⟩, ⟨HK.out.then_ hK2 (fun k hk => (HI.out k hk).1)⟩⟩
   ·rw [if_neg c3] at H
    have c3b0 : decide (i < (l0.length : Int)) = false := decide_eq_false (by rw [← HL.out]; exact c3)
    clear c3
    obtain ⟨rfl, rfl⟩ := Prod.mk.inj (Option.some.inj H)
    go_wp2
    go_ret
    exact ⟨rfl, HO.out, HB.out, HK.out⟩
end Go.Proofs.YtdjceippnokimaaGreatDoor.PGrp
