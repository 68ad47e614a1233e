import Derived.Test.YtmhjmicplaolmaaGreatDoorPRmx4
namespace Go.Proofs.YtmhjmicplaolmaaGreatDoor.PRm
open Go.RowKit Go.Proofs.YtmhjmicplaolmaaGreatDoorW.PrintWords Go.Proofs.YtmhjmicplaolmaaGreatDoorW.PrintLast Go.Proofs.YtmhjmicplaolmaaGreatDoorW.PrintMore
attribute [local go_sem] dY dW eZ eY dH dG dX dV
set_option linter.unusedVariables false
set_option linter.unusedSimpArgs false
set_option maxHeartbeats 8000000
set_option maxRecDepth 100000
/-! ### aT: function 74 -/
mutual
def aT.l0 : Nat → ByteArray → List ByteArray → List ByteArray → Int → Int → Option (List ByteArray)
 | 0, _, _, _, _, _ => none
 | k + 1, x0, x3, x8, x9, x10 => if x10 < x9 then (if 0 ≤ x10 then (if x10 < (x8.length : Int) then (if (dx ByteArray.empty x8 x10).toList = ([46] : List UInt8) then (aT.l0 k x0 x3 x8 x9 (wrap64 (x10 + 1))) else (if (dx ByteArray.empty x8 x10).toList = ([46, 46] : List UInt8) then (if (x3.length : Int) > 0 then (if 0 ≤ (wrap64 ((x3.length : Int) - 1)) then (if (wrap64 ((x3.length : Int) - 1)) < (x3.length : Int) then (aT.j1 k x0 x3 (dx ByteArray.empty x8 x10) (x3.length : Int) x8 x9 x10 ((dx ByteArray.empty x3 (wrap64 ((x3.length : Int) - 1))).toList != ([46, 46] : List UInt8))) else (none)) else (none)) else (aT.j1 k x0 x3 (dx ByteArray.empty x8 x10) (x3.length : Int) x8 x9 x10 false)) else (aT.j1 k x0 x3 (dx ByteArray.empty x8 x10) (x3.length : Int) x8 x9 x10 false))) else (none)) else (none)) else (some x3)
def aT.j1 : Nat → ByteArray → List ByteArray → ByteArray → Int → List ByteArray → Int → Int → Bool → Option (List ByteArray)
 | 0, _, _, _, _, _, _, _, _ => none
 | k + 1, x0, x3, x5, x6, x8, x9, x10, x23 => if x23 = true then (if 0 ≤ (wrap64 (x6 - 1)) then (if (wrap64 (x6 - 1)) ≤ (x3.length : Int) then (aT.l0 k x0 (x3.take ((wrap64 (x6 - 1)) : Int).toNat) x8 x9 (wrap64 (x10 + 1))) else (none)) else (none)) else (if x5.toList = ([46, 46] : List UInt8) then (if 0 < (x0.size : Int) then (if (bt x0 0) = 47 then (aT.l0 k x0 x3 x8 x9 (wrap64 (x10 + 1))) else (if x3.length < 8796093022208 then (aT.l0 k x0 (x3 ++ [x5]) x8 x9 (wrap64 (x10 + 1))) else (none))) else (none)) else (if x3.length < 8796093022208 then (aT.l0 k x0 (x3 ++ [x5]) x8 x9 (wrap64 (x10 + 1))) else (none)))
end
def aT.f (k : Nat) (a0 : ByteArray) : Option (List ByteArray) := (bH.f k a0).bind fun t309 => (aT.l0 k a0 ([] : List ByteArray) t309 (t309.length : Int) 0)
theorem aT.calls (k : Nat) (a0 : ByteArray) (r : List ByteArray) (w : World) (h : aT.f k a0 = some r) :
  Calls Tryz.prog 74 #[.string a0] w fun e w' => ∃ v0_ : Value, e = .returned (v0_) ∧ Kd.R Kd.string 9 w' w.heap.size (fun _ => True) v0_ r ∧ Below w.heap.size w w' := by
 have HB := b0 w; have H : ((bH.f k a0).bind fun t309 => (aT.l0 k a0 ([] : List ByteArray) t309 (t309.length : Int) 0)) = some r := h; clear h; obtain ⟨t309, A2, H⟩ := bS H; (try dsimp only at H); have H' := aM H; clear H; go_enter Tryz.func74, Tryz.ntmps74
 go_wp2_with (first | ((with_reducible refine gt 73 rfl ?_); refine gL 73 8 Tryz.func73 #[.string a0] ?_; (with_reducible refine (bH.calls k a0 t309 _ A2.out).mono ?_); rintro e w3 ⟨v310, rfl, ho0, hb⟩; refine ⟨_, rfl, ?_⟩; have HO311 := aM (Kd.dA ho0 (aA sB)); replace HB := nSB hb; try clear hb; obtain ⟨Ao4, co4, eo4⟩ := Kd.aU HO311.out; subst eo4))
 go_loopg [3, 10] k (fun kq v3 v10 w' => ∃ (x3_1 : List ByteArray) (x10_1 : Int), v10 = .int .i64 x10_1 ∧ aa (aT.l0 kq a0 x3_1 t309 (t309.length : Int) x10_1 = some r) ∧ aa (kq ≤ k) ∧ aa (Kd.R Kd.string 9 w' w.heap.size (fun k_ => some k_ ≠ ((.slice Ao4 t309.length co4) : Value).ownBlock) v3 x3_1) ∧ aa (Kd.R Kd.string 9 w' w.heap.size (fun k_ => some k_ ≠ (v3 : Value).ownBlock) (.slice Ao4 t309.length co4) t309) ∧ aa (Below w.heap.size w w'))
 case atStart => exact ⟨(([] : List ByteArray)), (0), sR, H', ⟨Nat.le_refl _⟩, ⟨by first | exact Kd.jD _ _ _ _ _ | exact Kd.N_nil _ _ _ _ _ | exact Kd.V_nil _ _ _ _ _ | exact Kd.Q_nil _ _ _ _ _ | exact Kd.oO _ _ _ _ _⟩, ⟨by (with_reducible repeat (first | apply Kd.R_alloc | apply Kd.bi | apply Kd.aY)); exact Kd.aW HO311.out (fun _ hk => (by simp [Value.ownBlock]))⟩, ⟨sB⟩⟩
 case round =>
  clear H'; obtain ⟨x3_1, x10_1, rfl, HA, HK1, HO_3, HO_8, HB⟩ := hrel; cases gk with
  | zero => exact absurd HA.out (by simp [aT.l0])
  | succ k1 =>
   have H := HA.out; clear HA; simp only [aT.l0] at H; by_cases c5 : x10_1 < (t309.length : Int)
   ·rw [if_pos c5] at H; replace c5 := dT c5; obtain ⟨c6, H⟩ := iN H; replace c6 := dT c6; obtain ⟨c7, H⟩ := iN H; replace c7 := dT c7; by_cases c8 : (dx ByteArray.empty t309 x10_1).toList = ([46] : List UInt8)
    ·rw [if_pos c8] at H; obtain ⟨_, _⟩ := eQ c8; clear c8; have H' := aM H; clear H; obtain ⟨p312, q312, ad312, e312, hx312_0⟩ := iX (Kd.ek (Kd.ai HO_8.out).2.2 x10_1); cases e312; obtain ⟨Ao9, co9, eo9⟩ := Kd.aU HO_3.out; subst eo9; go_wp2; go_roundg k1
     case measure => have := HK1.out; omega
     case rel => exact ⟨(x3_1), (wrap64 (x10_1 + 1)), sR, H', ⟨by have := HK1.out; omega⟩, ⟨rR HO_3⟩, ⟨rR HO_8⟩, ⟨sB⟩⟩
    ·rw [if_neg c8] at H; obtain ⟨_, _⟩ := nQ c8; have HC10 := aM H; clear H; obtain ⟨p312, q312, ad312, e312, hx312_0⟩ := iX (Kd.ek (Kd.ai HO_8.out).2.2 x10_1); cases e312; obtain ⟨Ao11, co11, eo11⟩ := Kd.aU HO_3.out; subst eo11
     go_upto_region 8 with (fail)
     go_cut [23] (fun v23 wc => ∃ (kq : Nat) (x23_9 : Bool), v23 = .bool x23_9 ∧ aa (aT.j1 kq a0 x3_1 (dx ByteArray.empty t309 x10_1) (x3_1.length : Int) t309 (t309.length : Int) x10_1 x23_9 = some r) ∧ aa (kq ≤ k1) ∧ aa (Kd.R Kd.string 9 wc w.heap.size (fun k_ => some k_ ≠ ((.slice (some ad312) t309.length co4) : Value).ownBlock) (.slice Ao11 x3_1.length co11) x3_1) ∧ aa (Kd.R Kd.string 9 wc w.heap.size (fun k_ => some k_ ≠ ((.slice Ao11 x3_1.length co11) : Value).ownBlock) (.slice (some ad312) t309.length co4) t309) ∧ aa (Below w.heap.size w wc))
     case first =>
      have H := HC10.out; clear HC10; by_cases c12 : (dx ByteArray.empty t309 x10_1).toList = ([46, 46] : List UInt8)
      ·rw [if_pos c12] at H; obtain ⟨c12b0, c12b1⟩ := eQ c12; clear c12; (first | rw [c12b0] | (simp only [fQ, jk]; rw [c12b0]) | skip); by_cases c13 : (x3_1.length : Int) > 0
       ·rw [if_pos c13] at H; have c13b0 := decide_eq_true c13; have c13b1 : decide (0 < x3_1.length) = true := decide_eq_true (by omega); clear c13; obtain ⟨ji14, hji14⟩ : ∃ j_ : Int, (wrap64 ((x3_1.length : Int) - 1)) = j_ := ⟨_, rfl⟩; replace H : (if 0 ≤ (ji14) then (if (ji14) < (x3_1.length : Int) then (aT.j1 k1 a0 x3_1 (dx ByteArray.empty t309 x10_1) (x3_1.length : Int) t309 (t309.length : Int) x10_1 ((dx ByteArray.empty x3_1 (ji14)).toList != ([46, 46] : List UInt8))) else (none)) else (none)) = some r := by first | (rw [hji14] at H; exact H) | (simp only [hji14] at H ⊢; exact H)
        have hji14w : (IntKind.i64.wrap ((x3_1.length : Int) - 1)) = ji14 := (fQ _).trans hji14; obtain ⟨c15, H⟩ := iN H; replace c15 := dT c15; obtain ⟨c16, H⟩ := iN H; replace c16 := dT c16; have H' := aM H; clear H; obtain ⟨p313, q313, ad313, e313, hx313_0⟩ := iX (Kd.ek (Kd.ai HO_3.out).2.2 (ji14)); cases e313; go_wp2
        go_meet
        case rel => exact ⟨_, (((dx ByteArray.empty x3_1 (ji14)).toList != ([46, 46] : List UInt8))), (by first | rfl | (simp; done) | (simp only [← hji14] <;> (first | rfl | simp)) | (simp [*]; done)), (by first | exact H' | (simp only [hji14]; exact H') | (simp only [hji14]; exact H')), ⟨by have := HK1.out; first | omega | exact Nat.le_refl _⟩, ⟨rR HO_3⟩, ⟨rR HO_8⟩, ⟨sB⟩⟩
       ·rw [if_neg c13] at H; have c13b0 := decide_eq_false c13; have c13b1 : decide (0 < x3_1.length) = false := decide_eq_false (by omega); clear c13; have H' := aM H; clear H; go_wp2
        go_meet
        case rel => exact ⟨_, (false), sR, H', ⟨by have := HK1.out; first | omega | exact Nat.le_refl _⟩, ⟨rR HO_3⟩, ⟨rR HO_8⟩, ⟨sB⟩⟩
      ·rw [if_neg c12] at H; obtain ⟨c12b0, c12b1⟩ := nQ c12; (first | rw [c12b0] | (simp only [fQ, jk]; rw [c12b0]) | skip); have H' := aM H; clear H; go_wp2
       go_meet
       case rel => exact ⟨_, (false), sR, H', ⟨by have := HK1.out; first | omega | exact Nat.le_refl _⟩, ⟨rR HO_3⟩, ⟨rR HO_8⟩, ⟨sB⟩⟩
     case rest =>
      clear HC10; obtain ⟨kq, x23_9, rfl, HA, HJ9, HO_3, HO_8, HB⟩ := hcut; cases kq with
      | zero => exact absurd HA.out (by simp [aT.j1])
      | succ kj9 =>
       have H := HA.out; clear HA; simp only [aT.j1] at H; by_cases c17 : x23_9 = true
       ·subst c17; rw [if_pos rfl] at H; obtain ⟨ji18, hji18⟩ : ∃ j_ : Int, (wrap64 ((x3_1.length : Int) - 1)) = j_ := ⟨_, rfl⟩; replace H : (if 0 ≤ (ji18) then (if (ji18) ≤ (x3_1.length : Int) then (aT.l0 kj9 a0 (x3_1.take ((ji18) : Int).toNat) t309 (t309.length : Int) (wrap64 (x10_1 + 1))) else (none)) else (none)) = some r := by first | (rw [hji18] at H; exact H) | (simp only [hji18] at H ⊢; exact H)
        have hji18w : (IntKind.i64.wrap ((x3_1.length : Int) - 1)) = ji18 := (fQ _).trans hji18; obtain ⟨c19, H⟩ := iN H; have c19b0 := eq_true c19; have c19b1 := decide_eq_true c19; clear c19; obtain ⟨c20, H⟩ := iN H; have c20b0 := eq_true c20; have c20b1 := decide_eq_true c20; clear c20; obtain ⟨y314, hy314⟩ : ∃ y_ : List ByteArray, y_ = (x3_1.take ((ji18) : Int).toNat) := ⟨_, rfl⟩; replace H : (aT.l0 kj9 a0 y314 t309 (t309.length : Int) (wrap64 (x10_1 + 1))) = some r := by first | (rw [hy314]; with_reducible exact H) | (rw [hy314]; with_reducible exact (bz H :)) | (with_reducible exact (bz H :)) | with_reducible exact H | (rw [hy314]; exact H) | exact H
        have Ny314 := aM hy314; clear hy314; have H' := aM H; clear H; have q21 : ((ji18) : Int) ≤ ((x3_1.length : Int) : Int) := sO; obtain ⟨i021, hi021, _, hsz21, _⟩ := info_parts lG; have hcut21 := rP (P := Tryz.prog) 38 9 .i64 Tryz.underlying38 hi021 Ao11 x3_1.length co11 (ji18) (sO) q21 (Kd.ai HO_3.out).2.1; have hr21 := Kd.yt (m := ((ji18) : Int).toNat) HO_3.out (by omega); have hy21 : y314.length = ((ji18) : Int).toNat := (by rw [Ny314.out, List.length_take]; omega); rw [← Ny314.out] at hr21; rw [← hy21] at hr21 hcut21; clear hy21 hi021 hsz21 HO_3; have HO316 := aM hr21; clear hr21; replace q21 := eq_true q21; go_wp2; go_roundg kj9
        case measure => have := HK1.out; have := HJ9.out; omega
        case rel => exact ⟨(y314), (wrap64 (x10_1 + 1)), sR, (by first | exact H' | (simp only [hji18]; exact H') | (simp only [hji18]; exact H')), ⟨by have := HK1.out; have := HJ9.out; omega⟩, ⟨rR HO316⟩, ⟨rR HO_8⟩, ⟨sB⟩⟩
       ·replace c17 := Bool.eq_false_iff.mpr c17; subst c17; rw [if_neg nt] at H; by_cases c22 : (dx ByteArray.empty t309 x10_1).toList = ([46, 46] : List UInt8)
        ·rw [if_pos c22] at H; obtain ⟨_, _⟩ := eQ c22; clear c22; obtain ⟨c23, H⟩ := iN H; have c23b0 := decide_eq_true c23; have c23b1 : decide (0 < a0.size) = true := decide_eq_true (by omega); clear c23; by_cases c25 : (bt a0 0) = 47
         ·rw [if_pos c25] at H; obtain ⟨_, _⟩ := eQ c25; clear c25; have H' := aM H; clear H; have p24 : 0 ≤ (0 : Int) := (by omega); have q24 : 0 < a0.size := (by have : (0 : Int) < (a0.size : Int) := sO; omega); have hx24 : ∀ h : 0 < a0.size, ((a0[0]'h).toNat : Int) = bt a0 0 := kv a0 0; clear p24; have qi24 : (0 < (a0.size : Int)) = True := eq_true (sO); replace q24 := eq_true q24; go_wp2; go_roundg kj9
          case measure => have := HK1.out; have := HJ9.out; omega
          case rel => exact ⟨(x3_1), (wrap64 (x10_1 + 1)), sR, H', ⟨by have := HK1.out; have := HJ9.out; omega⟩, ⟨rR HO_3⟩, ⟨rR HO_8⟩, ⟨sB⟩⟩
         ·rw [if_neg c25] at H; obtain ⟨_, _⟩ := nQ c25; obtain ⟨c26, H⟩ := iN H; have LMc26 := aM c26; clear c26; obtain ⟨y317, hy317⟩ : ∃ y_ : List ByteArray, y_ = (x3_1 ++ [(dx ByteArray.empty t309 x10_1)]) := ⟨_, rfl⟩; replace H : (aT.l0 kj9 a0 y317 t309 (t309.length : Int) (wrap64 (x10_1 + 1))) = some r := by first | (rw [hy317]; with_reducible exact H) | (rw [hy317]; with_reducible exact (bz H :)) | (with_reducible exact (bz H :)) | with_reducible exact H | (rw [hy317]; exact H) | exact H
          have Ny317 := aM hy317; clear hy317; have H' := aM H; clear H; have p24 : 0 ≤ (0 : Int) := (by omega); have q24 : 0 < a0.size := (by have : (0 : Int) < (a0.size : Int) := sO; omega); have hx24 : ∀ h : 0 < a0.size, ((a0[0]'h).toNat : Int) = bt a0 0 := kv a0 0; clear p24; have qi24 : (0 < (a0.size : Int)) = True := eq_true (sO); replace q24 := eq_true q24
          go_wp2_with (first | ((with_reducible refine bO (b := .append) (xs := #[.tmp 16, .tmp 18]) rfl ?_); at_builtin; refine Kd.gD Kd.string (w0 := w) w.heap.size rfl (.tmp 16) (.tmp 18) 38 9 (.string ⟨#[]⟩) 16 rfl Tryz.underlying38 lG rfl (by decide) (by omega) (.slice Ao11 x3_1.length co11) x3_1 (dx ByteArray.empty t309 x10_1) [.string (dx ByteArray.empty t309 x10_1)] (fun k_ => some k_ ≠ (.slice (some ad312) t309.length co4 : Value).ownBlock) (fun _ => False) rfl rfl ?aP (fun _ hk => hk.elim) ?aF ?aO ?aB ?aS ?aL ?_; (case aP => exact rfl); (case aB => exact sB); (case aF => exact (fun k_ hk => Kd.fresh' (Kd.kJ (rA HO_8)) k_ hk)); (case aO => exact (rA HO_3)); (case aS => exact (aA sB)); (case aL => have := LMc26.out; omega); intro v318 w27 ho hb hg hat; rw [← Ny317.out] at ho; replace HO_8 := aM (Kd.fO (ok := (fun _ => True)) (by (with_reducible repeat (first | apply Kd.R_alloc | apply Kd.bi | apply Kd.aY)); exact Kd.aW HO_8.out (fun _ hk => ⟨trivial, hk⟩)) hg hat); replace HB := aM (hb); have HO319 := aM (ho); clear HO_3; clear ho hb hg hat))
          go_roundg kj9
          case measure => have := HK1.out; have := HJ9.out; omega
          case rel => exact ⟨(y317), (wrap64 (x10_1 + 1)), sR, H', ⟨by have := HK1.out; have := HJ9.out; omega⟩, ⟨rR HO319⟩, ⟨by (with_reducible repeat (first | apply Kd.R_alloc | apply Kd.bi | apply Kd.aY)); exact Kd.aW HO_8.out (fun _ hk => hk.2)⟩, ⟨sB⟩⟩
        ·rw [if_neg c22] at H; obtain ⟨_, _⟩ := nQ c22; obtain ⟨c28, H⟩ := iN H; have LMc28 := aM c28; clear c28; obtain ⟨y320, hy320⟩ : ∃ y_ : List ByteArray, y_ = (x3_1 ++ [(dx ByteArray.empty t309 x10_1)]) := ⟨_, rfl⟩; replace H : (aT.l0 kj9 a0 y320 t309 (t309.length : Int) (wrap64 (x10_1 + 1))) = some r := by first | (rw [hy320]; with_reducible exact H) | (rw [hy320]; with_reducible exact (bz H :)) | (with_reducible exact (bz H :)) | with_reducible exact H | (rw [hy320]; exact H) | exact H
         have Ny320 := aM hy320; clear hy320; have H' := aM H; clear H
         go_wp2_with (first | ((with_reducible refine bO (b := .append) (xs := #[.tmp 16, .tmp 18]) rfl ?_); at_builtin; refine Kd.gD Kd.string (w0 := w) w.heap.size rfl (.tmp 16) (.tmp 18) 38 9 (.string ⟨#[]⟩) 16 rfl Tryz.underlying38 lG rfl (by decide) (by omega) (.slice Ao11 x3_1.length co11) x3_1 (dx ByteArray.empty t309 x10_1) [.string (dx ByteArray.empty t309 x10_1)] (fun k_ => some k_ ≠ (.slice (some ad312) t309.length co4 : Value).ownBlock) (fun _ => False) rfl rfl ?aP (fun _ hk => hk.elim) ?aF ?aO ?aB ?aS ?aL ?_; (case aP => exact rfl); (case aB => exact sB); (case aF => exact (fun k_ hk => Kd.fresh' (Kd.kJ (rA HO_8)) k_ hk)); (case aO => exact (rA HO_3)); (case aS => exact (aA sB)); (case aL => have := LMc28.out; omega); intro v321 w29 ho hb hg hat; rw [← Ny320.out] at ho; replace HO_8 := aM (Kd.fO (ok := (fun _ => True)) (by (with_reducible repeat (first | apply Kd.R_alloc | apply Kd.bi | apply Kd.aY)); exact Kd.aW HO_8.out (fun _ hk => ⟨trivial, hk⟩)) hg hat); replace HB := aM (hb); have HO322 := aM (ho); clear HO_3; clear ho hb hg hat))
         go_roundg kj9
         case measure => have := HK1.out; have := HJ9.out; omega
         case rel => exact ⟨(y320), (wrap64 (x10_1 + 1)), sR, H', ⟨by have := HK1.out; have := HJ9.out; omega⟩, ⟨rR HO322⟩, ⟨by (with_reducible repeat (first | apply Kd.R_alloc | apply Kd.bi | apply Kd.aY)); exact Kd.aW HO_8.out (fun _ hk => hk.2)⟩, ⟨sB⟩⟩
   ·exact Az
def eF.l0 : Nat → ByteArray → List ByteArray → Int → Int → Option (ByteArray)
 | 0, _, _, _, _ => none
 | k + 1, x3, x9, x10, x11 => if x11 < x10 then (if 0 ≤ x11 then (if x11 < (x9.length : Int) then (if 1 + (dx ByteArray.empty x9 x11).size ≤ 9223372036854775807 then (if x3.size + (1 + (dx ByteArray.empty x9 x11).size) ≤ 9223372036854775807 then (eF.l0 k (x3 ++ ((⟨#[47]⟩ : ByteArray) ++ (dx ByteArray.empty x9 x11))) x9 x10 (wrap64 (x11 + 1))) else (none)) else (none)) else (none)) else (none)) else (some x3)
def eF.f (k : Nat) (l0 : List ByteArray) : Option (ByteArray) := if (l0.length : Int) = 0 then (some (⟨#[47]⟩ : ByteArray)) else (eF.l0 k (⟨#[]⟩ : ByteArray) l0 (l0.length : Int) 0)
theorem eF.calls (k : Nat) (A0 : Option Addr) (c0 : Nat) (l0 : List ByteArray) (r : ByteArray) (w : World) (hr0 : Kd.C Kd.string w A0 l0.length l0) (hc0 : l0.length ≤ c0) (h : eF.f k l0 = some r) :
  Calls Tryz.prog 75 #[.slice A0 l0.length c0] w fun e w' => e = .returned (.string r) ∧ bR w w' := by
 have HR0 := aM hr0; have HC0 := aM hc0; clear hr0 hc0; have H : (if (l0.length : Int) = 0 then (some (⟨#[47]⟩ : ByteArray)) else (eF.l0 k (⟨#[]⟩ : ByteArray) l0 (l0.length : Int) 0)) = some r := h; clear h; by_cases c2 : (l0.length : Int) = 0
 ·rw [if_pos c2] at H; obtain ⟨_, _⟩ := eQ c2; clear c2; obtain rfl := sI H; go_enter Tryz.func75, Tryz.ntmps75; go_wp2; go_ret
  exact eD
 ·rw [if_neg c2] at H; obtain ⟨_, _⟩ := nQ c2; have c2b2 : ¬ (l0 = []) := fun h_ => c2 (by rw [h_]; rfl)
  have H' := aM H; clear H; go_enter Tryz.func75, Tryz.ntmps75; go_wp2
  go_loopg [3, 11] k (fun kq v3 v11 w' => ∃ (x3_1 : ByteArray) (x11_1 : Int), v3 = .string x3_1 ∧ v11 = .int .i64 x11_1 ∧ aa (eF.l0 kq x3_1 l0 (l0.length : Int) x11_1 = some r) ∧ aa (kq ≤ k) ∧ bR w w')
  case atStart => exact ⟨((⟨#[]⟩ : ByteArray)), (0), sR, sR, H', ⟨Nat.le_refl _⟩, by repeat (first | exact bR.refl _ | apply bR.step)⟩
  case round =>
   clear H'; obtain ⟨x3_1, x11_1, rfl, rfl, HA, HK1, ⟨m1, rfl⟩⟩ := hrel; cases gk with
   | zero => exact absurd HA.out (by simp [eF.l0])
   | succ k1 =>
    have H := HA.out; clear HA; simp only [eF.l0] at H; by_cases c3 : x11_1 < (l0.length : Int)
    ·rw [if_pos c3] at H; replace c3 := dT c3; obtain ⟨c4, H⟩ := iN H; replace c4 := dT c4; obtain ⟨c5, H⟩ := iN H; replace c5 := dT c5; obtain ⟨c6, H⟩ := iN H; have c6b0 := eq_true c6; have c6b1 := decide_eq_true c6
     try have c6b2 : (9223372036854775807 < 1 + (dx ByteArray.empty l0 x11_1).size) = False := eq_false (Nat.not_lt.2 c6)
     obtain ⟨c7, H⟩ := iN H; have c7b0 := eq_true c7; have c7b1 := decide_eq_true c7
     try have c7b2 : (9223372036854775807 < x3_1.size + (1 + (dx ByteArray.empty l0 x11_1).size)) = False := eq_false (Nat.not_lt.2 c7)
     have H' := aM H; clear H; obtain ⟨p323, q323, ad323, e323, hx323_0⟩ := iX (Kd.ek HR0.out x11_1); cases e323; go_wp2; go_roundg k1
     case measure => have := HK1.out; omega
     case rel => exact ⟨(x3_1 ++ ((⟨#[47]⟩ : ByteArray) ++ (dx ByteArray.empty l0 x11_1))), (wrap64 (x11_1 + 1)), sR, sR, H', ⟨by have := HK1.out; omega⟩, by repeat (first | exact bR.refl _ | apply bR.step)⟩
    ·rw [if_neg c3] at H; replace c3 := dF c3; obtain rfl := sI H; go_wp2; go_ret
     exact eD
def jW.f (k : Nat) (a0 : ByteArray) : Option (ByteArray) := (aT.f k a0).bind fun t324 => (if 0 ≤ (wrap64 ((t324.length : Int) - 1)) then (if (wrap64 ((t324.length : Int) - 1)) ≤ (t324.length : Int) then ((eF.f k (t324.take ((wrap64 ((t324.length : Int) - 1)) : Int).toNat)).bind fun t331 => (if 0 < (a0.size : Int) then (if (bt a0 0) = 47 then (some t331) else (if (t324.length : Int) = 1 then (some (⟨#[46]⟩ : ByteArray)) else (if 1 ≤ (t331.size : Int) then (some (t331.extract 1 t331.size)) else (none)))) else (none))) else (none)) else (none))
theorem jW.calls (k : Nat) (a0 : ByteArray) (r : ByteArray) (w : World) (h : jW.f k a0 = some r) :
  Calls Tryz.prog 45 #[.string a0] w fun e w' => e = .returned (.string r) ∧ Below w.heap.size w w' := by
 have HB := b0 w; have H : ((aT.f k a0).bind fun t324 => (if 0 ≤ (wrap64 ((t324.length : Int) - 1)) then (if (wrap64 ((t324.length : Int) - 1)) ≤ (t324.length : Int) then ((eF.f k (t324.take ((wrap64 ((t324.length : Int) - 1)) : Int).toNat)).bind fun t331 => (if 0 < (a0.size : Int) then (if (bt a0 0) = 47 then (some t331) else (if (t324.length : Int) = 1 then (some (⟨#[46]⟩ : ByteArray)) else (if 1 ≤ (t331.size : Int) then (some (t331.extract 1 t331.size)) else (none)))) else (none))) else (none)) else (none))) = some r := h; clear h; obtain ⟨t324, A2, H⟩ := bS H; (try dsimp only at H); obtain ⟨ji3, hji3⟩ : ∃ j_ : Int, (wrap64 ((t324.length : Int) - 1)) = j_ := ⟨_, rfl⟩; replace H : (if 0 ≤ (ji3) then (if (ji3) ≤ (t324.length : Int) then ((eF.f k (t324.take ((ji3) : Int).toNat)).bind fun t331 => (if 0 < (a0.size : Int) then (if (bt a0 0) = 47 then (some t331) else (if (t324.length : Int) = 1 then (some (⟨#[46]⟩ : ByteArray)) else (if 1 ≤ (t331.size : Int) then (some (t331.extract 1 t331.size)) else (none)))) else (none))) else (none)) else (none)) = some r := by first | (rw [hji3] at H; exact H) | (simp only [hji3] at H ⊢; exact H)
 (try rw [hji3] at A2); have hji3w : (IntKind.i64.wrap ((t324.length : Int) - 1)) = ji3 := (fQ _).trans hji3; by_cases c4 : 0 ≤ (ji3)
 ·rw [if_pos c4] at H; have c4b0 := eq_true c4; have c4b1 := decide_eq_true c4; clear c4; obtain ⟨c5, H⟩ := iN H; have c5b0 := eq_true c5; have c5b1 := decide_eq_true c5; clear c5; obtain ⟨y327, hy327⟩ : ∃ y_ : List ByteArray, y_ = (t324.take ((ji3) : Int).toNat) := ⟨_, rfl⟩; replace H : ((eF.f k y327).bind fun t331 => (if 0 < (a0.size : Int) then (if (bt a0 0) = 47 then (some t331) else (if (t324.length : Int) = 1 then (some (⟨#[46]⟩ : ByteArray)) else (if 1 ≤ (t331.size : Int) then (some (t331.extract 1 t331.size)) else (none)))) else (none))) = some r := by first | (rw [hy327]; with_reducible exact H) | (rw [hy327]; with_reducible exact (bz H :)) | (with_reducible exact (bz H :)) | with_reducible exact H | (rw [hy327]; exact H) | exact H
  have Ny327 := aM hy327; clear hy327; obtain ⟨t331, A6, H⟩ := bS H; (try dsimp only at H); obtain ⟨c7, H⟩ := iN H; have c7b0 := decide_eq_true c7; have c7b1 : decide (0 < a0.size) = true := decide_eq_true (by omega); clear c7; by_cases c9 : (bt a0 0) = 47
  ·rw [if_pos c9] at H; obtain ⟨_, _⟩ := eQ c9; clear c9; obtain rfl := sI H; go_enter Tryz.func45, Tryz.ntmps45
   exact dB5
  ·rw [if_neg c9] at H; obtain ⟨_, _⟩ := nQ c9; by_cases c13 : (t324.length : Int) = 1
   ·rw [if_pos c13] at H; obtain ⟨c13b0, c13b1⟩ := eQ c13; clear c13; obtain rfl := sI H; go_enter Tryz.func45, Tryz.ntmps45
    exact dB5
   ·rw [if_neg c13] at H; obtain ⟨c13b0, c13b1⟩ := nQ c13; obtain ⟨c17, H⟩ := iN H; have c17b0 := eq_true c17; have c17b1 := decide_eq_true c17; clear c17; obtain rfl := sI H; go_enter Tryz.func45, Tryz.ntmps45
    exact dB5
 ·rw [if_neg c4] at H; exact absurd H (by simp)
def jK.f (k : Nat) (a0 : ByteArray) : Option (ByteArray) := (aT.f k a0).bind fun t332 => (if (t332.length : Int) = 0 then (some (⟨#[]⟩ : ByteArray)) else (if 0 ≤ (wrap64 ((t332.length : Int) - 1)) then (if (wrap64 ((t332.length : Int) - 1)) < (t332.length : Int) then (if (dx ByteArray.empty t332 (wrap64 ((t332.length : Int) - 1))).toList = ([46, 46] : List UInt8) then (some (⟨#[]⟩ : ByteArray)) else (some (dx ByteArray.empty t332 (wrap64 ((t332.length : Int) - 1))))) else (none)) else (none)))
theorem jK.calls (k : Nat) (a0 : ByteArray) (r : ByteArray) (w : World) (h : jK.f k a0 = some r) :
  Calls Tryz.prog 46 #[.string a0] w fun e w' => e = .returned (.string r) ∧ Below w.heap.size w w' := by
 have HB := b0 w; have H : ((aT.f k a0).bind fun t332 => (if (t332.length : Int) = 0 then (some (⟨#[]⟩ : ByteArray)) else (if 0 ≤ (wrap64 ((t332.length : Int) - 1)) then (if (wrap64 ((t332.length : Int) - 1)) < (t332.length : Int) then (if (dx ByteArray.empty t332 (wrap64 ((t332.length : Int) - 1))).toList = ([46, 46] : List UInt8) then (some (⟨#[]⟩ : ByteArray)) else (some (dx ByteArray.empty t332 (wrap64 ((t332.length : Int) - 1))))) else (none)) else (none)))) = some r := h; clear h; obtain ⟨t332, A2, H⟩ := bS H; (try dsimp only at H); by_cases c3 : (t332.length : Int) = 0
 ·rw [if_pos c3] at H; obtain ⟨_, _⟩ := eQ c3; clear c3; obtain rfl := sI H; go_enter Tryz.func46, Tryz.ntmps46
  go_wp2_with (first | ((with_reducible refine gt 74 rfl ?_); refine gL 74 5 Tryz.func74 #[.string a0] ?_; (with_reducible refine (aT.calls k a0 t332 _ A2.out).mono ?_); rintro e w4 ⟨v333, rfl, ho0, hb⟩; refine ⟨_, rfl, ?_⟩; have HO334 := aM (Kd.dA ho0 (aA sB)); replace HB := nSB hb; try clear hb; obtain ⟨Ao5, co5, eo5⟩ := Kd.aU HO334.out; subst eo5))
  go_ret
  exact ⟨sE, sB⟩
 ·rw [if_neg c3] at H; obtain ⟨_, _⟩ := nQ c3; have c3b2 : ¬ (t332 = []) := fun h_ => c3 (by rw [h_]; rfl)
  obtain ⟨ji6, hji6⟩ : ∃ j_ : Int, (wrap64 ((t332.length : Int) - 1)) = j_ := ⟨_, rfl⟩; replace H : (if 0 ≤ (ji6) then (if (ji6) < (t332.length : Int) then (if (dx ByteArray.empty t332 (ji6)).toList = ([46, 46] : List UInt8) then (some (⟨#[]⟩ : ByteArray)) else (some (dx ByteArray.empty t332 (ji6)))) else (none)) else (none)) = some r := by first | (rw [hji6] at H; exact H) | (simp only [hji6] at H ⊢; exact H)
  (try rw [hji6] at A2); have hji6w : (IntKind.i64.wrap ((t332.length : Int) - 1)) = ji6 := (fQ _).trans hji6; by_cases c7 : 0 ≤ (ji6)
  ·rw [if_pos c7] at H; replace c7 := dT c7; obtain ⟨c8, H⟩ := iN H; replace c8 := dT c8; by_cases c9 : (dx ByteArray.empty t332 (ji6)).toList = ([46, 46] : List UInt8)
   ·rw [if_pos c9] at H; obtain ⟨_, _⟩ := eQ c9; clear c9; obtain rfl := sI H; go_enter Tryz.func46, Tryz.ntmps46
    go_wp2_with (first | ((with_reducible refine gt 74 rfl ?_); refine gL 74 5 Tryz.func74 #[.string a0] ?_; (with_reducible refine (aT.calls k a0 t332 _ A2.out).mono ?_); rintro e w10 ⟨v333, rfl, ho0, hb⟩; refine ⟨_, rfl, ?_⟩; have HO334 := aM (Kd.dA ho0 (aA sB)); replace HB := nSB hb; try clear hb; obtain ⟨Ao11, co11, eo11⟩ := Kd.aU HO334.out; subst eo11; obtain ⟨p335, q335, ad335, e335, hx335_0⟩ := iX (Kd.ek (Kd.ai HO334.out).2.2 (ji6)); cases e335))
    exact AA
   ·rw [if_neg c9] at H; obtain ⟨_, _⟩ := nQ c9; obtain rfl := sI H; go_enter Tryz.func46, Tryz.ntmps46
    go_wp2_with (first | ((with_reducible refine gt 74 rfl ?_); refine gL 74 5 Tryz.func74 #[.string a0] ?_; (with_reducible refine (aT.calls k a0 t332 _ A2.out).mono ?_); rintro e w12 ⟨v333, rfl, ho0, hb⟩; refine ⟨_, rfl, ?_⟩; have HO334 := aM (Kd.dA ho0 (aA sB)); replace HB := nSB hb; try clear hb; obtain ⟨Ao13, co13, eo13⟩ := Kd.aU HO334.out; subst eo13; obtain ⟨p335, q335, ad335, e335, hx335_0⟩ := iX (Kd.ek (Kd.ai HO334.out).2.2 (ji6)); cases e335; obtain ⟨p336, q336, ad336, e336, hx336_0⟩ := iX (Kd.ek (Kd.ai HO334.out).2.2 (ji6)); obtain rfl : ad335 = ad336 := (by injection e336)))
    exact AA
  ·rw [if_neg c7] at H; exact absurd H (by simp)
end Go.Proofs.YtmhjmicplaolmaaGreatDoor.PRm
