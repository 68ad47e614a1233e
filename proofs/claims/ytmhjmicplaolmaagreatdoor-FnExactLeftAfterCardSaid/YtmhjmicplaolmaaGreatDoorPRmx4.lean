import Derived.Test.YtmhjmicplaolmaaGreatDoorPRmx2
namespace Go.Proofs.YtmhjmicplaolmaaGreatDoor.PRm
open Go.RowKit Go.Proofs.YtmhjmicplaolmaaGreatDoorW.PrintWords Go.Proofs.YtmhjmicplaolmaaGreatDoorW.PrintLast Go.Proofs.YtmhjmicplaolmaaGreatDoorW.PrintMore
attribute [local go_sem] dY dW eZ eY dH dG dX dV
set_option linter.unusedVariables false
set_option linter.unusedSimpArgs false
set_option maxHeartbeats 8000000
set_option maxRecDepth 100000
/-! ### bV: function 94 -/
def bV.l0 : Nat → ByteArray → Int → List ByteArray → Int → Int → Option (List ByteArray)
 | 0, _, _, _, _, _ => none
 | k + 1, x0, x1, x5, x6, x7 => if x7 < (x0.size : Int) then (if 0 ≤ x7 then (if (bt x0 x7) = x1 then (if 0 ≤ x6 then (if x6 ≤ x7 then (if x7 ≤ (x0.size : Int) then (if x5.length < 8796093022208 then (bV.l0 k x0 x1 (x5 ++ [x0.extract (x6 : Int).toNat (x7 : Int).toNat]) (wrap64 (x7 + 1)) (wrap64 (x7 + 1))) else (none)) else (none)) else (none)) else (none)) else (bV.l0 k x0 x1 x5 x6 (wrap64 (x7 + 1)))) else (none)) else (if 0 ≤ x6 then (if x6 ≤ (x0.size : Int) then (if x5.length < 8796093022208 then (some (x5 ++ [x0.extract (x6 : Int).toNat x0.size])) else (none)) else (none)) else (none))
def bV.f (k : Nat) (a0 : ByteArray) (a1 : Int) : Option (List ByteArray) := bV.l0 k a0 a1 ([] : List ByteArray) 0 0
theorem bV.calls (k : Nat) (a0 : ByteArray) (a1 : Int) (r : List ByteArray) (w : World) (h : bV.f k a0 a1 = some r) :
  Calls Tryz.prog 94 #[.string a0, .int .u8 a1] w fun e w' => ∃ v0_ : Value, e = .returned (v0_) ∧ Kd.R Kd.string 9 w' w.heap.size (fun _ => True) v0_ r ∧ Below w.heap.size w w' := by
 have HB := b0 w; have H : (bV.l0 k a0 a1 ([] : List ByteArray) 0 0) = some r := h; clear h; have H' := aM H; clear H; go_enter Tryz.func94, Tryz.ntmps94; go_wp2
 go_loopg [5, 6, 7] k (fun kq v5 v6 v7 w' => ∃ (x5_1 : List ByteArray) (x6_1 : Int) (x7_1 : Int), v6 = .int .i64 x6_1 ∧ v7 = .int .i64 x7_1 ∧ aa (bV.l0 kq a0 a1 x5_1 x6_1 x7_1 = some r) ∧ aa (kq ≤ k) ∧ aa (Kd.R Kd.string 9 w' w.heap.size (fun _ => True) v5 x5_1) ∧ aa (Below w.heap.size w w'))
 case atStart => exact ⟨(([] : List ByteArray)), (0), (0), sR, sR, H', ⟨Nat.le_refl _⟩, ⟨by first | exact Kd.jD _ _ _ _ _ | exact Kd.N_nil _ _ _ _ _ | exact Kd.V_nil _ _ _ _ _ | exact Kd.Q_nil _ _ _ _ _ | exact Kd.oO _ _ _ _ _⟩, ⟨sB⟩⟩
 case round =>
  clear H'; obtain ⟨x5_1, x6_1, x7_1, rfl, rfl, HA, HK1, HO_5, HB⟩ := hrel; cases gk with
  | zero => exact absurd HA.out (by simp [bV.l0])
  | succ k1 =>
   have H := HA.out; clear HA; simp only [bV.l0] at H; by_cases c3 : x7_1 < (a0.size : Int)
   ·rw [if_pos c3] at H; replace c3 := dT c3; obtain ⟨c4, H⟩ := iN H; replace c4 := dT c4; by_cases c6 : (bt a0 x7_1) = a1
    ·rw [if_pos c6] at H; obtain ⟨_, _⟩ := eQ c6; clear c6; obtain ⟨c7, H⟩ := iN H; have c7b0 := eq_true c7; have c7b1 := decide_eq_true c7; clear c7; obtain ⟨c8, H⟩ := iN H; have c8b0 := eq_true c8; have c8b1 := decide_eq_true c8; clear c8; obtain ⟨c9, H⟩ := iN H; have c9b0 := eq_true c9; have c9b1 := decide_eq_true c9; clear c9; obtain ⟨c10, H⟩ := iN H; have LMc10 := aM c10; clear c10; obtain ⟨y124, hy124⟩ : ∃ y_ : List ByteArray, y_ = (x5_1 ++ [a0.extract (x6_1 : Int).toNat (x7_1 : Int).toNat]) := ⟨_, rfl⟩; replace H : (bV.l0 k1 a0 a1 y124 (wrap64 (x7_1 + 1)) (wrap64 (x7_1 + 1))) = some r := by first | (rw [hy124]; with_reducible exact H) | (rw [hy124]; with_reducible exact (bz H :)) | (with_reducible exact (bz H :)) | with_reducible exact H | (rw [hy124]; exact H) | exact H
     have Ny124 := aM hy124; clear hy124; have H' := aM H; clear H; have p5 : 0 ≤ (x7_1 : Int) := sO; have q5 : x7_1 < (a0.size : Int) := sO; have hx5 := kv a0 x7_1; replace p5 := eq_true p5; replace q5 := eq_true q5
     go_wp2_with (first | ((with_reducible refine bO (b := .append) (xs := #[.tmp 19, .tmp 24]) rfl ?_); at_builtin; refine Kd.gD Kd.string (w0 := w) w.heap.size rfl (.tmp 19) (.tmp 24) 38 9 (.string ⟨#[]⟩) 16 rfl Tryz.underlying38 lG rfl (by decide) (by omega) u5 x5_1 (a0.extract (x6_1 : Int).toNat (x7_1 : Int).toNat) [.string (a0.extract (x6_1 : Int).toNat (x7_1 : Int).toNat)] (fun _ => True) (fun _ => False) rfl rfl ?aP (fun _ hk => hk.elim) ?aF ?aO ?aB ?aS ?aL ?_; (case aP => exact rfl); (case aB => exact sB); (case aF => exact (fun _ _ => trivial)); (case aO => exact (rA HO_5)); (case aS => exact (aA sB)); (case aL => have := LMc10.out; omega); intro v125 w11 ho hb hg hat; rw [← Ny124.out] at ho; replace HB := aM (hb); have HO126 := aM (ho); clear HO_5; clear ho hb hg hat))
     go_roundg k1
     case measure => have := HK1.out; omega
     case rel => exact ⟨(y124), (wrap64 (x7_1 + 1)), (wrap64 (x7_1 + 1)), sR, sR, H', ⟨by have := HK1.out; omega⟩, ⟨rR HO126⟩, ⟨sB⟩⟩
    ·rw [if_neg c6] at H; obtain ⟨_, _⟩ := nQ c6; have H' := aM H; clear H; have p5 : 0 ≤ (x7_1 : Int) := sO; have q5 : x7_1 < (a0.size : Int) := sO; have hx5 := kv a0 x7_1; replace p5 := eq_true p5; replace q5 := eq_true q5; go_wp2; go_roundg k1
     case measure => have := HK1.out; omega
     case rel => exact ⟨(x5_1), (x6_1), (wrap64 (x7_1 + 1)), sR, sR, H', ⟨by have := HK1.out; omega⟩, ⟨rR HO_5⟩, ⟨sB⟩⟩
   ·rw [if_neg c3] at H; replace c3 := dF c3; by_cases c12 : 0 ≤ x6_1
    ·rw [if_pos c12] at H; have c12b0 := eq_true c12; have c12b1 := decide_eq_true c12; clear c12; obtain ⟨c13, H⟩ := iN H; have c13b0 := eq_true c13; have c13b1 := decide_eq_true c13; clear c13; obtain ⟨c14, H⟩ := iN H; have LMc14 := aM c14; clear c14; obtain ⟨y127, hy127⟩ : ∃ y_ : List ByteArray, y_ = (x5_1 ++ [a0.extract (x6_1 : Int).toNat a0.size]) := ⟨_, rfl⟩; replace H : (some y127) = some r := by first | (rw [hy127]; with_reducible exact H) | (rw [hy127]; with_reducible exact (bz H :)) | (with_reducible exact (bz H :)) | with_reducible exact H | (rw [hy127]; exact H) | exact H
     have Ny127 := aM hy127; clear hy127; obtain rfl := sI H
     go_wp2_with (first | ((with_reducible refine bO (b := .append) (xs := #[.tmp 28, .tmp 32]) rfl ?_); at_builtin; refine Kd.gD Kd.string (w0 := w) w.heap.size rfl (.tmp 28) (.tmp 32) 38 9 (.string ⟨#[]⟩) 16 rfl Tryz.underlying38 lG rfl (by decide) (by omega) u5 x5_1 (a0.extract (x6_1 : Int).toNat a0.size) [.string (a0.extract (x6_1 : Int).toNat a0.size)] (fun _ => True) (fun _ => False) rfl rfl ?aP (fun _ hk => hk.elim) ?aF ?aO ?aB ?aS ?aL ?_; (case aP => exact rfl); (case aB => exact sB); (case aF => exact (fun _ _ => trivial)); (case aO => exact (rA HO_5)); (case aS => exact (aA sB)); (case aL => have := LMc14.out; omega); intro v128 w15 ho hb hg hat; rw [← Ny127.out] at ho; replace HB := aM (hb); have HO129 := aM (ho); clear HO_5; clear ho hb hg hat))
     go_ret
     exact ⟨_, sE, by (with_reducible repeat (first | apply Kd.R_alloc | apply Kd.bi | apply Kd.aY)); exact HO129.out, sB⟩
    ·rw [if_neg c12] at H; exact absurd H (by simp)
def bH.l0 : Nat → List ByteArray → List ByteArray → Int → Int → Option (List ByteArray)
 | 0, _, _, _, _ => none
 | k + 1, x3, x7, x8, x9 => if x9 < x8 then (if 0 ≤ x9 then (if x9 < (x7.length : Int) then (if (dx ByteArray.empty x7 x9).toList = ([] : List UInt8) then (bH.l0 k x3 x7 x8 (wrap64 (x9 + 1))) else (if x3.length < 8796093022208 then (bH.l0 k (x3 ++ [dx ByteArray.empty x7 x9]) x7 x8 (wrap64 (x9 + 1))) else (none))) else (none)) else (none)) else (some x3)
def bH.f (k : Nat) (a0 : ByteArray) : Option (List ByteArray) := (bV.f k a0 47).bind fun t130 => (bH.l0 k ([] : List ByteArray) t130 (t130.length : Int) 0)
theorem bH.calls (k : Nat) (a0 : ByteArray) (r : List ByteArray) (w : World) (h : bH.f k a0 = some r) :
  Calls Tryz.prog 73 #[.string a0] w fun e w' => ∃ v0_ : Value, e = .returned (v0_) ∧ Kd.R Kd.string 9 w' w.heap.size (fun _ => True) v0_ r ∧ Below w.heap.size w w' := by
 have HB := b0 w; have H : ((bV.f k a0 47).bind fun t130 => (bH.l0 k ([] : List ByteArray) t130 (t130.length : Int) 0)) = some r := h; clear h; obtain ⟨t130, A2, H⟩ := bS H; (try dsimp only at H); have H' := aM H; clear H; go_enter Tryz.func73, Tryz.ntmps73
 go_wp2_with (first | ((with_reducible refine gt 94 rfl ?_); refine gL 94 7 Tryz.func94 #[.string a0, .int .u8 47] ?_; (with_reducible refine (bV.calls k a0 47 t130 _ A2.out).mono ?_); rintro e w3 ⟨v131, rfl, ho0, hb⟩; refine ⟨_, rfl, ?_⟩; have HO132 := aM (Kd.dA ho0 (aA sB)); replace HB := nSB hb; try clear hb; obtain ⟨Ao4, co4, eo4⟩ := Kd.aU HO132.out; subst eo4))
 go_loopg [3, 9] k (fun kq v3 v9 w' => ∃ (x3_1 : List ByteArray) (x9_1 : Int), v9 = .int .i64 x9_1 ∧ aa (bH.l0 kq x3_1 t130 (t130.length : Int) x9_1 = some r) ∧ aa (kq ≤ k) ∧ aa (Kd.R Kd.string 9 w' w.heap.size (fun k_ => some k_ ≠ ((.slice Ao4 t130.length co4) : Value).ownBlock) v3 x3_1) ∧ aa (Kd.R Kd.string 9 w' w.heap.size (fun k_ => some k_ ≠ (v3 : Value).ownBlock) (.slice Ao4 t130.length co4) t130) ∧ aa (Below w.heap.size w w'))
 case atStart => exact ⟨(([] : List ByteArray)), (0), sR, H', ⟨Nat.le_refl _⟩, ⟨by first | exact Kd.jD _ _ _ _ _ | exact Kd.N_nil _ _ _ _ _ | exact Kd.V_nil _ _ _ _ _ | exact Kd.Q_nil _ _ _ _ _ | exact Kd.oO _ _ _ _ _⟩, ⟨by (with_reducible repeat (first | apply Kd.R_alloc | apply Kd.bi | apply Kd.aY)); exact Kd.aW HO132.out (fun _ hk => (by simp [Value.ownBlock]))⟩, ⟨sB⟩⟩
 case round =>
  clear H'; obtain ⟨x3_1, x9_1, rfl, HA, HK1, HO_3, HO_7, HB⟩ := hrel; cases gk with
  | zero => exact absurd HA.out (by simp [bH.l0])
  | succ k1 =>
   have H := HA.out; clear HA; simp only [bH.l0] at H; by_cases c5 : x9_1 < (t130.length : Int)
   ·rw [if_pos c5] at H; replace c5 := dT c5; obtain ⟨c6, H⟩ := iN H; replace c6 := dT c6; obtain ⟨c7, H⟩ := iN H; replace c7 := dT c7; by_cases c8 : (dx ByteArray.empty t130 x9_1).toList = ([] : List UInt8)
    ·rw [if_pos c8] at H; obtain ⟨_, _⟩ := eQ c8; clear c8; have H' := aM H; clear H; obtain ⟨p133, q133, ad133, e133, hx133_0⟩ := iX (Kd.ek (Kd.ai HO_7.out).2.2 x9_1); cases e133; go_wp2; go_roundg k1
     case measure => have := HK1.out; omega
     case rel => exact ⟨(x3_1), (wrap64 (x9_1 + 1)), sR, H', ⟨by have := HK1.out; omega⟩, ⟨rR HO_3⟩, ⟨rR HO_7⟩, ⟨sB⟩⟩
    ·rw [if_neg c8] at H; obtain ⟨_, _⟩ := nQ c8; obtain ⟨c9, H⟩ := iN H; have LMc9 := aM c9; clear c9; obtain ⟨y134, hy134⟩ : ∃ y_ : List ByteArray, y_ = (x3_1 ++ [dx ByteArray.empty t130 x9_1]) := ⟨_, rfl⟩; replace H : (bH.l0 k1 y134 t130 (t130.length : Int) (wrap64 (x9_1 + 1))) = some r := by first | (rw [hy134]; with_reducible exact H) | (rw [hy134]; with_reducible exact (bz H :)) | (with_reducible exact (bz H :)) | with_reducible exact H | (rw [hy134]; exact H) | exact H
     have Ny134 := aM hy134; clear hy134; have H' := aM H; clear H; obtain ⟨p133, q133, ad133, e133, hx133_0⟩ := iX (Kd.ek (Kd.ai HO_7.out).2.2 x9_1); cases e133
     go_wp2_with (first | ((with_reducible refine bO (b := .append) (xs := #[.tmp 15, .tmp 17]) rfl ?_); at_builtin; refine Kd.gD Kd.string (w0 := w) w.heap.size rfl (.tmp 15) (.tmp 17) 38 9 (.string ⟨#[]⟩) 16 rfl Tryz.underlying38 lG rfl (by decide) (by omega) u3 x3_1 (dx ByteArray.empty t130 x9_1) [.string (dx ByteArray.empty t130 x9_1)] (fun k_ => some k_ ≠ (.slice (some ad133) t130.length co4 : Value).ownBlock) (fun _ => False) rfl rfl ?aP (fun _ hk => hk.elim) ?aF ?aO ?aB ?aS ?aL ?_; (case aP => exact rfl); (case aB => exact sB); (case aF => exact (fun k_ hk => Kd.fresh' (Kd.kJ (rA HO_7)) k_ hk)); (case aO => exact (rA HO_3)); (case aS => exact (aA sB)); (case aL => have := LMc9.out; omega); intro v135 w10 ho hb hg hat; rw [← Ny134.out] at ho; replace HO_7 := aM (Kd.fO (ok := (fun _ => True)) (by (with_reducible repeat (first | apply Kd.R_alloc | apply Kd.bi | apply Kd.aY)); exact Kd.aW HO_7.out (fun _ hk => ⟨trivial, hk⟩)) hg hat); replace HB := aM (hb); have HO136 := aM (ho); clear HO_3; clear ho hb hg hat))
     go_roundg k1
     case measure => have := HK1.out; omega
     case rel => exact ⟨(y134), (wrap64 (x9_1 + 1)), sR, H', ⟨by have := HK1.out; omega⟩, ⟨rR HO136⟩, ⟨by (with_reducible repeat (first | apply Kd.R_alloc | apply Kd.bi | apply Kd.aY)); exact Kd.aW HO_7.out (fun _ hk => hk.2)⟩, ⟨sB⟩⟩
   ·exact Az
def dz.l0 : Nat → ByteArray → List ByteArray → Int → Int → Option (Bool)
 | 0, _, _, _, _ => none
 | k + 1, x0, x6, x7, x8 => if x8 < x7 then (if 0 ≤ x8 then (if x8 < (x6.length : Int) then ((aK.f k (dx ByteArray.empty x6 x8)).bind fun t141 => (if t141 = true then (dz.l0 k x0 x6 x7 (wrap64 (x8 + 1))) else (if (dx ByteArray.empty x6 x8).toList = ([46] : List UInt8) then (dz.l0 k x0 x6 x7 (wrap64 (x8 + 1))) else (if (dx ByteArray.empty x6 x8).toList = ([46, 46] : List UInt8) then (dz.l0 k x0 x6 x7 (wrap64 (x8 + 1))) else (some false))))) else (none)) else (none)) else ((ay.f (x0.size : Int) 1 60).bind fun t142 => (some t142))
def dz.f (k : Nat) (a0 : ByteArray) : Option (Bool) := (bH.f k a0).bind fun t137 => (dz.l0 k a0 t137 (t137.length : Int) 0)
theorem dz.calls (k : Nat) (a0 : ByteArray) (r : Bool) (w : World) (h : dz.f k a0 = some r) :
  Calls Tryz.prog 81 #[.string a0] w fun e w' => e = .returned (.bool r) ∧ Below w.heap.size w w' := by
 have HB := b0 w; have H : ((bH.f k a0).bind fun t137 => (dz.l0 k a0 t137 (t137.length : Int) 0)) = some r := h; clear h; obtain ⟨t137, A2, H⟩ := bS H; (try dsimp only at H); have H' := aM H; clear H; go_enter Tryz.func81, Tryz.ntmps81
 go_wp2_with (first | ((with_reducible refine gt 73 rfl ?_); refine gL 73 6 Tryz.func73 #[.string a0] ?_; (with_reducible refine (bH.calls k a0 t137 _ A2.out).mono ?_); rintro e w3 ⟨v138, rfl, ho0, hb⟩; refine ⟨_, rfl, ?_⟩; have HO139 := aM (Kd.dA ho0 (aA sB)); replace HB := nSB hb; try clear hb; obtain ⟨Ao4, co4, eo4⟩ := Kd.aU HO139.out; subst eo4))
 go_loopg [8] k (fun kq v8 w' => ∃ (x8_1 : Int), v8 = .int .i64 x8_1 ∧ aa (dz.l0 kq a0 t137 (t137.length : Int) x8_1 = some r) ∧ aa (kq ≤ k) ∧ aa (Kd.R Kd.string 9 w' w.heap.size (fun _ => True) (.slice Ao4 t137.length co4) t137) ∧ aa (Below w.heap.size w w'))
 case atStart => exact ⟨(0), sR, H', ⟨Nat.le_refl _⟩, ⟨rR HO139⟩, ⟨sB⟩⟩
 case round =>
  clear H'; obtain ⟨x8_1, rfl, HA, HK1, HO_6, HB⟩ := hrel; cases gk with
  | zero => exact absurd HA.out (by simp [dz.l0])
  | succ k1 =>
   have H := HA.out; clear HA; simp only [dz.l0] at H; by_cases c5 : x8_1 < (t137.length : Int)
   ·rw [if_pos c5] at H; replace c5 := dT c5; obtain ⟨c6, H⟩ := iN H; replace c6 := dT c6; obtain ⟨c7, H⟩ := iN H; replace c7 := dT c7; obtain ⟨t141, A8, H⟩ := bS H; (try dsimp only at H); by_cases c9 : t141 = true
    ·subst c9; rw [if_pos rfl] at H; have H' := aM H; clear H; obtain ⟨p140, q140, ad140, e140, hx140_0⟩ := iX (Kd.ek (Kd.ai HO_6.out).2.2 x8_1); cases e140
     go_wp2_with (first | ((with_reducible refine gt 96 rfl ?_); refine gL 96 13 Tryz.func96 #[.string (dx ByteArray.empty t137 x8_1)] ?_; (with_reducible refine (aK.calls k1 (dx ByteArray.empty t137 x8_1) true _ A8.out).mono ?_); rintro e w' ⟨rfl, ⟨nd, rfl⟩⟩; refine ⟨_, rfl, ?_⟩))
     go_roundg k1
     case measure => have := HK1.out; omega
     case rel => exact ⟨(wrap64 (x8_1 + 1)), sR, H', ⟨by have := HK1.out; omega⟩, ⟨rR HO_6⟩, ⟨sB⟩⟩
    ·replace c9 := Bool.eq_false_iff.mpr c9; subst c9; rw [if_neg nt] at H; by_cases c10 : (dx ByteArray.empty t137 x8_1).toList = ([46] : List UInt8)
     ·exact AR
     ·rw [if_neg c10] at H; obtain ⟨_, _⟩ := nQ c10; by_cases c11 : (dx ByteArray.empty t137 x8_1).toList = ([46, 46] : List UInt8)
      ·rename _ => c10; exact AR
      ·rw [if_neg c11] at H; obtain ⟨_, _⟩ := nQ c11; obtain rfl := sI H; obtain ⟨p140, q140, ad140, e140, hx140_0⟩ := iX (Kd.ek (Kd.ai HO_6.out).2.2 x8_1); cases e140
       go_wp2_with (first | ((with_reducible refine gt 96 rfl ?_); refine gL 96 13 Tryz.func96 #[.string (dx ByteArray.empty t137 x8_1)] ?_; (with_reducible refine (aK.calls k1 (dx ByteArray.empty t137 x8_1) false _ A8.out).mono ?_); rintro e w' ⟨rfl, ⟨nd, rfl⟩⟩; refine ⟨_, rfl, ?_⟩))
       go_ret
       exact ⟨sE, sB⟩
   ·rw [if_neg c5] at H; replace c5 := dF c5; obtain ⟨t142, A12, H⟩ := bS H; (try dsimp only at H); obtain rfl := sI H
    go_wp2_with (first | ((with_reducible refine gt 34 rfl ?_); refine gL 34 26 Tryz.func34 #[.int .i64 (a0.size : Int), .int .i64 1, .int .i64 60] ?_; (with_reducible refine (ay.calls (a0.size : Int) 1 60 t142 _ A12.out).mono ?_); rintro e w' ⟨rfl, ⟨nd, rfl⟩⟩; refine ⟨_, rfl, ?_⟩))
    go_ret
    exact ⟨sE, sB⟩
end Go.Proofs.YtmhjmicplaolmaaGreatDoor.PRm
