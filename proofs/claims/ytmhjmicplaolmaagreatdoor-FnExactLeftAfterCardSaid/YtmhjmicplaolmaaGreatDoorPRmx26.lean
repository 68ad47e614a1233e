import Derived.Test.YtmhjmicplaolmaaGreatDoorPRmx25
namespace Go.Proofs.YtmhjmicplaolmaaGreatDoor.PRm
open Go.RowKit Go.Proofs.YtmhjmicplaolmaaGreatDoorW.PrintWords Go.Proofs.YtmhjmicplaolmaaGreatDoorW.PrintLast Go.Proofs.YtmhjmicplaolmaaGreatDoorW.PrintMore
attribute [local go_sem] dY dW eZ eY dH dG dX dV
set_option linter.unusedVariables false
set_option linter.unusedSimpArgs false
set_option maxHeartbeats 8000000
set_option maxRecDepth 100000
/-! ### bu: function 16 -/
def bu.l0 : Nat → List ByteArray → Int → Int → Option (Int)
 | 0, _, _, _ => none
 | k + 1, x0, x1, x5 => if x5 < (x0.length : Int) then (if 0 ≤ x5 then ((bv.f k x1).bind fun t585 => (if (dx ByteArray.empty x0 x5).toList = t585.toList then (bu.l0 k x0 (wrap64 (x1 + 1)) (wrap64 (x5 + 1))) else (some (-1)))) else (none)) else (some x1)
def bu.f (k : Nat) (l0 : List ByteArray) (a1 : Int) : Option (Int) := bu.l0 k l0 a1 0
theorem bu.calls (k : Nat) (A0 : Option Addr) (c0 : Nat) (l0 : List ByteArray) (a1 : Int) (r : Int) (w : World) (hr0 : Kd.C Kd.string w A0 l0.length l0) (hc0 : l0.length ≤ c0) (h : bu.f k l0 a1 = some r) :
  Calls Tryz.prog 16 #[.slice A0 l0.length c0, .int .i64 a1] w fun e w' => e = .returned (.int .i64 r) ∧ Below w.heap.size w w' := by
 have HR0 := aM hr0; have HC0 := aM hc0; clear hr0 hc0; have HB := b0 w; have H : (bu.l0 k l0 a1 0) = some r := h; clear h; have H' := aM H; clear H; go_enter Tryz.func16, Tryz.ntmps16; go_wp2
 go_loopg [1, 5] k (fun kq v1 v5 w' => ∃ (x1_1 : Int) (x5_1 : Int), v1 = .int .i64 x1_1 ∧ v5 = .int .i64 x5_1 ∧ aa (bu.l0 kq l0 x1_1 x5_1 = some r) ∧ aa (kq ≤ k) ∧ aa (Below w.heap.size w w'))
 case atStart => exact ⟨(a1), (0), sR, sR, H', ⟨Nat.le_refl _⟩, ⟨sB⟩⟩
 case round =>
  clear H'; obtain ⟨x1_1, x5_1, rfl, rfl, HA, HK1, HB⟩ := hrel; cases gk with
  | zero => exact absurd HA.out (by simp [bu.l0])
  | succ k1 =>
   have H := HA.out; clear HA; simp only [bu.l0] at H; by_cases c3 : x5_1 < (l0.length : Int)
   ·rw [if_pos c3] at H; replace c3 := dT c3; obtain ⟨c4, H⟩ := iN H; replace c4 := dT c4; obtain ⟨t585, A5, H⟩ := bS H; (try dsimp only at H); by_cases c6 : (dx ByteArray.empty l0 x5_1).toList = t585.toList
    ·rw [if_pos c6] at H; obtain ⟨_, _⟩ := eQ c6; clear c6; have H' := aM H; clear H
     try go_wp2
     replace HB := aM (aI HB.out); obtain ⟨p584, q584, ad584, e584, hx584_0⟩ := iX (Kd.ek HR0.out x5_1); have hw584_0 := hx584_0; cases e584; replace hx584_0 := hB HB hx584_0; refine kr (n := 7) (S := fun w' => w'.cell? (ad584.add (x5_1).toNat) = some (.string (dx ByteArray.empty l0 x5_1))) (ds := []) #[false, false, false, false, false, false, false] (by kernel_rfl) rfl rfl ((hB HB hw584_0 :)) (fun hHeld => ?_); generalize wr.drew = w7 at HB hx584_0 hHeld ⊢; refine pu 0 12 ?_; refine pu 1 13 ?_; refine pu 2 14 ?_; refine pu 4 16 ?_; refine tk1 3 15 ?_; refine on 5 17 (fun K hK => ?_); refine gC Tryz.func30 #[.int .i64 x1_1] ?_; (with_reducible refine (bv.calls k1 x1_1 t585 _ A5.out).mono ?_); rintro e w8 ⟨rfl, hb⟩; refine ⟨_, rfl, ?_⟩; replace HB := nSB hb; refine hK.out _ _ ((hB HB hw584_0 :)) (fun hHeld => ?_); clear hK K; refine nm ?_; refine pu 6 18 ?_; refine dn ?_
     try go_wp2
     go_roundg k1
     case measure => have := HK1.out; omega
     case rel => exact ⟨(wrap64 (x1_1 + 1)), (wrap64 (x5_1 + 1)), sR, sR, H', ⟨by have := HK1.out; omega⟩, ⟨sB⟩⟩
    ·rw [if_neg c6] at H; obtain ⟨_, _⟩ := nQ c6; obtain rfl := sI H
     try go_wp2
     replace HB := aM (aI HB.out); obtain ⟨p584, q584, ad584, e584, hx584_0⟩ := iX (Kd.ek HR0.out x5_1); have hw584_0 := hx584_0; cases e584; replace hx584_0 := hB HB hx584_0; refine kr (n := 7) (S := fun w' => w'.cell? (ad584.add (x5_1).toNat) = some (.string (dx ByteArray.empty l0 x5_1))) (ds := []) #[false, false, false, false, false, false, false] (by kernel_rfl) rfl rfl ((hB HB hw584_0 :)) (fun hHeld => ?_); generalize wr.drew = w9 at HB hx584_0 hHeld ⊢; refine pu 0 12 ?_; refine pu 1 13 ?_; refine pu 2 14 ?_; refine pu 4 16 ?_; refine tk1 3 15 ?_; refine on 5 17 (fun K hK => ?_); refine gC Tryz.func30 #[.int .i64 x1_1] ?_; (with_reducible refine (bv.calls k1 x1_1 t585 _ A5.out).mono ?_); rintro e w10 ⟨rfl, hb⟩; refine ⟨_, rfl, ?_⟩; replace HB := nSB hb; refine hK.out _ _ ((hB HB hw584_0 :)) (fun hHeld => ?_); clear hK K; refine nm ?_; refine pu 6 18 ?_; refine dn ?_
     try go_wp2
     go_ret
     exact ⟨sE, sB⟩
   ·rw [if_neg c3] at H; replace c3 := dF c3; obtain rfl := sI H; go_wp2; go_ret
    exact ⟨sE, sB⟩
end Go.Proofs.YtmhjmicplaolmaaGreatDoor.PRm
