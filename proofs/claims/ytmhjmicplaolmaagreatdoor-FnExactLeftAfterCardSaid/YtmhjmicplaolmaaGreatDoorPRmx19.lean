import Derived.Test.YtmhjmicplaolmaaGreatDoorPRmx0
namespace Go.Proofs.YtmhjmicplaolmaaGreatDoor.PRm
open Go.RowKit Go.Proofs.YtmhjmicplaolmaaGreatDoorW.PrintWords Go.Proofs.YtmhjmicplaolmaaGreatDoorW.PrintLast Go.Proofs.YtmhjmicplaolmaaGreatDoorW.PrintMore
attribute [local go_sem] dY dW eZ eY dH dG dX dV
set_option linter.unusedVariables false
set_option linter.unusedSimpArgs false
set_option maxHeartbeats 8000000
set_option maxRecDepth 100000
/-! ### bM: function 87 -/
def bM.l0 : Nat → Int → List (S62) → Int → Int → Option (Int)
 | 0, _, _, _, _ => none
 | k + 1, x3, x7, x8, x9 => if x9 < x8 then (if 0 ≤ x9 then (if x9 < (x7.length : Int) then (bM.l0 k (wrap64 (x3 + (((r62 x7 x9).f5).size : Int))) x7 x8 (wrap64 (x9 + 1))) else (none)) else (none)) else (some x3)
def bM.f (k : Nat) (lq : List (S62)) (aq : Int) : Option (Int) := bM.l0 k 0 lq (lq.length : Int) 0
theorem bM.calls (k : Nat) (Aq : Option Addr) (cq : Nat) (lq : List (S62)) (aq : Int) (r : Int) (w : World) (hr0_0 : Kd.C k62 w Aq lq.length lq) (hc0_0 : lq.length ≤ cq) (h : bM.f k lq aq = some r) :
  Calls Tryz.prog 87 #[.agg #[.slice Aq lq.length cq, .int .i64 aq]] w fun e w' => e = .returned (.int .i64 r) ∧ Below w.heap.size w w' := by
 have hu32 := Tryz.underlying32; have hu62 := Tryz.underlying62; have Hq := aM hr0_0; have Kq := aM hc0_0; clear hr0_0 hc0_0; have HB := b0 w; have H : (bM.l0 k 0 lq (lq.length : Int) 0) = some r := h; clear h; have H' := aM H; clear H; go_enter Tryz.func87, Tryz.ntmps87
 go_wp2_with (first | ((with_reducible refine gd 1 rfl ?_); refine bxE 1 #[.slice Aq lq.length cq, .int .i64 aq] 32 ?_; intro gb445 hg w2 hbox hb; have BK445 := aM hbox; have GW445 := nGB hg; replace HB := nSB hb; clear hb hbox hg; have hcz3 := cb2 BK445))
 go_loopg [3, 9] k (fun kq v3 v9 w' => ∃ (x3_1 : Int) (x9_1 : Int), v3 = .int .i64 x3_1 ∧ v9 = .int .i64 x9_1 ∧ aa (bM.l0 kq x3_1 lq (lq.length : Int) x9_1 = some r) ∧ aa (kq ≤ k) ∧ aa (w'.heap[gb445]? = some (.cells #[(.slice Aq lq.length cq), .int .i64 aq] 32 (0, 0))) ∧ aa (Below w.heap.size w w'))
 case atStart => exact ⟨(0), (0), sR, sR, H', ⟨Nat.le_refl _⟩, ⟨sK BK445⟩, ⟨sC⟩⟩
 case round =>
  clear H'; obtain ⟨x3_1, x9_1, rfl, rfl, HA, HK1, BK445, HB⟩ := hrel; cases gk with
  | zero => exact absurd HA.out (by simp [bM.l0])
  | succ k1 =>
   have H := HA.out; clear HA; simp only [bM.l0] at H; by_cases c4 : x9_1 < (lq.length : Int)
   ·rw [if_pos c4] at H; replace c4 := dT c4; obtain ⟨c5, H⟩ := iN H; replace c5 := dT c5; obtain ⟨c6, H⟩ := iN H; replace c6 := dT c6; have H' := aM H; clear H; obtain ⟨p446, q446, ad446, A446_6, c446_6, e446, hx446_0, hx446_1, hx446_2, hx446_3, hx446_4, hx446_5, hx446_6, hl446_6, hi446_6⟩ := iX (iQ Hq.out HB x9_1); cases e446; have HR446_6 := aM hi446_6; have HC446_6 := aM hl446_6; clear hi446_6 hl446_6
    go_wp2_with (first | ((with_reducible refine gd 5 rfl ?_); refine bxE 5 #[.int .i64 0, .int .i64 0, .int .i64 0, .int .i64 0, .int .i64 0, .string (⟨#[]⟩ : ByteArray), .slice none 0 0] 62 ?_; intro gb447 hg w7 hbox hb; have BK447 := aM hbox; have GW447 := nGC hg; replace HB := nSC hb; obtain ⟨NB445_447, NB447_445, hnb8, hnc8⟩ := nM BK445 hg; replace BK445 := nK BK445 hb; clear hb hbox hg; have hcz9 := cb7 BK447))
    go_roundg k1
    case measure => have := HK1.out; omega
    case rel => exact ⟨(wrap64 (x3_1 + (((r62 lq x9_1).f5).size : Int))), (wrap64 (x9_1 + 1)), sR, sR, H', ⟨by have := HK1.out; omega⟩, ⟨sX BK445⟩, ⟨sC⟩⟩
   ·rw [if_neg c4] at H; replace c4 := dF c4; obtain rfl := sI H; go_wp2; go_ret
    exact ⟨sE, sC⟩
end Go.Proofs.YtmhjmicplaolmaaGreatDoor.PRm
