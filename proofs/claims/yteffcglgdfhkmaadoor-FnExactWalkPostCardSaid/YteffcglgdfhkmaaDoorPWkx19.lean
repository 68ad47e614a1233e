-- Written by a program of this session (wip/print2) out of the translation. Lean checks it.
import Derived.Test.YteffcglgdfhkmaaDoorPWkx0
import Derived.Test.YteffcglgdfhkmaaDoorPWkx16
import Derived.Test.YteffcglgdfhkmaaDoorPWkx17
namespace Go.Proofs.YteffcglgdfhkmaaDoor.PWk
open Go.RowKit Go.Proofs.YteffcglgdfhkmaaDoorW.PrintWords Go.Proofs.YteffcglgdfhkmaaDoorW.PrintLast Go.Proofs.YteffcglgdfhkmaaDoorW.PrintMore
attribute [local go_sem] max2_int min2_int max_two min_two max_three min_three max_four min_four   -- for this text's walks alone
set_option linter.unusedVariables false
set_option linter.unusedSimpArgs false
set_option maxHeartbeats 8000000
set_option maxRecDepth 100000

/-! ### spec_WalkPost: function 30 -/
def spec_WalkPost.f (k : Nat) (l0_0 : List (S53)) (a0_1 : Int) (a1 : Int) : Option (List ByteArray × Bool) := (spec_l7Asked.f k l0_0 a0_1 a1).bind fun t496 => (if t496 = true then ((spec_l7Walk.f k l0_0 a0_1 a1 (⟨#[46]⟩ : ByteArray) true).bind fun t497 => (some (t497, true))) else (some (([] : List ByteArray), false)))
theorem spec_WalkPost.calls (k : Nat) (A0_0 : Option Addr) (c0_0 : Nat) (l0_0 : List (S53)) (a0_1 : Int) (a1 : Int) (r1 : List ByteArray) (r2 : Bool) (w : World) (hr0_0 : Kd.C k53 w A0_0 l0_0.length l0_0) (hc0_0 : l0_0.length ≤ c0_0) (h : spec_WalkPost.f k l0_0 a0_1 a1 = some (r1, r2)) :
  Calls Tryd.prog 30 #[.agg #[.slice A0_0 l0_0.length c0_0, .int .i64 a0_1], .int .i64 a1] w fun e w' => ∃ v0_ : Value, e = .returned (.tuple #[v0_, .bool r2]) ∧ Kd.R Kd.string 9 w' w.heap.size (fun _ => True) v0_ r1 ∧ Below w.heap.size w w' := by
 have hu29 := Tryd.underlying29
 have HR0_0 := Aside0.mk hr0_0
 have HC0_0 := Aside0.mk hc0_0
 clear hr0_0 hc0_0
 have HB := Aside0.mk (Below.refl w.heap.size w)
 have H : ((spec_l7Asked.f k l0_0 a0_1 a1).bind fun t496 => (if t496 = true then ((spec_l7Walk.f k l0_0 a0_1 a1 (⟨#[46]⟩ : ByteArray) true).bind fun t497 => (some (t497, true))) else (some (([] : List ByteArray), false)))) = some (r1, r2) := h
 clear h
 obtain ⟨t496, A3, H⟩ := bS H
 try dsimp only at H
 by_cases c4 : t496 = true
 ·subst c4
  rw [if_pos rfl] at H
  obtain ⟨t497, A5, H⟩ := bS H
  try dsimp only at H
  simp only [Option.some.injEq, Prod.mk.injEq] at H
  obtain ⟨rfl, rfl⟩ := H
  go_enter Tryd.func30, Tryd.ntmps30
  go_wp2_with (first | ((with_reducible refine gd 2 rfl ?_); refine bxE 2 #[.slice A0_0 l0_0.length c0_0, .int .i64 a0_1] 29 ?_; intro gb495 hg w6 hbox hb; have BK495 := Aside0.mk hbox; have GW495 := nGB hg; have GE495 := nGB hg; replace HB := nSB hb; clear hb hbox hg; have hcz7 := cb2 BK495) | ((with_reducible refine gt 62 rfl ?_); refine gL 62 8 Tryd.func62 #[.agg #[.slice A0_0 l0_0.length c0_0, .int .i64 a0_1], .int .i64 a1] ?_; (with_reducible refine (spec_l7Asked.calls k _ _ l0_0 a0_1 a1 true _ ?side1 ?side2 A3.out).mono ?_); (case side1 => exact sD (Kd.C_below HR0_0.out HB.out)); (case side2 => exact HC0_0.out); rintro e w8 ⟨rfl, hb⟩; refine ⟨_, rfl, ?_⟩; replace BK495 := nK BK495 hb; replace HB := nSC hb; try clear hb; have hcz9 := cb2 BK495) | ((with_reducible refine gt 65 rfl ?_); refine gL 65 12 Tryd.func65 #[.agg #[.slice A0_0 l0_0.length c0_0, .int .i64 a0_1], .int .i64 a1, .string (⟨#[46]⟩ : ByteArray), .bool true] ?_; (with_reducible refine (spec_l7Walk.calls k _ _ l0_0 a0_1 a1 (⟨#[46]⟩ : ByteArray) true t497 _ ?side1 ?side2 A5.out).mono ?_); (case side1 => exact sD (Kd.C_below HR0_0.out HB.out)); (case side2 => exact HC0_0.out); rintro e w10 ⟨v498, rfl, ho0, hb⟩; refine ⟨_, rfl, ?_⟩; have HO499 := Aside0.mk (Kd.R_lower ho0 (below_size sC)); replace BK495 := nK BK495 hb; replace HB := nSC hb; try clear hb; (try clear ho0)))
  go_ret2
  exact ⟨_, sE, by (with_reducible repeat (first | apply Kd.R_alloc | apply Kd.R_drewN | apply Kd.R_drew)); exact HO499.out, sC⟩
 ·replace c4 := Bool.eq_false_iff.mpr c4
  subst c4
  rw [if_neg (show ¬ (false = true) by decide)] at H
  simp only [Option.some.injEq, Prod.mk.injEq] at H
  obtain ⟨rfl, rfl⟩ := H
  go_enter Tryd.func30, Tryd.ntmps30
  go_wp2_with (first | ((with_reducible refine gd 2 rfl ?_); refine bxE 2 #[.slice A0_0 l0_0.length c0_0, .int .i64 a0_1] 29 ?_; intro gb495 hg w11 hbox hb; have BK495 := Aside0.mk hbox; have GW495 := nGB hg; have GE495 := nGB hg; replace HB := nSB hb; clear hb hbox hg; have hcz12 := cb2 BK495) | ((with_reducible refine gt 62 rfl ?_); refine gL 62 8 Tryd.func62 #[.agg #[.slice A0_0 l0_0.length c0_0, .int .i64 a0_1], .int .i64 a1] ?_; (with_reducible refine (spec_l7Asked.calls k _ _ l0_0 a0_1 a1 false _ ?side1 ?side2 A3.out).mono ?_); (case side1 => exact sD (Kd.C_below HR0_0.out HB.out)); (case side2 => exact HC0_0.out); rintro e w13 ⟨rfl, hb⟩; refine ⟨_, rfl, ?_⟩; replace BK495 := nK BK495 hb; replace HB := nSC hb; try clear hb))
  go_ret2
  exact ⟨_, sE, by first | exact Kd.R_nil _ _ _ _ _ | exact Kd.N_nil _ _ _ _ _ | exact Kd.V_nil _ _ _ _ _ | exact Kd.Q_nil _ _ _ _ _ | exact Kd.S_nil _ _ _ _ _, sC⟩

/-! ### impl_WalkPost: function 31 -/
def impl_WalkPost.f (k : Nat) (l0_0 : List (S53)) (a0_1 : Int) (a1 : Int) : Option (List ByteArray × Bool) := (impl_walked.f k l0_0 a0_1 a1 true).bind fun bt501 => (some (bt501.1, bt501.2))
theorem impl_WalkPost.calls (k : Nat) (A0_0 : Option Addr) (c0_0 : Nat) (l0_0 : List (S53)) (a0_1 : Int) (a1 : Int) (r1 : List ByteArray) (r2 : Bool) (w : World) (hr0_0 : Kd.C k53 w A0_0 l0_0.length l0_0) (hc0_0 : l0_0.length ≤ c0_0) (h : impl_WalkPost.f k l0_0 a0_1 a1 = some (r1, r2)) :
  Calls Tryd.prog 31 #[.agg #[.slice A0_0 l0_0.length c0_0, .int .i64 a0_1], .int .i64 a1] w fun e w' => ∃ v0_ : Value, e = .returned (.tuple #[v0_, .bool r2]) ∧ Kd.R Kd.string 9 w' w.heap.size (fun _ => True) v0_ r1 ∧ Below w.heap.size w w' := by
 have hu29 := Tryd.underlying29
 have HR0_0 := Aside0.mk hr0_0
 have HC0_0 := Aside0.mk hc0_0
 clear hr0_0 hc0_0
 have HB := Aside0.mk (Below.refl w.heap.size w)
 have H : ((impl_walked.f k l0_0 a0_1 a1 true).bind fun bt501 => (some (bt501.1, bt501.2))) = some (r1, r2) := h
 clear h
 obtain ⟨⟨t501, t504⟩, A3, H⟩ := bS H
 try dsimp only at H
 simp only [Option.some.injEq, Prod.mk.injEq] at H
 obtain ⟨rfl, rfl⟩ := H
 go_enter Tryd.func31, Tryd.ntmps31
 go_wp2_with (first | ((with_reducible refine gd 2 rfl ?_); refine bxE 2 #[.slice A0_0 l0_0.length c0_0, .int .i64 a0_1] 29 ?_; intro gb500 hg w4 hbox hb; have BK500 := Aside0.mk hbox; have GW500 := nGB hg; have GE500 := nGB hg; replace HB := nSB hb; clear hb hbox hg; have hcz5 := cb2 BK500) | ((with_reducible refine gt 66 rfl ?_); refine gL 66 8 Tryd.func66 #[.agg #[.slice A0_0 l0_0.length c0_0, .int .i64 a0_1], .int .i64 a1, .bool true] ?_; (with_reducible refine (impl_walked.calls k _ _ l0_0 a0_1 a1 true t501 t504 _ ?side1 ?side2 A3.out).mono ?_); (case side1 => exact sD (Kd.C_below HR0_0.out HB.out)); (case side2 => exact HC0_0.out); rintro e w6 ⟨v502, rfl, ho0, hb⟩; refine ⟨_, rfl, ?_⟩; have HO503 := Aside0.mk (Kd.R_lower ho0 (below_size sC)); replace BK500 := nK BK500 hb; replace HB := nSC hb; try clear hb; (try clear ho0)))
 go_ret2
 exact ⟨_, sE, by (with_reducible repeat (first | apply Kd.R_alloc | apply Kd.R_drewN | apply Kd.R_drew)); exact HO503.out, sC⟩

end Go.Proofs.YteffcglgdfhkmaaDoor.PWk
