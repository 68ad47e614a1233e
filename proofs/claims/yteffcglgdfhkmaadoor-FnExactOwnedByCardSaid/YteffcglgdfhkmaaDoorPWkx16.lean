-- Written by a program of this session (wip/print2) out of the translation. Lean checks it.
import Derived.Test.YteffcglgdfhkmaaDoorPWkx0
import Derived.Test.YteffcglgdfhkmaaDoorPWkx1
import Derived.Test.YteffcglgdfhkmaaDoorPWkx7
import Derived.Test.YteffcglgdfhkmaaDoorPWkx9
import Derived.Test.YteffcglgdfhkmaaDoorPWkx12
import Derived.Test.YteffcglgdfhkmaaDoorPWkx15
namespace Go.Proofs.YteffcglgdfhkmaaDoor.PWk
open Go.RowKit Go.Proofs.YteffcglgdfhkmaaDoorW.PrintWords Go.Proofs.YteffcglgdfhkmaaDoorW.PrintLast Go.Proofs.YteffcglgdfhkmaaDoorW.PrintMore
attribute [local go_sem] max2_int min2_int max_two min_two max_three min_three max_four min_four   -- for this text's walks alone
set_option linter.unusedVariables false
set_option linter.unusedSimpArgs false
set_option maxHeartbeats 8000000
set_option maxRecDepth 100000

/-! ### laws_heldStringS: function 35 -/
def laws_heldStringS.l0 : Nat → List ByteArray → Int → Int → Option (Int)
 | 0, _, _, _ => none
 | k + 1, x0, x1, x5 => if x5 < (x0.length : Int) then (if 0 ≤ x5 then ((laws_markText.f k x1).bind fun t397 => (if (rdOf ByteArray.empty x0 x5).toList = t397.toList then (laws_heldStringS.l0 k x0 (wrap64 (x1 + 1)) (wrap64 (x5 + 1))) else (some (-1)))) else (none)) else (some x1)
def laws_heldStringS.f (k : Nat) (l0 : List ByteArray) (a1 : Int) : Option (Int) := laws_heldStringS.l0 k l0 a1 0
theorem laws_heldStringS.calls (k : Nat) (A0 : Option Addr) (c0 : Nat) (l0 : List ByteArray) (a1 : Int) (r : Int) (w : World) (hr0 : Kd.C Kd.string w A0 l0.length l0) (hc0 : l0.length ≤ c0) (h : laws_heldStringS.f k l0 a1 = some r) :
  Calls Tryd.prog 35 #[.slice A0 l0.length c0, .int .i64 a1] w fun e w' => e = .returned (.int .i64 r) ∧ Below w.heap.size w w' := by
 have HR0 := Aside0.mk hr0
 have HC0 := Aside0.mk hc0
 clear hr0 hc0
 have HB := Aside0.mk (Below.refl w.heap.size w)
 have H : (laws_heldStringS.l0 k l0 a1 0) = some r := h
 clear h
 have H' := Aside0.mk H
 clear H
 go_enter Tryd.func35, Tryd.ntmps35
 go_wp2
 go_loopg [1, 5] k (fun kq v1 v5 w' => ∃ (x1_1 : Int) (x5_1 : Int), v1 = .int .i64 x1_1 ∧ v5 = .int .i64 x5_1 ∧ Aside0 (laws_heldStringS.l0 kq l0 x1_1 x5_1 = some r) ∧ Aside0 (kq ≤ k) ∧ Aside0 (Below w.heap.size w w'))
 case atStart => exact ⟨(a1), (0), sR, sR, H', ⟨Nat.le_refl _⟩, ⟨sB⟩⟩
 case round =>
  clear H'
  try clear p2
  obtain ⟨x1_1, x5_1, rfl, rfl, HA, HK1, HB⟩ := hrel
  cases gk with
  | zero => exact absurd HA.out (by simp [laws_heldStringS.l0])
  | succ k1 =>
   have H := HA.out
   clear HA
   simp only [laws_heldStringS.l0] at H
   by_cases c3 : x5_1 < (l0.length : Int)
   ·rw [if_pos c3] at H
    have c3b0 := decide_eq_true c3
    clear c3
    obtain ⟨c4, H⟩ := iN H
    have c4b0 := decide_eq_true c4
    clear c4
    obtain ⟨t397, A5, H⟩ := bS H
    try dsimp only at H
    by_cases c6 : (rdOf ByteArray.empty l0 x5_1).toList = t397.toList
    ·rw [if_pos c6] at H
     have c6b0 := beq_iff_eq.mpr c6
     have c6b1 := bne_eq_false_iff_eq.mpr c6
     clear c6
     have H' := Aside0.mk H
     clear H
     try go_wp2
     have n0_ := Aside0.mk (below_drew1 HB.out)
     clear HB
     have HB := n0_
     clear n0_
     have p396 : 0 ≤ (x5_1 : Int) := sO
     have q396 : x5_1 < (l0.length : Int) := sO
     obtain ⟨ad396, e396, hx396_0⟩ := Kd.at_string HR0.out x5_1 p396 q396
     have hw396_0 := hx396_0
     cases e396
     replace hx396_0 := hB HB hx396_0
     replace p396 := eq_true p396
     replace q396 := eq_true q396
     refine start_ (n := 7) (S := fun w' => w'.cell? (ad396.add (x5_1).toNat) = some (.string (rdOf ByteArray.empty l0 x5_1))) (ds := []) #[false, false, false, false, false, false, false] (by kernel_rfl) rfl rfl ((hB HB hw396_0 :)) (fun hHeld => ?_)
     generalize wr.drew = w7 at HB hx396_0 hHeld ⊢
     refine pu 0 12 ?_
     refine pu 1 13 ?_
     refine pu 2 14 ?_
     refine pu 4 16 ?_
     refine tk1 3 15 ?_
     refine on 5 17 (fun K hK => ?_)
     refine gC Tryd.func68 #[.int .i64 x1_1] ?_
     with_reducible refine (laws_markText.calls k1 x1_1 t397 _ A5.out).mono ?_
     rintro e w8 ⟨rfl, hb⟩
     refine ⟨_, rfl, ?_⟩
     have n0_ := nSB hb
     clear HB
     have HB := n0_
     clear n0_
     (try clear hb)
     (try clear hb2)
     (try clear hk)
     (try clear hi)
     refine hK.out _ _ ((hB HB hw396_0 :)) (fun hHeld => ?_)
     clear hK K
     refine nm ?_
     refine pu 6 18 ?_
     refine dn ?_
     try go_wp2
     go_roundg k1
     case measure => have := HK1.out; omega
     case rel => exact ⟨(wrap64 (x1_1 + 1)), (wrap64 (x5_1 + 1)), sR, sR, H', ⟨by have := HK1.out; omega⟩, ⟨sB⟩⟩
    ·rw [if_neg c6] at H
     have c6b0 := beq_eq_false_iff_ne.mpr c6
     have c6b1 := bne_iff_ne.mpr c6
     obtain rfl := Option.some.inj H
     try go_wp2
     have n0_ := Aside0.mk (below_drew1 HB.out)
     clear HB
     have HB := n0_
     clear n0_
     have p396 : 0 ≤ (x5_1 : Int) := sO
     have q396 : x5_1 < (l0.length : Int) := sO
     obtain ⟨ad396, e396, hx396_0⟩ := Kd.at_string HR0.out x5_1 p396 q396
     have hw396_0 := hx396_0
     cases e396
     replace hx396_0 := hB HB hx396_0
     replace p396 := eq_true p396
     replace q396 := eq_true q396
     refine start_ (n := 7) (S := fun w' => w'.cell? (ad396.add (x5_1).toNat) = some (.string (rdOf ByteArray.empty l0 x5_1))) (ds := []) #[false, false, false, false, false, false, false] (by kernel_rfl) rfl rfl ((hB HB hw396_0 :)) (fun hHeld => ?_)
     generalize wr.drew = w9 at HB hx396_0 hHeld ⊢
     refine pu 0 12 ?_
     refine pu 1 13 ?_
     refine pu 2 14 ?_
     refine pu 4 16 ?_
     refine tk1 3 15 ?_
     refine on 5 17 (fun K hK => ?_)
     refine gC Tryd.func68 #[.int .i64 x1_1] ?_
     with_reducible refine (laws_markText.calls k1 x1_1 t397 _ A5.out).mono ?_
     rintro e w10 ⟨rfl, hb⟩
     refine ⟨_, rfl, ?_⟩
     have n0_ := nSB hb
     clear HB
     have HB := n0_
     clear n0_
     (try clear hb)
     (try clear hb2)
     (try clear hk)
     (try clear hi)
     refine hK.out _ _ ((hB HB hw396_0 :)) (fun hHeld => ?_)
     clear hK K
     refine nm ?_
     refine pu 6 18 ?_
     refine dn ?_
     try go_wp2
     go_ret
     exact ⟨sE, sB⟩
   ·rw [if_neg c3] at H
    have c3b0 := decide_eq_false c3
    clear c3
    obtain rfl := Option.some.inj H
    go_wp2
    go_ret
    exact ⟨sE, sB⟩

/-! ### spec_l3Is: function 50 -/
def spec_l3Is.f (l0_0 : List (S53)) (a0_1 : Int) (a1 : Int) : Option (Bool) := (spec_l1In.f a1 0 (wrap64 ((l0_0.length : Int) - 1))).bind fun t399 => (if t399 = true then (if 0 ≤ a1 then (if a1 < (l0_0.length : Int) then (some (((rd_T53 l0_0 a1).f0) != 0)) else (none)) else (none)) else (some false))
theorem spec_l3Is.calls (A0_0 : Option Addr) (c0_0 : Nat) (l0_0 : List (S53)) (a0_1 : Int) (a1 : Int) (r : Bool) (w : World) (hr0_0 : Kd.C k53 w A0_0 l0_0.length l0_0) (hc0_0 : l0_0.length ≤ c0_0) (h : spec_l3Is.f l0_0 a0_1 a1 = some r) :
  Calls Tryd.prog 50 #[.agg #[.slice A0_0 l0_0.length c0_0, .int .i64 a0_1], .int .i64 a1] w fun e w' => e = .returned (.bool r) ∧ Below w.heap.size w w' := by
 have hu29 := Tryd.underlying29
 have HR0_0 := Aside0.mk hr0_0
 have HC0_0 := Aside0.mk hc0_0
 clear hr0_0 hc0_0
 have HB := Aside0.mk (Below.refl w.heap.size w)
 have H : ((spec_l1In.f a1 0 (wrap64 ((l0_0.length : Int) - 1))).bind fun t399 => (if t399 = true then (if 0 ≤ a1 then (if a1 < (l0_0.length : Int) then (some (((rd_T53 l0_0 a1).f0) != 0)) else (none)) else (none)) else (some false))) = some r := h
 clear h
 obtain ⟨t399, A3, H⟩ := bS H
 try dsimp only at H
 by_cases c4 : t399 = true
 ·subst c4
  rw [if_pos rfl] at H
  obtain ⟨c5, H⟩ := iN H
  have c5b0 := decide_eq_true c5
  clear c5
  obtain ⟨c6, H⟩ := iN H
  have c6b0 := decide_eq_true c6
  clear c6
  obtain rfl := Option.some.inj H
  go_enter Tryd.func50, Tryd.ntmps50
  go_wp2_with (first | ((with_reducible refine gd 2 rfl ?_); refine bxE 2 #[.slice A0_0 l0_0.length c0_0, .int .i64 a0_1] 29 ?_; intro gb398 hg w7 hbox hb; have BK398 := Aside0.mk hbox; have GW398 := nGB hg; have GE398 := nGB hg; replace HB := nSB hb; clear hb hbox hg; have hcz8 := cb2 BK398) | ((with_reducible refine gt 72 rfl ?_); refine gL 72 10 Tryd.func72 #[.int .i64 a1, .int .i64 0, .int .i64 (wrap64 ((l0_0.length : Int) - 1))] ?_; (with_reducible refine (spec_l1In.calls a1 0 (wrap64 ((l0_0.length : Int) - 1)) true _ A3.out).mono ?_); rintro e w' ⟨rfl, ⟨nd, rfl⟩⟩; refine ⟨_, rfl, ?_⟩; have p400 : 0 ≤ (a1 : Int) := sO; have q400 : a1 < (l0_0.length : Int) := sO; obtain ⟨ad400, A400_6, c400_6, e400, hx400_0, hx400_1, hx400_2, hx400_3, hx400_4, hx400_5, hx400_6, hl400_6, hi400_6⟩ := ab53 HR0_0.out HB a1 p400 q400; cases e400; have HR400_6 := Aside0.mk hi400_6; have HC400_6 := Aside0.mk hl400_6; clear hi400_6 hl400_6; replace p400 := eq_true p400; replace q400 := eq_true q400))
  go_ret
  exact ⟨sE, sC⟩
 ·replace c4 := Bool.eq_false_iff.mpr c4
  subst c4
  rw [if_neg (show ¬ (false = true) by decide)] at H
  obtain rfl := Option.some.inj H
  go_enter Tryd.func50, Tryd.ntmps50
  go_wp2_with (first | ((with_reducible refine gd 2 rfl ?_); refine bxE 2 #[.slice A0_0 l0_0.length c0_0, .int .i64 a0_1] 29 ?_; intro gb398 hg w9 hbox hb; have BK398 := Aside0.mk hbox; have GW398 := nGB hg; have GE398 := nGB hg; replace HB := nSB hb; clear hb hbox hg; have hcz10 := cb2 BK398) | ((with_reducible refine gt 72 rfl ?_); refine gL 72 10 Tryd.func72 #[.int .i64 a1, .int .i64 0, .int .i64 (wrap64 ((l0_0.length : Int) - 1))] ?_; (with_reducible refine (spec_l1In.calls a1 0 (wrap64 ((l0_0.length : Int) - 1)) false _ A3.out).mono ?_); rintro e w' ⟨rfl, ⟨nd, rfl⟩⟩; refine ⟨_, rfl, ?_⟩))
  go_ret
  exact ⟨sE, sC⟩

/-! ### spec_l7Asked: function 62 -/
def spec_l7Asked.f (k : Nat) (l0_0 : List (S53)) (a0_1 : Int) (a1 : Int) : Option (Bool) := (spec_l3Good.f k l0_0 a0_1).bind fun t402 => (if t402 = true then ((spec_l3Is.f l0_0 a0_1 a1).bind fun t403 => (some t403)) else (some false))
theorem spec_l7Asked.calls (k : Nat) (A0_0 : Option Addr) (c0_0 : Nat) (l0_0 : List (S53)) (a0_1 : Int) (a1 : Int) (r : Bool) (w : World) (hr0_0 : Kd.C k53 w A0_0 l0_0.length l0_0) (hc0_0 : l0_0.length ≤ c0_0) (h : spec_l7Asked.f k l0_0 a0_1 a1 = some r) :
  Calls Tryd.prog 62 #[.agg #[.slice A0_0 l0_0.length c0_0, .int .i64 a0_1], .int .i64 a1] w fun e w' => e = .returned (.bool r) ∧ Below w.heap.size w w' := by
 have hu29 := Tryd.underlying29
 have HR0_0 := Aside0.mk hr0_0
 have HC0_0 := Aside0.mk hc0_0
 clear hr0_0 hc0_0
 have HB := Aside0.mk (Below.refl w.heap.size w)
 have H : ((spec_l3Good.f k l0_0 a0_1).bind fun t402 => (if t402 = true then ((spec_l3Is.f l0_0 a0_1 a1).bind fun t403 => (some t403)) else (some false))) = some r := h
 clear h
 obtain ⟨t402, A3, H⟩ := bS H
 try dsimp only at H
 by_cases c4 : t402 = true
 ·subst c4
  rw [if_pos rfl] at H
  obtain ⟨t403, A5, H⟩ := bS H
  try dsimp only at H
  obtain rfl := Option.some.inj H
  go_enter Tryd.func62, Tryd.ntmps62
  go_wp2_with (first | ((with_reducible refine gd 2 rfl ?_); refine bxE 2 #[.slice A0_0 l0_0.length c0_0, .int .i64 a0_1] 29 ?_; intro gb401 hg w6 hbox hb; have BK401 := Aside0.mk hbox; have GW401 := nGB hg; have GE401 := nGB hg; replace HB := nSB hb; clear hb hbox hg; have hcz7 := cb2 BK401) | ((with_reducible refine gt 41 rfl ?_); refine gL 41 6 Tryd.func41 #[.agg #[.slice A0_0 l0_0.length c0_0, .int .i64 a0_1]] ?_; (with_reducible refine (spec_l3Good.calls k _ _ l0_0 a0_1 true _ ?side1 ?side2 A3.out).mono ?_); (case side1 => exact sD (Kd.C_below HR0_0.out HB.out)); (case side2 => exact HC0_0.out); rintro e w8 ⟨rfl, hb⟩; refine ⟨_, rfl, ?_⟩; replace BK401 := nK BK401 hb; replace HB := nSC hb; try clear hb; have hcz9 := cb2 BK401) | (go_at_call 50; (with_reducible refine (spec_l3Is.calls _ _ l0_0 a0_1 a1 t403 _ ?side1 ?side2 A5.out).mono ?_); (case side1 => exact sD (Kd.C_below HR0_0.out HB.out)); (case side2 => exact HC0_0.out); rintro e w10 ⟨rfl, hb⟩; replace BK401 := nK BK401 hb; replace HB := nSC hb; try clear hb))
  go_ret
  exact ⟨sE, sC⟩
 ·replace c4 := Bool.eq_false_iff.mpr c4
  subst c4
  rw [if_neg (show ¬ (false = true) by decide)] at H
  obtain rfl := Option.some.inj H
  go_enter Tryd.func62, Tryd.ntmps62
  go_wp2_with (first | ((with_reducible refine gd 2 rfl ?_); refine bxE 2 #[.slice A0_0 l0_0.length c0_0, .int .i64 a0_1] 29 ?_; intro gb401 hg w11 hbox hb; have BK401 := Aside0.mk hbox; have GW401 := nGB hg; have GE401 := nGB hg; replace HB := nSB hb; clear hb hbox hg; have hcz12 := cb2 BK401) | ((with_reducible refine gt 41 rfl ?_); refine gL 41 6 Tryd.func41 #[.agg #[.slice A0_0 l0_0.length c0_0, .int .i64 a0_1]] ?_; (with_reducible refine (spec_l3Good.calls k _ _ l0_0 a0_1 false _ ?side1 ?side2 A3.out).mono ?_); (case side1 => exact sD (Kd.C_below HR0_0.out HB.out)); (case side2 => exact HC0_0.out); rintro e w13 ⟨rfl, hb⟩; refine ⟨_, rfl, ?_⟩; replace BK401 := nK BK401 hb; replace HB := nSC hb; try clear hb))
  go_ret
  exact ⟨sE, sC⟩

/-! ### spec_l7Walk: function 65 -/
mutual
def spec_l7Walk.l0 : Nat → ByteArray → Bool → List ByteArray → List (S60) → Int → Int → List (S53) → Int → Option (List ByteArray)
 | 0, _, _, _, _, _, _, _, _ => none
 | k + 1, x2, x3, x9, x18, x19, x20, x405000, x405001 => if x20 < x19 then (if 0 ≤ x20 then (if x20 < (x18.length : Int) then (if x2.toList = ([46] : List UInt8) then ((spec_l7Walk.f k x405000 x405001 ((rd_T60 x18 x20).f1) ((rd_T60 x18 x20).f0) x3).bind fun t408 => (if x9.length + t408.length < 8796093022208 then (spec_l7Walk.l0 k x2 x3 (x9 ++ t408) x18 x19 (wrap64 (x20 + 1)) x405000 x405001) else (none))) else (if x2.size + 1 ≤ 9223372036854775807 then (if x2.size + 1 + ((rd_T60 x18 x20).f0).size ≤ 9223372036854775807 then ((spec_l7Walk.f k x405000 x405001 ((rd_T60 x18 x20).f1) ((x2 ++ (⟨#[47]⟩ : ByteArray)) ++ ((rd_T60 x18 x20).f0)) x3).bind fun t414 => (if x9.length + t414.length < 8796093022208 then (spec_l7Walk.l0 k x2 x3 (x9 ++ t414) x18 x19 (wrap64 (x20 + 1)) x405000 x405001) else (none))) else (none)) else (none))) else (none)) else (none)) else (if x3 = true then (if x9.length < 8796093022208 then (some (x9 ++ [x2])) else (none)) else ((some (([x2] : List ByteArray) : List ByteArray)).bind fun y423 => (if y423.length + x9.length < 8796093022208 then (some (y423 ++ x9)) else (none))))
def spec_l7Walk.f : Nat → List (S53) → Int → Int → ByteArray → Bool → Option (List ByteArray)
 | 0, _, _, _, _, _ => none
 | k + 1, l0_0, a0_1, a1, a2, a3 => if 0 ≤ a1 then (if a1 < (l0_0.length : Int) then (spec_l7Walk.l0 k a2 a3 ([] : List ByteArray) ((rd_T53 l0_0 a1).f6) (((rd_T53 l0_0 a1).f6).length : Int) 0 l0_0 a0_1) else (none)) else (none)
end
theorem spec_l7Walk.calls (k : Nat) : ∀ (A0_0 : Option Addr) (c0_0 : Nat) (l0_0 : List (S53)) (a0_1 : Int) (a1 : Int) (a2 : ByteArray) (a3 : Bool) (r : List ByteArray) (w : World) (hr0_0 : Kd.C k53 w A0_0 l0_0.length l0_0) (hc0_0 : l0_0.length ≤ c0_0) (h : spec_l7Walk.f k l0_0 a0_1 a1 a2 a3 = some r),
  Calls Tryd.prog 65 #[.agg #[.slice A0_0 l0_0.length c0_0, .int .i64 a0_1], .int .i64 a1, .string a2, .bool a3] w fun e w' => ∃ v0_ : Value, e = .returned (v0_) ∧ Kd.R Kd.string 9 w' w.heap.size (fun _ => True) v0_ r ∧ Below w.heap.size w w' := by
 induction k using Nat.strongRecOn with
 | _ k ih =>
 intro A0_0 c0_0 l0_0 a0_1 a1 a2 a3 r w hr0_0 hc0_0 h
 cases k with
 | zero => exact absurd h (by simp [spec_l7Walk.f])
 | succ k =>
 simp only [spec_l7Walk.f] at h
 have hu29 := Tryd.underlying29
 have hu60 := Tryd.underlying60
 have HR0_0 := Aside0.mk hr0_0
 have HC0_0 := Aside0.mk hc0_0
 clear hr0_0 hc0_0
 have HB := Aside0.mk (Below.refl w.heap.size w)
 have H : (if 0 ≤ a1 then (if a1 < (l0_0.length : Int) then (spec_l7Walk.l0 k a2 a3 ([] : List ByteArray) ((rd_T53 l0_0 a1).f6) (((rd_T53 l0_0 a1).f6).length : Int) 0 l0_0 a0_1) else (none)) else (none)) = some r := h
 clear h
 by_cases c5 : 0 ≤ a1
 ·rw [if_pos c5] at H
  have c5b0 := decide_eq_true c5
  clear c5
  obtain ⟨c6, H⟩ := iN H
  have c6b0 := decide_eq_true c6
  clear c6
  have H' := Aside0.mk H
  clear H
  go_enter Tryd.func65, Tryd.ntmps65
  go_wp2_with (first | ((with_reducible refine gd 4 rfl ?_); refine bxE 4 #[.slice A0_0 l0_0.length c0_0, .int .i64 a0_1] 29 ?_; intro gb404 hg w7 hbox hb; have BK404 := Aside0.mk hbox; have GW404 := nGB hg; have GE404 := nGB hg; replace HB := nSB hb; clear hb hbox hg; have hcz8 := cb2 BK404; have p405 : 0 ≤ (a1 : Int) := sO; have q405 : a1 < (l0_0.length : Int) := sO; obtain ⟨ad405, A405_6, c405_6, e405, hx405_0, hx405_1, hx405_2, hx405_3, hx405_4, hx405_5, hx405_6, hl405_6, hi405_6⟩ := ab53 HR0_0.out HB a1 p405 q405; cases e405; have HR405_6 := Aside0.mk hi405_6; have HC405_6 := Aside0.mk hl405_6; clear hi405_6 hl405_6; replace p405 := eq_true p405; replace q405 := eq_true q405))
  go_loopg [9, 20] k (fun kq v9 v20 w' => ∃ (x9_1 : List ByteArray) (x20_1 : Int), v20 = .int .i64 x20_1 ∧ Aside0 (spec_l7Walk.l0 kq a2 a3 x9_1 ((rd_T53 l0_0 a1).f6) (((rd_T53 l0_0 a1).f6).length : Int) x20_1 l0_0 a0_1 = some r) ∧ Aside0 (kq ≤ k) ∧ Aside0 (Kd.R Kd.string 9 w' w.heap.size (fun _ => True) v9 x9_1) ∧ Aside0 (w'.heap[gb404]? = some (.cells #[(.slice (some ad405) l0_0.length c0_0), .int .i64 a0_1] 29 (0, 0))) ∧ Aside0 (Below w.heap.size w w'))
  case atStart => exact ⟨(([] : List ByteArray)), (0), sR, H', ⟨Nat.le_refl _⟩, ⟨by first | exact Kd.R_nil _ _ _ _ _ | exact Kd.N_nil _ _ _ _ _ | exact Kd.V_nil _ _ _ _ _ | exact Kd.Q_nil _ _ _ _ _ | exact Kd.S_nil _ _ _ _ _⟩, ⟨sK BK404⟩, ⟨sC⟩⟩
  case round =>
   clear H'
   try clear p2
   try clear c4
   try clear p4
   try clear q4
   try clear hx4
   try clear c5
   try clear c5b0
   try clear c6
   try clear c6b0
   try clear hcz8
   try clear hx405_0
   try clear hx405_1
   try clear hx405_2
   try clear hx405_3
   try clear hx405_4
   try clear hx405_5
   try clear hx405_6
   try clear p405
   try clear q405
   obtain ⟨x9_1, x20_1, rfl, HA, HK1, HO_9, BK404, HB⟩ := hrel
   cases gk with
   | zero => exact absurd HA.out (by simp [spec_l7Walk.l0])
   | succ k1 =>
    have H := HA.out
    clear HA
    simp only [spec_l7Walk.l0] at H
    by_cases c9 : x20_1 < (((rd_T53 l0_0 a1).f6).length : Int)
    ·rw [if_pos c9] at H
     have c9b0 := decide_eq_true c9
     clear c9
     obtain ⟨c10, H⟩ := iN H
     have c10b0 := decide_eq_true c10
     clear c10
     obtain ⟨c11, H⟩ := iN H
     have c11b0 := decide_eq_true c11
     clear c11
     by_cases c12 : a2.toList = ([46] : List UInt8)
     ·rw [if_pos c12] at H
      have c12b0 := beq_iff_eq.mpr c12
      have c12b1 := bne_eq_false_iff_eq.mpr c12
      clear c12
      obtain ⟨t408, A13, H⟩ := bS H
      try dsimp only at H
      obtain ⟨c14, H⟩ := iN H
      have LMc14 := Aside0.mk c14
      clear c14
      obtain ⟨y411, hy411⟩ : ∃ y_ : List ByteArray, y_ = (x9_1 ++ t408) := ⟨_, rfl⟩
      replace H : (spec_l7Walk.l0 k1 a2 a3 y411 ((rd_T53 l0_0 a1).f6) (((rd_T53 l0_0 a1).f6).length : Int) (wrap64 (x20_1 + 1)) l0_0 a0_1) = some r := by first | (rw [hy411]; with_reducible exact H) | (have H2_ := (Option.bind_some _ _).symm.trans H; rw [hy411]; with_reducible exact H2_) | (have H2_ := (Option.bind_some _ _).symm.trans H; with_reducible exact H2_) | with_reducible exact H | (rw [hy411]; exact H) | exact H
      have Ny411 := Aside0.mk hy411
      clear hy411
      have H' := Aside0.mk H
      clear H
      have p406 : 0 ≤ (x20_1 : Int) := sO
      have q406 : x20_1 < (((rd_T53 l0_0 a1).f6).length : Int) := sO
      obtain ⟨ad406, e406, hx406_0, hx406_1⟩ := ab60 HR405_6.out HB x20_1 p406 q406
      cases e406
      replace p406 := eq_true p406
      replace q406 := eq_true q406
      go_wp2_with (first | ((with_reducible refine gd 11 rfl ?_); refine bxE 11 #[.string (⟨#[]⟩ : ByteArray), .int .i64 0] 60 ?_; intro gb407 hg w15 hbox hb; replace HO_9 := nR HO_9 hb; have BK407 := Aside0.mk hbox; have GW407 := nGC hg; have GE407 := nGC hg; replace HB := nSC hb; have NB404_407 := nL BK404 hg; have NB407_404 := nH BK404 hg; replace BK404 := nK BK404 hb; clear hb hbox hg; have hnb16 := NB407_404.out; have hnc16 := NB404_407.out; have hcz17 := cb2 BK407; have hcz18 := cb2 BK404) | ((with_reducible refine gt 65 rfl ?_); refine gL 65 39 Tryd.func65 #[.agg #[.slice (some ad405) l0_0.length c0_0, .int .i64 a0_1], .int .i64 ((rd_T60 ((rd_T53 l0_0 a1).f6) x20_1).f1), .string ((rd_T60 ((rd_T53 l0_0 a1).f6) x20_1).f0), .bool a3] ?_; (with_reducible refine (ih k1 (by have := HK1.out; omega) _ _ l0_0 a0_1 ((rd_T60 ((rd_T53 l0_0 a1).f6) x20_1).f1) ((rd_T60 ((rd_T53 l0_0 a1).f6) x20_1).f0) a3 t408 _ ?side1 ?side2 A13.out).mono ?_); (case side1 => exact Kd.C_below HR0_0.out sC); (case side2 => exact HC0_0.out); rintro e w19 ⟨v409, rfl, ho0, hb⟩; refine ⟨_, rfl, ?_⟩; have HO410 := Aside0.mk (Kd.R_lower (Kd.R_new' ho0 (Kd.R_lt (by (with_reducible repeat (first | apply Kd.R_alloc | apply Kd.R_drewN | apply Kd.R_drew)); exact (Kd.R_mono (Kd.R_far (p := ⟨gb407, 1, none⟩) (Kd.R_far (p := ⟨gb407, 0, none⟩) (Kd.R_types HO_9.out BK407.out (by decide)) (fun _ hk => hk.2) (.string ((rd_T60 ((rd_T53 l0_0 a1).f6) x20_1).f0))) (fun _ hk => hk.2) (.int .i64 ((rd_T60 ((rd_T53 l0_0 a1).f6) x20_1).f1))) (fun _ h_ => h_.1))))) (below_size sC)); replace HO_9 := Aside0.mk (Kd.R_elder' (by (with_reducible repeat (first | apply Kd.R_alloc | apply Kd.R_drewN | apply Kd.R_drew)); exact (Kd.R_mono (Kd.R_far (p := ⟨gb407, 1, none⟩) (Kd.R_far (p := ⟨gb407, 0, none⟩) (Kd.R_types HO_9.out BK407.out (by decide)) (fun _ hk => hk.2) (.string ((rd_T60 ((rd_T53 l0_0 a1).f6) x20_1).f0))) (fun _ hk => hk.2) (.int .i64 ((rd_T60 ((rd_T53 l0_0 a1).f6) x20_1).f1))) (fun _ h_ => h_.1))) (Kd.R_base ho0) hb); replace BK404 := nF BK404 hb; replace BK407 := nX #[.string ((rd_T60 ((rd_T53 l0_0 a1).f6) x20_1).f0), .int .i64 ((rd_T60 ((rd_T53 l0_0 a1).f6) x20_1).f1)] BK407 hb; replace HB := nSC hb; try clear hb; (try clear ho0); obtain ⟨Ao21, co21, eo21⟩ := Kd.R_slice HO410.out; subst eo21) | ((with_reducible refine gate_builtin (b := .append) (xs := #[.tmp 33, .tmp 39]) rfl ?_); at_builtin; refine Kd.R_append_rows Kd.string (w0 := w) w.heap.size rfl (.tmp 33) (.tmp 39) 39 9 (.string ⟨#[]⟩) 16 rfl Tryd.underlying39 info9 rfl (by decide) (by omega) u9 x9_1 t408 _ _ _ (fun k_ => some k_ ≠ (.slice Ao21 t408.length co21 : Value).ownBlock) (fun _ => False) rfl rfl ?aO ?aR (fun _ _ h => h) (fun _ h => h.elim) ?aF ?aB ?aS ?aL ?_; (case aR => repeat (first | exact (Kd.R_reads' HO410.out).2.2 | (with_reducible refine Kd.C_alloc ?_ _) | (with_reducible refine Kd.C_drewN ?_ _) | (with_reducible refine Kd.C_drew ?_))); (case aB => exact sC); (case aF => exact (fun k_ hk => Kd.fresh' (Kd.R_lt (by (with_reducible repeat (first | apply Kd.R_alloc | apply Kd.R_drewN | apply Kd.R_drew)); exact HO410.out)) k_ hk)); (case aO => exact (by (with_reducible repeat (first | apply Kd.R_alloc | apply Kd.R_drewN | apply Kd.R_drew)); exact Kd.R_mono HO_9.out (fun _ hk => hk.2))); (case aS => exact (below_size sC)); (case aL => have := LMc14.out; omega); intro v412 w20 ho hb hg hat; rw [← Ny411.out] at ho; replace BK404 := Aside0.mk (blk_grown (g := gb404) (o := .cells #[.slice (some ad405) l0_0.length c0_0, .int .i64 a0_1] 29 (0, 0)) (sK BK404) hg (Kd.R_ne HO_9.out BK404.out (by decide))); replace BK407 := Aside0.mk (blk_grown (g := gb407) (o := .cells #[.string ((rd_T60 ((rd_T53 l0_0 a1).f6) x20_1).f0), .int .i64 ((rd_T60 ((rd_T53 l0_0 a1).f6) x20_1).f1)] 60 (0, 0)) (sK BK407) hg (Kd.R_ne HO_9.out BK407.out (by decide))); replace HO410 := Aside0.mk (Kd.R_after (ok := (fun _ => True)) (by (with_reducible repeat (first | apply Kd.R_alloc | apply Kd.R_drewN | apply Kd.R_drew)); exact HO410.out) hg hat); replace HB := Aside0.mk (hb); have HO413 := Aside0.mk (ho); clear HO_9; clear ho hb hg hat))
      go_roundg k1
      case measure => have := HK1.out; omega
      case rel => exact ⟨(y411), (wrap64 (x20_1 + 1)), sR, H', ⟨by have := HK1.out; omega⟩, ⟨by (with_reducible repeat (first | apply Kd.R_alloc | apply Kd.R_drewN | apply Kd.R_drew)); exact Kd.R_mono HO413.out (fun _ hk => trivial)⟩, ⟨sK BK404⟩, ⟨sC⟩⟩
     ·rw [if_neg c12] at H
      have c12b0 := beq_eq_false_iff_ne.mpr c12
      have c12b1 := bne_iff_ne.mpr c12
      obtain ⟨c22, H⟩ := iN H
      have c22b0 := eq_true c22
      have c22b1 := decide_eq_true c22
      try have c22b2 : (9223372036854775807 < a2.size + 1) = False := eq_false (Nat.not_lt.2 c22)
      obtain ⟨c23, H⟩ := iN H
      have c23b0 := eq_true c23
      have c23b1 := decide_eq_true c23
      try have c23b2 : (9223372036854775807 < a2.size + 1 + ((rd_T60 ((rd_T53 l0_0 a1).f6) x20_1).f0).size) = False := eq_false (Nat.not_lt.2 c23)
      obtain ⟨t414, A24, H⟩ := bS H
      try dsimp only at H
      obtain ⟨c25, H⟩ := iN H
      have LMc25 := Aside0.mk c25
      clear c25
      obtain ⟨y417, hy417⟩ : ∃ y_ : List ByteArray, y_ = (x9_1 ++ t414) := ⟨_, rfl⟩
      replace H : (spec_l7Walk.l0 k1 a2 a3 y417 ((rd_T53 l0_0 a1).f6) (((rd_T53 l0_0 a1).f6).length : Int) (wrap64 (x20_1 + 1)) l0_0 a0_1) = some r := by first | (rw [hy417]; with_reducible exact H) | (have H2_ := (Option.bind_some _ _).symm.trans H; rw [hy417]; with_reducible exact H2_) | (have H2_ := (Option.bind_some _ _).symm.trans H; with_reducible exact H2_) | with_reducible exact H | (rw [hy417]; exact H) | exact H
      have Ny417 := Aside0.mk hy417
      clear hy417
      have H' := Aside0.mk H
      clear H
      have p406 : 0 ≤ (x20_1 : Int) := sO
      have q406 : x20_1 < (((rd_T53 l0_0 a1).f6).length : Int) := sO
      obtain ⟨ad406, e406, hx406_0, hx406_1⟩ := ab60 HR405_6.out HB x20_1 p406 q406
      cases e406
      replace p406 := eq_true p406
      replace q406 := eq_true q406
      go_wp2_with (first | ((with_reducible refine gd 11 rfl ?_); refine bxE 11 #[.string (⟨#[]⟩ : ByteArray), .int .i64 0] 60 ?_; intro gb407 hg w26 hbox hb; replace HO_9 := nR HO_9 hb; have BK407 := Aside0.mk hbox; have GW407 := nGC hg; have GE407 := nGC hg; replace HB := nSC hb; have NB404_407 := nL BK404 hg; have NB407_404 := nH BK404 hg; replace BK404 := nK BK404 hb; clear hb hbox hg; have hnb27 := NB407_404.out; have hnc27 := NB404_407.out; have hcz28 := cb2 BK407; have hcz29 := cb2 BK404) | ((with_reducible refine gt 65 rfl ?_); refine gL 65 39 Tryd.func65 #[.agg #[.slice (some ad405) l0_0.length c0_0, .int .i64 a0_1], .int .i64 ((rd_T60 ((rd_T53 l0_0 a1).f6) x20_1).f1), .string ((a2 ++ (⟨#[47]⟩ : ByteArray)) ++ ((rd_T60 ((rd_T53 l0_0 a1).f6) x20_1).f0)), .bool a3] ?_; (with_reducible refine (ih k1 (by have := HK1.out; omega) _ _ l0_0 a0_1 ((rd_T60 ((rd_T53 l0_0 a1).f6) x20_1).f1) ((a2 ++ (⟨#[47]⟩ : ByteArray)) ++ ((rd_T60 ((rd_T53 l0_0 a1).f6) x20_1).f0)) a3 t414 _ ?side1 ?side2 A24.out).mono ?_); (case side1 => exact Kd.C_below HR0_0.out sC); (case side2 => exact HC0_0.out); rintro e w30 ⟨v415, rfl, ho0, hb⟩; refine ⟨_, rfl, ?_⟩; have HO416 := Aside0.mk (Kd.R_lower (Kd.R_new' ho0 (Kd.R_lt (by (with_reducible repeat (first | apply Kd.R_alloc | apply Kd.R_drewN | apply Kd.R_drew)); exact (Kd.R_mono (Kd.R_far (p := ⟨gb407, 1, none⟩) (Kd.R_far (p := ⟨gb407, 0, none⟩) (Kd.R_types HO_9.out BK407.out (by decide)) (fun _ hk => hk.2) (.string ((rd_T60 ((rd_T53 l0_0 a1).f6) x20_1).f0))) (fun _ hk => hk.2) (.int .i64 ((rd_T60 ((rd_T53 l0_0 a1).f6) x20_1).f1))) (fun _ h_ => h_.1))))) (below_size sC)); replace HO_9 := Aside0.mk (Kd.R_elder' (by (with_reducible repeat (first | apply Kd.R_alloc | apply Kd.R_drewN | apply Kd.R_drew)); exact (Kd.R_mono (Kd.R_far (p := ⟨gb407, 1, none⟩) (Kd.R_far (p := ⟨gb407, 0, none⟩) (Kd.R_types HO_9.out BK407.out (by decide)) (fun _ hk => hk.2) (.string ((rd_T60 ((rd_T53 l0_0 a1).f6) x20_1).f0))) (fun _ hk => hk.2) (.int .i64 ((rd_T60 ((rd_T53 l0_0 a1).f6) x20_1).f1))) (fun _ h_ => h_.1))) (Kd.R_base ho0) hb); replace BK404 := nF BK404 hb; replace BK407 := nX #[.string ((rd_T60 ((rd_T53 l0_0 a1).f6) x20_1).f0), .int .i64 ((rd_T60 ((rd_T53 l0_0 a1).f6) x20_1).f1)] BK407 hb; replace HB := nSC hb; try clear hb; (try clear ho0); obtain ⟨Ao32, co32, eo32⟩ := Kd.R_slice HO416.out; subst eo32) | ((with_reducible refine gate_builtin (b := .append) (xs := #[.tmp 33, .tmp 39]) rfl ?_); at_builtin; refine Kd.R_append_rows Kd.string (w0 := w) w.heap.size rfl (.tmp 33) (.tmp 39) 39 9 (.string ⟨#[]⟩) 16 rfl Tryd.underlying39 info9 rfl (by decide) (by omega) u9 x9_1 t414 _ _ _ (fun k_ => some k_ ≠ (.slice Ao32 t414.length co32 : Value).ownBlock) (fun _ => False) rfl rfl ?aO ?aR (fun _ _ h => h) (fun _ h => h.elim) ?aF ?aB ?aS ?aL ?_; (case aR => repeat (first | exact (Kd.R_reads' HO416.out).2.2 | (with_reducible refine Kd.C_alloc ?_ _) | (with_reducible refine Kd.C_drewN ?_ _) | (with_reducible refine Kd.C_drew ?_))); (case aB => exact sC); (case aF => exact (fun k_ hk => Kd.fresh' (Kd.R_lt (by (with_reducible repeat (first | apply Kd.R_alloc | apply Kd.R_drewN | apply Kd.R_drew)); exact HO416.out)) k_ hk)); (case aO => exact (by (with_reducible repeat (first | apply Kd.R_alloc | apply Kd.R_drewN | apply Kd.R_drew)); exact Kd.R_mono HO_9.out (fun _ hk => hk.2))); (case aS => exact (below_size sC)); (case aL => have := LMc25.out; omega); intro v418 w31 ho hb hg hat; rw [← Ny417.out] at ho; replace BK404 := Aside0.mk (blk_grown (g := gb404) (o := .cells #[.slice (some ad405) l0_0.length c0_0, .int .i64 a0_1] 29 (0, 0)) (sK BK404) hg (Kd.R_ne HO_9.out BK404.out (by decide))); replace BK407 := Aside0.mk (blk_grown (g := gb407) (o := .cells #[.string ((rd_T60 ((rd_T53 l0_0 a1).f6) x20_1).f0), .int .i64 ((rd_T60 ((rd_T53 l0_0 a1).f6) x20_1).f1)] 60 (0, 0)) (sK BK407) hg (Kd.R_ne HO_9.out BK407.out (by decide))); replace HO416 := Aside0.mk (Kd.R_after (ok := (fun _ => True)) (by (with_reducible repeat (first | apply Kd.R_alloc | apply Kd.R_drewN | apply Kd.R_drew)); exact HO416.out) hg hat); replace HB := Aside0.mk (hb); have HO419 := Aside0.mk (ho); clear HO_9; clear ho hb hg hat))
      go_roundg k1
      case measure => have := HK1.out; omega
      case rel => exact ⟨(y417), (wrap64 (x20_1 + 1)), sR, H', ⟨by have := HK1.out; omega⟩, ⟨by (with_reducible repeat (first | apply Kd.R_alloc | apply Kd.R_drewN | apply Kd.R_drew)); exact Kd.R_mono HO419.out (fun _ hk => trivial)⟩, ⟨sK BK404⟩, ⟨sC⟩⟩
    ·rw [if_neg c9] at H
     have c9b0 := decide_eq_false c9
     clear c9
     by_cases c33 : a3 = true
     ·subst c33
      rw [if_pos rfl] at H
      obtain ⟨c34, H⟩ := iN H
      have LMc34 := Aside0.mk c34
      clear c34
      obtain ⟨y420, hy420⟩ : ∃ y_ : List ByteArray, y_ = (x9_1 ++ [a2]) := ⟨_, rfl⟩
      replace H : (some y420) = some r := by first | (rw [hy420]; with_reducible exact H) | (have H2_ := (Option.bind_some _ _).symm.trans H; rw [hy420]; with_reducible exact H2_) | (have H2_ := (Option.bind_some _ _).symm.trans H; with_reducible exact H2_) | with_reducible exact H | (rw [hy420]; exact H) | exact H
      have Ny420 := Aside0.mk hy420
      clear hy420
      obtain rfl := Option.some.inj H
      go_wp2_with (first | ((with_reducible refine gate_builtin (b := .append) (xs := #[.tmp 43, .tmp 45]) rfl ?_); at_builtin; refine Kd.R_append Kd.string (w0 := w) w.heap.size rfl (.tmp 43) (.tmp 45) 39 9 (.string ⟨#[]⟩) 16 rfl Tryd.underlying39 info9 rfl (by decide) (by omega) u9 x9_1 a2 [.string a2] (fun _ => True) (fun _ => False) rfl rfl ?aP (fun _ hk => hk.elim) ?aF ?aO ?aB ?aS ?aL ?_; (case aP => exact rfl); (case aB => exact sC); (case aF => exact (fun _ _ => trivial)); (case aO => exact (by (with_reducible repeat (first | apply Kd.R_alloc | apply Kd.R_drewN | apply Kd.R_drew)); exact HO_9.out)); (case aS => exact (below_size sC)); (case aL => have := LMc34.out; omega); intro v421 w35 ho hb hg hat; rw [← Ny420.out] at ho; replace BK404 := Aside0.mk (blk_grown (g := gb404) (o := .cells #[.slice (some ad405) l0_0.length c0_0, .int .i64 a0_1] 29 (0, 0)) (sK BK404) hg (Kd.R_ne HO_9.out BK404.out (by decide))); replace HB := Aside0.mk (hb); have HO422 := Aside0.mk (ho); clear HO_9; clear ho hb hg hat))
      go_ret
      exact ⟨_, sE, by (with_reducible repeat (first | apply Kd.R_alloc | apply Kd.R_drewN | apply Kd.R_drew)); exact HO422.out, sC⟩
     ·replace c33 := Bool.eq_false_iff.mpr c33
      subst c33
      rw [if_neg (show ¬ (false = true) by decide)] at H
      obtain ⟨y423, hy423⟩ : ∃ y_ : List ByteArray, y_ = (([a2] : List ByteArray)) := ⟨_, rfl⟩
      replace H : (if y423.length + x9_1.length < 8796093022208 then (some (y423 ++ x9_1)) else (none)) = some r := by first | (rw [hy423]; with_reducible exact H) | (have H2_ := (Option.bind_some _ _).symm.trans H; rw [hy423]; with_reducible exact H2_) | (have H2_ := (Option.bind_some _ _).symm.trans H; with_reducible exact H2_) | with_reducible exact H | (rw [hy423]; exact H) | exact H
      have Ny423 := Aside0.mk hy423
      clear hy423
      obtain ⟨c36, H⟩ := iN H
      have LMc36 := Aside0.mk c36
      clear c36
      obtain ⟨y426, hy426⟩ : ∃ y_ : List ByteArray, y_ = (y423 ++ x9_1) := ⟨_, rfl⟩
      replace H : (some y426) = some r := by first | (rw [hy426]; with_reducible exact H) | (have H2_ := (Option.bind_some _ _).symm.trans H; rw [hy426]; with_reducible exact H2_) | (have H2_ := (Option.bind_some _ _).symm.trans H; with_reducible exact H2_) | with_reducible exact H | (rw [hy426]; exact H) | exact H
      have Ny426 := Aside0.mk hy426
      clear hy426
      obtain rfl := Option.some.inj H
      go_wp2_with (first | ((with_reducible refine gate_dst (N := 48) rfl ?_); refine Kd.R_lit Kd.string _ 9 ?hg (N := 48) ?hd (xs := ([a2] : List ByteArray)) (inner := [.string a2]) (ok := fun _ => True) (okp := fun _ => True) ?hr ?hp (fun _ hk => hk) trivial (Below.refl _ _) (Nat.le_refl _) (by simp) ?_; (case hd => rfl); (case hg => rfl); (case hr => first | (go_simp; done) | (go_simp; rfl)); (case hp => exact (Reps.one (show Kd.M Kd.string _ _ _ a2 [.string a2] from rfl) (Reps.none _ _))); intro v424 w37 ho38 hb hg_ hnew_; clear hg_ hnew_; (first | rw [← Ny423.out] at ho38 | (simp only [Int.reduceToNat] at ho38; rw [← Ny423.out] at ho38)); have HO425 := Aside0.mk (Kd.R_lower (Kd.R_new' ho38 (Kd.R_lt (by (with_reducible repeat (first | apply Kd.R_alloc | apply Kd.R_drewN | apply Kd.R_drew)); exact HO_9.out))) (below_size sC)); replace HO_9 := Aside0.mk (Kd.R_elder' (by (with_reducible repeat (first | apply Kd.R_alloc | apply Kd.R_drewN | apply Kd.R_drew)); exact HO_9.out) (Kd.R_base ho38) hb); replace BK404 := nK BK404 hb; replace HB := nSC hb; clear hb ho38; obtain ⟨Ao40, co40, eo40⟩ := Kd.R_slice HO_9.out; subst eo40) | ((with_reducible refine gate_builtin (b := .append) (xs := #[.tmp 48, .tmp 49]) rfl ?_); at_builtin; refine Kd.R_append_rows Kd.string (w0 := w) w.heap.size rfl (.tmp 48) (.tmp 49) 39 9 (.string ⟨#[]⟩) 16 rfl Tryd.underlying39 info9 rfl (by decide) (by omega) v424 y423 x9_1 _ _ _ (fun k_ => some k_ ≠ (.slice Ao40 x9_1.length co40 : Value).ownBlock) (fun _ => False) rfl rfl ?aO ?aR (fun _ _ h => h) (fun _ h => h.elim) ?aF ?aB ?aS ?aL ?_; (case aR => repeat (first | exact (Kd.R_reads' HO_9.out).2.2 | (with_reducible refine Kd.C_alloc ?_ _) | (with_reducible refine Kd.C_drewN ?_ _) | (with_reducible refine Kd.C_drew ?_))); (case aB => exact sC); (case aF => exact (fun k_ hk => Kd.fresh' (Kd.R_lt (by (with_reducible repeat (first | apply Kd.R_alloc | apply Kd.R_drewN | apply Kd.R_drew)); exact HO_9.out)) k_ hk)); (case aO => exact (by (with_reducible repeat (first | apply Kd.R_alloc | apply Kd.R_drewN | apply Kd.R_drew)); exact Kd.R_mono HO425.out (fun _ hk => hk.2))); (case aS => exact (below_size sC)); (case aL => have := LMc36.out; omega); intro v427 w39 ho hb hg hat; rw [← Ny426.out] at ho; replace HO_9 := Aside0.mk (Kd.R_after (ok := (fun _ => True)) (by (with_reducible repeat (first | apply Kd.R_alloc | apply Kd.R_drewN | apply Kd.R_drew)); exact HO_9.out) hg hat); replace BK404 := Aside0.mk (blk_grown (g := gb404) (o := .cells #[.slice (some ad405) l0_0.length c0_0, .int .i64 a0_1] 29 (0, 0)) (sK BK404) hg (Kd.R_ne HO425.out BK404.out (by decide))); replace HB := Aside0.mk (hb); have HO428 := Aside0.mk (ho); clear HO425; clear ho hb hg hat))
      go_ret
      exact ⟨_, sE, by (with_reducible repeat (first | apply Kd.R_alloc | apply Kd.R_drewN | apply Kd.R_drew)); exact Kd.R_mono HO428.out (fun _ hk => trivial), sC⟩
 ·rw [if_neg c5] at H
  exact absurd H (by simp)

/-! ### spec_WalkPre: function 36 -/
def spec_WalkPre.f (k : Nat) (l0_0 : List (S53)) (a0_1 : Int) (a1 : Int) : Option (List ByteArray × Bool) := (spec_l7Asked.f k l0_0 a0_1 a1).bind fun t430 => (if t430 = true then ((spec_l7Walk.f k l0_0 a0_1 a1 (⟨#[46]⟩ : ByteArray) false).bind fun t431 => (some (t431, true))) else (some (([] : List ByteArray), false)))
theorem spec_WalkPre.calls (k : Nat) (A0_0 : Option Addr) (c0_0 : Nat) (l0_0 : List (S53)) (a0_1 : Int) (a1 : Int) (r1 : List ByteArray) (r2 : Bool) (w : World) (hr0_0 : Kd.C k53 w A0_0 l0_0.length l0_0) (hc0_0 : l0_0.length ≤ c0_0) (h : spec_WalkPre.f k l0_0 a0_1 a1 = some (r1, r2)) :
  Calls Tryd.prog 36 #[.agg #[.slice A0_0 l0_0.length c0_0, .int .i64 a0_1], .int .i64 a1] w fun e w' => ∃ v0_ : Value, e = .returned (.tuple #[v0_, .bool r2]) ∧ Kd.R Kd.string 9 w' w.heap.size (fun _ => True) v0_ r1 ∧ Below w.heap.size w w' := by
 have hu29 := Tryd.underlying29
 have HR0_0 := Aside0.mk hr0_0
 have HC0_0 := Aside0.mk hc0_0
 clear hr0_0 hc0_0
 have HB := Aside0.mk (Below.refl w.heap.size w)
 have H : ((spec_l7Asked.f k l0_0 a0_1 a1).bind fun t430 => (if t430 = true then ((spec_l7Walk.f k l0_0 a0_1 a1 (⟨#[46]⟩ : ByteArray) false).bind fun t431 => (some (t431, true))) else (some (([] : List ByteArray), false)))) = some (r1, r2) := h
 clear h
 obtain ⟨t430, A3, H⟩ := bS H
 try dsimp only at H
 by_cases c4 : t430 = true
 ·subst c4
  rw [if_pos rfl] at H
  obtain ⟨t431, A5, H⟩ := bS H
  try dsimp only at H
  simp only [Option.some.injEq, Prod.mk.injEq] at H
  obtain ⟨rfl, rfl⟩ := H
  go_enter Tryd.func36, Tryd.ntmps36
  go_wp2_with (first | ((with_reducible refine gd 2 rfl ?_); refine bxE 2 #[.slice A0_0 l0_0.length c0_0, .int .i64 a0_1] 29 ?_; intro gb429 hg w6 hbox hb; have BK429 := Aside0.mk hbox; have GW429 := nGB hg; have GE429 := nGB hg; replace HB := nSB hb; clear hb hbox hg; have hcz7 := cb2 BK429) | ((with_reducible refine gt 62 rfl ?_); refine gL 62 8 Tryd.func62 #[.agg #[.slice A0_0 l0_0.length c0_0, .int .i64 a0_1], .int .i64 a1] ?_; (with_reducible refine (spec_l7Asked.calls k _ _ l0_0 a0_1 a1 true _ ?side1 ?side2 A3.out).mono ?_); (case side1 => exact sD (Kd.C_below HR0_0.out HB.out)); (case side2 => exact HC0_0.out); rintro e w8 ⟨rfl, hb⟩; refine ⟨_, rfl, ?_⟩; replace BK429 := nK BK429 hb; replace HB := nSC hb; try clear hb; have hcz9 := cb2 BK429) | ((with_reducible refine gt 65 rfl ?_); refine gL 65 12 Tryd.func65 #[.agg #[.slice A0_0 l0_0.length c0_0, .int .i64 a0_1], .int .i64 a1, .string (⟨#[46]⟩ : ByteArray), .bool false] ?_; (with_reducible refine (spec_l7Walk.calls k _ _ l0_0 a0_1 a1 (⟨#[46]⟩ : ByteArray) false t431 _ ?side1 ?side2 A5.out).mono ?_); (case side1 => exact sD (Kd.C_below HR0_0.out HB.out)); (case side2 => exact HC0_0.out); rintro e w10 ⟨v432, rfl, ho0, hb⟩; refine ⟨_, rfl, ?_⟩; have HO433 := Aside0.mk (Kd.R_lower ho0 (below_size sC)); replace BK429 := nK BK429 hb; replace HB := nSC hb; try clear hb; (try clear ho0)))
  go_ret2
  exact ⟨_, sE, by (with_reducible repeat (first | apply Kd.R_alloc | apply Kd.R_drewN | apply Kd.R_drew)); exact HO433.out, sC⟩
 ·replace c4 := Bool.eq_false_iff.mpr c4
  subst c4
  rw [if_neg (show ¬ (false = true) by decide)] at H
  simp only [Option.some.injEq, Prod.mk.injEq] at H
  obtain ⟨rfl, rfl⟩ := H
  go_enter Tryd.func36, Tryd.ntmps36
  go_wp2_with (first | ((with_reducible refine gd 2 rfl ?_); refine bxE 2 #[.slice A0_0 l0_0.length c0_0, .int .i64 a0_1] 29 ?_; intro gb429 hg w11 hbox hb; have BK429 := Aside0.mk hbox; have GW429 := nGB hg; have GE429 := nGB hg; replace HB := nSB hb; clear hb hbox hg; have hcz12 := cb2 BK429) | ((with_reducible refine gt 62 rfl ?_); refine gL 62 8 Tryd.func62 #[.agg #[.slice A0_0 l0_0.length c0_0, .int .i64 a0_1], .int .i64 a1] ?_; (with_reducible refine (spec_l7Asked.calls k _ _ l0_0 a0_1 a1 false _ ?side1 ?side2 A3.out).mono ?_); (case side1 => exact sD (Kd.C_below HR0_0.out HB.out)); (case side2 => exact HC0_0.out); rintro e w13 ⟨rfl, hb⟩; refine ⟨_, rfl, ?_⟩; replace BK429 := nK BK429 hb; replace HB := nSC hb; try clear hb))
  go_ret2
  exact ⟨_, sE, by first | exact Kd.R_nil _ _ _ _ _ | exact Kd.N_nil _ _ _ _ _ | exact Kd.V_nil _ _ _ _ _ | exact Kd.Q_nil _ _ _ _ _ | exact Kd.S_nil _ _ _ _ _, sC⟩

/-! ### impl_isGoodAt: function 52 -/
def impl_isGoodAt.f (k : Nat) (l0_0 : List (S53)) (a0_1 : Int) (a1 : Int) : Option (Bool) := (impl_GoodFs.f k l0_0 a0_1).bind fun t435 => (if t435 = true then ((impl_Fs_isThere.f l0_0 a0_1 a1).bind fun t436 => (some t436)) else (some false))
theorem impl_isGoodAt.calls (k : Nat) (A0_0 : Option Addr) (c0_0 : Nat) (l0_0 : List (S53)) (a0_1 : Int) (a1 : Int) (r : Bool) (w : World) (hr0_0 : Kd.C k53 w A0_0 l0_0.length l0_0) (hc0_0 : l0_0.length ≤ c0_0) (h : impl_isGoodAt.f k l0_0 a0_1 a1 = some r) :
  Calls Tryd.prog 52 #[.agg #[.slice A0_0 l0_0.length c0_0, .int .i64 a0_1], .int .i64 a1] w fun e w' => e = .returned (.bool r) ∧ Below w.heap.size w w' := by
 have hu29 := Tryd.underlying29
 have HR0_0 := Aside0.mk hr0_0
 have HC0_0 := Aside0.mk hc0_0
 clear hr0_0 hc0_0
 have HB := Aside0.mk (Below.refl w.heap.size w)
 have H : ((impl_GoodFs.f k l0_0 a0_1).bind fun t435 => (if t435 = true then ((impl_Fs_isThere.f l0_0 a0_1 a1).bind fun t436 => (some t436)) else (some false))) = some r := h
 clear h
 obtain ⟨t435, A3, H⟩ := bS H
 try dsimp only at H
 by_cases c4 : t435 = true
 ·subst c4
  rw [if_pos rfl] at H
  obtain ⟨t436, A5, H⟩ := bS H
  try dsimp only at H
  obtain rfl := Option.some.inj H
  go_enter Tryd.func52, Tryd.ntmps52
  go_wp2_with (first | ((with_reducible refine gd 2 rfl ?_); refine bxE 2 #[.slice A0_0 l0_0.length c0_0, .int .i64 a0_1] 29 ?_; intro gb434 hg w6 hbox hb; have BK434 := Aside0.mk hbox; have GW434 := nGB hg; have GE434 := nGB hg; replace HB := nSB hb; clear hb hbox hg; have hcz7 := cb2 BK434) | ((with_reducible refine gt 16 rfl ?_); refine gL 16 6 Tryd.func16 #[.agg #[.slice A0_0 l0_0.length c0_0, .int .i64 a0_1]] ?_; (with_reducible refine (impl_GoodFs.calls k _ _ l0_0 a0_1 true _ ?side1 ?side2 A3.out).mono ?_); (case side1 => exact sD (Kd.C_below HR0_0.out HB.out)); (case side2 => exact HC0_0.out); rintro e w8 ⟨rfl, hb⟩; refine ⟨_, rfl, ?_⟩; replace BK434 := nK BK434 hb; replace HB := nSC hb; try clear hb; have hcz9 := cb2 BK434) | (go_at_call 83; (with_reducible refine (impl_Fs_isThere.calls _ _ l0_0 a0_1 a1 t436 _ ?side1 ?side2 A5.out).mono ?_); (case side1 => exact sD (Kd.C_below HR0_0.out HB.out)); (case side2 => exact HC0_0.out); rintro e w10 ⟨rfl, hb⟩; replace BK434 := nK BK434 hb; replace HB := nSC hb; try clear hb))
  go_ret
  exact ⟨sE, sC⟩
 ·replace c4 := Bool.eq_false_iff.mpr c4
  subst c4
  rw [if_neg (show ¬ (false = true) by decide)] at H
  obtain rfl := Option.some.inj H
  go_enter Tryd.func52, Tryd.ntmps52
  go_wp2_with (first | ((with_reducible refine gd 2 rfl ?_); refine bxE 2 #[.slice A0_0 l0_0.length c0_0, .int .i64 a0_1] 29 ?_; intro gb434 hg w11 hbox hb; have BK434 := Aside0.mk hbox; have GW434 := nGB hg; have GE434 := nGB hg; replace HB := nSB hb; clear hb hbox hg; have hcz12 := cb2 BK434) | ((with_reducible refine gt 16 rfl ?_); refine gL 16 6 Tryd.func16 #[.agg #[.slice A0_0 l0_0.length c0_0, .int .i64 a0_1]] ?_; (with_reducible refine (impl_GoodFs.calls k _ _ l0_0 a0_1 false _ ?side1 ?side2 A3.out).mono ?_); (case side1 => exact sD (Kd.C_below HR0_0.out HB.out)); (case side2 => exact HC0_0.out); rintro e w13 ⟨rfl, hb⟩; refine ⟨_, rfl, ?_⟩; replace BK434 := nK BK434 hb; replace HB := nSC hb; try clear hb))
  go_ret
  exact ⟨sE, sC⟩

/-! ### impl_below: function 111 -/
def impl_below.f (a0 : ByteArray) (a1 : ByteArray) : Option (ByteArray) := if a0.toList = ([46] : List UInt8) then (some a1) else (if a0.size + 1 ≤ 9223372036854775807 then (if a0.size + 1 + a1.size ≤ 9223372036854775807 then (some ((a0 ++ (⟨#[47]⟩ : ByteArray)) ++ a1)) else (none)) else (none))
theorem impl_below.calls (a0 : ByteArray) (a1 : ByteArray) (r : ByteArray) (w : World) (h : impl_below.f a0 a1 = some r) :
  Calls Tryd.prog 111 #[.string a0, .string a1] w fun e w' => e = .returned (.string r) ∧ Drawn0 w w' := by
 have H : (if a0.toList = ([46] : List UInt8) then (some a1) else (if a0.size + 1 ≤ 9223372036854775807 then (if a0.size + 1 + a1.size ≤ 9223372036854775807 then (some ((a0 ++ (⟨#[47]⟩ : ByteArray)) ++ a1)) else (none)) else (none))) = some r := h
 clear h
 by_cases c3 : a0.toList = ([46] : List UInt8)
 ·rw [if_pos c3] at H
  have c3b0 := beq_iff_eq.mpr c3
  have c3b1 := bne_eq_false_iff_eq.mpr c3
  clear c3
  obtain rfl := Option.some.inj H
  go_enter Tryd.func111, Tryd.ntmps111
  go_wp2
  go_ret
  exact ⟨by first | rfl | (simp; done) | (simp [*]; done), by repeat (first | exact Drawn0.refl _ | apply Drawn0.step)⟩
 ·rw [if_neg c3] at H
  have c3b0 := beq_eq_false_iff_ne.mpr c3
  have c3b1 := bne_iff_ne.mpr c3
  by_cases c4 : a0.size + 1 ≤ 9223372036854775807
  ·rw [if_pos c4] at H
   have c4b0 := eq_true c4
   have c4b1 := decide_eq_true c4
   try have c4b2 : (9223372036854775807 < a0.size + 1) = False := eq_false (Nat.not_lt.2 c4)
   obtain ⟨c5, H⟩ := iN H
   have c5b0 := eq_true c5
   have c5b1 := decide_eq_true c5
   try have c5b2 : (9223372036854775807 < a0.size + 1 + a1.size) = False := eq_false (Nat.not_lt.2 c5)
   obtain rfl := Option.some.inj H
   go_enter Tryd.func111, Tryd.ntmps111
   go_wp2
   go_ret
   exact ⟨by first | rfl | (simp; done) | (simp [*]; done), by repeat (first | exact Drawn0.refl _ | apply Drawn0.step)⟩
  ·rw [if_neg c4] at H
   exact absurd H (by simp)

end Go.Proofs.YteffcglgdfhkmaaDoor.PWk
