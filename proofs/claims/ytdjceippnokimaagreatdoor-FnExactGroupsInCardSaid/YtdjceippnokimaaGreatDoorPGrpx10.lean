import Derived.Test.YtdjceippnokimaaGreatDoorPGrpx0
import Derived.Test.YtdjceippnokimaaGreatDoorPGrpx3
import Derived.Test.YtdjceippnokimaaGreatDoorPGrpx6
import Derived.Test.YtdjceippnokimaaGreatDoorPGrpx9
namespace Go.Proofs.YtdjceippnokimaaGreatDoor.PGrp
open Go.RowKit Go.Proofs.YtdjceippnokimaaGreatDoorW.PrintWords Go.Proofs.YtdjceippnokimaaGreatDoorW.PrintLast Go.Proofs.YtdjceippnokimaaGreatDoorW.PrintMore
attribute [local go_sem] max2_int min2_int max_two min_two max_three min_three max_four min_four   -- for this text's walks alone
set_option linter.unusedVariables false
set_option linter.unusedSimpArgs false
set_option maxHeartbeats 8000000
set_option maxRecDepth 100000
/-! ### spec_l3Is: function 38 -/
def spec_l3Is.f (l0_0 : List (S65)) (a0_1 : Int) (a1 : Int) : Option (Bool) := (spec_l1In.f a1 0 (wrap64 ((l0_0.length : Int) - 1))).bind fun t281 => (if t281 = true then (if 0 ≤ a1 then (if a1 < (l0_0.length : Int) then (some (((rd_T65 l0_0 a1).f0) != 0)) else (none)) else (none)) else (some false))
theorem spec_l3Is.calls (A0_0 : Option Addr) (c0_0 : Nat) (l0_0 : List (S65)) (a0_1 : Int) (a1 : Int) (r : Bool) (w : World) (hr0_0 : Kd.C k65 w A0_0 l0_0.length l0_0) (hc0_0 : l0_0.length ≤ c0_0) (h : spec_l3Is.f l0_0 a0_1 a1 = some r) :
  Calls Tryz.prog 38 #[.agg #[.slice A0_0 l0_0.length c0_0, .int .i64 a0_1], .int .i64 a1] w fun e w' => e = .returned (.bool r) ∧ Below w.heap.size w w' := by
 have hu30 := Tryz.underlying30
 have HR0_0 := Aside0.mk hr0_0
 have HC0_0 := Aside0.mk hc0_0
 clear hr0_0 hc0_0
 have HB := Aside0.mk (Below.refl w.heap.size w)
 have H : ((spec_l1In.f a1 0 (wrap64 ((l0_0.length : Int) - 1))).bind fun t281 => (if t281 = true then (if 0 ≤ a1 then (if a1 < (l0_0.length : Int) then (some (((rd_T65 l0_0 a1).f0) != 0)) else (none)) else (none)) else (some false))) = some r := h
 clear h
 obtain ⟨t281, A3, H⟩ := bS H
 try dsimp only at H
 by_cases c4 : t281 = true
 ·subst c4
  rw [if_pos rfl] at H
  obtain ⟨c5, H⟩ := iN H
  have c5b0 := decide_eq_true c5
  clear c5
  obtain ⟨c6, H⟩ := iN H
  have c6b0 := decide_eq_true c6
  clear c6
  obtain rfl := Option.some.inj H
  go_enter Tryz.func38, Tryz.ntmps38
  go_wp2_with (first | ((with_reducible refine gd 2 rfl ?_); refine bxE 2 #[.slice A0_0 l0_0.length c0_0, .int .i64 a0_1] 30 ?_; intro gb280 hg w7 hbox hb; have BK280 := Aside0.mk hbox; have GW280 := nGB hg; have GE280 := nGB hg; replace HB := nSB hb; clear hb hbox hg; have hcz8 := cb2 BK280) | ((with_reducible refine gt 60 rfl ?_); refine gL 60 10 Tryz.func60 #[.int .i64 a1, .int .i64 0, .int .i64 (wrap64 ((l0_0.length : Int) - 1))] ?_; (with_reducible refine (spec_l1In.calls a1 0 (wrap64 ((l0_0.length : Int) - 1)) true _ A3.out).mono ?_); rintro e w' ⟨rfl, ⟨nd, rfl⟩⟩; refine ⟨_, rfl, ?_⟩; have p282 : 0 ≤ (a1 : Int) := sO; have q282 : a1 < (l0_0.length : Int) := sO; obtain ⟨ad282, A282_6, c282_6, e282, hx282_0, hx282_1, hx282_2, hx282_3, hx282_4, hx282_5, hx282_6, hl282_6, hi282_6⟩ := ab65 HR0_0.out HB a1 p282 q282; cases e282; have HR282_6 := Aside0.mk hi282_6; have HC282_6 := Aside0.mk hl282_6; clear hi282_6 hl282_6; replace p282 := eq_true p282; replace q282 := eq_true q282))
  go_ret
  exact ⟨sE, sC⟩
 ·replace c4 := Bool.eq_false_iff.mpr c4
  subst c4
  rw [if_neg (show ¬ (false = true) by decide)] at H
  obtain rfl := Option.some.inj H
  go_enter Tryz.func38, Tryz.ntmps38
  go_wp2_with (first | ((with_reducible refine gd 2 rfl ?_); refine bxE 2 #[.slice A0_0 l0_0.length c0_0, .int .i64 a0_1] 30 ?_; intro gb280 hg w9 hbox hb; have BK280 := Aside0.mk hbox; have GW280 := nGB hg; have GE280 := nGB hg; replace HB := nSB hb; clear hb hbox hg; have hcz10 := cb2 BK280) | ((with_reducible refine gt 60 rfl ?_); refine gL 60 10 Tryz.func60 #[.int .i64 a1, .int .i64 0, .int .i64 (wrap64 ((l0_0.length : Int) - 1))] ?_; (with_reducible refine (spec_l1In.calls a1 0 (wrap64 ((l0_0.length : Int) - 1)) false _ A3.out).mono ?_); rintro e w' ⟨rfl, ⟨nd, rfl⟩⟩; refine ⟨_, rfl, ?_⟩))
  go_ret
  exact ⟨sE, sC⟩
def spec_l7Asked.f (k : Nat) (l0_0 : List (S65)) (a0_1 : Int) (a1 : Int) : Option (Bool) := (spec_l3Good.f k l0_0 a0_1).bind fun t284 => (if t284 = true then ((spec_l3Is.f l0_0 a0_1 a1).bind fun t285 => (some t285)) else (some false))
theorem spec_l7Asked.calls (k : Nat) (A0_0 : Option Addr) (c0_0 : Nat) (l0_0 : List (S65)) (a0_1 : Int) (a1 : Int) (r : Bool) (w : World) (hr0_0 : Kd.C k65 w A0_0 l0_0.length l0_0) (hc0_0 : l0_0.length ≤ c0_0) (h : spec_l7Asked.f k l0_0 a0_1 a1 = some r) :
  Calls Tryz.prog 20 #[.agg #[.slice A0_0 l0_0.length c0_0, .int .i64 a0_1], .int .i64 a1] w fun e w' => e = .returned (.bool r) ∧ Below w.heap.size w w' := by
 have hu30 := Tryz.underlying30
 have HR0_0 := Aside0.mk hr0_0
 have HC0_0 := Aside0.mk hc0_0
 clear hr0_0 hc0_0
 have HB := Aside0.mk (Below.refl w.heap.size w)
 have H : ((spec_l3Good.f k l0_0 a0_1).bind fun t284 => (if t284 = true then ((spec_l3Is.f l0_0 a0_1 a1).bind fun t285 => (some t285)) else (some false))) = some r := h
 clear h
 obtain ⟨t284, A3, H⟩ := bS H
 try dsimp only at H
 by_cases c4 : t284 = true
 ·subst c4
  rw [if_pos rfl] at H
  obtain ⟨t285, A5, H⟩ := bS H
  try dsimp only at H
  obtain rfl := Option.some.inj H
  go_enter Tryz.func20, Tryz.ntmps20
  go_wp2_with (first | ((with_reducible refine gd 2 rfl ?_); refine bxE 2 #[.slice A0_0 l0_0.length c0_0, .int .i64 a0_1] 30 ?_; intro gb283 hg w6 hbox hb; have BK283 := Aside0.mk hbox; have GW283 := nGB hg; have GE283 := nGB hg; replace HB := nSB hb; clear hb hbox hg; have hcz7 := cb2 BK283) | ((with_reducible refine gt 37 rfl ?_); refine gL 37 6 Tryz.func37 #[.agg #[.slice A0_0 l0_0.length c0_0, .int .i64 a0_1]] ?_; (with_reducible refine (spec_l3Good.calls k _ _ l0_0 a0_1 true _ ?side1 ?side2 A3.out).mono ?_); (case side1 => exact sD (Kd.C_below HR0_0.out HB.out)); (case side2 => exact HC0_0.out); rintro e w8 ⟨rfl, hb⟩; refine ⟨_, rfl, ?_⟩; replace BK283 := nK BK283 hb; replace HB := nSC hb; try clear hb; have hcz9 := cb2 BK283) | (go_at_call 38; (with_reducible refine (spec_l3Is.calls _ _ l0_0 a0_1 a1 t285 _ ?side1 ?side2 A5.out).mono ?_); (case side1 => exact sD (Kd.C_below HR0_0.out HB.out)); (case side2 => exact HC0_0.out); rintro e w10 ⟨rfl, hb⟩; replace BK283 := nK BK283 hb; replace HB := nSC hb; try clear hb))
  go_ret
  exact ⟨sE, sC⟩
 ·replace c4 := Bool.eq_false_iff.mpr c4
  subst c4
  rw [if_neg (show ¬ (false = true) by decide)] at H
  obtain rfl := Option.some.inj H
  go_enter Tryz.func20, Tryz.ntmps20
  go_wp2_with (first | ((with_reducible refine gd 2 rfl ?_); refine bxE 2 #[.slice A0_0 l0_0.length c0_0, .int .i64 a0_1] 30 ?_; intro gb283 hg w11 hbox hb; have BK283 := Aside0.mk hbox; have GW283 := nGB hg; have GE283 := nGB hg; replace HB := nSB hb; clear hb hbox hg; have hcz12 := cb2 BK283) | ((with_reducible refine gt 37 rfl ?_); refine gL 37 6 Tryz.func37 #[.agg #[.slice A0_0 l0_0.length c0_0, .int .i64 a0_1]] ?_; (with_reducible refine (spec_l3Good.calls k _ _ l0_0 a0_1 false _ ?side1 ?side2 A3.out).mono ?_); (case side1 => exact sD (Kd.C_below HR0_0.out HB.out)); (case side2 => exact HC0_0.out); rintro e w13 ⟨rfl, hb⟩; refine ⟨_, rfl, ?_⟩; replace BK283 := nK BK283 hb; replace HB := nSC hb; try clear hb))
  go_ret
  exact ⟨sE, sC⟩
mutual
def spec_l7Walk.l0 : Nat → ByteArray → Bool → List ByteArray → List (S104) → Int → Int → List (S65) → Int → Option (List ByteArray)
 | 0, _, _, _, _, _, _, _, _ => none
 | k + 1, x2, x3, x9, x18, x19, x20, x287000, x287001 => if x20 < x19 then (if 0 ≤ x20 then (if x20 < (x18.length : Int) then (if x2.toList = ([46] : List UInt8) then ((spec_l7Walk.f k x287000 x287001 ((rd_T104 x18 x20).f1) ((rd_T104 x18 x20).f0) x3).bind fun t290 => (if x9.length + t290.length < 8796093022208 then (spec_l7Walk.l0 k x2 x3 (x9 ++ t290) x18 x19 (wrap64 (x20 + 1)) x287000 x287001) else (none))) else (if x2.size + 1 ≤ 9223372036854775807 then (if x2.size + 1 + ((rd_T104 x18 x20).f0).size ≤ 9223372036854775807 then ((spec_l7Walk.f k x287000 x287001 ((rd_T104 x18 x20).f1) ((x2 ++ (⟨#[47]⟩ : ByteArray)) ++ ((rd_T104 x18 x20).f0)) x3).bind fun t296 => (if x9.length + t296.length < 8796093022208 then (spec_l7Walk.l0 k x2 x3 (x9 ++ t296) x18 x19 (wrap64 (x20 + 1)) x287000 x287001) else (none))) else (none)) else (none))) else (none)) else (none)) else (if x3 = true then (if x9.length < 8796093022208 then (some (x9 ++ [x2])) else (none)) else ((some (([x2] : List ByteArray) : List ByteArray)).bind fun y305 => (if y305.length + x9.length < 8796093022208 then (some (y305 ++ x9)) else (none))))
def spec_l7Walk.f : Nat → List (S65) → Int → Int → ByteArray → Bool → Option (List ByteArray)
 | 0, _, _, _, _, _ => none
 | k + 1, l0_0, a0_1, a1, a2, a3 => if 0 ≤ a1 then (if a1 < (l0_0.length : Int) then (spec_l7Walk.l0 k a2 a3 ([] : List ByteArray) ((rd_T65 l0_0 a1).f6) (((rd_T65 l0_0 a1).f6).length : Int) 0 l0_0 a0_1) else (none)) else (none)
end
theorem spec_l7Walk.calls (k : Nat) : ∀ (A0_0 : Option Addr) (c0_0 : Nat) (l0_0 : List (S65)) (a0_1 : Int) (a1 : Int) (a2 : ByteArray) (a3 : Bool) (r : List ByteArray) (w : World) (hr0_0 : Kd.C k65 w A0_0 l0_0.length l0_0) (hc0_0 : l0_0.length ≤ c0_0) (h : spec_l7Walk.f k l0_0 a0_1 a1 a2 a3 = some r),
  Calls Tryz.prog 51 #[.agg #[.slice A0_0 l0_0.length c0_0, .int .i64 a0_1], .int .i64 a1, .string a2, .bool a3] w fun e w' => ∃ v0_ : Value, e = .returned (v0_) ∧ Kd.R Kd.string 9 w' w.heap.size (fun _ => True) v0_ r ∧ Below w.heap.size w w' := by
 induction k using Nat.strongRecOn with
 | _ k ih =>
 intro A0_0 c0_0 l0_0 a0_1 a1 a2 a3 r w hr0_0 hc0_0 h
 cases k with
 | zero => exact absurd h (by simp [spec_l7Walk.f])
 | succ k =>
 simp only [spec_l7Walk.f] at h
 have hu30 := Tryz.underlying30
 have hu104 := Tryz.underlying104
 have HR0_0 := Aside0.mk hr0_0
 have HC0_0 := Aside0.mk hc0_0
 clear hr0_0 hc0_0
 have HB := Aside0.mk (Below.refl w.heap.size w)
 have H : (if 0 ≤ a1 then (if a1 < (l0_0.length : Int) then (spec_l7Walk.l0 k a2 a3 ([] : List ByteArray) ((rd_T65 l0_0 a1).f6) (((rd_T65 l0_0 a1).f6).length : Int) 0 l0_0 a0_1) else (none)) else (none)) = some r := h
 clear h
 by_cases c5 : 0 ≤ a1
 ·rw [if_pos c5] at H
  have c5b0 := decide_eq_true c5
  clear c5
  obtain ⟨c6, H⟩ := iN H
  have c6b0 := decide_eq_true c6
  clear c6
  have H' := Aside0.mk H
  clear H
  go_enter Tryz.func51, Tryz.ntmps51
  go_wp2_with (first | ((with_reducible refine gd 4 rfl ?_); refine bxE 4 #[.slice A0_0 l0_0.length c0_0, .int .i64 a0_1] 30 ?_; intro gb286 hg w7 hbox hb; have BK286 := Aside0.mk hbox; have GW286 := nGB hg; have GE286 := nGB hg; replace HB := nSB hb; clear hb hbox hg; have hcz8 := cb2 BK286; have p287 : 0 ≤ (a1 : Int) := sO; have q287 : a1 < (l0_0.length : Int) := sO; obtain ⟨ad287, A287_6, c287_6, e287, hx287_0, hx287_1, hx287_2, hx287_3, hx287_4, hx287_5, hx287_6, hl287_6, hi287_6⟩ := ab65 HR0_0.out HB a1 p287 q287; cases e287; have HR287_6 := Aside0.mk hi287_6; have HC287_6 := Aside0.mk hl287_6; clear hi287_6 hl287_6; replace p287 := eq_true p287; replace q287 := eq_true q287))
  go_loopg [9, 20] k (fun kq v9 v20 w' => ∃ (x9_1 : List ByteArray) (x20_1 : Int), v20 = .int .i64 x20_1 ∧ Aside0 (spec_l7Walk.l0 kq a2 a3 x9_1 ((rd_T65 l0_0 a1).f6) (((rd_T65 l0_0 a1).f6).length : Int) x20_1 l0_0 a0_1 = some r) ∧ Aside0 (kq ≤ k) ∧ Aside0 (Kd.R Kd.string 9 w' w.heap.size (fun _ => True) v9 x9_1) ∧ Aside0 (w'.heap[gb286]? = some (.cells #[(.slice (some ad287) l0_0.length c0_0), .int .i64 a0_1] 30 (0, 0))) ∧ Aside0 (Below w.heap.size w w'))
  case atStart => exact ⟨(([] : List ByteArray)), (0), sR, H', ⟨Nat.le_refl _⟩, ⟨by first | exact Kd.R_nil _ _ _ _ _ | exact Kd.N_nil _ _ _ _ _ | exact Kd.V_nil _ _ _ _ _ | exact Kd.Q_nil _ _ _ _ _ | exact Kd.S_nil _ _ _ _ _⟩, ⟨sK BK286⟩, ⟨sC⟩⟩
  case round =>
   clear H'
   try clear c2
   try clear p2
   try clear q2
   try clear hx2
   try clear c5
   try clear c5b0
   try clear c6
   try clear c6b0
   try clear hcz8
   try clear hx287_0
   try clear hx287_1
   try clear hx287_2
   try clear hx287_3
   try clear hx287_4
   try clear hx287_5
   try clear hx287_6
   try clear p287
   try clear q287
   obtain ⟨x9_1, x20_1, rfl, HA, HK1, HO_9, BK286, HB⟩ := hrel
   cases gk with
   | zero => exact absurd HA.out (by simp [spec_l7Walk.l0])
   | succ k1 =>
    have H := HA.out
    clear HA
    simp only [spec_l7Walk.l0] at H
    by_cases c9 : x20_1 < (((rd_T65 l0_0 a1).f6).length : Int)
    ·rw [if_pos c9] at H
     have c9b0 := decide_eq_true c9
     clear c9
     obtain ⟨c10, H⟩ := iN H
     have c10b0 := decide_eq_true c10
     clear c10
     obtain ⟨c11, H⟩ := iN H
     have c11b0 := decide_eq_true c11
     clear c11
     by_cases c12 : a2.toList = ([46] : List UInt8)
     ·rw [if_pos c12] at H
      have c12b0 := beq_iff_eq.mpr c12
      have c12b1 := bne_eq_false_iff_eq.mpr c12
      clear c12
      obtain ⟨t290, A13, H⟩ := bS H
      try dsimp only at H
      obtain ⟨c14, H⟩ := iN H
      have LMc14 := Aside0.mk c14
      clear c14
      obtain ⟨y293, hy293⟩ : ∃ y_ : List ByteArray, y_ = (x9_1 ++ t290) := ⟨_, rfl⟩
      replace H : (spec_l7Walk.l0 k1 a2 a3 y293 ((rd_T65 l0_0 a1).f6) (((rd_T65 l0_0 a1).f6).length : Int) (wrap64 (x20_1 + 1)) l0_0 a0_1) = some r := by first | (rw [hy293]; with_reducible exact H) | (have H2_ := (Option.bind_some _ _).symm.trans H; rw [hy293]; with_reducible exact H2_) | (have H2_ := (Option.bind_some _ _).symm.trans H; with_reducible exact H2_) | with_reducible exact H | (rw [hy293]; exact H) | exact H
      have Ny293 := Aside0.mk hy293
      clear hy293
      have H' := Aside0.mk H
      clear H
      have p288 : 0 ≤ (x20_1 : Int) := sO
      have q288 : x20_1 < (((rd_T65 l0_0 a1).f6).length : Int) := sO
      obtain ⟨ad288, e288, hx288_0, hx288_1⟩ := ab104 HR287_6.out HB x20_1 p288 q288
      cases e288
      replace p288 := eq_true p288
      replace q288 := eq_true q288
      go_wp2_with (first | ((with_reducible refine gd 11 rfl ?_); refine bxE 11 #[.string (⟨#[]⟩ : ByteArray), .int .i64 0] 104 ?_; intro gb289 hg w15 hbox hb; replace HO_9 := nR HO_9 hb; have BK289 := Aside0.mk hbox; have GW289 := nGC hg; have GE289 := nGC hg; replace HB := nSC hb; have NB286_289 := nL BK286 hg; have NB289_286 := nH BK286 hg; replace BK286 := nK BK286 hb; clear hb hbox hg; have hnb16 := NB289_286.out; have hnc16 := NB286_289.out; have hcz17 := cb2 BK289; have hcz18 := cb2 BK286) | ((with_reducible refine gt 51 rfl ?_); refine gL 51 39 Tryz.func51 #[.agg #[.slice (some ad287) l0_0.length c0_0, .int .i64 a0_1], .int .i64 ((rd_T104 ((rd_T65 l0_0 a1).f6) x20_1).f1), .string ((rd_T104 ((rd_T65 l0_0 a1).f6) x20_1).f0), .bool a3] ?_; (with_reducible refine (ih k1 (by have := HK1.out; omega) _ _ l0_0 a0_1 ((rd_T104 ((rd_T65 l0_0 a1).f6) x20_1).f1) ((rd_T104 ((rd_T65 l0_0 a1).f6) x20_1).f0) a3 t290 _ ?side1 ?side2 A13.out).mono ?_); (case side1 => exact Kd.C_below HR0_0.out sC); (case side2 => exact HC0_0.out); rintro e w19 ⟨v291, rfl, ho0, hb⟩; refine ⟨_, rfl, ?_⟩; have HO292 := Aside0.mk (Kd.R_lower (Kd.R_new' ho0 (Kd.R_lt (by (with_reducible repeat (first | apply Kd.R_alloc | apply Kd.R_drewN | apply Kd.R_drew)); exact (Kd.R_mono (Kd.R_far (p := ⟨gb289, 1, none⟩) (Kd.R_far (p := ⟨gb289, 0, none⟩) (Kd.R_types HO_9.out BK289.out (by decide)) (fun _ hk => hk.2) (.string ((rd_T104 ((rd_T65 l0_0 a1).f6) x20_1).f0))) (fun _ hk => hk.2) (.int .i64 ((rd_T104 ((rd_T65 l0_0 a1).f6) x20_1).f1))) (fun _ h_ => h_.1))))) (below_size sC)); replace HO_9 := Aside0.mk (Kd.R_elder' (by (with_reducible repeat (first | apply Kd.R_alloc | apply Kd.R_drewN | apply Kd.R_drew)); exact (Kd.R_mono (Kd.R_far (p := ⟨gb289, 1, none⟩) (Kd.R_far (p := ⟨gb289, 0, none⟩) (Kd.R_types HO_9.out BK289.out (by decide)) (fun _ hk => hk.2) (.string ((rd_T104 ((rd_T65 l0_0 a1).f6) x20_1).f0))) (fun _ hk => hk.2) (.int .i64 ((rd_T104 ((rd_T65 l0_0 a1).f6) x20_1).f1))) (fun _ h_ => h_.1))) (Kd.R_base ho0) hb); replace BK286 := nF BK286 hb; replace BK289 := nX #[.string ((rd_T104 ((rd_T65 l0_0 a1).f6) x20_1).f0), .int .i64 ((rd_T104 ((rd_T65 l0_0 a1).f6) x20_1).f1)] BK289 hb; replace HB := nSC hb; try clear hb; (try clear ho0); obtain ⟨Ao21, co21, eo21⟩ := Kd.R_slice HO292.out; subst eo21) | ((with_reducible refine gate_builtin (b := .append) (xs := #[.tmp 33, .tmp 39]) rfl ?_); at_builtin; refine Kd.R_append_rows Kd.string (w0 := w) w.heap.size rfl (.tmp 33) (.tmp 39) 49 9 (.string ⟨#[]⟩) 16 rfl Tryz.underlying49 info9 rfl (by decide) (by omega) u9 x9_1 t290 _ _ _ (fun k_ => some k_ ≠ (.slice Ao21 t290.length co21 : Value).ownBlock) (fun _ => False) rfl rfl ?aO ?aR (fun _ _ h => h) (fun _ h => h.elim) ?aF ?aB ?aS ?aL ?_; (case aR => repeat (first | exact (Kd.R_reads' HO292.out).2.2 | (with_reducible refine Kd.C_alloc ?_ _) | (with_reducible refine Kd.C_drewN ?_ _) | (with_reducible refine Kd.C_drew ?_))); (case aB => exact sC); (case aF => exact (fun k_ hk => Kd.fresh' (Kd.R_lt (by (with_reducible repeat (first | apply Kd.R_alloc | apply Kd.R_drewN | apply Kd.R_drew)); exact HO292.out)) k_ hk)); (case aO => exact (by (with_reducible repeat (first | apply Kd.R_alloc | apply Kd.R_drewN | apply Kd.R_drew)); exact Kd.R_mono HO_9.out (fun _ hk => hk.2))); (case aS => exact (below_size sC)); (case aL => have := LMc14.out; omega); intro v294 w20 ho hb hg hat; rw [← Ny293.out] at ho; replace BK286 := Aside0.mk (blk_grown (g := gb286) (o := .cells #[.slice (some ad287) l0_0.length c0_0, .int .i64 a0_1] 30 (0, 0)) (sK BK286) hg (Kd.R_ne HO_9.out BK286.out (by decide))); replace BK289 := Aside0.mk (blk_grown (g := gb289) (o := .cells #[.string ((rd_T104 ((rd_T65 l0_0 a1).f6) x20_1).f0), .int .i64 ((rd_T104 ((rd_T65 l0_0 a1).f6) x20_1).f1)] 104 (0, 0)) (sK BK289) hg (Kd.R_ne HO_9.out BK289.out (by decide))); replace HO292 := Aside0.mk (Kd.R_after (ok := (fun _ => True)) (by (with_reducible repeat (first | apply Kd.R_alloc | apply Kd.R_drewN | apply Kd.R_drew)); exact HO292.out) hg hat); replace HB := Aside0.mk (hb); have HO295 := Aside0.mk (ho); clear HO_9; clear ho hb hg hat))
      go_roundg k1
      case measure => have := HK1.out; omega
      case rel => exact ⟨(y293), (wrap64 (x20_1 + 1)), sR, H', ⟨by have := HK1.out; omega⟩, ⟨by (with_reducible repeat (first | apply Kd.R_alloc | apply Kd.R_drewN | apply Kd.R_drew)); exact Kd.R_mono HO295.out (fun _ hk => trivial)⟩, ⟨sK BK286⟩, ⟨sC⟩⟩
     ·rw [if_neg c12] at H
      have c12b0 := beq_eq_false_iff_ne.mpr c12
      have c12b1 := bne_iff_ne.mpr c12
      obtain ⟨c22, H⟩ := iN H
      have c22b0 := eq_true c22
      have c22b1 := decide_eq_true c22
      try have c22b2 : (9223372036854775807 < a2.size + 1) = False := eq_false (Nat.not_lt.2 c22)
      obtain ⟨c23, H⟩ := iN H
      have c23b0 := eq_true c23
      have c23b1 := decide_eq_true c23
      try have c23b2 : (9223372036854775807 < a2.size + 1 + ((rd_T104 ((rd_T65 l0_0 a1).f6) x20_1).f0).size) = False := eq_false (Nat.not_lt.2 c23)
      obtain ⟨t296, A24, H⟩ := bS H
      try dsimp only at H
      obtain ⟨c25, H⟩ := iN H
      have LMc25 := Aside0.mk c25
      clear c25
      obtain ⟨y299, hy299⟩ : ∃ y_ : List ByteArray, y_ = (x9_1 ++ t296) := ⟨_, rfl⟩
      replace H : (spec_l7Walk.l0 k1 a2 a3 y299 ((rd_T65 l0_0 a1).f6) (((rd_T65 l0_0 a1).f6).length : Int) (wrap64 (x20_1 + 1)) l0_0 a0_1) = some r := by first | (rw [hy299]; with_reducible exact H) | (have H2_ := (Option.bind_some _ _).symm.trans H; rw [hy299]; with_reducible exact H2_) | (have H2_ := (Option.bind_some _ _).symm.trans H; with_reducible exact H2_) | with_reducible exact H | (rw [hy299]; exact H) | exact H
      have Ny299 := Aside0.mk hy299
      clear hy299
      have H' := Aside0.mk H
      clear H
      have p288 : 0 ≤ (x20_1 : Int) := sO
      have q288 : x20_1 < (((rd_T65 l0_0 a1).f6).length : Int) := sO
      obtain ⟨ad288, e288, hx288_0, hx288_1⟩ := ab104 HR287_6.out HB x20_1 p288 q288
      cases e288
      replace p288 := eq_true p288
      replace q288 := eq_true q288
      go_wp2_with (first | ((with_reducible refine gd 11 rfl ?_); refine bxE 11 #[.string (⟨#[]⟩ : ByteArray), .int .i64 0] 104 ?_; intro gb289 hg w26 hbox hb; replace HO_9 := nR HO_9 hb; have BK289 := Aside0.mk hbox; have GW289 := nGC hg; have GE289 := nGC hg; replace HB := nSC hb; have NB286_289 := nL BK286 hg; have NB289_286 := nH BK286 hg; replace BK286 := nK BK286 hb; clear hb hbox hg; have hnb27 := NB289_286.out; have hnc27 := NB286_289.out; have hcz28 := cb2 BK289; have hcz29 := cb2 BK286) | ((with_reducible refine gt 51 rfl ?_); refine gL 51 39 Tryz.func51 #[.agg #[.slice (some ad287) l0_0.length c0_0, .int .i64 a0_1], .int .i64 ((rd_T104 ((rd_T65 l0_0 a1).f6) x20_1).f1), .string ((a2 ++ (⟨#[47]⟩ : ByteArray)) ++ ((rd_T104 ((rd_T65 l0_0 a1).f6) x20_1).f0)), .bool a3] ?_; (with_reducible refine (ih k1 (by have := HK1.out; omega) _ _ l0_0 a0_1 ((rd_T104 ((rd_T65 l0_0 a1).f6) x20_1).f1) ((a2 ++ (⟨#[47]⟩ : ByteArray)) ++ ((rd_T104 ((rd_T65 l0_0 a1).f6) x20_1).f0)) a3 t296 _ ?side1 ?side2 A24.out).mono ?_); (case side1 => exact Kd.C_below HR0_0.out sC); (case side2 => exact HC0_0.out); rintro e w30 ⟨v297, rfl, ho0, hb⟩; refine ⟨_, rfl, ?_⟩; have HO298 := Aside0.mk (Kd.R_lower (Kd.R_new' ho0 (Kd.R_lt (by (with_reducible repeat (first | apply Kd.R_alloc | apply Kd.R_drewN | apply Kd.R_drew)); exact (Kd.R_mono (Kd.R_far (p := ⟨gb289, 1, none⟩) (Kd.R_far (p := ⟨gb289, 0, none⟩) (Kd.R_types HO_9.out BK289.out (by decide)) (fun _ hk => hk.2) (.string ((rd_T104 ((rd_T65 l0_0 a1).f6) x20_1).f0))) (fun _ hk => hk.2) (.int .i64 ((rd_T104 ((rd_T65 l0_0 a1).f6) x20_1).f1))) (fun _ h_ => h_.1))))) (below_size sC)); replace HO_9 := Aside0.mk (Kd.R_elder' (by (with_reducible repeat (first | apply Kd.R_alloc | apply Kd.R_drewN | apply Kd.R_drew)); exact (Kd.R_mono (Kd.R_far (p := ⟨gb289, 1, none⟩) (Kd.R_far (p := ⟨gb289, 0, none⟩) (Kd.R_types HO_9.out BK289.out (by decide)) (fun _ hk => hk.2) (.string ((rd_T104 ((rd_T65 l0_0 a1).f6) x20_1).f0))) (fun _ hk => hk.2) (.int .i64 ((rd_T104 ((rd_T65 l0_0 a1).f6) x20_1).f1))) (fun _ h_ => h_.1))) (Kd.R_base ho0) hb); replace BK286 := nF BK286 hb; replace BK289 := nX #[.string ((rd_T104 ((rd_T65 l0_0 a1).f6) x20_1).f0), .int .i64 ((rd_T104 ((rd_T65 l0_0 a1).f6) x20_1).f1)] BK289 hb; replace HB := nSC hb; try clear hb; (try clear ho0); obtain ⟨Ao32, co32, eo32⟩ := Kd.R_slice HO298.out; subst eo32) | ((with_reducible refine gate_builtin (b := .append) (xs := #[.tmp 33, .tmp 39]) rfl ?_); at_builtin; refine Kd.R_append_rows Kd.string (w0 := w) w.heap.size rfl (.tmp 33) (.tmp 39) 49 9 (.string ⟨#[]⟩) 16 rfl Tryz.underlying49 info9 rfl (by decide) (by omega) u9 x9_1 t296 _ _ _ (fun k_ => some k_ ≠ (.slice Ao32 t296.length co32 : Value).ownBlock) (fun _ => False) rfl rfl ?aO ?aR (fun _ _ h => h) (fun _ h => h.elim) ?aF ?aB ?aS ?aL ?_; (case aR => repeat (first | exact (Kd.R_reads' HO298.out).2.2 | (with_reducible refine Kd.C_alloc ?_ _) | (with_reducible refine Kd.C_drewN ?_ _) | (with_reducible refine Kd.C_drew ?_))); (case aB => exact sC); (case aF => exact (fun k_ hk => Kd.fresh' (Kd.R_lt (by (with_reducible repeat (first | apply Kd.R_alloc | apply Kd.R_drewN | apply Kd.R_drew)); exact HO298.out)) k_ hk)); (case aO => exact (by (with_reducible repeat (first | apply Kd.R_alloc | apply Kd.R_drewN | apply Kd.R_drew)); exact Kd.R_mono HO_9.out (fun _ hk => hk.2))); (case aS => exact (below_size sC)); (case aL => have := LMc25.out; omega); intro v300 w31 ho hb hg hat; rw [← Ny299.out] at ho; replace BK286 := Aside0.mk (blk_grown (g := gb286) (o := .cells #[.slice (some ad287) l0_0.length c0_0, .int .i64 a0_1] 30 (0, 0)) (sK BK286) hg (Kd.R_ne HO_9.out BK286.out (by decide))); replace BK289 := Aside0.mk (blk_grown (g := gb289) (o := .cells #[.string ((rd_T104 ((rd_T65 l0_0 a1).f6) x20_1).f0), .int .i64 ((rd_T104 ((rd_T65 l0_0 a1).f6) x20_1).f1)] 104 (0, 0)) (sK BK289) hg (Kd.R_ne HO_9.out BK289.out (by decide))); replace HO298 := Aside0.mk (Kd.R_after (ok := (fun _ => True)) (by (with_reducible repeat (first | apply Kd.R_alloc | apply Kd.R_drewN | apply Kd.R_drew)); exact HO298.out) hg hat); replace HB := Aside0.mk (hb); have HO301 := Aside0.mk (ho); clear HO_9; clear ho hb hg hat))
      go_roundg k1
      case measure => have := HK1.out; omega
      case rel => exact ⟨(y299), (wrap64 (x20_1 + 1)), sR, H', ⟨by have := HK1.out; omega⟩, ⟨by (with_reducible repeat (first | apply Kd.R_alloc | apply Kd.R_drewN | apply Kd.R_drew)); exact Kd.R_mono HO301.out (fun _ hk => trivial)⟩, ⟨sK BK286⟩, ⟨sC⟩⟩
    ·rw [if_neg c9] at H
     have c9b0 := decide_eq_false c9
     clear c9
     by_cases c33 : a3 = true
     ·subst c33
      rw [if_pos rfl] at H
      obtain ⟨c34, H⟩ := iN H
      have LMc34 := Aside0.mk c34
      clear c34
      obtain ⟨y302, hy302⟩ : ∃ y_ : List ByteArray, y_ = (x9_1 ++ [a2]) := ⟨_, rfl⟩
      replace H : (some y302) = some r := by first | (rw [hy302]; with_reducible exact H) | (have H2_ := (Option.bind_some _ _).symm.trans H; rw [hy302]; with_reducible exact H2_) | (have H2_ := (Option.bind_some _ _).symm.trans H; with_reducible exact H2_) | with_reducible exact H | (rw [hy302]; exact H) | exact H
      have Ny302 := Aside0.mk hy302
      clear hy302
      obtain rfl := Option.some.inj H
      go_wp2_with (first | ((with_reducible refine gate_builtin (b := .append) (xs := #[.tmp 43, .tmp 45]) rfl ?_); at_builtin; refine Kd.R_append Kd.string (w0 := w) w.heap.size rfl (.tmp 43) (.tmp 45) 49 9 (.string ⟨#[]⟩) 16 rfl Tryz.underlying49 info9 rfl (by decide) (by omega) u9 x9_1 a2 [.string a2] (fun _ => True) (fun _ => False) rfl rfl ?aP (fun _ hk => hk.elim) ?aF ?aO ?aB ?aS ?aL ?_; (case aP => exact rfl); (case aB => exact sC); (case aF => exact (fun _ _ => trivial)); (case aO => exact (by (with_reducible repeat (first | apply Kd.R_alloc | apply Kd.R_drewN | apply Kd.R_drew)); exact HO_9.out)); (case aS => exact (below_size sC)); (case aL => have := LMc34.out; omega); intro v303 w35 ho hb hg hat; rw [← Ny302.out] at ho; replace BK286 := Aside0.mk (blk_grown (g := gb286) (o := .cells #[.slice (some ad287) l0_0.length c0_0, .int .i64 a0_1] 30 (0, 0)) (sK BK286) hg (Kd.R_ne HO_9.out BK286.out (by decide))); replace HB := Aside0.mk (hb); have HO304 := Aside0.mk (ho); clear HO_9; clear ho hb hg hat))
      go_ret
      exact ⟨_, sE, by (with_reducible repeat (first | apply Kd.R_alloc | apply Kd.R_drewN | apply Kd.R_drew)); exact HO304.out, sC⟩
     ·replace c33 := Bool.eq_false_iff.mpr c33
      subst c33
      rw [if_neg (show ¬ (false = true) by decide)] at H
      obtain ⟨y305, hy305⟩ : ∃ y_ : List ByteArray, y_ = (([a2] : List ByteArray)) := ⟨_, rfl⟩
      replace H : (if y305.length + x9_1.length < 8796093022208 then (some (y305 ++ x9_1)) else (none)) = some r := by first | (rw [hy305]; with_reducible exact H) | (have H2_ := (Option.bind_some _ _).symm.trans H; rw [hy305]; with_reducible exact H2_) | (have H2_ := (Option.bind_some _ _).symm.trans H; with_reducible exact H2_) | with_reducible exact H | (rw [hy305]; exact H) | exact H
      have Ny305 := Aside0.mk hy305
      clear hy305
      obtain ⟨c36, H⟩ := iN H
      have LMc36 := Aside0.mk c36
      clear c36
      obtain ⟨y308, hy308⟩ : ∃ y_ : List ByteArray, y_ = (y305 ++ x9_1) := ⟨_, rfl⟩
      replace H : (some y308) = some r := by first | (rw [hy308]; with_reducible exact H) | (have H2_ := (Option.bind_some _ _).symm.trans H; rw [hy308]; with_reducible exact H2_) | (have H2_ := (Option.bind_some _ _).symm.trans H; with_reducible exact H2_) | with_reducible exact H | (rw [hy308]; exact H) | exact H
      have Ny308 := Aside0.mk hy308
      clear hy308
      obtain rfl := Option.some.inj H
      go_wp2_with (first | ((with_reducible refine gate_dst (N := 48) rfl ?_); refine Kd.R_lit Kd.string _ 9 ?hg (N := 48) ?hd (xs := ([a2] : List ByteArray)) (inner := [.string a2]) (ok := fun _ => True) (okp := fun _ => True) ?hr ?hp (fun _ hk => hk) trivial (Below.refl _ _) (Nat.le_refl _) (by simp) ?_; (case hd => rfl); (case hg => rfl); (case hr => first | (go_simp; done) | (go_simp; rfl)); (case hp => exact (Reps.one (show Kd.M Kd.string _ _ _ a2 [.string a2] from rfl) (Reps.none _ _))); intro v306 w37 ho38 hb hg_ hnew_; clear hg_ hnew_; (first | rw [← Ny305.out] at ho38 | (simp only [Int.reduceToNat] at ho38; rw [← Ny305.out] at ho38)); have HO307 := Aside0.mk (Kd.R_lower (Kd.R_new' ho38 (Kd.R_lt (by (with_reducible repeat (first | apply Kd.R_alloc | apply Kd.R_drewN | apply Kd.R_drew)); exact HO_9.out))) (below_size sC)); replace HO_9 := Aside0.mk (Kd.R_elder' (by (with_reducible repeat (first | apply Kd.R_alloc | apply Kd.R_drewN | apply Kd.R_drew)); exact HO_9.out) (Kd.R_base ho38) hb); replace BK286 := nK BK286 hb; replace HB := nSC hb; clear hb ho38; obtain ⟨Ao40, co40, eo40⟩ := Kd.R_slice HO_9.out; subst eo40) | ((with_reducible refine gate_builtin (b := .append) (xs := #[.tmp 48, .tmp 49]) rfl ?_); at_builtin; refine Kd.R_append_rows Kd.string (w0 := w) w.heap.size rfl (.tmp 48) (.tmp 49) 49 9 (.string ⟨#[]⟩) 16 rfl Tryz.underlying49 info9 rfl (by decide) (by omega) v306 y305 x9_1 _ _ _ (fun k_ => some k_ ≠ (.slice Ao40 x9_1.length co40 : Value).ownBlock) (fun _ => False) rfl rfl ?aO ?aR (fun _ _ h => h) (fun _ h => h.elim) ?aF ?aB ?aS ?aL ?_; (case aR => repeat (first | exact (Kd.R_reads' HO_9.out).2.2 | (with_reducible refine Kd.C_alloc ?_ _) | (with_reducible refine Kd.C_drewN ?_ _) | (with_reducible refine Kd.C_drew ?_))); (case aB => exact sC); (case aF => exact (fun k_ hk => Kd.fresh' (Kd.R_lt (by (with_reducible repeat (first | apply Kd.R_alloc | apply Kd.R_drewN | apply Kd.R_drew)); exact HO_9.out)) k_ hk)); (case aO => exact (by (with_reducible repeat (first | apply Kd.R_alloc | apply Kd.R_drewN | apply Kd.R_drew)); exact Kd.R_mono HO307.out (fun _ hk => hk.2))); (case aS => exact (below_size sC)); (case aL => have := LMc36.out; omega); intro v309 w39 ho hb hg hat; rw [← Ny308.out] at ho; replace HO_9 := Aside0.mk (Kd.R_after (ok := (fun _ => True)) (by (with_reducible repeat (first | apply Kd.R_alloc | apply Kd.R_drewN | apply Kd.R_drew)); exact HO_9.out) hg hat); replace BK286 := Aside0.mk (blk_grown (g := gb286) (o := .cells #[.slice (some ad287) l0_0.length c0_0, .int .i64 a0_1] 30 (0, 0)) (sK BK286) hg (Kd.R_ne HO307.out BK286.out (by decide))); replace HB := Aside0.mk (hb); have HO310 := Aside0.mk (ho); clear HO307; clear ho hb hg hat))
      go_ret
      exact ⟨_, sE, by (with_reducible repeat (first | apply Kd.R_alloc | apply Kd.R_drewN | apply Kd.R_drew)); exact Kd.R_mono HO310.out (fun _ hk => trivial), sC⟩
 ·rw [if_neg c5] at H
  exact absurd H (by simp)
def spec_l3At.l0 : Nat → ByteArray → List (S104) → Int → Int → Option (Int)
 | 0, _, _, _, _ => none
 | k + 1, x1, x7, x8, x9 => if x9 < x8 then (if 0 ≤ x9 then (if x9 < (x7.length : Int) then (if ((rd_T104 x7 x9).f0).toList = x1.toList then (some ((rd_T104 x7 x9).f1)) else (spec_l3At.l0 k x1 x7 x8 (wrap64 (x9 + 1)))) else (none)) else (none)) else (some (-1))
def spec_l3At.f (k : Nat) (l0 : List (S104)) (a1 : ByteArray) : Option (Int) := spec_l3At.l0 k a1 l0 (l0.length : Int) 0
theorem spec_l3At.calls (k : Nat) (A0 : Option Addr) (c0 : Nat) (l0 : List (S104)) (a1 : ByteArray) (r : Int) (w : World) (hr0 : Kd.C k104 w A0 l0.length l0) (hc0 : l0.length ≤ c0) (h : spec_l3At.f k l0 a1 = some r) :
  Calls Tryz.prog 80 #[.slice A0 l0.length c0, .string a1] w fun e w' => e = .returned (.int .i64 r) ∧ Below w.heap.size w w' := by
 have hu104 := Tryz.underlying104
 have HR0 := Aside0.mk hr0
 have HC0 := Aside0.mk hc0
 clear hr0 hc0
 have HB := Aside0.mk (Below.refl w.heap.size w)
 have H : (spec_l3At.l0 k a1 l0 (l0.length : Int) 0) = some r := h
 clear h
 have H' := Aside0.mk H
 clear H
 go_enter Tryz.func80, Tryz.ntmps80
 go_wp2
 go_loopg [9] k (fun kq v9 w' => ∃ (x9_1 : Int), v9 = .int .i64 x9_1 ∧ Aside0 (spec_l3At.l0 kq a1 l0 (l0.length : Int) x9_1 = some r) ∧ Aside0 (kq ≤ k) ∧ Aside0 (Below w.heap.size w w'))
 case atStart => exact ⟨(0), sR, H', ⟨Nat.le_refl _⟩, ⟨sB⟩⟩
 case round =>
  clear H'
  try clear p2
  obtain ⟨x9_1, rfl, HA, HK1, HB⟩ := hrel
  cases gk with
  | zero => exact absurd HA.out (by simp [spec_l3At.l0])
  | succ k1 =>
   have H := HA.out
   clear HA
   simp only [spec_l3At.l0] at H
   by_cases c3 : x9_1 < (l0.length : Int)
   ·rw [if_pos c3] at H
    have c3b0 := decide_eq_true c3
    clear c3
    obtain ⟨c4, H⟩ := iN H
    have c4b0 := decide_eq_true c4
    clear c4
    obtain ⟨c5, H⟩ := iN H
    have c5b0 := decide_eq_true c5
    clear c5
    by_cases c6 : ((rd_T104 l0 x9_1).f0).toList = a1.toList
    ·rw [if_pos c6] at H
     have c6b0 := beq_iff_eq.mpr c6
     have c6b1 := bne_eq_false_iff_eq.mpr c6
     clear c6
     obtain rfl := Option.some.inj H
     have p311 : 0 ≤ (x9_1 : Int) := sO
     have q311 : x9_1 < (l0.length : Int) := sO
     obtain ⟨ad311, e311, hx311_0, hx311_1⟩ := ab104 HR0.out HB x9_1 p311 q311
     cases e311
     replace p311 := eq_true p311
     replace q311 := eq_true q311
     go_wp2_with (first | ((with_reducible refine gd 6 rfl ?_); refine bxE 6 #[.string (⟨#[]⟩ : ByteArray), .int .i64 0] 104 ?_; intro gb312 hg w7 hbox hb; have BK312 := Aside0.mk hbox; have GW312 := nGB hg; have GE312 := nGB hg; replace HB := nSB hb; clear hb hbox hg; have hcz8 := cb2 BK312))
     go_ret
     exact ⟨sE, sC⟩
    ·rw [if_neg c6] at H
     have c6b0 := beq_eq_false_iff_ne.mpr c6
     have c6b1 := bne_iff_ne.mpr c6
     have H' := Aside0.mk H
     clear H
     have p311 : 0 ≤ (x9_1 : Int) := sO
     have q311 : x9_1 < (l0.length : Int) := sO
     obtain ⟨ad311, e311, hx311_0, hx311_1⟩ := ab104 HR0.out HB x9_1 p311 q311
     cases e311
     replace p311 := eq_true p311
     replace q311 := eq_true q311
     go_wp2_with (first | ((with_reducible refine gd 6 rfl ?_); refine bxE 6 #[.string (⟨#[]⟩ : ByteArray), .int .i64 0] 104 ?_; intro gb312 hg w9 hbox hb; have BK312 := Aside0.mk hbox; have GW312 := nGB hg; have GE312 := nGB hg; replace HB := nSB hb; clear hb hbox hg; have hcz10 := cb2 BK312))
     go_roundg k1
     case measure => have := HK1.out; omega
     case rel => exact ⟨(wrap64 (x9_1 + 1)), sR, H', ⟨by have := HK1.out; omega⟩, ⟨sC⟩⟩
   ·rw [if_neg c3] at H
    have c3b0 := decide_eq_false c3
    clear c3
    obtain rfl := Option.some.inj H
    go_wp2
    go_ret
    exact ⟨sE, sB⟩
def spec_l7At.l0 : Nat → Int → List ByteArray → Int → Int → List (S65) → Int → Option (Int)
 | 0, _, _, _, _, _, _ => none
 | k + 1, x1, x10, x11, x12, x314000, x314001 => if x12 < x11 then (if 0 ≤ x12 then (if x12 < (x10.length : Int) then (if (rdOf ByteArray.empty x10 x12).toList = ([46] : List UInt8) then (spec_l7At.l0 k x1 x10 x11 (wrap64 (x12 + 1)) x314000 x314001) else (if 0 ≤ x1 then (if x1 < (x314000.length : Int) then ((spec_l3At.f k ((rd_T65 x314000 x1).f6) (rdOf ByteArray.empty x10 x12)).bind fun t319 => (spec_l7At.l0 k t319 x10 x11 (wrap64 (x12 + 1)) x314000 x314001)) else (none)) else (none))) else (none)) else (none)) else (some x1)
def spec_l7At.f (k : Nat) (l0_0 : List (S65)) (a0_1 : Int) (a1 : Int) (a2 : ByteArray) : Option (Int) := (spec_l2Parts.f k a2).bind fun t314 => (spec_l7At.l0 k a1 t314 (t314.length : Int) 0 l0_0 a0_1)
theorem spec_l7At.calls (k : Nat) (A0_0 : Option Addr) (c0_0 : Nat) (l0_0 : List (S65)) (a0_1 : Int) (a1 : Int) (a2 : ByteArray) (r : Int) (w : World) (hr0_0 : Kd.C k65 w A0_0 l0_0.length l0_0) (hc0_0 : l0_0.length ≤ c0_0) (h : spec_l7At.f k l0_0 a0_1 a1 a2 = some r) :
  Calls Tryz.prog 52 #[.agg #[.slice A0_0 l0_0.length c0_0, .int .i64 a0_1], .int .i64 a1, .string a2] w fun e w' => e = .returned (.int .i64 r) ∧ Below w.heap.size w w' := by
 have hu30 := Tryz.underlying30
 have HR0_0 := Aside0.mk hr0_0
 have HC0_0 := Aside0.mk hc0_0
 clear hr0_0 hc0_0
 have HB := Aside0.mk (Below.refl w.heap.size w)
 have H : ((spec_l2Parts.f k a2).bind fun t314 => (spec_l7At.l0 k a1 t314 (t314.length : Int) 0 l0_0 a0_1)) = some r := h
 clear h
 obtain ⟨t314, A4, H⟩ := bS H
 try dsimp only at H
 have H' := Aside0.mk H
 clear H
 go_enter Tryz.func52, Tryz.ntmps52
 go_wp2_with (first | ((with_reducible refine gd 3 rfl ?_); refine bxE 3 #[.slice A0_0 l0_0.length c0_0, .int .i64 a0_1] 30 ?_; intro gb313 hg w5 hbox hb; have BK313 := Aside0.mk hbox; have GW313 := nGB hg; have GE313 := nGB hg; replace HB := nSB hb; clear hb hbox hg) | ((with_reducible refine gt 79 rfl ?_); refine gL 79 10 Tryz.func79 #[.string a2] ?_; (with_reducible refine (spec_l2Parts.calls k a2 t314 _ A4.out).mono ?_); rintro e w6 ⟨v315, rfl, ho0, hb⟩; refine ⟨_, rfl, ?_⟩; have HO316 := Aside0.mk (Kd.R_lower ho0 (below_size sC)); replace BK313 := nK BK313 hb; replace HB := nSC hb; try clear hb; (try clear ho0); obtain ⟨Ao7, co7, eo7⟩ := Kd.R_slice HO316.out; subst eo7))
 go_loopg [1, 12] k (fun kq v1 v12 w' => ∃ (x1_1 : Int) (x12_1 : Int), v1 = .int .i64 x1_1 ∧ v12 = .int .i64 x12_1 ∧ Aside0 (spec_l7At.l0 kq x1_1 t314 (t314.length : Int) x12_1 l0_0 a0_1 = some r) ∧ Aside0 (kq ≤ k) ∧ Aside0 (Kd.R Kd.string 9 w' w.heap.size (fun _ => True) (.slice Ao7 t314.length co7) t314) ∧ Aside0 (w'.heap[gb313]? = some (.cells #[(.slice A0_0 l0_0.length c0_0), .int .i64 a0_1] 30 (0, 0))) ∧ Aside0 (Below w.heap.size w w'))
 case atStart => exact ⟨(a1), (0), sR, sR, H', ⟨Nat.le_refl _⟩, ⟨rR HO316⟩, ⟨sK BK313⟩, ⟨sC⟩⟩
 case round =>
  clear H'
  try clear p2
  try clear c5
  try clear c7
  obtain ⟨x1_1, x12_1, rfl, rfl, HA, HK1, HO_10, BK313, HB⟩ := hrel
  cases gk with
  | zero => exact absurd HA.out (by simp [spec_l7At.l0])
  | succ k1 =>
   have H := HA.out
   clear HA
   simp only [spec_l7At.l0] at H
   by_cases c8 : x12_1 < (t314.length : Int)
   ·rw [if_pos c8] at H
    have c8b0 := decide_eq_true c8
    clear c8
    obtain ⟨c9, H⟩ := iN H
    have c9b0 := decide_eq_true c9
    clear c9
    obtain ⟨c10, H⟩ := iN H
    have c10b0 := decide_eq_true c10
    clear c10
    by_cases c11 : (rdOf ByteArray.empty t314 x12_1).toList = ([46] : List UInt8)
    ·rw [if_pos c11] at H
     have c11b0 := beq_iff_eq.mpr c11
     have c11b1 := bne_eq_false_iff_eq.mpr c11
     clear c11
     have H' := Aside0.mk H
     clear H
     have p317 : 0 ≤ (x12_1 : Int) := sO
     have q317 : x12_1 < (t314.length : Int) := sO
     obtain ⟨ad317, e317, hx317_0⟩ := Kd.at_string (Kd.R_reads' HO_10.out).2.2 x12_1 p317 q317
     cases e317
     replace p317 := eq_true p317
     replace q317 := eq_true q317
     go_wp2
     go_roundg k1
     case measure => have := HK1.out; omega
     case rel => exact ⟨(x1_1), (wrap64 (x12_1 + 1)), sR, sR, H', ⟨by have := HK1.out; omega⟩, ⟨rR HO_10⟩, ⟨sK BK313⟩, ⟨sC⟩⟩
    ·rw [if_neg c11] at H
     have c11b0 := beq_eq_false_iff_ne.mpr c11
     have c11b1 := bne_iff_ne.mpr c11
     obtain ⟨c12, H⟩ := iN H
     have c12b0 := decide_eq_true c12
     clear c12
     obtain ⟨c13, H⟩ := iN H
     have c13b0 := decide_eq_true c13
     clear c13
     obtain ⟨t319, A14, H⟩ := bS H
     try dsimp only at H
     have H' := Aside0.mk H
     clear H
     have p317 : 0 ≤ (x12_1 : Int) := sO
     have q317 : x12_1 < (t314.length : Int) := sO
     obtain ⟨ad317, e317, hx317_0⟩ := Kd.at_string (Kd.R_reads' HO_10.out).2.2 x12_1 p317 q317
     cases e317
     replace p317 := eq_true p317
     replace q317 := eq_true q317
     have hcz15 := cb2 BK313
     have p318 : 0 ≤ (x1_1 : Int) := sO
     have q318 : x1_1 < (l0_0.length : Int) := sO
     obtain ⟨ad318, A318_6, c318_6, e318, hx318_0, hx318_1, hx318_2, hx318_3, hx318_4, hx318_5, hx318_6, hl318_6, hi318_6⟩ := ab65 HR0_0.out HB x1_1 p318 q318
     cases e318
     have HR318_6 := Aside0.mk hi318_6
     have HC318_6 := Aside0.mk hl318_6
     clear hi318_6 hl318_6
     replace p318 := eq_true p318
     replace q318 := eq_true q318
     go_wp2_with (first | ((with_reducible refine gt 80 rfl ?_); refine gL 80 25 Tryz.func80 #[.slice A318_6 ((rd_T65 l0_0 x1_1).f6).length c318_6, .string (rdOf ByteArray.empty t314 x12_1)] ?_; (with_reducible refine (spec_l3At.calls k1 _ _ ((rd_T65 l0_0 x1_1).f6) (rdOf ByteArray.empty t314 x12_1) t319 _ ?side1 ?side2 A14.out).mono ?_); (case side1 => exact sD (Kd.C_below HR318_6.out HB.out)); (case side2 => exact HC318_6.out); rintro e w16 ⟨rfl, hb⟩; refine ⟨_, rfl, ?_⟩; replace HO_10 := nR HO_10 hb; replace BK313 := nK BK313 hb; replace HB := nSC hb; try clear hb))
     go_roundg k1
     case measure => have := HK1.out; omega
     case rel => exact ⟨(t319), (wrap64 (x12_1 + 1)), sR, sR, H', ⟨by have := HK1.out; omega⟩, ⟨rR HO_10⟩, ⟨sK BK313⟩, ⟨sC⟩⟩
   ·rw [if_neg c8] at H
    have c8b0 := decide_eq_false c8
    clear c8
    obtain rfl := Option.some.inj H
    go_wp2
    go_ret
    exact ⟨sE, sC⟩
end Go.Proofs.YtdjceippnokimaaGreatDoor.PGrp
