-- Written by a program of this session (wip/print2) out of the translation. Lean checks it.
import Derived.Test.YtnmiglfmainhiaaGreatDoorPNbx0
import Derived.Test.YtnmiglfmainhiaaGreatDoorPNbx4
import Derived.Test.YtnmiglfmainhiaaGreatDoorPNbx5
import Derived.Test.YtnmiglfmainhiaaGreatDoorPNbx6
namespace Go.Proofs.YtnmiglfmainhiaaGreatDoor.PNb
open Go.RowKit Go.Proofs.YtnmiglfmainhiaaGreatDoorW.PrintWords Go.Proofs.YtnmiglfmainhiaaGreatDoorW.PrintLast Go.Proofs.YtnmiglfmainhiaaGreatDoorW.PrintMore
attribute [local go_sem] max2_int min2_int max_two min_two max_three min_three max_four min_four   -- for this text's walks alone
set_option linter.unusedVariables false
set_option linter.unusedSimpArgs false
set_option maxHeartbeats 8000000
set_option maxRecDepth 100000

/-! ### spec_l3Node: function 93 -/
def spec_l3Node.j0 : Nat → Bool → List (S74) → Int → Int → Int → Int → Int → Int → ByteArray → List (S105) → Option (Bool)
 | 0, _, _, _, _, _, _, _, _, _, _ => none
 | k + 1, x58, x248000, x248001, x249000, x249001, x249002, x249003, x249004, x249005, x249006 => if x58 = true then (some false) else (if x249000 = 1 then (if (x249005.size : Int) ≤ 60 then (some ((x249006.length : Int) == 0)) else (some false)) else (if x249000 = 2 then (if x249005.toList = ([] : List UInt8) then ((spec_l3Entries.f k x248000 x248001 x249006).bind fun t253 => (some t253)) else (some false)) else (if x249000 = 3 then ((spec_l2Path.f k x249005).bind fun t254 => (if t254 = true then (some ((x249006.length : Int) == 0)) else (some false))) else (some false))))
def spec_l3Node.f (k : Nat) (l0_0 : List (S74)) (a0_1 : Int) (a1_0 : Int) (a1_1 : Int) (a1_2 : Int) (a1_3 : Int) (a1_4 : Int) (a1_5 : ByteArray) (l1_6 : List (S105)) : Option (Bool) := if a1_0 = 0 then (if a1_1 = 0 then (if a1_2 = 0 then (if a1_3 = 0 then (if a1_4 = 0 then (if a1_5.toList = ([] : List UInt8) then (some ((l1_6.length : Int) == 0)) else (some false)) else (some false)) else (some false)) else (some false)) else (some false)) else ((spec_l1Mode.f a1_1).bind fun t249 => (if t249 = true then ((spec_l1In.f a1_2 0 99).bind fun t250 => (if t250 = true then ((spec_l1In.f a1_3 0 99).bind fun t251 => (if t251 = true then ((spec_l1In.f a1_4 0 1000000).bind fun t252 => (spec_l3Node.j0 k (!t252) l0_0 a0_1 a1_0 a1_1 a1_2 a1_3 a1_4 a1_5 l1_6)) else (spec_l3Node.j0 k true l0_0 a0_1 a1_0 a1_1 a1_2 a1_3 a1_4 a1_5 l1_6))) else (spec_l3Node.j0 k true l0_0 a0_1 a1_0 a1_1 a1_2 a1_3 a1_4 a1_5 l1_6))) else (spec_l3Node.j0 k true l0_0 a0_1 a1_0 a1_1 a1_2 a1_3 a1_4 a1_5 l1_6)))
theorem spec_l3Node.mono_l : ∀ k, (∀ y0 y1 y2 y3 y4 y5 y6 y7 y8 y9, LeO (spec_l3Node.j0 k y0 y1 y2 y3 y4 y5 y6 y7 y8 y9) (spec_l3Node.j0 (k + 1) y0 y1 y2 y3 y4 y5 y6 y7 y8 y9))
 | 0 => fun _ _ _ _ _ _ _ _ _ _ r h => by simp [spec_l3Node.j0] at h
 | k + 1 => by
  have ih0 := spec_l3Node.mono_l k
  ·intro y0 y1 y2 y3 y4 y5 y6 y7 y8 y9
   unfold spec_l3Node.j0
   have m0 := @spec_l2Path.mono
   have m1 := @spec_l3Entries.mono
   exact mo
theorem spec_l3Node.mono : ∀ a0 a1 a2 a3 a4 a5 a6 a7 a8 k, LeO (spec_l3Node.f k a0 a1 a2 a3 a4 a5 a6 a7 a8) (spec_l3Node.f (k + 1) a0 a1 a2 a3 a4 a5 a6 a7 a8) := by
 intro a0 a1 a2 a3 a4 a5 a6 a7 a8 k
 have ih0 := spec_l3Node.mono_l k
 unfold spec_l3Node.f
 have m0 := @spec_l2Path.mono
 have m1 := @spec_l3Entries.mono
 exact mo
theorem spec_l3Node.calls (k : Nat) (A0_0 : Option Addr) (c0_0 : Nat) (l0_0 : List (S74)) (a0_1 : Int) (a1_0 : Int) (a1_1 : Int) (a1_2 : Int) (a1_3 : Int) (a1_4 : Int) (a1_5 : ByteArray) (A1_6 : Option Addr) (c1_6 : Nat) (l1_6 : List (S105)) (r : Bool) (w : World) (hr0_0 : Kd.C k74 w A0_0 l0_0.length l0_0) (hc0_0 : l0_0.length ≤ c0_0) (hr1_6 : Kd.C k105 w A1_6 l1_6.length l1_6) (hc1_6 : l1_6.length ≤ c1_6) (h : spec_l3Node.f k l0_0 a0_1 a1_0 a1_1 a1_2 a1_3 a1_4 a1_5 l1_6 = some r) :
  Calls Tryz.prog 93 #[.agg #[.slice A0_0 l0_0.length c0_0, .int .i64 a0_1], .agg #[.int .i64 a1_0, .int .i64 a1_1, .int .i64 a1_2, .int .i64 a1_3, .int .i64 a1_4, .string a1_5, .slice A1_6 l1_6.length c1_6]] w fun e w' => e = .returned (.bool r) ∧ Below w.heap.size w w' := by
 have hu31 := Tryz.underlying31
 have hu74 := Tryz.underlying74
 have HR0_0 := Aside0.mk hr0_0
 have HC0_0 := Aside0.mk hc0_0
 clear hr0_0 hc0_0
 have HR1_6 := Aside0.mk hr1_6
 have HC1_6 := Aside0.mk hc1_6
 clear hr1_6 hc1_6
 have HB := Aside0.mk (Below.refl w.heap.size w)
 have H : (if a1_0 = 0 then (if a1_1 = 0 then (if a1_2 = 0 then (if a1_3 = 0 then (if a1_4 = 0 then (if a1_5.toList = ([] : List UInt8) then (some ((l1_6.length : Int) == 0)) else (some false)) else (some false)) else (some false)) else (some false)) else (some false)) else ((spec_l1Mode.f a1_1).bind fun t249 => (if t249 = true then ((spec_l1In.f a1_2 0 99).bind fun t250 => (if t250 = true then ((spec_l1In.f a1_3 0 99).bind fun t251 => (if t251 = true then ((spec_l1In.f a1_4 0 1000000).bind fun t252 => (spec_l3Node.j0 k (!t252) l0_0 a0_1 a1_0 a1_1 a1_2 a1_3 a1_4 a1_5 l1_6)) else (spec_l3Node.j0 k true l0_0 a0_1 a1_0 a1_1 a1_2 a1_3 a1_4 a1_5 l1_6))) else (spec_l3Node.j0 k true l0_0 a0_1 a1_0 a1_1 a1_2 a1_3 a1_4 a1_5 l1_6))) else (spec_l3Node.j0 k true l0_0 a0_1 a1_0 a1_1 a1_2 a1_3 a1_4 a1_5 l1_6)))) = some r := h
 clear h
 by_cases c3 : a1_0 = 0
 ·rw [if_pos c3] at H
  have c3b0 := beq_iff_eq.mpr c3
  have c3b1 := bne_eq_false_iff_eq.mpr c3
  clear c3
  by_cases c4 : a1_1 = 0
  ·rw [if_pos c4] at H
   have c4b0 := beq_iff_eq.mpr c4
   have c4b1 := bne_eq_false_iff_eq.mpr c4
   clear c4
   by_cases c5 : a1_2 = 0
   ·rw [if_pos c5] at H
    have c5b0 := beq_iff_eq.mpr c5
    have c5b1 := bne_eq_false_iff_eq.mpr c5
    clear c5
    by_cases c6 : a1_3 = 0
    ·rw [if_pos c6] at H
     have c6b0 := beq_iff_eq.mpr c6
     have c6b1 := bne_eq_false_iff_eq.mpr c6
     clear c6
     by_cases c7 : a1_4 = 0
     ·rw [if_pos c7] at H
      have c7b0 := beq_iff_eq.mpr c7
      have c7b1 := bne_eq_false_iff_eq.mpr c7
      clear c7
      by_cases c8 : a1_5.toList = ([] : List UInt8)
      ·rw [if_pos c8] at H
       have c8b0 := beq_iff_eq.mpr c8
       have c8b1 := bne_eq_false_iff_eq.mpr c8
       clear c8
       obtain rfl := Option.some.inj H
       go_enter Tryz.func93, Tryz.ntmps93
       go_wp2_with (first | ((with_reducible refine gd 2 rfl ?_); (first | refine bxE 2 #[.slice A0_0 l0_0.length c0_0, .int .i64 a0_1] 31 ?_ | refine bgE 2 #[.slice A0_0 l0_0.length c0_0, .int .i64 a0_1] 31 ?_); intro gb247 hg w9 hbox hb; have BK247 := Aside0.mk hbox; have GW247 := nGB hg; have GE247 := nGB hg; replace HB := nSB hb; clear hb hbox hg) | ((with_reducible refine gd 3 rfl ?_); (first | refine bxE 3 #[.int .i64 a1_0, .int .i64 a1_1, .int .i64 a1_2, .int .i64 a1_3, .int .i64 a1_4, .string a1_5, .slice A1_6 l1_6.length c1_6] 74 ?_ | refine bgE 3 #[.int .i64 a1_0, .int .i64 a1_1, .int .i64 a1_2, .int .i64 a1_3, .int .i64 a1_4, .string a1_5, .slice A1_6 l1_6.length c1_6] 74 ?_); intro gb248 hg w10 hbox hb; have BK248 := Aside0.mk hbox; have GW248 := nGC hg; have GE248 := nGC hg; replace HB := nSC hb; have NB247_248 := nL BK247 hg; have NB248_247 := nH BK247 hg; replace BK247 := nK BK247 hb; clear hb hbox hg; have hnb11 := NB248_247.out; have hnc11 := NB247_248.out; have hcz12 := cb7 BK248))
       go_ret
       exact ⟨sE, sC⟩
      ·rw [if_neg c8] at H
       have c8b0 := beq_eq_false_iff_ne.mpr c8
       have c8b1 := bne_iff_ne.mpr c8
       obtain rfl := Option.some.inj H
       go_enter Tryz.func93, Tryz.ntmps93
       go_wp2_with (first | ((with_reducible refine gd 2 rfl ?_); (first | refine bxE 2 #[.slice A0_0 l0_0.length c0_0, .int .i64 a0_1] 31 ?_ | refine bgE 2 #[.slice A0_0 l0_0.length c0_0, .int .i64 a0_1] 31 ?_); intro gb247 hg w13 hbox hb; have BK247 := Aside0.mk hbox; have GW247 := nGB hg; have GE247 := nGB hg; replace HB := nSB hb; clear hb hbox hg) | ((with_reducible refine gd 3 rfl ?_); (first | refine bxE 3 #[.int .i64 a1_0, .int .i64 a1_1, .int .i64 a1_2, .int .i64 a1_3, .int .i64 a1_4, .string a1_5, .slice A1_6 l1_6.length c1_6] 74 ?_ | refine bgE 3 #[.int .i64 a1_0, .int .i64 a1_1, .int .i64 a1_2, .int .i64 a1_3, .int .i64 a1_4, .string a1_5, .slice A1_6 l1_6.length c1_6] 74 ?_); intro gb248 hg w14 hbox hb; have BK248 := Aside0.mk hbox; have GW248 := nGC hg; have GE248 := nGC hg; replace HB := nSC hb; have NB247_248 := nL BK247 hg; have NB248_247 := nH BK247 hg; replace BK247 := nK BK247 hb; clear hb hbox hg; have hnb15 := NB248_247.out; have hnc15 := NB247_248.out; have hcz16 := cb7 BK248))
       go_ret
       exact ⟨sE, sC⟩
     ·rw [if_neg c7] at H
      have c7b0 := beq_eq_false_iff_ne.mpr c7
      have c7b1 := bne_iff_ne.mpr c7
      obtain rfl := Option.some.inj H
      go_enter Tryz.func93, Tryz.ntmps93
      go_wp2_with (first | ((with_reducible refine gd 2 rfl ?_); (first | refine bxE 2 #[.slice A0_0 l0_0.length c0_0, .int .i64 a0_1] 31 ?_ | refine bgE 2 #[.slice A0_0 l0_0.length c0_0, .int .i64 a0_1] 31 ?_); intro gb247 hg w17 hbox hb; have BK247 := Aside0.mk hbox; have GW247 := nGB hg; have GE247 := nGB hg; replace HB := nSB hb; clear hb hbox hg) | ((with_reducible refine gd 3 rfl ?_); (first | refine bxE 3 #[.int .i64 a1_0, .int .i64 a1_1, .int .i64 a1_2, .int .i64 a1_3, .int .i64 a1_4, .string a1_5, .slice A1_6 l1_6.length c1_6] 74 ?_ | refine bgE 3 #[.int .i64 a1_0, .int .i64 a1_1, .int .i64 a1_2, .int .i64 a1_3, .int .i64 a1_4, .string a1_5, .slice A1_6 l1_6.length c1_6] 74 ?_); intro gb248 hg w18 hbox hb; have BK248 := Aside0.mk hbox; have GW248 := nGC hg; have GE248 := nGC hg; replace HB := nSC hb; have NB247_248 := nL BK247 hg; have NB248_247 := nH BK247 hg; replace BK247 := nK BK247 hb; clear hb hbox hg; have hnb19 := NB248_247.out; have hnc19 := NB247_248.out; have hcz20 := cb7 BK248))
      go_ret
      exact ⟨sE, sC⟩
    ·rw [if_neg c6] at H
     have c6b0 := beq_eq_false_iff_ne.mpr c6
     have c6b1 := bne_iff_ne.mpr c6
     obtain rfl := Option.some.inj H
     go_enter Tryz.func93, Tryz.ntmps93
     go_wp2_with (first | ((with_reducible refine gd 2 rfl ?_); (first | refine bxE 2 #[.slice A0_0 l0_0.length c0_0, .int .i64 a0_1] 31 ?_ | refine bgE 2 #[.slice A0_0 l0_0.length c0_0, .int .i64 a0_1] 31 ?_); intro gb247 hg w21 hbox hb; have BK247 := Aside0.mk hbox; have GW247 := nGB hg; have GE247 := nGB hg; replace HB := nSB hb; clear hb hbox hg) | ((with_reducible refine gd 3 rfl ?_); (first | refine bxE 3 #[.int .i64 a1_0, .int .i64 a1_1, .int .i64 a1_2, .int .i64 a1_3, .int .i64 a1_4, .string a1_5, .slice A1_6 l1_6.length c1_6] 74 ?_ | refine bgE 3 #[.int .i64 a1_0, .int .i64 a1_1, .int .i64 a1_2, .int .i64 a1_3, .int .i64 a1_4, .string a1_5, .slice A1_6 l1_6.length c1_6] 74 ?_); intro gb248 hg w22 hbox hb; have BK248 := Aside0.mk hbox; have GW248 := nGC hg; have GE248 := nGC hg; replace HB := nSC hb; have NB247_248 := nL BK247 hg; have NB248_247 := nH BK247 hg; replace BK247 := nK BK247 hb; clear hb hbox hg; have hnb23 := NB248_247.out; have hnc23 := NB247_248.out; have hcz24 := cb7 BK248))
     go_ret
     exact ⟨sE, sC⟩
   ·rw [if_neg c5] at H
    have c5b0 := beq_eq_false_iff_ne.mpr c5
    have c5b1 := bne_iff_ne.mpr c5
    obtain rfl := Option.some.inj H
    go_enter Tryz.func93, Tryz.ntmps93
    go_wp2_with (first | ((with_reducible refine gd 2 rfl ?_); (first | refine bxE 2 #[.slice A0_0 l0_0.length c0_0, .int .i64 a0_1] 31 ?_ | refine bgE 2 #[.slice A0_0 l0_0.length c0_0, .int .i64 a0_1] 31 ?_); intro gb247 hg w25 hbox hb; have BK247 := Aside0.mk hbox; have GW247 := nGB hg; have GE247 := nGB hg; replace HB := nSB hb; clear hb hbox hg) | ((with_reducible refine gd 3 rfl ?_); (first | refine bxE 3 #[.int .i64 a1_0, .int .i64 a1_1, .int .i64 a1_2, .int .i64 a1_3, .int .i64 a1_4, .string a1_5, .slice A1_6 l1_6.length c1_6] 74 ?_ | refine bgE 3 #[.int .i64 a1_0, .int .i64 a1_1, .int .i64 a1_2, .int .i64 a1_3, .int .i64 a1_4, .string a1_5, .slice A1_6 l1_6.length c1_6] 74 ?_); intro gb248 hg w26 hbox hb; have BK248 := Aside0.mk hbox; have GW248 := nGC hg; have GE248 := nGC hg; replace HB := nSC hb; have NB247_248 := nL BK247 hg; have NB248_247 := nH BK247 hg; replace BK247 := nK BK247 hb; clear hb hbox hg; have hnb27 := NB248_247.out; have hnc27 := NB247_248.out; have hcz28 := cb7 BK248))
    go_ret
    exact ⟨sE, sC⟩
  ·rw [if_neg c4] at H
   have c4b0 := beq_eq_false_iff_ne.mpr c4
   have c4b1 := bne_iff_ne.mpr c4
   obtain rfl := Option.some.inj H
   go_enter Tryz.func93, Tryz.ntmps93
   go_wp2_with (first | ((with_reducible refine gd 2 rfl ?_); (first | refine bxE 2 #[.slice A0_0 l0_0.length c0_0, .int .i64 a0_1] 31 ?_ | refine bgE 2 #[.slice A0_0 l0_0.length c0_0, .int .i64 a0_1] 31 ?_); intro gb247 hg w29 hbox hb; have BK247 := Aside0.mk hbox; have GW247 := nGB hg; have GE247 := nGB hg; replace HB := nSB hb; clear hb hbox hg) | ((with_reducible refine gd 3 rfl ?_); (first | refine bxE 3 #[.int .i64 a1_0, .int .i64 a1_1, .int .i64 a1_2, .int .i64 a1_3, .int .i64 a1_4, .string a1_5, .slice A1_6 l1_6.length c1_6] 74 ?_ | refine bgE 3 #[.int .i64 a1_0, .int .i64 a1_1, .int .i64 a1_2, .int .i64 a1_3, .int .i64 a1_4, .string a1_5, .slice A1_6 l1_6.length c1_6] 74 ?_); intro gb248 hg w30 hbox hb; have BK248 := Aside0.mk hbox; have GW248 := nGC hg; have GE248 := nGC hg; replace HB := nSC hb; have NB247_248 := nL BK247 hg; have NB248_247 := nH BK247 hg; replace BK247 := nK BK247 hb; clear hb hbox hg; have hnb31 := NB248_247.out; have hnc31 := NB247_248.out; have hcz32 := cb7 BK248))
   go_ret
   exact ⟨sE, sC⟩
 ·rw [if_neg c3] at H
  have c3b0 := beq_eq_false_iff_ne.mpr c3
  have c3b1 := bne_iff_ne.mpr c3
  have HC33 := Aside0.mk H
  clear H
  go_enter Tryz.func93, Tryz.ntmps93
  go_upto_region 3 with (first | ((with_reducible refine gd 2 rfl ?_); (first | refine bxE 2 #[.slice A0_0 l0_0.length c0_0, .int .i64 a0_1] 31 ?_ | refine bgE 2 #[.slice A0_0 l0_0.length c0_0, .int .i64 a0_1] 31 ?_); intro gb247 hg w34 hbox hb; have BK247 := Aside0.mk hbox; have GW247 := nGB hg; have GE247 := nGB hg; replace HB := nSB hb; clear hb hbox hg) | ((with_reducible refine gd 3 rfl ?_); (first | refine bxE 3 #[.int .i64 a1_0, .int .i64 a1_1, .int .i64 a1_2, .int .i64 a1_3, .int .i64 a1_4, .string a1_5, .slice A1_6 l1_6.length c1_6] 74 ?_ | refine bgE 3 #[.int .i64 a1_0, .int .i64 a1_1, .int .i64 a1_2, .int .i64 a1_3, .int .i64 a1_4, .string a1_5, .slice A1_6 l1_6.length c1_6] 74 ?_); intro gb248 hg w35 hbox hb; have BK248 := Aside0.mk hbox; have GW248 := nGC hg; have GE248 := nGC hg; replace HB := nSC hb; have NB247_248 := nL BK247 hg; have NB248_247 := nH BK247 hg; replace BK247 := nK BK247 hb; clear hb hbox hg; have hnb36 := NB248_247.out; have hnc36 := NB247_248.out; have hcz37 := cb7 BK248))
  (try simp only [Act.put, List.setIfInBounds_toArray, List.set_cons_zero, List.set_cons_succ])
  go_cut [58] (fun v58 wc => ∃ (kq : Nat) (x58_32 : Bool), v58 = .bool x58_32 ∧ Aside0 (spec_l3Node.j0 kq x58_32 l0_0 a0_1 a1_0 a1_1 a1_2 a1_3 a1_4 a1_5 l1_6 = some r) ∧ Aside0 (kq ≤ k) ∧ Aside0 (wc.heap[gb247]? = some (.cells #[(.slice A0_0 l0_0.length c0_0), .int .i64 a0_1] 31 (0, 0))) ∧ Aside0 (wc.heap[gb248]? = some (.cells #[.int .i64 a1_0, .int .i64 a1_1, .int .i64 a1_2, .int .i64 a1_3, .int .i64 a1_4, .string a1_5, (.slice A1_6 l1_6.length c1_6)] 74 (0, 0))) ∧ Aside0 (Below w.heap.size w wc))
  case first =>
   have H := HC33.out
   clear HC33
   obtain ⟨t249, A38, H⟩ := bS H
   try dsimp only at H
   by_cases c39 : t249 = true
   ·subst c39
    rw [if_pos rfl] at H
    obtain ⟨t250, A40, H⟩ := bS H
    try dsimp only at H
    by_cases c41 : t250 = true
    ·subst c41
     rw [if_pos rfl] at H
     obtain ⟨t251, A42, H⟩ := bS H
     try dsimp only at H
     by_cases c43 : t251 = true
     ·subst c43
      rw [if_pos rfl] at H
      obtain ⟨t252, A44, H⟩ := bS H
      try dsimp only at H
      have H' := Aside0.mk H
      clear H
      have hnb45 := NB248_247.out
      have hnc45 := NB247_248.out
      have hcz46 := cb7 BK248
      go_wp2_with (first | ((with_reducible refine gt 129 rfl ?_); refine gL 129 39 Tryz.func129 #[.int .i64 a1_1] ?_; (with_reducible refine (spec_l1Mode.calls a1_1 true _ A38.out).mono ?_); rintro e w' ⟨rfl, ⟨nd, rfl⟩⟩; refine ⟨_, rfl, ?_⟩) | (go_at_call 91; (with_reducible refine (spec_l1In.calls a1_2 0 99 true _ A40.out).mono ?_); rintro e w' ⟨rfl, ⟨nd, rfl⟩⟩) | (go_at_call 91; (with_reducible refine (spec_l1In.calls a1_3 0 99 true _ A42.out).mono ?_); rintro e w' ⟨rfl, ⟨nd, rfl⟩⟩) | (go_at_call 91; (with_reducible refine (spec_l1In.calls a1_4 0 1000000 t252 _ A44.out).mono ?_); rintro e w' ⟨rfl, ⟨nd, rfl⟩⟩))
      go_meet
      case rel => exact ⟨_, (!t252), sR, H', ⟨by first | omega | exact Nat.le_refl _⟩, ⟨sK BK247⟩, ⟨sK BK248⟩, ⟨sC⟩⟩
     ·replace c43 := Bool.eq_false_iff.mpr c43
      subst c43
      rw [if_neg (show ¬ (false = true) by decide)] at H
      have H' := Aside0.mk H
      clear H
      have hnb47 := NB248_247.out
      have hnc47 := NB247_248.out
      have hcz48 := cb7 BK248
      go_wp2_with (first | ((with_reducible refine gt 129 rfl ?_); refine gL 129 39 Tryz.func129 #[.int .i64 a1_1] ?_; (with_reducible refine (spec_l1Mode.calls a1_1 true _ A38.out).mono ?_); rintro e w' ⟨rfl, ⟨nd, rfl⟩⟩; refine ⟨_, rfl, ?_⟩) | (go_at_call 91; (with_reducible refine (spec_l1In.calls a1_2 0 99 true _ A40.out).mono ?_); rintro e w' ⟨rfl, ⟨nd, rfl⟩⟩) | (go_at_call 91; (with_reducible refine (spec_l1In.calls a1_3 0 99 false _ A42.out).mono ?_); rintro e w' ⟨rfl, ⟨nd, rfl⟩⟩))
      go_meet
      case rel => exact ⟨_, (true), sR, H', ⟨by first | omega | exact Nat.le_refl _⟩, ⟨sK BK247⟩, ⟨sK BK248⟩, ⟨sC⟩⟩
    ·replace c41 := Bool.eq_false_iff.mpr c41
     subst c41
     rw [if_neg (show ¬ (false = true) by decide)] at H
     have H' := Aside0.mk H
     clear H
     have hnb49 := NB248_247.out
     have hnc49 := NB247_248.out
     have hcz50 := cb7 BK248
     go_wp2_with (first | ((with_reducible refine gt 129 rfl ?_); refine gL 129 39 Tryz.func129 #[.int .i64 a1_1] ?_; (with_reducible refine (spec_l1Mode.calls a1_1 true _ A38.out).mono ?_); rintro e w' ⟨rfl, ⟨nd, rfl⟩⟩; refine ⟨_, rfl, ?_⟩) | (go_at_call 91; (with_reducible refine (spec_l1In.calls a1_2 0 99 false _ A40.out).mono ?_); rintro e w' ⟨rfl, ⟨nd, rfl⟩⟩))
     go_meet
     case rel => exact ⟨_, (true), sR, H', ⟨by first | omega | exact Nat.le_refl _⟩, ⟨sK BK247⟩, ⟨sK BK248⟩, ⟨sC⟩⟩
   ·replace c39 := Bool.eq_false_iff.mpr c39
    subst c39
    rw [if_neg (show ¬ (false = true) by decide)] at H
    have H' := Aside0.mk H
    clear H
    have hnb51 := NB248_247.out
    have hnc51 := NB247_248.out
    have hcz52 := cb7 BK248
    go_wp2_with (first | ((with_reducible refine gt 129 rfl ?_); refine gL 129 39 Tryz.func129 #[.int .i64 a1_1] ?_; (with_reducible refine (spec_l1Mode.calls a1_1 false _ A38.out).mono ?_); rintro e w' ⟨rfl, ⟨nd, rfl⟩⟩; refine ⟨_, rfl, ?_⟩))
    go_meet
    case rel => exact ⟨_, (true), sR, H', ⟨by first | omega | exact Nat.le_refl _⟩, ⟨sK BK247⟩, ⟨sK BK248⟩, ⟨sC⟩⟩
  case rest =>
   clear HC33
   try clear c1
   try clear c2
   try clear p2
   try clear c3
   try clear c3b0
   try clear c3b1
   try clear c4
   try clear c4b0
   try clear c4b1
   try clear c5
   try clear c5b0
   try clear c5b1
   try clear c6
   try clear c6b0
   try clear c6b1
   try clear c7
   try clear c7b0
   try clear c7b1
   try clear c8
   try clear c8b0
   try clear c8b1
   try clear c9
   try clear c11
   try clear c12
   try clear c15
   try clear c19
   try clear c23
   try clear c27
   try clear c31
   try clear c36
   try clear c39
   try clear c41
   try clear c43
   try clear c45
   try clear c47
   try clear c49
   try clear c51
   try clear hcz12
   try clear hcz16
   try clear hcz20
   try clear hcz24
   try clear hcz28
   try clear hcz32
   try clear hcz37
   try clear hcz46
   try clear hcz48
   try clear hcz50
   try clear hcz52
   obtain ⟨kq, x58_32, rfl, HA, HJ32, BK247, BK248, HB⟩ := hcut
   cases kq with
   | zero => exact absurd HA.out (by simp [spec_l3Node.j0])
   | succ kj32 =>
    have H := HA.out
    clear HA
    simp only [spec_l3Node.j0] at H
    by_cases c53 : x58_32 = true
    ·subst c53
     rw [if_pos rfl] at H
     obtain rfl := Option.some.inj H
     go_wp2
     go_ret
     exact ⟨sE, sC⟩
    ·replace c53 := Bool.eq_false_iff.mpr c53
     subst c53
     rw [if_neg (show ¬ (false = true) by decide)] at H
     by_cases c54 : a1_0 = 1
     ·rw [if_pos c54] at H
      have c54b0 := beq_iff_eq.mpr c54
      have c54b1 := bne_eq_false_iff_eq.mpr c54
      clear c54
      by_cases c55 : (a1_5.size : Int) ≤ 60
      ·rw [if_pos c55] at H
       have c55b0 := decide_eq_true c55
       have c55b1 : decide (a1_5.size ≤ 60) = true := decide_eq_true (by omega)
       clear c55
       obtain rfl := Option.some.inj H
       have hnb56 := NB248_247.out
       have hnc56 := NB247_248.out
       have hcz57 := cb7 BK248
       go_wp2
       go_ret
       exact ⟨sE, sC⟩
      ·rw [if_neg c55] at H
       have c55b0 := decide_eq_false c55
       have c55b1 : decide (a1_5.size ≤ 60) = false := decide_eq_false (by omega)
       clear c55
       obtain rfl := Option.some.inj H
       have hnb58 := NB248_247.out
       have hnc58 := NB247_248.out
       have hcz59 := cb7 BK248
       go_wp2
       go_ret
       exact ⟨sE, sC⟩
     ·rw [if_neg c54] at H
      have c54b0 := beq_eq_false_iff_ne.mpr c54
      have c54b1 := bne_iff_ne.mpr c54
      by_cases c60 : a1_0 = 2
      ·rw [if_pos c60] at H
       have c60b0 := beq_iff_eq.mpr c60
       have c60b1 := bne_eq_false_iff_eq.mpr c60
       clear c60
       by_cases c61 : a1_5.toList = ([] : List UInt8)
       ·rw [if_pos c61] at H
        have c61b0 := beq_iff_eq.mpr c61
        have c61b1 := bne_eq_false_iff_eq.mpr c61
        clear c61
        obtain ⟨t253, A62, H⟩ := bS H
        try dsimp only at H
        obtain rfl := Option.some.inj H
        have hnb63 := NB248_247.out
        have hnc63 := NB247_248.out
        have hcz64 := cb7 BK248
        have hcz65 := cb2 BK247
        go_wp2_with (first | (go_at_call 130; (with_reducible refine (spec_l3Entries.calls kj32 _ _ l0_0 a0_1 _ _ l1_6 t253 _ ?side1 ?side2 ?side3 ?side4 A62.out).mono ?_); (case side1 => exact sD (Kd.C_below HR0_0.out HB.out)); (case side2 => exact HC0_0.out); (case side3 => exact sD (Kd.C_below HR1_6.out HB.out)); (case side4 => exact HC1_6.out); rintro e w66 ⟨rfl, hb⟩; replace BK247 := nK BK247 hb; replace BK248 := nK BK248 hb; replace HB := nSC hb; try clear hb))
        go_ret
        exact ⟨sE, sC⟩
       ·rw [if_neg c61] at H
        have c61b0 := beq_eq_false_iff_ne.mpr c61
        have c61b1 := bne_iff_ne.mpr c61
        obtain rfl := Option.some.inj H
        have hnb67 := NB248_247.out
        have hnc67 := NB247_248.out
        have hcz68 := cb7 BK248
        go_wp2
        go_ret
        exact ⟨sE, sC⟩
      ·rw [if_neg c60] at H
       have c60b0 := beq_eq_false_iff_ne.mpr c60
       have c60b1 := bne_iff_ne.mpr c60
       by_cases c69 : a1_0 = 3
       ·rw [if_pos c69] at H
        have c69b0 := beq_iff_eq.mpr c69
        have c69b1 := bne_eq_false_iff_eq.mpr c69
        clear c69
        obtain ⟨t254, A70, H⟩ := bS H
        try dsimp only at H
        by_cases c71 : t254 = true
        ·subst c71
         rw [if_pos rfl] at H
         obtain rfl := Option.some.inj H
         have hnb72 := NB248_247.out
         have hnc72 := NB247_248.out
         have hcz73 := cb7 BK248
         go_wp2_with (first | (go_at_call 95; (with_reducible refine (spec_l2Path.calls kj32 a1_5 true _ A70.out).mono ?_); rintro e w74 ⟨rfl, hb⟩; replace BK247 := nK BK247 hb; replace BK248 := nK BK248 hb; replace HB := nSC hb; try clear hb; have hcz75 := cb7 BK248))
         go_ret
         exact ⟨sE, sC⟩
        ·replace c71 := Bool.eq_false_iff.mpr c71
         subst c71
         rw [if_neg (show ¬ (false = true) by decide)] at H
         obtain rfl := Option.some.inj H
         have hnb76 := NB248_247.out
         have hnc76 := NB247_248.out
         have hcz77 := cb7 BK248
         go_wp2_with (first | (go_at_call 95; (with_reducible refine (spec_l2Path.calls kj32 a1_5 false _ A70.out).mono ?_); rintro e w78 ⟨rfl, hb⟩; replace BK247 := nK BK247 hb; replace BK248 := nK BK248 hb; replace HB := nSC hb; try clear hb))
         go_ret
         exact ⟨sE, sC⟩
       ·rw [if_neg c69] at H
        have c69b0 := beq_eq_false_iff_ne.mpr c69
        have c69b1 := bne_iff_ne.mpr c69
        obtain rfl := Option.some.inj H
        have hnb79 := NB248_247.out
        have hnc79 := NB247_248.out
        have hcz80 := cb7 BK248
        go_wp2
        go_ret
        exact ⟨sE, sC⟩

end Go.Proofs.YtnmiglfmainhiaaGreatDoor.PNb
