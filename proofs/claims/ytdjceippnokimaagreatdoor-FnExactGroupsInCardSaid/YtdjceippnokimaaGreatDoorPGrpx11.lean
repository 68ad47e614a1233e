import Derived.Test.YtdjceippnokimaaGreatDoorPGrpx0
import Derived.Test.YtdjceippnokimaaGreatDoorPGrpx3
import Derived.Test.YtdjceippnokimaaGreatDoorPGrpx8
import Derived.Test.YtdjceippnokimaaGreatDoorPGrpx10
namespace Go.Proofs.YtdjceippnokimaaGreatDoor.PGrp
open Go.RowKit Go.Proofs.YtdjceippnokimaaGreatDoorW.PrintWords Go.Proofs.YtdjceippnokimaaGreatDoorW.PrintLast Go.Proofs.YtdjceippnokimaaGreatDoorW.PrintMore
attribute [local go_sem] max2_int min2_int max_two min_two max_three min_three max_four min_four   -- for this text's walks alone
set_option linter.unusedVariables false
set_option linter.unusedSimpArgs false
set_option maxHeartbeats 8000000
set_option maxRecDepth 100000
/-! ### spec_l7Groups: function 29 -/
mutual
def spec_l7Groups.l0 : Nat → Int → List (List ByteArray) → List Int → List ByteArray → List ByteArray → Int → Int → List (S65) → Int → Option ((List (List ByteArray)))
 | 0, _, _, _, _, _, _, _, _, _ => none
 | k + 1, x1, x5, x6, x7, x17, x18, x19, x321000, x321001 => if x19 < x18 then (if 0 ≤ x19 then (if x19 < (x17.length : Int) then ((spec_l7At.f k x321000 x321001 x1 (rdOf ByteArray.empty x17 x19)).bind fun t325 => (if 0 ≤ t325 then (if t325 < (x321000.length : Int) then (if ((rd_T65 x321000 t325).f0) = 2 then (spec_l7Groups.j1 k x1 x5 x6 x7 t325 x17 x18 x19 true x321000 x321001) else ((spec_l1Has.f k x6 t325).bind fun t327 => (spec_l7Groups.j1 k x1 x5 x6 x7 t325 x17 x18 x19 t327 x321000 x321001))) else (none)) else (none))) else (none)) else (none)) else (some x5)
def spec_l7Groups.j1 : Nat → Int → List (List ByteArray) → List Int → List ByteArray → Int → List ByteArray → Int → Int → Bool → List (S65) → Int → Option ((List (List ByteArray)))
 | 0, _, _, _, _, _, _, _, _, _, _, _ => none
 | k + 1, x1, x5, x6, x7, x10, x17, x18, x19, x38, x321000, x321001 => if x38 = true then (spec_l7Groups.l0 k x1 x5 x6 x7 x17 x18 (wrap64 (x19 + 1)) x321000 x321001) else ((spec_l1Put.f k x6 x10).bind fun t328 => (spec_l7Groups.l1 k x1 x5 t328 x7 x10 ([] : List ByteArray) x17 x18 x19 x7 (x7.length : Int) 0 x321000 x321001))
def spec_l7Groups.l1 : Nat → Int → List (List ByteArray) → List Int → List ByteArray → Int → List ByteArray → List ByteArray → Int → Int → List ByteArray → Int → Int → List (S65) → Int → Option ((List (List ByteArray)))
 | 0, _, _, _, _, _, _, _, _, _, _, _, _, _, _ => none
 | k + 1, x1, x5, x6, x7, x10, x11, x17, x18, x19, x42, x43, x44, x321000, x321001 => if x44 < x43 then (if 0 ≤ x44 then (if x44 < (x42.length : Int) then ((spec_l7At.f k x321000 x321001 x1 (rdOf ByteArray.empty x42 x44)).bind fun t332 => (if t332 = x10 then (if x11.length < 8796093022208 then (spec_l7Groups.l1 k x1 x5 x6 x7 x10 (x11 ++ [rdOf ByteArray.empty x42 x44]) x17 x18 x19 x42 x43 (wrap64 (x44 + 1)) x321000 x321001) else (none)) else (spec_l7Groups.l1 k x1 x5 x6 x7 x10 x11 x17 x18 x19 x42 x43 (wrap64 (x44 + 1)) x321000 x321001))) else (none)) else (none)) else (if (x11.length : Int) > 1 then (if x5.length < 5864062014805 then (spec_l7Groups.l0 k x1 (x5 ++ [x11]) x6 x7 x17 x18 (wrap64 (x19 + 1)) x321000 x321001) else (none)) else (spec_l7Groups.l0 k x1 x5 x6 x7 x17 x18 (wrap64 (x19 + 1)) x321000 x321001))
end
def spec_l7Groups.f (k : Nat) (l0_0 : List (S65)) (a0_1 : Int) (a1 : Int) : Option ((List (List ByteArray))) := (spec_l7Walk.f k l0_0 a0_1 a1 (⟨#[46]⟩ : ByteArray) false).bind fun t321 => (spec_l7Groups.l0 k a1 ([] : List (List ByteArray)) ([] : List Int) t321 t321 (t321.length : Int) 0 l0_0 a0_1)
theorem spec_l7Groups.calls (k : Nat) (A0_0 : Option Addr) (c0_0 : Nat) (l0_0 : List (S65)) (a0_1 : Int) (a1 : Int) (r : List (List ByteArray)) (w : World) (hr0_0 : Kd.C k65 w A0_0 l0_0.length l0_0) (hc0_0 : l0_0.length ≤ c0_0) (h : spec_l7Groups.f k l0_0 a0_1 a1 = some r) :
  Calls Tryz.prog 29 #[.agg #[.slice A0_0 l0_0.length c0_0, .int .i64 a0_1], .int .i64 a1] w fun e w' => ∃ v0_ : Value, e = .returned (v0_) ∧ Kd.S (Kd.slice 9 Kd.string) 49 w' w.heap.size (fun _ => True) v0_ r ∧ Below w.heap.size w w' := by
 have hu30 := Tryz.underlying30
 have HR0_0 := Aside0.mk hr0_0
 have HC0_0 := Aside0.mk hc0_0
 clear hr0_0 hc0_0
 have HB := Aside0.mk (Below.refl w.heap.size w)
 have H : ((spec_l7Walk.f k l0_0 a0_1 a1 (⟨#[46]⟩ : ByteArray) false).bind fun t321 => (spec_l7Groups.l0 k a1 ([] : List (List ByteArray)) ([] : List Int) t321 t321 (t321.length : Int) 0 l0_0 a0_1)) = some r := h
 clear h
 obtain ⟨t321, A3, H⟩ := bS H
 try dsimp only at H
 have H' := Aside0.mk H
 clear H
 go_enter Tryz.func29, Tryz.ntmps29
 go_wp2_with (first | ((with_reducible refine gd 2 rfl ?_); refine bxE 2 #[.slice A0_0 l0_0.length c0_0, .int .i64 a0_1] 30 ?_; intro gb320 hg w4 hbox hb; have BK320 := Aside0.mk hbox; have GW320 := nGB hg; have GE320 := nGB hg; replace HB := nSB hb; clear hb hbox hg; have hcz5 := cb2 BK320) | ((with_reducible refine gt 51 rfl ?_); refine gL 51 16 Tryz.func51 #[.agg #[.slice A0_0 l0_0.length c0_0, .int .i64 a0_1], .int .i64 a1, .string (⟨#[46]⟩ : ByteArray), .bool false] ?_; (with_reducible refine (spec_l7Walk.calls k _ _ l0_0 a0_1 a1 (⟨#[46]⟩ : ByteArray) false t321 _ ?side1 ?side2 A3.out).mono ?_); (case side1 => exact sD (Kd.C_below HR0_0.out HB.out)); (case side2 => exact HC0_0.out); rintro e w6 ⟨v322, rfl, ho0, hb⟩; refine ⟨_, rfl, ?_⟩; have HO323 := Aside0.mk (Kd.R_lower ho0 (below_size sC)); replace BK320 := nK BK320 hb; replace HB := nSC hb; try clear hb; (try clear ho0); obtain ⟨Ao7, co7, eo7⟩ := Kd.R_slice HO323.out; subst eo7))
 go_loopg [5, 6, 19] k (fun kq v5 v6 v19 w' => ∃ (x5_1 : List (List ByteArray)) (x6_1 : List Int) (x19_1 : Int), v19 = .int .i64 x19_1 ∧ Aside0 (spec_l7Groups.l0 kq a1 x5_1 x6_1 t321 t321 (t321.length : Int) x19_1 l0_0 a0_1 = some r) ∧ Aside0 (kq ≤ k) ∧ Aside0 (Kd.S (Kd.slice 9 Kd.string) 49 w' w.heap.size (fun k_ => some k_ ≠ ((.slice Ao7 t321.length co7) : Value).ownBlock ∧ some k_ ≠ ((.slice Ao7 t321.length co7) : Value).ownBlock) v5 x5_1) ∧ Aside0 (Kd.R (Kd.int .i64) 3 w' w.heap.size (fun _ => True) v6 x6_1) ∧ Aside0 (Kd.R Kd.string 9 w' w.heap.size (fun _ => True) (.slice Ao7 t321.length co7) t321) ∧ Aside0 (Kd.R Kd.string 9 w' w.heap.size (fun _ => True) (.slice Ao7 t321.length co7) t321) ∧ Aside0 (w'.heap[gb320]? = some (.cells #[(.slice A0_0 l0_0.length c0_0), .int .i64 a0_1] 30 (0, 0))) ∧ Aside0 (Below w.heap.size w w'))
 case atStart => exact ⟨(([] : List (List ByteArray))), (([] : List Int)), (0), sR, H', ⟨Nat.le_refl _⟩, ⟨by first | exact Kd.S_nil _ _ _ _ _ | exact Kd.N_nil _ _ _ _ _ | exact Kd.V_nil _ _ _ _ _ | exact Kd.Q_nil _ _ _ _ _ | exact Kd.R_nil _ _ _ _ _⟩, ⟨by first | exact Kd.R_nil _ _ _ _ _ | exact Kd.N_nil _ _ _ _ _ | exact Kd.V_nil _ _ _ _ _ | exact Kd.Q_nil _ _ _ _ _ | exact Kd.S_nil _ _ _ _ _⟩, ⟨rR HO323⟩, ⟨rR HO323⟩, ⟨sK BK320⟩, ⟨sC⟩⟩
 case round =>
  clear H'
  try clear c2
  try clear p2
  try clear c5
  try clear hcz5
  obtain ⟨x5_1, x6_1, x19_1, rfl, HA, HK1, HO_5, HO_6, HO_7, HO_17, BK320, HB⟩ := hrel
  cases gk with
  | zero => exact absurd HA.out (by simp [spec_l7Groups.l0])
  | succ k1 =>
   have H := HA.out
   clear HA
   simp only [spec_l7Groups.l0] at H
   by_cases c8 : x19_1 < (t321.length : Int)
   ·rw [if_pos c8] at H
    have c8b0 := decide_eq_true c8
    clear c8
    obtain ⟨c9, H⟩ := iN H
    have c9b0 := decide_eq_true c9
    clear c9
    obtain ⟨c10, H⟩ := iN H
    have c10b0 := decide_eq_true c10
    clear c10
    obtain ⟨t325, A11, H⟩ := bS H
    try dsimp only at H
    have HC12 := Aside0.mk H
    clear H
    have p324 : 0 ≤ (x19_1 : Int) := sO
    have q324 : x19_1 < (t321.length : Int) := sO
    obtain ⟨ad324, e324, hx324_0⟩ := Kd.at_string (Kd.R_reads' HO_17.out).2.2 x19_1 p324 q324
    cases e324
    replace p324 := eq_true p324
    replace q324 := eq_true q324
    have hcz13 := cb2 BK320
    go_upto_region 8 with (first | ((with_reducible refine gt 52 rfl ?_); refine gL 52 26 Tryz.func52 #[.agg #[.slice A0_0 l0_0.length c0_0, .int .i64 a0_1], .int .i64 a1, .string (rdOf ByteArray.empty t321 x19_1)] ?_; (with_reducible refine (spec_l7At.calls k1 _ _ l0_0 a0_1 a1 (rdOf ByteArray.empty t321 x19_1) t325 _ ?side1 ?side2 A11.out).mono ?_); (case side1 => exact sD (Kd.C_below HR0_0.out HB.out)); (case side2 => exact HC0_0.out); rintro e w14 ⟨rfl, hb⟩; refine ⟨_, rfl, ?_⟩; replace HO_5 := nS HO_5 hb; replace HO_6 := nR HO_6 hb; replace HO_7 := nR HO_7 hb; replace HO_17 := nR HO_17 hb; replace BK320 := nK BK320 hb; replace HB := nSC hb; try clear hb))
    (try simp only [Act.put, List.setIfInBounds_toArray, List.set_cons_zero, List.set_cons_succ])
    go_cut [38] (fun v38 wc => ∃ (kq : Nat) (x38_11 : Bool), v38 = .bool x38_11 ∧ Aside0 (spec_l7Groups.j1 kq a1 x5_1 x6_1 t321 t325 t321 (t321.length : Int) x19_1 x38_11 l0_0 a0_1 = some r) ∧ Aside0 (kq ≤ k1) ∧ Aside0 (Kd.S (Kd.slice 9 Kd.string) 49 wc w.heap.size (fun k_ => some k_ ≠ ((.slice (some ad324) t321.length co7) : Value).ownBlock ∧ some k_ ≠ ((.slice (some ad324) t321.length co7) : Value).ownBlock) u5 x5_1) ∧ Aside0 (Kd.R (Kd.int .i64) 3 wc w.heap.size (fun _ => True) u6 x6_1) ∧ Aside0 (Kd.R Kd.string 9 wc w.heap.size (fun _ => True) (.slice (some ad324) t321.length co7) t321) ∧ Aside0 (Kd.R Kd.string 9 wc w.heap.size (fun _ => True) (.slice (some ad324) t321.length co7) t321) ∧ Aside0 (wc.heap[gb320]? = some (.cells #[(.slice A0_0 l0_0.length c0_0), .int .i64 a0_1] 30 (0, 0))) ∧ Aside0 (Below w.heap.size w wc))
    case first =>
     have H := HC12.out
     clear HC12
     obtain ⟨c15, H⟩ := iN H
     have c15b0 := decide_eq_true c15
     clear c15
     (first | rw [c15b0] | (simp only [i64_w, i32_w]; rw [c15b0]) | skip)
     obtain ⟨c16, H⟩ := iN H
     have c16b0 := decide_eq_true c16
     clear c16
     by_cases c17 : ((rd_T65 l0_0 t325).f0) = 2
     ·rw [if_pos c17] at H
      have c17b0 := beq_iff_eq.mpr c17
      have c17b1 := bne_eq_false_iff_eq.mpr c17
      clear c17
      have H' := Aside0.mk H
      clear H
      have hcz18 := cb2 BK320
      have p326 : 0 ≤ (t325 : Int) := sO
      have q326 : t325 < (l0_0.length : Int) := sO
      obtain ⟨ad326, A326_6, c326_6, e326, hx326_0, hx326_1, hx326_2, hx326_3, hx326_4, hx326_5, hx326_6, hl326_6, hi326_6⟩ := ab65 HR0_0.out HB t325 p326 q326
      cases e326
      have HR326_6 := Aside0.mk hi326_6
      have HC326_6 := Aside0.mk hl326_6
      clear hi326_6 hl326_6
      replace p326 := eq_true p326
      replace q326 := eq_true q326
      go_wp2
      go_meet
      case rel => exact ⟨_, (true), sR, H', ⟨by have := HK1.out; first | omega | exact Nat.le_refl _⟩, ⟨rS HO_5⟩, ⟨rR HO_6⟩, ⟨rR HO_7⟩, ⟨rR HO_17⟩, ⟨sK BK320⟩, ⟨sC⟩⟩
     ·rw [if_neg c17] at H
      have c17b0 := beq_eq_false_iff_ne.mpr c17
      have c17b1 := bne_iff_ne.mpr c17
      obtain ⟨t327, A19, H⟩ := bS H
      try dsimp only at H
      have H' := Aside0.mk H
      clear H
      have hcz20 := cb2 BK320
      have p326 : 0 ≤ (t325 : Int) := sO
      have q326 : t325 < (l0_0.length : Int) := sO
      obtain ⟨ad326, A326_6, c326_6, e326, hx326_0, hx326_1, hx326_2, hx326_3, hx326_4, hx326_5, hx326_6, hl326_6, hi326_6⟩ := ab65 HR0_0.out HB t325 p326 q326
      cases e326
      have HR326_6 := Aside0.mk hi326_6
      have HC326_6 := Aside0.mk hl326_6
      clear hi326_6 hl326_6
      replace p326 := eq_true p326
      replace q326 := eq_true q326
      obtain ⟨Ao21, co21, eo21⟩ := Kd.R_slice HO_6.out
      subst eo21
      go_wp2_with (first | (go_at_call 53; (with_reducible refine (spec_l1Has.calls k1 _ _ x6_1 t325 t327 _ ?side1 ?side2 A19.out).mono ?_); (case side1 => exact sD (Kd.R_reads' HO_6.out).2.2); (case side2 => exact (Kd.R_reads' HO_6.out).2.1); rintro e w' ⟨rfl, ⟨nd, rfl⟩⟩))
      go_meet
      case rel => exact ⟨_, (t327), sR, H', ⟨by have := HK1.out; first | omega | exact Nat.le_refl _⟩, ⟨rS HO_5⟩, ⟨rR HO_6⟩, ⟨rR HO_7⟩, ⟨rR HO_17⟩, ⟨sK BK320⟩, ⟨sC⟩⟩
    case rest =>
     clear HC12
     try clear c1
     try clear c2
     try clear p2
     try clear c3
     try clear p3
     try clear q3
     try clear hx3
     try clear c5
     try clear c8
     try clear c8b0
     try clear c9
     try clear c9b0
     try clear c10
     try clear c10b0
     try clear c15
     try clear c15b0
     try clear c16
     try clear c16b0
     try clear c17
     try clear c17b0
     try clear c17b1
     try clear hcz13
     try clear hcz18
     try clear hcz20
     try clear hcz5
     try clear hx324_0
     try clear hx326_0
     try clear hx326_1
     try clear hx326_2
     try clear hx326_3
     try clear hx326_4
     try clear hx326_5
     try clear hx326_6
     try clear p2
     try clear p324
     try clear p326
     try clear q324
     try clear q326
     obtain ⟨kq, x38_11, rfl, HA, HJ11, HO_5, HO_6, HO_7, HO_17, BK320, HB⟩ := hcut
     cases kq with
     | zero => exact absurd HA.out (by simp [spec_l7Groups.j1])
     | succ kj11 =>
      have H := HA.out
      clear HA
      simp only [spec_l7Groups.j1] at H
      by_cases c22 : x38_11 = true
      ·subst c22
       rw [if_pos rfl] at H
       have H' := Aside0.mk H
       clear H
       go_wp2
       go_roundg kj11
       case measure => have := HK1.out; have := HJ11.out; omega
       case rel => exact ⟨(x5_1), (x6_1), (wrap64 (x19_1 + 1)), sR, H', ⟨by have := HK1.out; have := HJ11.out; omega⟩, ⟨rS HO_5⟩, ⟨rR HO_6⟩, ⟨rR HO_7⟩, ⟨rR HO_17⟩, ⟨sK BK320⟩, ⟨sC⟩⟩
      ·replace c22 := Bool.eq_false_iff.mpr c22
       subst c22
       rw [if_neg (show ¬ (false = true) by decide)] at H
       obtain ⟨t328, A23, H⟩ := bS H
       try dsimp only at H
       have H' := Aside0.mk H
       clear H
       obtain ⟨Ao24, co24, eo24⟩ := Kd.R_slice HO_6.out
       subst eo24
       go_wp2_with (first | ((with_reducible refine gt 54 rfl ?_); refine gL 54 41 Tryz.func54 #[.slice Ao24 x6_1.length co24, .int .i64 t325] ?_; (with_reducible refine (spec_l1Put.calls kj11 (fun k_ => some k_ = (.slice Ao24 x6_1.length co24 : Value).ownBlock) (.slice Ao24 x6_1.length co24) x6_1 t325 t328 w _ ?side1 ?side2 A23.out).mono ?_); (case side1 => repeat (first | (with_reducible first | exact HB.out | apply below_alloc | apply pw_below_drewN | apply below_drew1 | refine below_set ?_ GE320.out) | exact HB.out)); (case side2 => exact Kd.R_tight rfl HO_6.out); rintro e w25 ⟨v329, rfl, ho0, hb, hkp⟩; refine ⟨_, rfl, ?_⟩; replace HO_5 := Aside0.mk (Kd.S_mono (ok' := fun k_ => some k_ ≠ (.slice (some ad324) t321.length co7 : Value).ownBlock ∧ some k_ ≠ (.slice (some ad324) t321.length co7 : Value).ownBlock) (Kd.S_keptB ((Kd.S_apart' HO_5.out (Kd.R_typed HO_6.out) (by decide))) hkp (fun k_ hk_ hs_ => (hk_.2) hs_)) (fun k_ hk_ => ⟨hk_.1.1.1, hk_.1.1.2⟩)); replace HO_7 := Aside0.mk (Kd.R_mono (ok' := fun k_ => True) (Kd.R_keptB ((Kd.R_apart' HO_7.out (Kd.R_typed HO_6.out) (by decide))) hkp (fun k_ hk_ hs_ => (hk_.2) hs_)) (fun k_ hk_ => trivial)); replace HO_17 := Aside0.mk (Kd.R_mono (ok' := fun k_ => True) (Kd.R_keptB ((Kd.R_apart' HO_17.out (Kd.R_typed HO_6.out) (by decide))) hkp (fun k_ hk_ hs_ => (hk_.2) hs_)) (fun k_ hk_ => trivial)); replace BK320 := Aside0.mk (blk_kept (sK BK320) hkp (fun hs_ => (fun e_ => (Kd.R_ne HO_6.out BK320.out (by decide)) e_) hs_)); have HO330 := Aside0.mk (Kd.R_mono (ok' := fun k_ => True) ho0 (fun k_ hk_ => trivial)); replace HB := Aside0.mk (hb); clear HO_6; (try clear hb); (try clear hkp); (try clear ho0)))
       go_loopg [11, 44] kj11 (fun kq v11 v44 w' => ∃ (x11_3 : List ByteArray) (x44_3 : Int), v44 = .int .i64 x44_3 ∧ Aside0 (spec_l7Groups.l1 kq a1 x5_1 t328 t321 t325 x11_3 t321 (t321.length : Int) x19_1 t321 (t321.length : Int) x44_3 l0_0 a0_1 = some r) ∧ Aside0 (kq ≤ kj11) ∧ Aside0 (Kd.S (Kd.slice 9 Kd.string) 49 w' w.heap.size (fun k_ => some k_ ≠ ((.slice (some ad324) t321.length co7) : Value).ownBlock ∧ some k_ ≠ (v11 : Value).ownBlock ∧ some k_ ≠ ((.slice (some ad324) t321.length co7) : Value).ownBlock ∧ some k_ ≠ ((.slice (some ad324) t321.length co7) : Value).ownBlock) u5 x5_1) ∧ Aside0 (Kd.R (Kd.int .i64) 3 w' w.heap.size (fun _ => True) v329 t328) ∧ Aside0 (Kd.R Kd.string 9 w' w.heap.size (fun k_ => some k_ ≠ (v11 : Value).ownBlock) (.slice (some ad324) t321.length co7) t321) ∧ Aside0 (Kd.R Kd.string 9 w' w.heap.size (fun k_ => some k_ ≠ ((.slice (some ad324) t321.length co7) : Value).ownBlock ∧ some k_ ≠ ((.slice (some ad324) t321.length co7) : Value).ownBlock ∧ some k_ ≠ ((.slice (some ad324) t321.length co7) : Value).ownBlock) v11 x11_3) ∧ Aside0 (Kd.R Kd.string 9 w' w.heap.size (fun k_ => some k_ ≠ (v11 : Value).ownBlock) (.slice (some ad324) t321.length co7) t321) ∧ Aside0 (Kd.R Kd.string 9 w' w.heap.size (fun k_ => some k_ ≠ (v11 : Value).ownBlock) (.slice (some ad324) t321.length co7) t321) ∧ Aside0 (w'.heap[gb320]? = some (.cells #[(.slice A0_0 l0_0.length c0_0), .int .i64 a0_1] 30 (0, 0))) ∧ Aside0 (Below w.heap.size w w'))
       case atStart => exact ⟨(([] : List ByteArray)), (0), sR, H', ⟨Nat.le_refl _⟩, ⟨by (with_reducible repeat (first | apply Kd.S_alloc | apply Kd.S_drewN | apply Kd.S_drew)); exact Kd.S_mono HO_5.out (fun _ hk => ⟨hk.1, ⟨(by simp [Value.ownBlock]), ⟨hk.2, hk.1⟩⟩⟩)⟩, ⟨rR HO330⟩, ⟨by (with_reducible repeat (first | apply Kd.R_alloc | apply Kd.R_drewN | apply Kd.R_drew)); exact Kd.R_mono HO_7.out (fun _ hk => (by simp [Value.ownBlock]))⟩, ⟨by first | exact Kd.R_nil _ _ _ _ _ | exact Kd.N_nil _ _ _ _ _ | exact Kd.V_nil _ _ _ _ _ | exact Kd.Q_nil _ _ _ _ _ | exact Kd.S_nil _ _ _ _ _⟩, ⟨by (with_reducible repeat (first | apply Kd.R_alloc | apply Kd.R_drewN | apply Kd.R_drew)); exact Kd.R_mono HO_17.out (fun _ hk => (by simp [Value.ownBlock]))⟩, ⟨by (with_reducible repeat (first | apply Kd.R_alloc | apply Kd.R_drewN | apply Kd.R_drew)); exact Kd.R_mono HO_7.out (fun _ hk => (by simp [Value.ownBlock]))⟩, ⟨sK BK320⟩, ⟨sC⟩⟩
       case round =>
        clear H'
        try clear c1
        try clear c2
        try clear p2
        try clear c3
        try clear p3
        try clear q3
        try clear hx3
        try clear c5
        try clear p6
        try clear c8
        try clear c8b0
        try clear c9
        try clear c9b0
        try clear c10
        try clear c10b0
        try clear c15
        try clear c15b0
        try clear c16
        try clear c16b0
        try clear c17
        try clear c17b0
        try clear c17b1
        try clear c22
        try clear hcz13
        try clear hcz18
        try clear hcz20
        try clear hcz5
        try clear hx324_0
        try clear hx326_0
        try clear hx326_1
        try clear hx326_2
        try clear hx326_3
        try clear hx326_4
        try clear hx326_5
        try clear hx326_6
        try clear p2
        try clear p3
        try clear p324
        try clear p326
        try clear q3
        try clear q324
        try clear q326
        obtain ⟨x11_3, x44_3, rfl, HA, HK3, HO_5, HO_6, HO_7, HO_11, HO_17, HO_42, BK320, HB⟩ := hrel
        cases gk with
        | zero => exact absurd HA.out (by simp [spec_l7Groups.l1])
        | succ k3 =>
         have H := HA.out
         clear HA
         simp only [spec_l7Groups.l1] at H
         by_cases c26 : x44_3 < (t321.length : Int)
         ·rw [if_pos c26] at H
          have c26b0 := decide_eq_true c26
          clear c26
          obtain ⟨c27, H⟩ := iN H
          have c27b0 := decide_eq_true c27
          clear c27
          obtain ⟨c28, H⟩ := iN H
          have c28b0 := decide_eq_true c28
          clear c28
          obtain ⟨t332, A29, H⟩ := bS H
          try dsimp only at H
          by_cases c30 : t332 = t325
          ·rw [if_pos c30] at H
           have c30b0 := beq_iff_eq.mpr c30
           have c30b1 := bne_eq_false_iff_eq.mpr c30
           clear c30
           obtain ⟨c31, H⟩ := iN H
           have LMc31 := Aside0.mk c31
           clear c31
           obtain ⟨y333, hy333⟩ : ∃ y_ : List ByteArray, y_ = (x11_3 ++ [rdOf ByteArray.empty t321 x44_3]) := ⟨_, rfl⟩
           replace H : (spec_l7Groups.l1 k3 a1 x5_1 t328 t321 t325 y333 t321 (t321.length : Int) x19_1 t321 (t321.length : Int) (wrap64 (x44_3 + 1)) l0_0 a0_1) = some r := by first | (rw [hy333]; with_reducible exact H) | (have H2_ := (Option.bind_some _ _).symm.trans H; rw [hy333]; with_reducible exact H2_) | (have H2_ := (Option.bind_some _ _).symm.trans H; with_reducible exact H2_) | with_reducible exact H | (rw [hy333]; exact H) | exact H
           have Ny333 := Aside0.mk hy333
           clear hy333
           have H' := Aside0.mk H
           clear H
           have p331 : 0 ≤ (x44_3 : Int) := sO
           have q331 : x44_3 < (t321.length : Int) := sO
           obtain ⟨ad331, e331, hx331_0⟩ := Kd.at_string (Kd.R_reads' HO_42.out).2.2 x44_3 p331 q331
           obtain rfl : ad324 = ad331 := (by injection e331)
           replace p331 := eq_true p331
           replace q331 := eq_true q331
           have hcz32 := cb2 BK320
           go_wp2_with (first | ((with_reducible refine gt 52 rfl ?_); refine gL 52 51 Tryz.func52 #[.agg #[.slice A0_0 l0_0.length c0_0, .int .i64 a0_1], .int .i64 a1, .string (rdOf ByteArray.empty t321 x44_3)] ?_; (with_reducible refine (spec_l7At.calls k3 _ _ l0_0 a0_1 a1 (rdOf ByteArray.empty t321 x44_3) t332 _ ?side1 ?side2 A29.out).mono ?_); (case side1 => exact sD (Kd.C_below HR0_0.out HB.out)); (case side2 => exact HC0_0.out); rintro e w33 ⟨rfl, hb⟩; refine ⟨_, rfl, ?_⟩; replace HO_5 := nS HO_5 hb; replace HO_6 := nR HO_6 hb; replace HO_7 := nR HO_7 hb; replace HO_11 := nR HO_11 hb; replace HO_17 := nR HO_17 hb; replace HO_42 := nR HO_42 hb; replace BK320 := nK BK320 hb; replace HB := nSC hb; try clear hb) | ((with_reducible refine gate_builtin (b := .append) (xs := #[.tmp 54, .tmp 56]) rfl ?_); at_builtin; refine Kd.R_append Kd.string (w0 := w) w.heap.size rfl (.tmp 54) (.tmp 56) 49 9 (.string ⟨#[]⟩) 16 rfl Tryz.underlying49 info9 rfl (by decide) (by omega) u11 x11_3 (rdOf ByteArray.empty t321 x44_3) [.string (rdOf ByteArray.empty t321 x44_3)] (fun k_ => some k_ ≠ (.slice (some ad324) t321.length co7 : Value).ownBlock ∧ some k_ ≠ (.slice (some ad324) t321.length co7 : Value).ownBlock ∧ some k_ ≠ (.slice (some ad324) t321.length co7 : Value).ownBlock) (fun _ => False) rfl rfl ?aP (fun _ hk => hk.elim) ?aF ?aO ?aB ?aS ?aL ?_; (case aP => exact rfl); (case aB => exact sC); (case aF => exact (fun k_ hk => ⟨Kd.fresh' (Kd.R_lt (by (with_reducible repeat (first | apply Kd.R_alloc | apply Kd.R_drewN | apply Kd.R_drew)); exact HO_7.out)) k_ hk, Kd.fresh' (Kd.R_lt (by (with_reducible repeat (first | apply Kd.R_alloc | apply Kd.R_drewN | apply Kd.R_drew)); exact HO_17.out)) k_ hk, Kd.fresh' (Kd.R_lt (by (with_reducible repeat (first | apply Kd.R_alloc | apply Kd.R_drewN | apply Kd.R_drew)); exact HO_42.out)) k_ hk⟩)); (case aO => exact (by (with_reducible repeat (first | apply Kd.R_alloc | apply Kd.R_drewN | apply Kd.R_drew)); exact HO_11.out)); (case aS => exact (below_size sC)); (case aL => have := LMc31.out; omega); intro v334 w34 ho hb hg hat; rw [← Ny333.out] at ho; replace HO_5 := Aside0.mk (Kd.S_after (ok := (fun k_ => some k_ ≠ (.slice (some ad324) t321.length co7 : Value).ownBlock ∧ some k_ ≠ (.slice (some ad324) t321.length co7 : Value).ownBlock ∧ some k_ ≠ (.slice (some ad324) t321.length co7 : Value).ownBlock)) (by (with_reducible repeat (first | apply Kd.S_alloc | apply Kd.S_drewN | apply Kd.S_drew)); exact Kd.S_mono HO_5.out (fun _ hk => ⟨⟨hk.1, ⟨hk.2.2.1, hk.2.2.2⟩⟩, hk.2.1⟩)) hg hat); replace HO_6 := Aside0.mk (Kd.R_over' (by (with_reducible repeat (first | apply Kd.R_alloc | apply Kd.R_drewN | apply Kd.R_drew)); exact HO_6.out) (Kd.R_typed (by (with_reducible repeat (first | apply Kd.R_alloc | apply Kd.R_drewN | apply Kd.R_drew)); exact HO_11.out)) (by decide) hg); replace HO_7 := Aside0.mk (Kd.R_after (ok := (fun _ => True)) (by (with_reducible repeat (first | apply Kd.R_alloc | apply Kd.R_drewN | apply Kd.R_drew)); exact Kd.R_mono HO_7.out (fun _ hk => ⟨trivial, hk⟩)) hg hat); replace HO_17 := Aside0.mk (Kd.R_after (ok := (fun _ => True)) (by (with_reducible repeat (first | apply Kd.R_alloc | apply Kd.R_drewN | apply Kd.R_drew)); exact Kd.R_mono HO_17.out (fun _ hk => ⟨trivial, hk⟩)) hg hat); replace HO_42 := Aside0.mk (Kd.R_after (ok := (fun _ => True)) (by (with_reducible repeat (first | apply Kd.R_alloc | apply Kd.R_drewN | apply Kd.R_drew)); exact Kd.R_mono HO_42.out (fun _ hk => ⟨trivial, hk⟩)) hg hat); replace BK320 := Aside0.mk (blk_grown (g := gb320) (o := .cells #[.slice A0_0 l0_0.length c0_0, .int .i64 a0_1] 30 (0, 0)) (sK BK320) hg (Kd.R_ne HO_11.out BK320.out (by decide))); replace HB := Aside0.mk (hb); have HO335 := Aside0.mk (ho); clear HO_11; clear ho hb hg hat))
           go_roundg k3
           case measure => have := HK1.out; have := HJ11.out; have := HK3.out; omega
           case rel => exact ⟨(y333), (wrap64 (x44_3 + 1)), sR, H', ⟨by have := HK1.out; have := HJ11.out; have := HK3.out; omega⟩, ⟨by (with_reducible repeat (first | apply Kd.S_alloc | apply Kd.S_drewN | apply Kd.S_drew)); exact Kd.S_mono HO_5.out (fun _ hk => ⟨hk.1.1, ⟨hk.2, ⟨hk.1.2.1, hk.1.2.2⟩⟩⟩)⟩, ⟨rR HO_6⟩, ⟨by (with_reducible repeat (first | apply Kd.R_alloc | apply Kd.R_drewN | apply Kd.R_drew)); exact Kd.R_mono HO_7.out (fun _ hk => hk.2)⟩, ⟨rR HO335⟩, ⟨by (with_reducible repeat (first | apply Kd.R_alloc | apply Kd.R_drewN | apply Kd.R_drew)); exact Kd.R_mono HO_17.out (fun _ hk => hk.2)⟩, ⟨by (with_reducible repeat (first | apply Kd.R_alloc | apply Kd.R_drewN | apply Kd.R_drew)); exact Kd.R_mono HO_42.out (fun _ hk => hk.2)⟩, ⟨sK BK320⟩, ⟨sC⟩⟩
          ·rw [if_neg c30] at H
           have c30b0 := beq_eq_false_iff_ne.mpr c30
           have c30b1 := bne_iff_ne.mpr c30
           have H' := Aside0.mk H
           clear H
           have p331 : 0 ≤ (x44_3 : Int) := sO
           have q331 : x44_3 < (t321.length : Int) := sO
           obtain ⟨ad331, e331, hx331_0⟩ := Kd.at_string (Kd.R_reads' HO_42.out).2.2 x44_3 p331 q331
           obtain rfl : ad324 = ad331 := (by injection e331)
           replace p331 := eq_true p331
           replace q331 := eq_true q331
           have hcz35 := cb2 BK320
           go_wp2_with (first | ((with_reducible refine gt 52 rfl ?_); refine gL 52 51 Tryz.func52 #[.agg #[.slice A0_0 l0_0.length c0_0, .int .i64 a0_1], .int .i64 a1, .string (rdOf ByteArray.empty t321 x44_3)] ?_; (with_reducible refine (spec_l7At.calls k3 _ _ l0_0 a0_1 a1 (rdOf ByteArray.empty t321 x44_3) t332 _ ?side1 ?side2 A29.out).mono ?_); (case side1 => exact sD (Kd.C_below HR0_0.out HB.out)); (case side2 => exact HC0_0.out); rintro e w36 ⟨rfl, hb⟩; refine ⟨_, rfl, ?_⟩; replace HO_5 := nS HO_5 hb; replace HO_6 := nR HO_6 hb; replace HO_7 := nR HO_7 hb; replace HO_11 := nR HO_11 hb; replace HO_17 := nR HO_17 hb; replace HO_42 := nR HO_42 hb; replace BK320 := nK BK320 hb; replace HB := nSC hb; try clear hb))
           go_roundg k3
           case measure => have := HK1.out; have := HJ11.out; have := HK3.out; omega
           case rel => exact ⟨(x11_3), (wrap64 (x44_3 + 1)), sR, H', ⟨by have := HK1.out; have := HJ11.out; have := HK3.out; omega⟩, ⟨rS HO_5⟩, ⟨rR HO_6⟩, ⟨rR HO_7⟩, ⟨rR HO_11⟩, ⟨rR HO_17⟩, ⟨rR HO_42⟩, ⟨sK BK320⟩, ⟨sC⟩⟩
         ·rw [if_neg c26] at H
          have c26b0 := decide_eq_false c26
          clear c26
          by_cases c37 : (x11_3.length : Int) > 1
          ·rw [if_pos c37] at H
           have c37b0 := decide_eq_true c37
           have c37b1 : decide (1 < x11_3.length) = true := decide_eq_true (by omega)
           clear c37
           obtain ⟨c38, H⟩ := iN H
           have LMc38 := Aside0.mk c38
           clear c38
           obtain ⟨y336, hy336⟩ : ∃ y_ : List (List ByteArray), y_ = (x5_1 ++ [x11_3]) := ⟨_, rfl⟩
           replace H : (spec_l7Groups.l0 k3 a1 y336 t328 t321 t321 (t321.length : Int) (wrap64 (x19_1 + 1)) l0_0 a0_1) = some r := by first | (rw [hy336]; with_reducible exact H) | (have H2_ := (Option.bind_some _ _).symm.trans H; rw [hy336]; with_reducible exact H2_) | (have H2_ := (Option.bind_some _ _).symm.trans H; with_reducible exact H2_) | with_reducible exact H | (rw [hy336]; exact H) | exact H
           have Ny336 := Aside0.mk hy336
           clear hy336
           have H' := Aside0.mk H
           clear H
           obtain ⟨Ao39, co39, eo39⟩ := Kd.R_slice HO_11.out
           subst eo39
           go_wp2_with (first | ((with_reducible refine gate_builtin (b := .append) (xs := #[.tmp 62, .tmp 64]) rfl ?_); at_builtin; refine Kd.S_append (Kd.slice 9 Kd.string) (w0 := w) w.heap.size rfl (.tmp 62) (.tmp 64) 34 49 (.slice none 0 0) 24 rfl Tryz.underlying34 info49 rfl (by decide) (by omega) u5 x5_1 x11_3 [.slice Ao39 x11_3.length co39] (fun k_ => some k_ ≠ (.slice (some ad324) t321.length co7 : Value).ownBlock ∧ some k_ ≠ (.slice (some ad324) t321.length co7 : Value).ownBlock ∧ some k_ ≠ (.slice (some ad324) t321.length co7 : Value).ownBlock) (fun k_ => some k_ = (.slice Ao39 x11_3.length co39 : Value).ownBlock) rfl rfl ?aP (fun k_ hk_ => ((Kd.R_mono (ok' := fun k_ => ((fun k_ => some k_ ≠ (.slice (some ad324) t321.length co7 : Value).ownBlock ∧ some k_ ≠ (.slice (some ad324) t321.length co7 : Value).ownBlock ∧ some k_ ≠ (.slice (some ad324) t321.length co7 : Value).ownBlock)) k_ ∧ some k_ ≠ (u5 : Value).ownBlock) (Kd.R_apart' (HO_11.out) (Kd.S_typed HO_5.out) (by decide)) (fun k_ hk => ⟨⟨hk.1.1, ⟨hk.1.2.1, hk.1.2.2⟩⟩, hk.2⟩))).1 k_ hk_.symm) ?aF ?aO ?aB ?aS ?aL ?_; (case aP => exact Kd.M_row (Kd.R_mono (Kd.R_tight rfl (Kd.R_mono (ok' := fun k_ => ((fun k_ => some k_ ≠ (.slice (some ad324) t321.length co7 : Value).ownBlock ∧ some k_ ≠ (.slice (some ad324) t321.length co7 : Value).ownBlock ∧ some k_ ≠ (.slice (some ad324) t321.length co7 : Value).ownBlock)) k_ ∧ some k_ ≠ (u5 : Value).ownBlock) (Kd.R_apart' (HO_11.out) (Kd.S_typed HO_5.out) (by decide)) (fun k_ hk => ⟨⟨hk.1.1, ⟨hk.1.2.1, hk.1.2.2⟩⟩, hk.2⟩))) (fun _ h_ => h_))); (case aB => exact sC); (case aF => exact (fun k_ hk => ⟨Kd.fresh' (Kd.R_lt (by (with_reducible repeat (first | apply Kd.R_alloc | apply Kd.R_drewN | apply Kd.R_drew)); exact HO_7.out)) k_ hk, Kd.fresh' (Kd.R_lt (by (with_reducible repeat (first | apply Kd.R_alloc | apply Kd.R_drewN | apply Kd.R_drew)); exact HO_17.out)) k_ hk, Kd.fresh' (Kd.R_lt (by (with_reducible repeat (first | apply Kd.R_alloc | apply Kd.R_drewN | apply Kd.R_drew)); exact HO_42.out)) k_ hk⟩)); (case aO => exact (by (with_reducible repeat (first | apply Kd.S_alloc | apply Kd.S_drewN | apply Kd.S_drew)); exact Kd.S_mono HO_5.out (fun k_ hk => ⟨⟨hk.1, ⟨hk.2.2.1, hk.2.2.2⟩⟩, fun e_ => hk.2.1 e_⟩))); (case aS => exact (below_size sC)); (case aL => have := LMc38.out; omega); intro v337 w40 ho hb hg hat; rw [← Ny336.out] at ho; replace HO_6 := Aside0.mk (Kd.R_over' (by (with_reducible repeat (first | apply Kd.R_alloc | apply Kd.R_drewN | apply Kd.R_drew)); exact HO_6.out) (Kd.S_typed (by (with_reducible repeat (first | apply Kd.S_alloc | apply Kd.S_drewN | apply Kd.S_drew)); exact HO_5.out)) (by decide) hg); replace HO_7 := Aside0.mk (Kd.R_over' (by (with_reducible repeat (first | apply Kd.R_alloc | apply Kd.R_drewN | apply Kd.R_drew)); exact HO_7.out) (Kd.S_typed (by (with_reducible repeat (first | apply Kd.S_alloc | apply Kd.S_drewN | apply Kd.S_drew)); exact HO_5.out)) (by decide) hg); replace HO_17 := Aside0.mk (Kd.R_over' (by (with_reducible repeat (first | apply Kd.R_alloc | apply Kd.R_drewN | apply Kd.R_drew)); exact HO_17.out) (Kd.S_typed (by (with_reducible repeat (first | apply Kd.S_alloc | apply Kd.S_drewN | apply Kd.S_drew)); exact HO_5.out)) (by decide) hg); replace HO_42 := Aside0.mk (Kd.R_over' (by (with_reducible repeat (first | apply Kd.R_alloc | apply Kd.R_drewN | apply Kd.R_drew)); exact HO_42.out) (Kd.S_typed (by (with_reducible repeat (first | apply Kd.S_alloc | apply Kd.S_drewN | apply Kd.S_drew)); exact HO_5.out)) (by decide) hg); replace BK320 := Aside0.mk (blk_grown (g := gb320) (o := .cells #[.slice A0_0 l0_0.length c0_0, .int .i64 a0_1] 30 (0, 0)) (sK BK320) hg (Kd.S_ne HO_5.out BK320.out (by decide))); replace HB := Aside0.mk (hb); have HO338 := Aside0.mk (ho); clear HO_5; clear HO_11; clear ho hb hg hat))
           go_roundg k3
           case measure => have := HK1.out; have := HJ11.out; have := HK3.out; omega
           case rel => exact ⟨(y336), (t328), (wrap64 (x19_1 + 1)), sR, H', ⟨by have := HK1.out; have := HJ11.out; have := HK3.out; omega⟩, ⟨by (with_reducible repeat (first | apply Kd.S_alloc | apply Kd.S_drewN | apply Kd.S_drew)); exact Kd.S_mono HO338.out (fun _ hk => ⟨hk.1, hk.2.1⟩)⟩, ⟨rR HO_6⟩, ⟨by (with_reducible repeat (first | apply Kd.R_alloc | apply Kd.R_drewN | apply Kd.R_drew)); exact Kd.R_mono HO_7.out (fun _ hk => trivial)⟩, ⟨by (with_reducible repeat (first | apply Kd.R_alloc | apply Kd.R_drewN | apply Kd.R_drew)); exact Kd.R_mono HO_17.out (fun _ hk => trivial)⟩, ⟨sK BK320⟩, ⟨sC⟩⟩
          ·rw [if_neg c37] at H
           have c37b0 := decide_eq_false c37
           have c37b1 : decide (1 < x11_3.length) = false := decide_eq_false (by omega)
           clear c37
           have H' := Aside0.mk H
           clear H
           obtain ⟨Ao41, co41, eo41⟩ := Kd.R_slice HO_11.out
           subst eo41
           go_wp2
           go_roundg k3
           case measure => have := HK1.out; have := HJ11.out; have := HK3.out; omega
           case rel => exact ⟨(x5_1), (t328), (wrap64 (x19_1 + 1)), sR, H', ⟨by have := HK1.out; have := HJ11.out; have := HK3.out; omega⟩, ⟨by (with_reducible repeat (first | apply Kd.S_alloc | apply Kd.S_drewN | apply Kd.S_drew)); exact Kd.S_mono HO_5.out (fun _ hk => ⟨hk.1, hk.2.2.1⟩)⟩, ⟨rR HO_6⟩, ⟨by (with_reducible repeat (first | apply Kd.R_alloc | apply Kd.R_drewN | apply Kd.R_drew)); exact Kd.R_mono HO_7.out (fun _ hk => trivial)⟩, ⟨by (with_reducible repeat (first | apply Kd.R_alloc | apply Kd.R_drewN | apply Kd.R_drew)); exact Kd.R_mono HO_17.out (fun _ hk => trivial)⟩, ⟨sK BK320⟩, ⟨sC⟩⟩
   ·rw [if_neg c8] at H
    have c8b0 := decide_eq_false c8
    clear c8
    obtain rfl := Option.some.inj H
    go_wp2
    go_ret
    exact ⟨_, sE, by (with_reducible repeat (first | apply Kd.S_alloc | apply Kd.S_drewN | apply Kd.S_drew)); exact Kd.S_mono HO_5.out (fun _ hk => trivial), sC⟩
def spec_GroupsIn.f (k : Nat) (l0_0 : List (S65)) (a0_1 : Int) (a1 : Int) : Option ((List (List ByteArray)) × Bool) := (spec_l7Asked.f k l0_0 a0_1 a1).bind fun t340 => (if t340 = true then ((spec_l7Groups.f k l0_0 a0_1 a1).bind fun t341 => (some (t341, true))) else (some (([] : List (List ByteArray)), false)))
theorem spec_GroupsIn.calls (k : Nat) (A0_0 : Option Addr) (c0_0 : Nat) (l0_0 : List (S65)) (a0_1 : Int) (a1 : Int) (r1 : List (List ByteArray)) (r2 : Bool) (w : World) (hr0_0 : Kd.C k65 w A0_0 l0_0.length l0_0) (hc0_0 : l0_0.length ≤ c0_0) (h : spec_GroupsIn.f k l0_0 a0_1 a1 = some (r1, r2)) :
  Calls Tryz.prog 11 #[.agg #[.slice A0_0 l0_0.length c0_0, .int .i64 a0_1], .int .i64 a1] w fun e w' => ∃ v0_ : Value, e = .returned (.tuple #[v0_, .bool r2]) ∧ Kd.S (Kd.slice 9 Kd.string) 49 w' w.heap.size (fun _ => True) v0_ r1 ∧ Below w.heap.size w w' := by
 have hu30 := Tryz.underlying30
 have HR0_0 := Aside0.mk hr0_0
 have HC0_0 := Aside0.mk hc0_0
 clear hr0_0 hc0_0
 have HB := Aside0.mk (Below.refl w.heap.size w)
 have H : ((spec_l7Asked.f k l0_0 a0_1 a1).bind fun t340 => (if t340 = true then ((spec_l7Groups.f k l0_0 a0_1 a1).bind fun t341 => (some (t341, true))) else (some (([] : List (List ByteArray)), false)))) = some (r1, r2) := h
 clear h
 obtain ⟨t340, A3, H⟩ := bS H
 try dsimp only at H
 by_cases c4 : t340 = true
 ·subst c4
  rw [if_pos rfl] at H
  obtain ⟨t341, A5, H⟩ := bS H
  try dsimp only at H
  simp only [Option.some.injEq, Prod.mk.injEq] at H
  obtain ⟨rfl, rfl⟩ := H
  go_enter Tryz.func11, Tryz.ntmps11
  go_wp2_with (first | ((with_reducible refine gd 2 rfl ?_); refine bxE 2 #[.slice A0_0 l0_0.length c0_0, .int .i64 a0_1] 30 ?_; intro gb339 hg w6 hbox hb; have BK339 := Aside0.mk hbox; have GW339 := nGB hg; have GE339 := nGB hg; replace HB := nSB hb; clear hb hbox hg; have hcz7 := cb2 BK339) | ((with_reducible refine gt 20 rfl ?_); refine gL 20 8 Tryz.func20 #[.agg #[.slice A0_0 l0_0.length c0_0, .int .i64 a0_1], .int .i64 a1] ?_; (with_reducible refine (spec_l7Asked.calls k _ _ l0_0 a0_1 a1 true _ ?side1 ?side2 A3.out).mono ?_); (case side1 => exact sD (Kd.C_below HR0_0.out HB.out)); (case side2 => exact HC0_0.out); rintro e w8 ⟨rfl, hb⟩; refine ⟨_, rfl, ?_⟩; replace BK339 := nK BK339 hb; replace HB := nSC hb; try clear hb; have hcz9 := cb2 BK339) | ((with_reducible refine gt 29 rfl ?_); refine gL 29 12 Tryz.func29 #[.agg #[.slice A0_0 l0_0.length c0_0, .int .i64 a0_1], .int .i64 a1] ?_; (with_reducible refine (spec_l7Groups.calls k _ _ l0_0 a0_1 a1 t341 _ ?side1 ?side2 A5.out).mono ?_); (case side1 => exact sD (Kd.C_below HR0_0.out HB.out)); (case side2 => exact HC0_0.out); rintro e w10 ⟨v342, rfl, ho0, hb⟩; refine ⟨_, rfl, ?_⟩; have HO343 := Aside0.mk (Kd.S_lower ho0 (below_size sC)); replace BK339 := nK BK339 hb; replace HB := nSC hb; try clear hb; (try clear ho0)))
  go_ret2
  exact ⟨_, sE, by (with_reducible repeat (first | apply Kd.S_alloc | apply Kd.S_drewN | apply Kd.S_drew)); exact HO343.out, sC⟩
 ·replace c4 := Bool.eq_false_iff.mpr c4
  subst c4
  rw [if_neg (show ¬ (false = true) by decide)] at H
  simp only [Option.some.injEq, Prod.mk.injEq] at H
  obtain ⟨rfl, rfl⟩ := H
  go_enter Tryz.func11, Tryz.ntmps11
  go_wp2_with (first | ((with_reducible refine gd 2 rfl ?_); refine bxE 2 #[.slice A0_0 l0_0.length c0_0, .int .i64 a0_1] 30 ?_; intro gb339 hg w11 hbox hb; have BK339 := Aside0.mk hbox; have GW339 := nGB hg; have GE339 := nGB hg; replace HB := nSB hb; clear hb hbox hg; have hcz12 := cb2 BK339) | ((with_reducible refine gt 20 rfl ?_); refine gL 20 8 Tryz.func20 #[.agg #[.slice A0_0 l0_0.length c0_0, .int .i64 a0_1], .int .i64 a1] ?_; (with_reducible refine (spec_l7Asked.calls k _ _ l0_0 a0_1 a1 false _ ?side1 ?side2 A3.out).mono ?_); (case side1 => exact sD (Kd.C_below HR0_0.out HB.out)); (case side2 => exact HC0_0.out); rintro e w13 ⟨rfl, hb⟩; refine ⟨_, rfl, ?_⟩; replace BK339 := nK BK339 hb; replace HB := nSC hb; try clear hb))
  go_ret2
  exact ⟨_, sE, by first | exact Kd.S_nil _ _ _ _ _ | exact Kd.N_nil _ _ _ _ _ | exact Kd.V_nil _ _ _ _ _ | exact Kd.Q_nil _ _ _ _ _ | exact Kd.R_nil _ _ _ _ _, sC⟩
def impl_within.f (a0 : Int) (a1 : Int) (a2 : Int) : Option (Bool) := if a0 ≥ a1 then (some (decide (a0 ≤ a2))) else (some false)
theorem impl_within.calls (a0 : Int) (a1 : Int) (a2 : Int) (r : Bool) (w : World) (h : impl_within.f a0 a1 a2 = some r) :
  Calls Tryz.prog 66 #[.int .i64 a0, .int .i64 a1, .int .i64 a2] w fun e w' => e = .returned (.bool r) ∧ Drawn0 w w' := by
 have H : (if a0 ≥ a1 then (some (decide (a0 ≤ a2))) else (some false)) = some r := h
 clear h
 by_cases c4 : a0 ≥ a1
 ·rw [if_pos c4] at H
  have c4b0 := decide_eq_true c4
  clear c4
  obtain rfl := Option.some.inj H
  go_enter Tryz.func66, Tryz.ntmps66
  go_wp2
  go_ret
  exact ⟨by first | rfl | (simp; done) | (simp [*]; done), by repeat (first | exact Drawn0.refl _ | apply Drawn0.step)⟩
 ·rw [if_neg c4] at H
  have c4b0 := decide_eq_false c4
  clear c4
  obtain rfl := Option.some.inj H
  go_enter Tryz.func66, Tryz.ntmps66
  go_wp2
  go_ret
  exact ⟨by first | rfl | (simp; done) | (simp [*]; done), by repeat (first | exact Drawn0.refl _ | apply Drawn0.step)⟩
def impl_isRoom.f (a0 : Int) : Option (Bool) := (impl_within.f a0 0 1000).bind fun t344 => (some t344)
theorem impl_isRoom.calls (a0 : Int) (r : Bool) (w : World) (h : impl_isRoom.f a0 = some r) :
  Calls Tryz.prog 67 #[.int .i64 a0] w fun e w' => e = .returned (.bool r) ∧ Drawn0 w w' := by
 have H : ((impl_within.f a0 0 1000).bind fun t344 => (some t344)) = some r := h
 clear h
 obtain ⟨t344, A2, H⟩ := bS H
 try dsimp only at H
 obtain rfl := Option.some.inj H
 go_enter Tryz.func67, Tryz.ntmps67
 go_wp2_with (first | ((with_reducible refine gt 66 rfl ?_); refine gL 66 4 Tryz.func66 #[.int .i64 a0, .int .i64 0, .int .i64 1000] ?_; (with_reducible refine (impl_within.calls a0 0 1000 t344 _ A2.out).mono ?_); rintro e w' ⟨rfl, ⟨nd, rfl⟩⟩; refine ⟨_, rfl, ?_⟩))
 go_ret
 exact ⟨by first | rfl | (simp; done) | (simp [*]; done), by repeat (first | exact Drawn0.refl _ | apply Drawn0.step)⟩
def impl_Fs_isThere.f (l0_0 : List (S65)) (a0_1 : Int) (a1 : Int) : Option (Bool) := (impl_within.f a1 0 (wrap64 ((l0_0.length : Int) - 1))).bind fun t346 => (if t346 = true then (if 0 ≤ a1 then (if a1 < (l0_0.length : Int) then (some (((rd_T65 l0_0 a1).f0) != 0)) else (none)) else (none)) else (some false))
theorem impl_Fs_isThere.calls (A0_0 : Option Addr) (c0_0 : Nat) (l0_0 : List (S65)) (a0_1 : Int) (a1 : Int) (r : Bool) (w : World) (hr0_0 : Kd.C k65 w A0_0 l0_0.length l0_0) (hc0_0 : l0_0.length ≤ c0_0) (h : impl_Fs_isThere.f l0_0 a0_1 a1 = some r) :
  Calls Tryz.prog 42 #[.agg #[.slice A0_0 l0_0.length c0_0, .int .i64 a0_1], .int .i64 a1] w fun e w' => e = .returned (.bool r) ∧ Below w.heap.size w w' := by
 have hu30 := Tryz.underlying30
 have HR0_0 := Aside0.mk hr0_0
 have HC0_0 := Aside0.mk hc0_0
 clear hr0_0 hc0_0
 have HB := Aside0.mk (Below.refl w.heap.size w)
 have H : ((impl_within.f a1 0 (wrap64 ((l0_0.length : Int) - 1))).bind fun t346 => (if t346 = true then (if 0 ≤ a1 then (if a1 < (l0_0.length : Int) then (some (((rd_T65 l0_0 a1).f0) != 0)) else (none)) else (none)) else (some false))) = some r := h
 clear h
 obtain ⟨t346, A3, H⟩ := bS H
 try dsimp only at H
 by_cases c4 : t346 = true
 ·subst c4
  rw [if_pos rfl] at H
  obtain ⟨c5, H⟩ := iN H
  have c5b0 := decide_eq_true c5
  clear c5
  obtain ⟨c6, H⟩ := iN H
  have c6b0 := decide_eq_true c6
  clear c6
  obtain rfl := Option.some.inj H
  go_enter Tryz.func42, Tryz.ntmps42
  go_wp2_with (first | ((with_reducible refine gd 2 rfl ?_); refine bxE 2 #[.slice A0_0 l0_0.length c0_0, .int .i64 a0_1] 30 ?_; intro gb345 hg w7 hbox hb; have BK345 := Aside0.mk hbox; have GW345 := nGB hg; have GE345 := nGB hg; replace HB := nSB hb; clear hb hbox hg; have hcz8 := cb2 BK345) | ((with_reducible refine gt 66 rfl ?_); refine gL 66 10 Tryz.func66 #[.int .i64 a1, .int .i64 0, .int .i64 (wrap64 ((l0_0.length : Int) - 1))] ?_; (with_reducible refine (impl_within.calls a1 0 (wrap64 ((l0_0.length : Int) - 1)) true _ A3.out).mono ?_); rintro e w' ⟨rfl, ⟨nd, rfl⟩⟩; refine ⟨_, rfl, ?_⟩; have p347 : 0 ≤ (a1 : Int) := sO; have q347 : a1 < (l0_0.length : Int) := sO; obtain ⟨ad347, A347_6, c347_6, e347, hx347_0, hx347_1, hx347_2, hx347_3, hx347_4, hx347_5, hx347_6, hl347_6, hi347_6⟩ := ab65 HR0_0.out HB a1 p347 q347; cases e347; have HR347_6 := Aside0.mk hi347_6; have HC347_6 := Aside0.mk hl347_6; clear hi347_6 hl347_6; replace p347 := eq_true p347; replace q347 := eq_true q347))
  go_ret
  exact ⟨sE, sC⟩
 ·replace c4 := Bool.eq_false_iff.mpr c4
  subst c4
  rw [if_neg (show ¬ (false = true) by decide)] at H
  obtain rfl := Option.some.inj H
  go_enter Tryz.func42, Tryz.ntmps42
  go_wp2_with (first | ((with_reducible refine gd 2 rfl ?_); refine bxE 2 #[.slice A0_0 l0_0.length c0_0, .int .i64 a0_1] 30 ?_; intro gb345 hg w9 hbox hb; have BK345 := Aside0.mk hbox; have GW345 := nGB hg; have GE345 := nGB hg; replace HB := nSB hb; clear hb hbox hg; have hcz10 := cb2 BK345) | ((with_reducible refine gt 66 rfl ?_); refine gL 66 10 Tryz.func66 #[.int .i64 a1, .int .i64 0, .int .i64 (wrap64 ((l0_0.length : Int) - 1))] ?_; (with_reducible refine (impl_within.calls a1 0 (wrap64 ((l0_0.length : Int) - 1)) false _ A3.out).mono ?_); rintro e w' ⟨rfl, ⟨nd, rfl⟩⟩; refine ⟨_, rfl, ?_⟩))
  go_ret
  exact ⟨sE, sC⟩
def impl_Node_isFree.f (a0_0 : Int) (a0_1 : Int) (a0_2 : Int) (a0_3 : Int) (a0_4 : Int) (a0_5 : ByteArray) (l0_6 : List (S104)) : Option (Bool) := if a0_0 = 0 then (if a0_1 = 0 then (if a0_2 = 0 then (if a0_3 = 0 then (if a0_4 = 0 then (if a0_5.toList = ([] : List UInt8) then (some ((l0_6.length : Int) == 0)) else (some false)) else (some false)) else (some false)) else (some false)) else (some false)) else (some false)
theorem impl_Node_isFree.calls (a0_0 : Int) (a0_1 : Int) (a0_2 : Int) (a0_3 : Int) (a0_4 : Int) (a0_5 : ByteArray) (A0_6 : Option Addr) (c0_6 : Nat) (l0_6 : List (S104)) (r : Bool) (w : World) (hr0_6 : Kd.C k104 w A0_6 l0_6.length l0_6) (hc0_6 : l0_6.length ≤ c0_6) (h : impl_Node_isFree.f a0_0 a0_1 a0_2 a0_3 a0_4 a0_5 l0_6 = some r) :
  Calls Tryz.prog 86 #[.agg #[.int .i64 a0_0, .int .i64 a0_1, .int .i64 a0_2, .int .i64 a0_3, .int .i64 a0_4, .string a0_5, .slice A0_6 l0_6.length c0_6]] w fun e w' => e = .returned (.bool r) ∧ Below w.heap.size w w' := by
 have hu65 := Tryz.underlying65
 have HR0_6 := Aside0.mk hr0_6
 have HC0_6 := Aside0.mk hc0_6
 clear hr0_6 hc0_6
 have HB := Aside0.mk (Below.refl w.heap.size w)
 have H : (if a0_0 = 0 then (if a0_1 = 0 then (if a0_2 = 0 then (if a0_3 = 0 then (if a0_4 = 0 then (if a0_5.toList = ([] : List UInt8) then (some ((l0_6.length : Int) == 0)) else (some false)) else (some false)) else (some false)) else (some false)) else (some false)) else (some false)) = some r := h
 clear h
 by_cases c2 : a0_0 = 0
 ·rw [if_pos c2] at H
  have c2b0 := beq_iff_eq.mpr c2
  have c2b1 := bne_eq_false_iff_eq.mpr c2
  clear c2
  by_cases c3 : a0_1 = 0
  ·rw [if_pos c3] at H
   have c3b0 := beq_iff_eq.mpr c3
   have c3b1 := bne_eq_false_iff_eq.mpr c3
   clear c3
   by_cases c4 : a0_2 = 0
   ·rw [if_pos c4] at H
    have c4b0 := beq_iff_eq.mpr c4
    have c4b1 := bne_eq_false_iff_eq.mpr c4
    clear c4
    by_cases c5 : a0_3 = 0
    ·rw [if_pos c5] at H
     have c5b0 := beq_iff_eq.mpr c5
     have c5b1 := bne_eq_false_iff_eq.mpr c5
     clear c5
     by_cases c6 : a0_4 = 0
     ·rw [if_pos c6] at H
      have c6b0 := beq_iff_eq.mpr c6
      have c6b1 := bne_eq_false_iff_eq.mpr c6
      clear c6
      by_cases c7 : a0_5.toList = ([] : List UInt8)
      ·rw [if_pos c7] at H
       have c7b0 := beq_iff_eq.mpr c7
       have c7b1 := bne_eq_false_iff_eq.mpr c7
       clear c7
       obtain rfl := Option.some.inj H
       go_enter Tryz.func86, Tryz.ntmps86
       go_wp2_with (first | ((with_reducible refine gd 1 rfl ?_); (first | refine bxE 1 #[.int .i64 a0_0, .int .i64 a0_1, .int .i64 a0_2, .int .i64 a0_3, .int .i64 a0_4, .string a0_5, .slice A0_6 l0_6.length c0_6] 65 ?_ | refine bgE 1 #[.int .i64 a0_0, .int .i64 a0_1, .int .i64 a0_2, .int .i64 a0_3, .int .i64 a0_4, .string a0_5, .slice A0_6 l0_6.length c0_6] 65 ?_); intro gb348 hg w8 hbox hb; have BK348 := Aside0.mk hbox; have GW348 := nGB hg; have GE348 := nGB hg; replace HB := nSB hb; clear hb hbox hg; have hcz9 := cb7 BK348))
       go_ret
       exact ⟨sE, sC⟩
      ·rw [if_neg c7] at H
       have c7b0 := beq_eq_false_iff_ne.mpr c7
       have c7b1 := bne_iff_ne.mpr c7
       obtain rfl := Option.some.inj H
       go_enter Tryz.func86, Tryz.ntmps86
       go_wp2_with (first | ((with_reducible refine gd 1 rfl ?_); (first | refine bxE 1 #[.int .i64 a0_0, .int .i64 a0_1, .int .i64 a0_2, .int .i64 a0_3, .int .i64 a0_4, .string a0_5, .slice A0_6 l0_6.length c0_6] 65 ?_ | refine bgE 1 #[.int .i64 a0_0, .int .i64 a0_1, .int .i64 a0_2, .int .i64 a0_3, .int .i64 a0_4, .string a0_5, .slice A0_6 l0_6.length c0_6] 65 ?_); intro gb348 hg w10 hbox hb; have BK348 := Aside0.mk hbox; have GW348 := nGB hg; have GE348 := nGB hg; replace HB := nSB hb; clear hb hbox hg; have hcz11 := cb7 BK348))
       go_ret
       exact ⟨sE, sC⟩
     ·rw [if_neg c6] at H
      have c6b0 := beq_eq_false_iff_ne.mpr c6
      have c6b1 := bne_iff_ne.mpr c6
      obtain rfl := Option.some.inj H
      go_enter Tryz.func86, Tryz.ntmps86
      go_wp2_with (first | ((with_reducible refine gd 1 rfl ?_); (first | refine bxE 1 #[.int .i64 a0_0, .int .i64 a0_1, .int .i64 a0_2, .int .i64 a0_3, .int .i64 a0_4, .string a0_5, .slice A0_6 l0_6.length c0_6] 65 ?_ | refine bgE 1 #[.int .i64 a0_0, .int .i64 a0_1, .int .i64 a0_2, .int .i64 a0_3, .int .i64 a0_4, .string a0_5, .slice A0_6 l0_6.length c0_6] 65 ?_); intro gb348 hg w12 hbox hb; have BK348 := Aside0.mk hbox; have GW348 := nGB hg; have GE348 := nGB hg; replace HB := nSB hb; clear hb hbox hg; have hcz13 := cb7 BK348))
      go_ret
      exact ⟨sE, sC⟩
    ·rw [if_neg c5] at H
     have c5b0 := beq_eq_false_iff_ne.mpr c5
     have c5b1 := bne_iff_ne.mpr c5
     obtain rfl := Option.some.inj H
     go_enter Tryz.func86, Tryz.ntmps86
     go_wp2_with (first | ((with_reducible refine gd 1 rfl ?_); (first | refine bxE 1 #[.int .i64 a0_0, .int .i64 a0_1, .int .i64 a0_2, .int .i64 a0_3, .int .i64 a0_4, .string a0_5, .slice A0_6 l0_6.length c0_6] 65 ?_ | refine bgE 1 #[.int .i64 a0_0, .int .i64 a0_1, .int .i64 a0_2, .int .i64 a0_3, .int .i64 a0_4, .string a0_5, .slice A0_6 l0_6.length c0_6] 65 ?_); intro gb348 hg w14 hbox hb; have BK348 := Aside0.mk hbox; have GW348 := nGB hg; have GE348 := nGB hg; replace HB := nSB hb; clear hb hbox hg; have hcz15 := cb7 BK348))
     go_ret
     exact ⟨sE, sC⟩
   ·rw [if_neg c4] at H
    have c4b0 := beq_eq_false_iff_ne.mpr c4
    have c4b1 := bne_iff_ne.mpr c4
    obtain rfl := Option.some.inj H
    go_enter Tryz.func86, Tryz.ntmps86
    go_wp2_with (first | ((with_reducible refine gd 1 rfl ?_); (first | refine bxE 1 #[.int .i64 a0_0, .int .i64 a0_1, .int .i64 a0_2, .int .i64 a0_3, .int .i64 a0_4, .string a0_5, .slice A0_6 l0_6.length c0_6] 65 ?_ | refine bgE 1 #[.int .i64 a0_0, .int .i64 a0_1, .int .i64 a0_2, .int .i64 a0_3, .int .i64 a0_4, .string a0_5, .slice A0_6 l0_6.length c0_6] 65 ?_); intro gb348 hg w16 hbox hb; have BK348 := Aside0.mk hbox; have GW348 := nGB hg; have GE348 := nGB hg; replace HB := nSB hb; clear hb hbox hg; have hcz17 := cb7 BK348))
    go_ret
    exact ⟨sE, sC⟩
  ·rw [if_neg c3] at H
   have c3b0 := beq_eq_false_iff_ne.mpr c3
   have c3b1 := bne_iff_ne.mpr c3
   obtain rfl := Option.some.inj H
   go_enter Tryz.func86, Tryz.ntmps86
   go_wp2_with (first | ((with_reducible refine gd 1 rfl ?_); (first | refine bxE 1 #[.int .i64 a0_0, .int .i64 a0_1, .int .i64 a0_2, .int .i64 a0_3, .int .i64 a0_4, .string a0_5, .slice A0_6 l0_6.length c0_6] 65 ?_ | refine bgE 1 #[.int .i64 a0_0, .int .i64 a0_1, .int .i64 a0_2, .int .i64 a0_3, .int .i64 a0_4, .string a0_5, .slice A0_6 l0_6.length c0_6] 65 ?_); intro gb348 hg w18 hbox hb; have BK348 := Aside0.mk hbox; have GW348 := nGB hg; have GE348 := nGB hg; replace HB := nSB hb; clear hb hbox hg; have hcz19 := cb7 BK348))
   go_ret
   exact ⟨sE, sC⟩
 ·rw [if_neg c2] at H
  have c2b0 := beq_eq_false_iff_ne.mpr c2
  have c2b1 := bne_iff_ne.mpr c2
  obtain rfl := Option.some.inj H
  go_enter Tryz.func86, Tryz.ntmps86
  go_wp2_with (first | ((with_reducible refine gd 1 rfl ?_); (first | refine bxE 1 #[.int .i64 a0_0, .int .i64 a0_1, .int .i64 a0_2, .int .i64 a0_3, .int .i64 a0_4, .string a0_5, .slice A0_6 l0_6.length c0_6] 65 ?_ | refine bgE 1 #[.int .i64 a0_0, .int .i64 a0_1, .int .i64 a0_2, .int .i64 a0_3, .int .i64 a0_4, .string a0_5, .slice A0_6 l0_6.length c0_6] 65 ?_); intro gb348 hg w20 hbox hb; have BK348 := Aside0.mk hbox; have GW348 := nGB hg; have GE348 := nGB hg; replace HB := nSB hb; clear hb hbox hg; have hcz21 := cb7 BK348))
  go_ret
  exact ⟨sE, sC⟩
def impl_isMode.f (a0 : Int) : Option (Bool) := (impl_within.f a0 0 511).bind fun t349 => (some t349)
theorem impl_isMode.calls (a0 : Int) (r : Bool) (w : World) (h : impl_isMode.f a0 = some r) :
  Calls Tryz.prog 87 #[.int .i64 a0] w fun e w' => e = .returned (.bool r) ∧ Drawn0 w w' := by
 have H : ((impl_within.f a0 0 511).bind fun t349 => (some t349)) = some r := h
 clear h
 obtain ⟨t349, A2, H⟩ := bS H
 try dsimp only at H
 obtain rfl := Option.some.inj H
 go_enter Tryz.func87, Tryz.ntmps87
 go_wp2_with (first | ((with_reducible refine gt 66 rfl ?_); refine gL 66 4 Tryz.func66 #[.int .i64 a0, .int .i64 0, .int .i64 511] ?_; (with_reducible refine (impl_within.calls a0 0 511 t349 _ A2.out).mono ?_); rintro e w' ⟨rfl, ⟨nd, rfl⟩⟩; refine ⟨_, rfl, ?_⟩))
 go_ret
 exact ⟨by first | rfl | (simp; done) | (simp [*]; done), by repeat (first | exact Drawn0.refl _ | apply Drawn0.step)⟩
def impl_isId.f (a0 : Int) : Option (Bool) := (impl_within.f a0 0 99).bind fun t350 => (some t350)
theorem impl_isId.calls (a0 : Int) (r : Bool) (w : World) (h : impl_isId.f a0 = some r) :
  Calls Tryz.prog 88 #[.int .i64 a0] w fun e w' => e = .returned (.bool r) ∧ Drawn0 w w' := by
 have H : ((impl_within.f a0 0 99).bind fun t350 => (some t350)) = some r := h
 clear h
 obtain ⟨t350, A2, H⟩ := bS H
 try dsimp only at H
 obtain rfl := Option.some.inj H
 go_enter Tryz.func88, Tryz.ntmps88
 go_wp2_with (first | ((with_reducible refine gt 66 rfl ?_); refine gL 66 4 Tryz.func66 #[.int .i64 a0, .int .i64 0, .int .i64 99] ?_; (with_reducible refine (impl_within.calls a0 0 99 t350 _ A2.out).mono ?_); rintro e w' ⟨rfl, ⟨nd, rfl⟩⟩; refine ⟨_, rfl, ?_⟩))
 go_ret
 exact ⟨by first | rfl | (simp; done) | (simp [*]; done), by repeat (first | exact Drawn0.refl _ | apply Drawn0.step)⟩
def impl_isTime.f (a0 : Int) : Option (Bool) := (impl_within.f a0 0 1000000).bind fun t351 => (some t351)
theorem impl_isTime.calls (a0 : Int) (r : Bool) (w : World) (h : impl_isTime.f a0 = some r) :
  Calls Tryz.prog 89 #[.int .i64 a0] w fun e w' => e = .returned (.bool r) ∧ Drawn0 w w' := by
 have H : ((impl_within.f a0 0 1000000).bind fun t351 => (some t351)) = some r := h
 clear h
 obtain ⟨t351, A2, H⟩ := bS H
 try dsimp only at H
 obtain rfl := Option.some.inj H
 go_enter Tryz.func89, Tryz.ntmps89
 go_wp2_with (first | ((with_reducible refine gt 66 rfl ?_); refine gL 66 4 Tryz.func66 #[.int .i64 a0, .int .i64 0, .int .i64 1000000] ?_; (with_reducible refine (impl_within.calls a0 0 1000000 t351 _ A2.out).mono ?_); rintro e w' ⟨rfl, ⟨nd, rfl⟩⟩; refine ⟨_, rfl, ?_⟩))
 go_ret
 exact ⟨by first | rfl | (simp; done) | (simp [*]; done), by repeat (first | exact Drawn0.refl _ | apply Drawn0.step)⟩
def impl_partsOf_1.f (a0 : ByteArray) : Option (Bool) := some (a0.toList == ([] : List UInt8))
theorem impl_partsOf_1.calls (a0 : ByteArray) (r : Bool) (w : World) (h : impl_partsOf_1.f a0 = some r) :
  Calls Tryz.prog 115 #[.string a0] w fun e w' => e = .returned (.bool r) ∧ Drawn0 w w' := by
 have H : (some (a0.toList == ([] : List UInt8))) = some r := h
 clear h
 obtain rfl := Option.some.inj H
 go_enter Tryz.func115, Tryz.ntmps115
 go_wp2
 go_ret
 exact ⟨by first | rfl | (simp; done) | (simp [*]; done), by repeat (first | exact Drawn0.refl _ | apply Drawn0.step)⟩
end Go.Proofs.YtdjceippnokimaaGreatDoor.PGrp
