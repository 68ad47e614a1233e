import Derived.Test.YtdjceippnokimaaGreatDoorPGrpx0
import Derived.Test.YtdjceippnokimaaGreatDoorPGrpx11
import Derived.Test.YtdjceippnokimaaGreatDoorPGrpx12
namespace Go.Proofs.YtdjceippnokimaaGreatDoor.PGrp
open Go.RowKit Go.Proofs.YtdjceippnokimaaGreatDoorW.PrintWords Go.Proofs.YtdjceippnokimaaGreatDoorW.PrintLast Go.Proofs.YtdjceippnokimaaGreatDoorW.PrintMore
attribute [local go_sem] max2_int min2_int max_two min_two max_three min_three max_four min_four   -- for this text's walks alone
set_option linter.unusedVariables false
set_option linter.unusedSimpArgs false
set_option maxHeartbeats 8000000
set_option maxRecDepth 100000
/-! ### impl_Fs_isNode: function 68 -/
mutual
def impl_Fs_isNode.j0 : Nat → Bool → List (S65) → Int → Int → Int → Int → Int → Int → ByteArray → List (S104) → Option (Bool)
 | 0, _, _, _, _, _, _, _, _, _, _ => none
 | k + 1, x44, x368000, x368001, x369000, x369001, x369002, x369003, x369004, x369005, x369006 => if x44 = true then (some false) else (if x369000 = 1 then (some (decide ((x369005.size : Int) ≤ 60))) else (if x369000 = 3 then ((impl_GoodPath.f k x369005).bind fun t374 => (some t374)) else (if x369000 = 2 then (impl_Fs_isNode.l0 k x369006 (x369006.length : Int) 0 x368000 x368001 x369000 x369001 x369002 x369003 x369004 x369005 x369006) else (some false))))
def impl_Fs_isNode.l0 : Nat → List (S104) → Int → Int → List (S65) → Int → Int → Int → Int → Int → Int → ByteArray → List (S104) → Option (Bool)
 | 0, _, _, _, _, _, _, _, _, _, _, _, _ => none
 | k + 1, x61, x62, x63, x368000, x368001, x369000, x369001, x369002, x369003, x369004, x369005, x369006 => if x63 < x62 then (if 0 ≤ x63 then (if x63 < (x61.length : Int) then ((impl_GoodName.f k ((rd_T104 x61 x63).f0)).bind fun t377 => (if t377 = true then (if x63 > 0 then (if 0 ≤ (wrap64 (x63 - 1)) then (if (wrap64 (x63 - 1)) < (x369006.length : Int) then (if ((Op.bytesLess (((rd_T104 x369006 (wrap64 (x63 - 1))).f0).toList) (((rd_T104 x61 x63).f0).toList)) = true) then ((impl_Fs_isThere.f x368000 x368001 ((rd_T104 x61 x63).f1)).bind fun t379 => (if t379 = true then (impl_Fs_isNode.l0 k x61 x62 (wrap64 (x63 + 1)) x368000 x368001 x369000 x369001 x369002 x369003 x369004 x369005 x369006) else (some false))) else (some false)) else (none)) else (none)) else ((impl_Fs_isThere.f x368000 x368001 ((rd_T104 x61 x63).f1)).bind fun t380 => (if t380 = true then (impl_Fs_isNode.l0 k x61 x62 (wrap64 (x63 + 1)) x368000 x368001 x369000 x369001 x369002 x369003 x369004 x369005 x369006) else (some false)))) else (some false))) else (none)) else (none)) else (some (x369005.toList == ([] : List UInt8)))
end
def impl_Fs_isNode.f (k : Nat) (l0_0 : List (S65)) (a0_1 : Int) (a1_0 : Int) (a1_1 : Int) (a1_2 : Int) (a1_3 : Int) (a1_4 : Int) (a1_5 : ByteArray) (l1_6 : List (S104)) : Option (Bool) := if a1_0 = 0 then ((impl_Node_isFree.f a1_0 a1_1 a1_2 a1_3 a1_4 a1_5 l1_6).bind fun t369 => (some t369)) else ((impl_isMode.f a1_1).bind fun t370 => (if t370 = true then ((impl_isId.f a1_2).bind fun t371 => (if t371 = true then ((impl_isId.f a1_3).bind fun t372 => (if t372 = true then ((impl_isTime.f a1_4).bind fun t373 => (if t373 = true then (if a1_0 = 2 then (impl_Fs_isNode.j0 k false l0_0 a0_1 a1_0 a1_1 a1_2 a1_3 a1_4 a1_5 l1_6) else (impl_Fs_isNode.j0 k (decide ((l1_6.length : Int) > 0)) l0_0 a0_1 a1_0 a1_1 a1_2 a1_3 a1_4 a1_5 l1_6)) else (impl_Fs_isNode.j0 k true l0_0 a0_1 a1_0 a1_1 a1_2 a1_3 a1_4 a1_5 l1_6))) else (impl_Fs_isNode.j0 k true l0_0 a0_1 a1_0 a1_1 a1_2 a1_3 a1_4 a1_5 l1_6))) else (impl_Fs_isNode.j0 k true l0_0 a0_1 a1_0 a1_1 a1_2 a1_3 a1_4 a1_5 l1_6))) else (impl_Fs_isNode.j0 k true l0_0 a0_1 a1_0 a1_1 a1_2 a1_3 a1_4 a1_5 l1_6)))
def impl_Fs_isNode.T14 : Bool × List (List Nat × List Nat) := (true, [([], []), ([0], [0]), ([1], [1]), ([2], [2]), ([3, 2], [3]), ([4], [4]), ([5, 4], [4, 5]), ([6, 4, 4], [4, 6]), ([7], [7]), ([8, 7], [7, 8]), ([7], [7]), ([10, 7], [7, 10]), ([9, 11, 7], [7, 9, 11]), ([12, 7], [7, 12]), ([13, 7], [7, 13]), ([7], [7]), ([15, 7], [7, 15]), ([14, 16, 7], [7, 14, 16]), ([7, 17, 4], [4, 7, 17]), ([4, 18], [4, 18]), ([19, 7], [19]), ([20], [20]), ([20], [20]), ([22, 20], [20, 22]), ([21, 23, 20, 20], [20, 21, 23]), ([24, 20], [20, 24]), ([20, 25], [20, 25])])
def impl_Fs_isNode.B14 : List Nat := [0, 1, 3, 7, 15, 31, 63, 127, 255, 511, 255, 1279, 4095, 8191, 16383, 255, 33023, 131071, 262143, 524287, 1048575, 2097151, 2097151, 6291455, 16777215, 33554431, 67108863]
theorem impl_Fs_isNode.tab14 : rtab .any (opsOf Tryz.f68 14) = impl_Fs_isNode.T14 := by kernel_rfl
theorem impl_Fs_isNode.bits14 : waitsOk impl_Fs_isNode.T14.2 impl_Fs_isNode.B14 = true := by kernel_rfl
theorem impl_Fs_isNode.calls (k : Nat) (A0_0 : Option Addr) (c0_0 : Nat) (l0_0 : List (S65)) (a0_1 : Int) (a1_0 : Int) (a1_1 : Int) (a1_2 : Int) (a1_3 : Int) (a1_4 : Int) (a1_5 : ByteArray) (A1_6 : Option Addr) (c1_6 : Nat) (l1_6 : List (S104)) (r : Bool) (w : World) (hr0_0 : Kd.C k65 w A0_0 l0_0.length l0_0) (hc0_0 : l0_0.length ≤ c0_0) (hr1_6 : Kd.C k104 w A1_6 l1_6.length l1_6) (hc1_6 : l1_6.length ≤ c1_6) (h : impl_Fs_isNode.f k l0_0 a0_1 a1_0 a1_1 a1_2 a1_3 a1_4 a1_5 l1_6 = some r) :
  Calls Tryz.prog 68 #[.agg #[.slice A0_0 l0_0.length c0_0, .int .i64 a0_1], .agg #[.int .i64 a1_0, .int .i64 a1_1, .int .i64 a1_2, .int .i64 a1_3, .int .i64 a1_4, .string a1_5, .slice A1_6 l1_6.length c1_6]] w fun e w' => e = .returned (.bool r) ∧ Below w.heap.size w w' := by
 have hu30 := Tryz.underlying30
 have hu65 := Tryz.underlying65
 have hu104 := Tryz.underlying104
 have HR0_0 := Aside0.mk hr0_0
 have HC0_0 := Aside0.mk hc0_0
 clear hr0_0 hc0_0
 have HR1_6 := Aside0.mk hr1_6
 have HC1_6 := Aside0.mk hc1_6
 clear hr1_6 hc1_6
 have HB := Aside0.mk (Below.refl w.heap.size w)
 have H : (if a1_0 = 0 then ((impl_Node_isFree.f a1_0 a1_1 a1_2 a1_3 a1_4 a1_5 l1_6).bind fun t369 => (some t369)) else ((impl_isMode.f a1_1).bind fun t370 => (if t370 = true then ((impl_isId.f a1_2).bind fun t371 => (if t371 = true then ((impl_isId.f a1_3).bind fun t372 => (if t372 = true then ((impl_isTime.f a1_4).bind fun t373 => (if t373 = true then (if a1_0 = 2 then (impl_Fs_isNode.j0 k false l0_0 a0_1 a1_0 a1_1 a1_2 a1_3 a1_4 a1_5 l1_6) else (impl_Fs_isNode.j0 k (decide ((l1_6.length : Int) > 0)) l0_0 a0_1 a1_0 a1_1 a1_2 a1_3 a1_4 a1_5 l1_6)) else (impl_Fs_isNode.j0 k true l0_0 a0_1 a1_0 a1_1 a1_2 a1_3 a1_4 a1_5 l1_6))) else (impl_Fs_isNode.j0 k true l0_0 a0_1 a1_0 a1_1 a1_2 a1_3 a1_4 a1_5 l1_6))) else (impl_Fs_isNode.j0 k true l0_0 a0_1 a1_0 a1_1 a1_2 a1_3 a1_4 a1_5 l1_6))) else (impl_Fs_isNode.j0 k true l0_0 a0_1 a1_0 a1_1 a1_2 a1_3 a1_4 a1_5 l1_6)))) = some r := h
 clear h
 by_cases c3 : a1_0 = 0
 ·rw [if_pos c3] at H
  have c3b0 := beq_iff_eq.mpr c3
  have c3b1 := bne_eq_false_iff_eq.mpr c3
  clear c3
  obtain ⟨t369, A4, H⟩ := bS H
  try dsimp only at H
  obtain rfl := Option.some.inj H
  go_enter Tryz.func68, Tryz.ntmps68
  go_wp2_with (first | ((with_reducible refine gd 2 rfl ?_); (first | refine bxE 2 #[.slice A0_0 l0_0.length c0_0, .int .i64 a0_1] 30 ?_ | refine bgE 2 #[.slice A0_0 l0_0.length c0_0, .int .i64 a0_1] 30 ?_); intro gb367 hg w5 hbox hb; have BK367 := Aside0.mk hbox; have GW367 := nGB hg; have GE367 := nGB hg; replace HB := nSB hb; clear hb hbox hg) | ((with_reducible refine gd 3 rfl ?_); (first | refine bxE 3 #[.int .i64 a1_0, .int .i64 a1_1, .int .i64 a1_2, .int .i64 a1_3, .int .i64 a1_4, .string a1_5, .slice A1_6 l1_6.length c1_6] 65 ?_ | refine bgE 3 #[.int .i64 a1_0, .int .i64 a1_1, .int .i64 a1_2, .int .i64 a1_3, .int .i64 a1_4, .string a1_5, .slice A1_6 l1_6.length c1_6] 65 ?_); intro gb368 hg w6 hbox hb; have BK368 := Aside0.mk hbox; have GW368 := nGC hg; have GE368 := nGC hg; replace HB := nSC hb; have NB367_368 := nL BK367 hg; have NB368_367 := nH BK367 hg; replace BK367 := nK BK367 hb; clear hb hbox hg; have hnb7 := NB368_367.out; have hnc7 := NB367_368.out; have hcz8 := cb7 BK368) | ((with_reducible refine gt 86 rfl ?_); refine gL 86 11 Tryz.func86 #[.agg #[.int .i64 a1_0, .int .i64 a1_1, .int .i64 a1_2, .int .i64 a1_3, .int .i64 a1_4, .string a1_5, .slice A1_6 l1_6.length c1_6]] ?_; (with_reducible refine (impl_Node_isFree.calls a1_0 a1_1 a1_2 a1_3 a1_4 a1_5 _ _ l1_6 t369 _ ?side1 ?side2 A4.out).mono ?_); (case side1 => exact sD (Kd.C_below HR1_6.out HB.out)); (case side2 => exact HC1_6.out); rintro e w9 ⟨rfl, hb⟩; refine ⟨_, rfl, ?_⟩; replace BK367 := nK BK367 hb; replace BK368 := nK BK368 hb; replace HB := nSC hb; try clear hb))
  go_ret
  exact ⟨sE, sC⟩
 ·rw [if_neg c3] at H
  have c3b0 := beq_eq_false_iff_ne.mpr c3
  have c3b1 := bne_iff_ne.mpr c3
  have HC10 := Aside0.mk H
  clear H
  go_enter Tryz.func68, Tryz.ntmps68
  go_upto_region 3 with (first | ((with_reducible refine gd 2 rfl ?_); (first | refine bxE 2 #[.slice A0_0 l0_0.length c0_0, .int .i64 a0_1] 30 ?_ | refine bgE 2 #[.slice A0_0 l0_0.length c0_0, .int .i64 a0_1] 30 ?_); intro gb367 hg w11 hbox hb; have BK367 := Aside0.mk hbox; have GW367 := nGB hg; have GE367 := nGB hg; replace HB := nSB hb; clear hb hbox hg) | ((with_reducible refine gd 3 rfl ?_); (first | refine bxE 3 #[.int .i64 a1_0, .int .i64 a1_1, .int .i64 a1_2, .int .i64 a1_3, .int .i64 a1_4, .string a1_5, .slice A1_6 l1_6.length c1_6] 65 ?_ | refine bgE 3 #[.int .i64 a1_0, .int .i64 a1_1, .int .i64 a1_2, .int .i64 a1_3, .int .i64 a1_4, .string a1_5, .slice A1_6 l1_6.length c1_6] 65 ?_); intro gb368 hg w12 hbox hb; have BK368 := Aside0.mk hbox; have GW368 := nGC hg; have GE368 := nGC hg; replace HB := nSC hb; have NB367_368 := nL BK367 hg; have NB368_367 := nH BK367 hg; replace BK367 := nK BK367 hb; clear hb hbox hg; have hnb13 := NB368_367.out; have hnc13 := NB367_368.out; have hcz14 := cb7 BK368))
  (try simp only [Act.put, List.setIfInBounds_toArray, List.set_cons_zero, List.set_cons_succ])
  go_cut [44] (fun v44 wc => ∃ (kq : Nat) (x44_9 : Bool), v44 = .bool x44_9 ∧ Aside0 (impl_Fs_isNode.j0 kq x44_9 l0_0 a0_1 a1_0 a1_1 a1_2 a1_3 a1_4 a1_5 l1_6 = some r) ∧ Aside0 (kq ≤ k) ∧ Aside0 (wc.heap[gb367]? = some (.cells #[(.slice A0_0 l0_0.length c0_0), .int .i64 a0_1] 30 (0, 0))) ∧ Aside0 (wc.heap[gb368]? = some (.cells #[.int .i64 a1_0, .int .i64 a1_1, .int .i64 a1_2, .int .i64 a1_3, .int .i64 a1_4, .string a1_5, (.slice A1_6 l1_6.length c1_6)] 65 (0, 0))) ∧ Aside0 (Below w.heap.size w wc))
  case first =>
   have H := HC10.out
   clear HC10
   obtain ⟨t370, A15, H⟩ := bS H
   try dsimp only at H
   by_cases c16 : t370 = true
   ·subst c16
    rw [if_pos rfl] at H
    obtain ⟨t371, A17, H⟩ := bS H
    try dsimp only at H
    by_cases c18 : t371 = true
    ·subst c18
     rw [if_pos rfl] at H
     obtain ⟨t372, A19, H⟩ := bS H
     try dsimp only at H
     by_cases c20 : t372 = true
     ·subst c20
      rw [if_pos rfl] at H
      obtain ⟨t373, A21, H⟩ := bS H
      try dsimp only at H
      by_cases c22 : t373 = true
      ·subst c22
       rw [if_pos rfl] at H
       by_cases c23 : a1_0 = 2
       ·rw [if_pos c23] at H
        have c23b0 := beq_iff_eq.mpr c23
        have c23b1 := bne_eq_false_iff_eq.mpr c23
        clear c23
        (first | rw [c23b0] | (simp only [i64_w, i32_w]; rw [c23b0]) | skip)
        have H' := Aside0.mk H
        clear H
        have hnb24 := NB368_367.out
        have hnc24 := NB367_368.out
        have hcz25 := cb7 BK368
        go_wp2_with (first | ((with_reducible refine gt 87 rfl ?_); refine gL 87 14 Tryz.func87 #[.int .i64 a1_1] ?_; (with_reducible refine (impl_isMode.calls a1_1 true _ A15.out).mono ?_); rintro e w' ⟨rfl, ⟨nd, rfl⟩⟩; refine ⟨_, rfl, ?_⟩) | (go_at_call 88; (with_reducible refine (impl_isId.calls a1_2 true _ A17.out).mono ?_); rintro e w' ⟨rfl, ⟨nd, rfl⟩⟩) | (go_at_call 88; (with_reducible refine (impl_isId.calls a1_3 true _ A19.out).mono ?_); rintro e w' ⟨rfl, ⟨nd, rfl⟩⟩) | (go_at_call 89; (with_reducible refine (impl_isTime.calls a1_4 true _ A21.out).mono ?_); rintro e w' ⟨rfl, ⟨nd, rfl⟩⟩))
        go_meet
        case rel => exact ⟨_, (false), sR, H', ⟨by first | omega | exact Nat.le_refl _⟩, ⟨sK BK367⟩, ⟨sK BK368⟩, ⟨sC⟩⟩
       ·rw [if_neg c23] at H
        have c23b0 := beq_eq_false_iff_ne.mpr c23
        have c23b1 := bne_iff_ne.mpr c23
        (first | rw [c23b0] | (simp only [i64_w, i32_w]; rw [c23b0]) | skip)
        have H' := Aside0.mk H
        clear H
        have hnb26 := NB368_367.out
        have hnc26 := NB367_368.out
        have hcz27 := cb7 BK368
        go_wp2_with (first | ((with_reducible refine gt 87 rfl ?_); refine gL 87 14 Tryz.func87 #[.int .i64 a1_1] ?_; (with_reducible refine (impl_isMode.calls a1_1 true _ A15.out).mono ?_); rintro e w' ⟨rfl, ⟨nd, rfl⟩⟩; refine ⟨_, rfl, ?_⟩) | (go_at_call 88; (with_reducible refine (impl_isId.calls a1_2 true _ A17.out).mono ?_); rintro e w' ⟨rfl, ⟨nd, rfl⟩⟩) | (go_at_call 88; (with_reducible refine (impl_isId.calls a1_3 true _ A19.out).mono ?_); rintro e w' ⟨rfl, ⟨nd, rfl⟩⟩) | (go_at_call 89; (with_reducible refine (impl_isTime.calls a1_4 true _ A21.out).mono ?_); rintro e w' ⟨rfl, ⟨nd, rfl⟩⟩))
        go_meet
        case rel => exact ⟨_, (decide ((l1_6.length : Int) > 0)), sR, H', ⟨by first | omega | exact Nat.le_refl _⟩, ⟨sK BK367⟩, ⟨sK BK368⟩, ⟨sC⟩⟩
      ·replace c22 := Bool.eq_false_iff.mpr c22
       subst c22
       rw [if_neg (show ¬ (false = true) by decide)] at H
       have H' := Aside0.mk H
       clear H
       have hnb28 := NB368_367.out
       have hnc28 := NB367_368.out
       have hcz29 := cb7 BK368
       go_wp2_with (first | ((with_reducible refine gt 87 rfl ?_); refine gL 87 14 Tryz.func87 #[.int .i64 a1_1] ?_; (with_reducible refine (impl_isMode.calls a1_1 true _ A15.out).mono ?_); rintro e w' ⟨rfl, ⟨nd, rfl⟩⟩; refine ⟨_, rfl, ?_⟩) | (go_at_call 88; (with_reducible refine (impl_isId.calls a1_2 true _ A17.out).mono ?_); rintro e w' ⟨rfl, ⟨nd, rfl⟩⟩) | (go_at_call 88; (with_reducible refine (impl_isId.calls a1_3 true _ A19.out).mono ?_); rintro e w' ⟨rfl, ⟨nd, rfl⟩⟩) | (go_at_call 89; (with_reducible refine (impl_isTime.calls a1_4 false _ A21.out).mono ?_); rintro e w' ⟨rfl, ⟨nd, rfl⟩⟩))
       go_meet
       case rel => exact ⟨_, (true), sR, H', ⟨by first | omega | exact Nat.le_refl _⟩, ⟨sK BK367⟩, ⟨sK BK368⟩, ⟨sC⟩⟩
     ·replace c20 := Bool.eq_false_iff.mpr c20
      subst c20
      rw [if_neg (show ¬ (false = true) by decide)] at H
      have H' := Aside0.mk H
      clear H
      have hnb30 := NB368_367.out
      have hnc30 := NB367_368.out
      have hcz31 := cb7 BK368
      go_wp2_with (first | ((with_reducible refine gt 87 rfl ?_); refine gL 87 14 Tryz.func87 #[.int .i64 a1_1] ?_; (with_reducible refine (impl_isMode.calls a1_1 true _ A15.out).mono ?_); rintro e w' ⟨rfl, ⟨nd, rfl⟩⟩; refine ⟨_, rfl, ?_⟩) | (go_at_call 88; (with_reducible refine (impl_isId.calls a1_2 true _ A17.out).mono ?_); rintro e w' ⟨rfl, ⟨nd, rfl⟩⟩) | (go_at_call 88; (with_reducible refine (impl_isId.calls a1_3 false _ A19.out).mono ?_); rintro e w' ⟨rfl, ⟨nd, rfl⟩⟩))
      go_meet
      case rel => exact ⟨_, (true), sR, H', ⟨by first | omega | exact Nat.le_refl _⟩, ⟨sK BK367⟩, ⟨sK BK368⟩, ⟨sC⟩⟩
    ·replace c18 := Bool.eq_false_iff.mpr c18
     subst c18
     rw [if_neg (show ¬ (false = true) by decide)] at H
     have H' := Aside0.mk H
     clear H
     have hnb32 := NB368_367.out
     have hnc32 := NB367_368.out
     have hcz33 := cb7 BK368
     go_wp2_with (first | ((with_reducible refine gt 87 rfl ?_); refine gL 87 14 Tryz.func87 #[.int .i64 a1_1] ?_; (with_reducible refine (impl_isMode.calls a1_1 true _ A15.out).mono ?_); rintro e w' ⟨rfl, ⟨nd, rfl⟩⟩; refine ⟨_, rfl, ?_⟩) | (go_at_call 88; (with_reducible refine (impl_isId.calls a1_2 false _ A17.out).mono ?_); rintro e w' ⟨rfl, ⟨nd, rfl⟩⟩))
     go_meet
     case rel => exact ⟨_, (true), sR, H', ⟨by first | omega | exact Nat.le_refl _⟩, ⟨sK BK367⟩, ⟨sK BK368⟩, ⟨sC⟩⟩
   ·replace c16 := Bool.eq_false_iff.mpr c16
    subst c16
    rw [if_neg (show ¬ (false = true) by decide)] at H
    have H' := Aside0.mk H
    clear H
    have hnb34 := NB368_367.out
    have hnc34 := NB367_368.out
    have hcz35 := cb7 BK368
    go_wp2_with (first | ((with_reducible refine gt 87 rfl ?_); refine gL 87 14 Tryz.func87 #[.int .i64 a1_1] ?_; (with_reducible refine (impl_isMode.calls a1_1 false _ A15.out).mono ?_); rintro e w' ⟨rfl, ⟨nd, rfl⟩⟩; refine ⟨_, rfl, ?_⟩))
    go_meet
    case rel => exact ⟨_, (true), sR, H', ⟨by first | omega | exact Nat.le_refl _⟩, ⟨sK BK367⟩, ⟨sK BK368⟩, ⟨sC⟩⟩
  case rest =>
   clear HC10
   try clear c1
   try clear c2
   try clear p2
   try clear c3
   try clear c3b0
   try clear c3b1
   try clear c6
   try clear c7
   try clear c8
   try clear c13
   try clear c16
   try clear c18
   try clear c20
   try clear c22
   try clear c23
   try clear c23b0
   try clear c23b1
   try clear c24
   try clear c26
   try clear c28
   try clear c30
   try clear c32
   try clear c34
   try clear hcz14
   try clear hcz25
   try clear hcz27
   try clear hcz29
   try clear hcz31
   try clear hcz33
   try clear hcz35
   try clear hcz8
   obtain ⟨kq, x44_9, rfl, HA, HJ9, BK367, BK368, HB⟩ := hcut
   cases kq with
   | zero => exact absurd HA.out (by simp [impl_Fs_isNode.j0])
   | succ kj9 =>
    have H := HA.out
    clear HA
    simp only [impl_Fs_isNode.j0] at H
    by_cases c36 : x44_9 = true
    ·subst c36
     rw [if_pos rfl] at H
     obtain rfl := Option.some.inj H
     go_wp2
     go_ret
     exact ⟨sE, sC⟩
    ·replace c36 := Bool.eq_false_iff.mpr c36
     subst c36
     rw [if_neg (show ¬ (false = true) by decide)] at H
     by_cases c37 : a1_0 = 1
     ·rw [if_pos c37] at H
      have c37b0 := beq_iff_eq.mpr c37
      have c37b1 := bne_eq_false_iff_eq.mpr c37
      clear c37
      obtain rfl := Option.some.inj H
      have hnb38 := NB368_367.out
      have hnc38 := NB367_368.out
      have hcz39 := cb7 BK368
      go_wp2
      go_ret
      exact ⟨sE, sC⟩
     ·rw [if_neg c37] at H
      have c37b0 := beq_eq_false_iff_ne.mpr c37
      have c37b1 := bne_iff_ne.mpr c37
      by_cases c40 : a1_0 = 3
      ·rw [if_pos c40] at H
       have c40b0 := beq_iff_eq.mpr c40
       have c40b1 := bne_eq_false_iff_eq.mpr c40
       clear c40
       obtain ⟨t374, A41, H⟩ := bS H
       try dsimp only at H
       obtain rfl := Option.some.inj H
       have hnb42 := NB368_367.out
       have hnc42 := NB367_368.out
       have hcz43 := cb7 BK368
       go_wp2_with (first | ((with_reducible refine gt 90 rfl ?_); refine gL 90 57 Tryz.func90 #[.string a1_5] ?_; (with_reducible refine (impl_GoodPath.calls kj9 a1_5 t374 _ A41.out).mono ?_); rintro e w44 ⟨rfl, hb⟩; refine ⟨_, rfl, ?_⟩; replace BK367 := nK BK367 hb; replace BK368 := nK BK368 hb; replace HB := nSC hb; try clear hb))
       go_ret
       exact ⟨sE, sC⟩
      ·rw [if_neg c40] at H
       have c40b0 := beq_eq_false_iff_ne.mpr c40
       have c40b1 := bne_iff_ne.mpr c40
       by_cases c45 : a1_0 = 2
       ·rw [if_pos c45] at H
        have c45b0 := beq_iff_eq.mpr c45
        have c45b1 := bne_eq_false_iff_eq.mpr c45
        clear c45
        have H' := Aside0.mk H
        clear H
        have hnb46 := NB368_367.out
        have hnc46 := NB367_368.out
        have hcz47 := cb7 BK368
        go_wp2
        go_loopg [63] kj9 (fun kq v63 w' => ∃ (x63_2 : Int), v63 = .int .i64 x63_2 ∧ Aside0 (impl_Fs_isNode.l0 kq l1_6 (l1_6.length : Int) x63_2 l0_0 a0_1 a1_0 a1_1 a1_2 a1_3 a1_4 a1_5 l1_6 = some r) ∧ Aside0 (kq ≤ kj9) ∧ Aside0 (w'.heap[gb367]? = some (.cells #[(.slice A0_0 l0_0.length c0_0), .int .i64 a0_1] 30 (0, 0))) ∧ Aside0 (w'.heap[gb368]? = some (.cells #[.int .i64 a1_0, .int .i64 a1_1, .int .i64 a1_2, .int .i64 a1_3, .int .i64 a1_4, .string a1_5, (.slice A1_6 l1_6.length c1_6)] 65 (0, 0))) ∧ Aside0 (Below w.heap.size w w'))
        case atStart => exact ⟨(0), sR, H', ⟨Nat.le_refl _⟩, ⟨sK BK367⟩, ⟨sK BK368⟩, ⟨sC⟩⟩
        case round =>
         clear H'
         try clear c1
         try clear c2
         try clear p2
         try clear c3
         try clear c3b0
         try clear c3b1
         try clear c4
         try clear c6
         try clear c7
         try clear c8
         try clear c9
         try clear c13
         try clear c16
         try clear c18
         try clear c20
         try clear c22
         try clear c23
         try clear c23b0
         try clear c23b1
         try clear c24
         try clear c26
         try clear c28
         try clear c30
         try clear c32
         try clear c34
         try clear c36
         try clear c37
         try clear c37b0
         try clear c37b1
         try clear c38
         try clear c40
         try clear c40b0
         try clear c40b1
         try clear c42
         try clear c45
         try clear c45b0
         try clear c45b1
         try clear c46
         try clear hcz14
         try clear hcz25
         try clear hcz27
         try clear hcz29
         try clear hcz31
         try clear hcz33
         try clear hcz35
         try clear hcz39
         try clear hcz43
         try clear hcz47
         try clear hcz8
         try clear p2
         obtain ⟨x63_2, rfl, HA, HK2, BK367, BK368, HB⟩ := hrel
         cases gk with
         | zero => exact absurd HA.out (by simp [impl_Fs_isNode.l0])
         | succ k2 =>
          have H := HA.out
          clear HA
          simp only [impl_Fs_isNode.l0] at H
          by_cases c48 : x63_2 < (l1_6.length : Int)
          ·rw [if_pos c48] at H
           have c48b0 := decide_eq_true c48
           clear c48
           obtain ⟨c49, H⟩ := iN H
           have c49b0 := decide_eq_true c49
           clear c49
           obtain ⟨c50, H⟩ := iN H
           have c50b0 := decide_eq_true c50
           clear c50
           obtain ⟨t377, A51, H⟩ := bS H
           try dsimp only at H
           by_cases c52 : t377 = true
           ·subst c52
            rw [if_pos rfl] at H
            by_cases c53 : x63_2 > 0
            ·rw [if_pos c53] at H
             have c53b0 := decide_eq_true c53
             clear c53
             obtain ⟨ji54, hji54⟩ : ∃ j_ : Int, (wrap64 (x63_2 - 1)) = j_ := ⟨_, rfl⟩
             replace H : (if 0 ≤ (ji54) then (if (ji54) < (l1_6.length : Int) then (if ((Op.bytesLess (((rd_T104 l1_6 (ji54)).f0).toList) (((rd_T104 l1_6 x63_2).f0).toList)) = true) then ((impl_Fs_isThere.f l0_0 a0_1 ((rd_T104 l1_6 x63_2).f1)).bind fun t379 => (if t379 = true then (impl_Fs_isNode.l0 k2 l1_6 (l1_6.length : Int) (wrap64 (x63_2 + 1)) l0_0 a0_1 a1_0 a1_1 a1_2 a1_3 a1_4 a1_5 l1_6) else (some false))) else (some false)) else (none)) else (none)) = some r := by first | (rw [hji54] at H; exact H) | (simp only [hji54] at H ⊢; exact H)
             (try rw [hji54] at A51)
             have hji54w : (IntKind.i64.wrap (x63_2 - 1)) = ji54 := (i64_w _).trans hji54
             obtain ⟨c55, H⟩ := iN H
             have c55b0 := decide_eq_true c55
             clear c55
             obtain ⟨c56, H⟩ := iN H
             have c56b0 := decide_eq_true c56
             clear c56
             by_cases c57 : ((Op.bytesLess (((rd_T104 l1_6 (ji54)).f0).toList) (((rd_T104 l1_6 x63_2).f0).toList)) = true)
             ·rw [if_pos c57] at H
              have c57b0 : (Op.bytesLess (((rd_T104 l1_6 (ji54)).f0).toList) (((rd_T104 l1_6 x63_2).f0).toList)) = true := c57
              clear c57
              obtain ⟨t379, A58, H⟩ := bS H
              try dsimp only at H
              by_cases c59 : t379 = true
              ·subst c59
               rw [if_pos rfl] at H
               have H' := Aside0.mk H
               clear H
               have p375 : 0 ≤ (x63_2 : Int) := sO
               have q375 : x63_2 < (l1_6.length : Int) := sO
               obtain ⟨ad375, e375, hx375_0, hx375_1⟩ := ab104 HR1_6.out HB x63_2 p375 q375
               cases e375
               replace p375 := eq_true p375
               replace q375 := eq_true q375
               try go_wp2_with (first | ((with_reducible refine gd 6 rfl ?_); (first | refine bxE 6 #[.string (⟨#[]⟩ : ByteArray), .int .i64 0] 104 ?_ | refine bgE 6 #[.string (⟨#[]⟩ : ByteArray), .int .i64 0] 104 ?_); intro gb376 hg w60 hbox hb; have BK376 := Aside0.mk hbox; have GW376 := nGC hg; have GE376 := nGC hg; replace HB := nSC hb; have NB367_376 := nL BK367 hg; have NB376_367 := nH BK367 hg; replace BK367 := nK BK367 hb; have NB368_376 := nL BK368 hg; have NB376_368 := nH BK368 hg; replace BK368 := nK BK368 hb; clear hb hbox hg; have hnb61 := NB376_367.out; have hnc61 := NB367_376.out; have hnb62 := NB376_368.out; have hnc62 := NB368_376.out; have hcz63 := cb2 BK376))
               have n0_ : Aside0 (((w60.setCell ⟨gb376, 0, none⟩ (.string ((rd_T104 l1_6 x63_2).f0))).setCell ⟨gb376, 1, none⟩ (.int .i64 ((rd_T104 l1_6 x63_2).f1))).heap[gb367]? = some (.cells #[.slice A0_0 l0_0.length c0_0, .int .i64 a0_1] 30 (0, 0))) := ⟨sX BK367⟩
               have n1_ : Aside0 (((w60.setCell ⟨gb376, 0, none⟩ (.string ((rd_T104 l1_6 x63_2).f0))).setCell ⟨gb376, 1, none⟩ (.int .i64 ((rd_T104 l1_6 x63_2).f1))).heap[gb368]? = some (.cells #[.int .i64 a1_0, .int .i64 a1_1, .int .i64 a1_2, .int .i64 a1_3, .int .i64 a1_4, .string a1_5, .slice (some ad375) l1_6.length c1_6] 65 (0, 0))) := ⟨sX BK368⟩
               have n2_ : Aside0 (((w60.setCell ⟨gb376, 0, none⟩ (.string ((rd_T104 l1_6 x63_2).f0))).setCell ⟨gb376, 1, none⟩ (.int .i64 ((rd_T104 l1_6 x63_2).f1))).heap[gb376]? = some (.cells #[.string ((rd_T104 l1_6 x63_2).f0), .int .i64 ((rd_T104 l1_6 x63_2).f1)] 104 (0, 0))) := ⟨sX BK376⟩
               have n3_ : Aside0 (Below w.heap.size w ((w60.setCell ⟨gb376, 0, none⟩ (.string ((rd_T104 l1_6 x63_2).f0))).setCell ⟨gb376, 1, none⟩ (.int .i64 ((rd_T104 l1_6 x63_2).f1)))) := ⟨sC⟩
               (try clear BK367)
               (try clear BK368)
               (try clear BK376)
               (try clear HB)
               generalize ((w60.setCell ⟨gb376, 0, none⟩ (.string ((rd_T104 l1_6 x63_2).f0))).setCell ⟨gb376, 1, none⟩ (.int .i64 ((rd_T104 l1_6 x63_2).f1))) = w64 at n0_ n1_ n2_ n3_ ⊢
               have BK367 := n0_
               have BK368 := n1_
               have BK376 := n2_
               have HB := n3_
               clear n0_ n1_ n2_ n3_
               have n0_ := Aside0.mk (blk_drew BK367.out)
               have n1_ := Aside0.mk (blk_drew BK368.out)
               have n2_ := Aside0.mk (blk_drew BK376.out)
               have n3_ := Aside0.mk (below_drew1 HB.out)
               clear BK367
               clear BK368
               clear BK376
               clear HB
               have BK367 := n0_
               have BK368 := n1_
               have BK376 := n2_
               have HB := n3_
               clear n0_ n1_ n2_ n3_
               have p378 : 0 ≤ ((ji54) : Int) := sO
               have q378 : (ji54) < (l1_6.length : Int) := sO
               obtain ⟨ad378, e378, hx378_0, hx378_1⟩ := at_T104 HR1_6.out (ji54) p378 q378
               have hw378_1 := hx378_1
               have hw378_0 := hx378_0
               obtain rfl : ad375 = ad378 := (by injection e378)
               replace hx378_0 := hB HB hx378_0
               replace hx378_1 := hB HB hx378_1
               replace p378 := eq_true p378
               replace q378 := eq_true q378
               refine st13 27 [] (cz0 BK376) (cz1 BK376) (cz0 BK368) (cz1 BK368) (cz2 BK368) (cz3 BK368) (cz4 BK368) (cz5 BK368) (cz6 BK368) (cz0 BK367) (cz1 BK367) (hB HB hw378_0 :) (hB HB hw378_1 :) (fun hHeld => ?_); refine with_tabW impl_Fs_isNode.tab14 impl_Fs_isNode.bits14 (fun HT_ HW_ => ?_)
               generalize w64.drew = w65 at BK367 BK368 BK376 HB hx378_0 hx378_1 hHeld ⊢
               refine pu 0 68 ?_
               refine tk13 1 69 ?_
               refine on 2 70 (fun K hK => ?_)
               refine gC Tryz.func91 #[.string ((rd_T104 l1_6 x63_2).f0)] ?_
               with_reducible refine (impl_GoodName.calls k2 ((rd_T104 l1_6 x63_2).f0) true _ A51.out).mono ?_
               rintro e w66 ⟨rfl, hb⟩
               refine ⟨_, rfl, ?_⟩
               have n0_ := nK BK367 hb
               have n1_ := nK BK368 hb
               have n2_ := nK BK376 hb
               have n3_ := nSC hb
               clear BK367
               clear BK368
               clear BK376
               clear HB
               have BK367 := n0_
               have BK368 := n1_
               have BK376 := n2_
               have HB := n3_
               clear n0_ n1_ n2_ n3_
               (try clear hb)
               (try clear hb2)
               (try clear hk)
               (try clear hi)
               refine hK.out _ _ ⟨cz0 BK376, cz1 BK376, cz0 BK368, cz1 BK368, cz2 BK368, cz3 BK368, cz4 BK368, cz5 BK368, cz6 BK368, cz0 BK367, cz1 BK367, (hB HB hw378_0 :), (hB HB hw378_1 :)⟩ (fun hHeld => ?_)
               clear hK K
               refine nm ?_
               refine pu 3 71 ?_
               refine pu 4 72 ?_
               refine pu 5 73 ?_
               refine pu 6 74 ?_
               refine pu 7 75 ?_
               refine pu 8 76 ?_
               refine pu 10 78 ?_
               refine pu 11 79 ?_
               refine pu 15 83 ?_
               refine tk13 9 77 ?_
               refine pu 12 80 ?_
               refine pu 13 81 ?_
               refine tk13 14 82 ?_
               refine tk13 16 84 ?_
               refine pu 17 85 ?_
               refine pu 18 86 ?_
               refine pu 19 87 ?_
               refine pu 20 88 ?_
               refine pu 22 90 ?_
               refine tk13 21 89 ?_
               refine tk13 23 91 ?_
               refine on 24 92 (fun K hK => ?_)
               refine gC Tryz.func42 #[.agg #[.slice A0_0 l0_0.length c0_0, .int .i64 a0_1], .int .i64 ((rd_T104 l1_6 x63_2).f1)] ?_
               with_reducible refine (impl_Fs_isThere.calls _ _ l0_0 a0_1 ((rd_T104 l1_6 x63_2).f1) true _ ?side1 ?side2 A58.out).mono ?_
               (case side1 => exact sD (Kd.C_below HR0_0.out HB.out))
               (case side2 => exact HC0_0.out)
               rintro e w67 ⟨rfl, hb⟩
               refine ⟨_, rfl, ?_⟩
               have n0_ := nK BK367 hb
               have n1_ := nK BK368 hb
               have n2_ := nK BK376 hb
               have n3_ := nSC hb
               clear BK367
               clear BK368
               clear BK376
               clear HB
               have BK367 := n0_
               have BK368 := n1_
               have BK376 := n2_
               have HB := n3_
               clear n0_ n1_ n2_ n3_
               (try clear hb)
               (try clear hb2)
               (try clear hk)
               (try clear hi)
               refine hK.out _ _ ⟨cz0 BK376, cz1 BK376, cz0 BK368, cz1 BK368, cz2 BK368, cz3 BK368, cz4 BK368, cz5 BK368, cz6 BK368, cz0 BK367, cz1 BK367, (hB HB hw378_0 :), (hB HB hw378_1 :)⟩ (fun hHeld => ?_)
               clear hK K
               refine nm ?_
               refine pu 25 93 ?_
               refine pu 26 94 ?_
               refine dn ?_
               try go_wp2
               go_roundg k2
               case measure => have := HJ9.out; have := HK2.out; omega
               case rel => exact ⟨(wrap64 (x63_2 + 1)), sR, (by first | exact H' | (simp only [hji54]; exact H') | (simp only [hji54]; exact H')), ⟨by have := HJ9.out; have := HK2.out; omega⟩, ⟨sK BK367⟩, ⟨sK BK368⟩, ⟨sC⟩⟩
              ·replace c59 := Bool.eq_false_iff.mpr c59
               subst c59
               rw [if_neg (show ¬ (false = true) by decide)] at H
               obtain rfl := Option.some.inj H
               have p375 : 0 ≤ (x63_2 : Int) := sO
               have q375 : x63_2 < (l1_6.length : Int) := sO
               obtain ⟨ad375, e375, hx375_0, hx375_1⟩ := ab104 HR1_6.out HB x63_2 p375 q375
               cases e375
               replace p375 := eq_true p375
               replace q375 := eq_true q375
               try go_wp2_with (first | ((with_reducible refine gd 6 rfl ?_); (first | refine bxE 6 #[.string (⟨#[]⟩ : ByteArray), .int .i64 0] 104 ?_ | refine bgE 6 #[.string (⟨#[]⟩ : ByteArray), .int .i64 0] 104 ?_); intro gb376 hg w68 hbox hb; have BK376 := Aside0.mk hbox; have GW376 := nGC hg; have GE376 := nGC hg; replace HB := nSC hb; have NB367_376 := nL BK367 hg; have NB376_367 := nH BK367 hg; replace BK367 := nK BK367 hb; have NB368_376 := nL BK368 hg; have NB376_368 := nH BK368 hg; replace BK368 := nK BK368 hb; clear hb hbox hg; have hnb69 := NB376_367.out; have hnc69 := NB367_376.out; have hnb70 := NB376_368.out; have hnc70 := NB368_376.out; have hcz71 := cb2 BK376))
               have n0_ : Aside0 (((w68.setCell ⟨gb376, 0, none⟩ (.string ((rd_T104 l1_6 x63_2).f0))).setCell ⟨gb376, 1, none⟩ (.int .i64 ((rd_T104 l1_6 x63_2).f1))).heap[gb367]? = some (.cells #[.slice A0_0 l0_0.length c0_0, .int .i64 a0_1] 30 (0, 0))) := ⟨sX BK367⟩
               have n1_ : Aside0 (((w68.setCell ⟨gb376, 0, none⟩ (.string ((rd_T104 l1_6 x63_2).f0))).setCell ⟨gb376, 1, none⟩ (.int .i64 ((rd_T104 l1_6 x63_2).f1))).heap[gb368]? = some (.cells #[.int .i64 a1_0, .int .i64 a1_1, .int .i64 a1_2, .int .i64 a1_3, .int .i64 a1_4, .string a1_5, .slice (some ad375) l1_6.length c1_6] 65 (0, 0))) := ⟨sX BK368⟩
               have n2_ : Aside0 (((w68.setCell ⟨gb376, 0, none⟩ (.string ((rd_T104 l1_6 x63_2).f0))).setCell ⟨gb376, 1, none⟩ (.int .i64 ((rd_T104 l1_6 x63_2).f1))).heap[gb376]? = some (.cells #[.string ((rd_T104 l1_6 x63_2).f0), .int .i64 ((rd_T104 l1_6 x63_2).f1)] 104 (0, 0))) := ⟨sX BK376⟩
               have n3_ : Aside0 (Below w.heap.size w ((w68.setCell ⟨gb376, 0, none⟩ (.string ((rd_T104 l1_6 x63_2).f0))).setCell ⟨gb376, 1, none⟩ (.int .i64 ((rd_T104 l1_6 x63_2).f1)))) := ⟨sC⟩
               (try clear BK367)
               (try clear BK368)
               (try clear BK376)
               (try clear HB)
               generalize ((w68.setCell ⟨gb376, 0, none⟩ (.string ((rd_T104 l1_6 x63_2).f0))).setCell ⟨gb376, 1, none⟩ (.int .i64 ((rd_T104 l1_6 x63_2).f1))) = w72 at n0_ n1_ n2_ n3_ ⊢
               have BK367 := n0_
               have BK368 := n1_
               have BK376 := n2_
               have HB := n3_
               clear n0_ n1_ n2_ n3_
               have n0_ := Aside0.mk (blk_drew BK367.out)
               have n1_ := Aside0.mk (blk_drew BK368.out)
               have n2_ := Aside0.mk (blk_drew BK376.out)
               have n3_ := Aside0.mk (below_drew1 HB.out)
               clear BK367
               clear BK368
               clear BK376
               clear HB
               have BK367 := n0_
               have BK368 := n1_
               have BK376 := n2_
               have HB := n3_
               clear n0_ n1_ n2_ n3_
               have p378 : 0 ≤ ((ji54) : Int) := sO
               have q378 : (ji54) < (l1_6.length : Int) := sO
               obtain ⟨ad378, e378, hx378_0, hx378_1⟩ := at_T104 HR1_6.out (ji54) p378 q378
               have hw378_1 := hx378_1
               have hw378_0 := hx378_0
               obtain rfl : ad375 = ad378 := (by injection e378)
               replace hx378_0 := hB HB hx378_0
               replace hx378_1 := hB HB hx378_1
               replace p378 := eq_true p378
               replace q378 := eq_true q378
               refine st13 27 [] (cz0 BK376) (cz1 BK376) (cz0 BK368) (cz1 BK368) (cz2 BK368) (cz3 BK368) (cz4 BK368) (cz5 BK368) (cz6 BK368) (cz0 BK367) (cz1 BK367) (hB HB hw378_0 :) (hB HB hw378_1 :) (fun hHeld => ?_); refine with_tabW impl_Fs_isNode.tab14 impl_Fs_isNode.bits14 (fun HT_ HW_ => ?_)
               generalize w72.drew = w73 at BK367 BK368 BK376 HB hx378_0 hx378_1 hHeld ⊢
               refine pu 0 68 ?_
               refine tk13 1 69 ?_
               refine on 2 70 (fun K hK => ?_)
               refine gC Tryz.func91 #[.string ((rd_T104 l1_6 x63_2).f0)] ?_
               with_reducible refine (impl_GoodName.calls k2 ((rd_T104 l1_6 x63_2).f0) true _ A51.out).mono ?_
               rintro e w74 ⟨rfl, hb⟩
               refine ⟨_, rfl, ?_⟩
               have n0_ := nK BK367 hb
               have n1_ := nK BK368 hb
               have n2_ := nK BK376 hb
               have n3_ := nSC hb
               clear BK367
               clear BK368
               clear BK376
               clear HB
               have BK367 := n0_
               have BK368 := n1_
               have BK376 := n2_
               have HB := n3_
               clear n0_ n1_ n2_ n3_
               (try clear hb)
               (try clear hb2)
               (try clear hk)
               (try clear hi)
               refine hK.out _ _ ⟨cz0 BK376, cz1 BK376, cz0 BK368, cz1 BK368, cz2 BK368, cz3 BK368, cz4 BK368, cz5 BK368, cz6 BK368, cz0 BK367, cz1 BK367, (hB HB hw378_0 :), (hB HB hw378_1 :)⟩ (fun hHeld => ?_)
               clear hK K
               refine nm ?_
               refine pu 3 71 ?_
               refine pu 4 72 ?_
               refine pu 5 73 ?_
               refine pu 6 74 ?_
               refine pu 7 75 ?_
               refine pu 8 76 ?_
               refine pu 10 78 ?_
               refine pu 11 79 ?_
               refine pu 15 83 ?_
               refine tk13 9 77 ?_
               refine pu 12 80 ?_
               refine pu 13 81 ?_
               refine tk13 14 82 ?_
               refine tk13 16 84 ?_
               refine pu 17 85 ?_
               refine pu 18 86 ?_
               refine pu 19 87 ?_
               refine pu 20 88 ?_
               refine pu 22 90 ?_
               refine tk13 21 89 ?_
               refine tk13 23 91 ?_
               refine on 24 92 (fun K hK => ?_)
               refine gC Tryz.func42 #[.agg #[.slice A0_0 l0_0.length c0_0, .int .i64 a0_1], .int .i64 ((rd_T104 l1_6 x63_2).f1)] ?_
               with_reducible refine (impl_Fs_isThere.calls _ _ l0_0 a0_1 ((rd_T104 l1_6 x63_2).f1) false _ ?side1 ?side2 A58.out).mono ?_
               (case side1 => exact sD (Kd.C_below HR0_0.out HB.out))
               (case side2 => exact HC0_0.out)
               rintro e w75 ⟨rfl, hb⟩
               refine ⟨_, rfl, ?_⟩
               have n0_ := nK BK367 hb
               have n1_ := nK BK368 hb
               have n2_ := nK BK376 hb
               have n3_ := nSC hb
               clear BK367
               clear BK368
               clear BK376
               clear HB
               have BK367 := n0_
               have BK368 := n1_
               have BK376 := n2_
               have HB := n3_
               clear n0_ n1_ n2_ n3_
               (try clear hb)
               (try clear hb2)
               (try clear hk)
               (try clear hi)
               refine hK.out _ _ ⟨cz0 BK376, cz1 BK376, cz0 BK368, cz1 BK368, cz2 BK368, cz3 BK368, cz4 BK368, cz5 BK368, cz6 BK368, cz0 BK367, cz1 BK367, (hB HB hw378_0 :), (hB HB hw378_1 :)⟩ (fun hHeld => ?_)
               clear hK K
               refine nm ?_
               refine pu 25 93 ?_
               refine pu 26 94 ?_
               refine dn ?_
               try go_wp2
               go_ret
               exact ⟨by first | rfl | (simp [errW_none, errW_some] <;> rfl) | (simp [errW_none, errW_some]; exact isEmpty_ne _) | (simp only [← hji54]; first | rfl | (simp [errW_none, errW_some] <;> rfl)) | (simp [*, errW_none, errW_some] <;> rfl), sC⟩
             ·rw [if_neg c57] at H
              have c57b0 : (Op.bytesLess (((rd_T104 l1_6 (ji54)).f0).toList) (((rd_T104 l1_6 x63_2).f0).toList)) = false := by simpa using c57
              clear c57
              obtain rfl := Option.some.inj H
              have p375 : 0 ≤ (x63_2 : Int) := sO
              have q375 : x63_2 < (l1_6.length : Int) := sO
              obtain ⟨ad375, e375, hx375_0, hx375_1⟩ := ab104 HR1_6.out HB x63_2 p375 q375
              cases e375
              replace p375 := eq_true p375
              replace q375 := eq_true q375
              try go_wp2_with (first | ((with_reducible refine gd 6 rfl ?_); (first | refine bxE 6 #[.string (⟨#[]⟩ : ByteArray), .int .i64 0] 104 ?_ | refine bgE 6 #[.string (⟨#[]⟩ : ByteArray), .int .i64 0] 104 ?_); intro gb376 hg w76 hbox hb; have BK376 := Aside0.mk hbox; have GW376 := nGC hg; have GE376 := nGC hg; replace HB := nSC hb; have NB367_376 := nL BK367 hg; have NB376_367 := nH BK367 hg; replace BK367 := nK BK367 hb; have NB368_376 := nL BK368 hg; have NB376_368 := nH BK368 hg; replace BK368 := nK BK368 hb; clear hb hbox hg; have hnb77 := NB376_367.out; have hnc77 := NB367_376.out; have hnb78 := NB376_368.out; have hnc78 := NB368_376.out; have hcz79 := cb2 BK376))
              have n0_ : Aside0 (((w76.setCell ⟨gb376, 0, none⟩ (.string ((rd_T104 l1_6 x63_2).f0))).setCell ⟨gb376, 1, none⟩ (.int .i64 ((rd_T104 l1_6 x63_2).f1))).heap[gb367]? = some (.cells #[.slice A0_0 l0_0.length c0_0, .int .i64 a0_1] 30 (0, 0))) := ⟨sX BK367⟩
              have n1_ : Aside0 (((w76.setCell ⟨gb376, 0, none⟩ (.string ((rd_T104 l1_6 x63_2).f0))).setCell ⟨gb376, 1, none⟩ (.int .i64 ((rd_T104 l1_6 x63_2).f1))).heap[gb368]? = some (.cells #[.int .i64 a1_0, .int .i64 a1_1, .int .i64 a1_2, .int .i64 a1_3, .int .i64 a1_4, .string a1_5, .slice (some ad375) l1_6.length c1_6] 65 (0, 0))) := ⟨sX BK368⟩
              have n2_ : Aside0 (((w76.setCell ⟨gb376, 0, none⟩ (.string ((rd_T104 l1_6 x63_2).f0))).setCell ⟨gb376, 1, none⟩ (.int .i64 ((rd_T104 l1_6 x63_2).f1))).heap[gb376]? = some (.cells #[.string ((rd_T104 l1_6 x63_2).f0), .int .i64 ((rd_T104 l1_6 x63_2).f1)] 104 (0, 0))) := ⟨sX BK376⟩
              have n3_ : Aside0 (Below w.heap.size w ((w76.setCell ⟨gb376, 0, none⟩ (.string ((rd_T104 l1_6 x63_2).f0))).setCell ⟨gb376, 1, none⟩ (.int .i64 ((rd_T104 l1_6 x63_2).f1)))) := ⟨sC⟩
              (try clear BK367)
              (try clear BK368)
              (try clear BK376)
              (try clear HB)
              generalize ((w76.setCell ⟨gb376, 0, none⟩ (.string ((rd_T104 l1_6 x63_2).f0))).setCell ⟨gb376, 1, none⟩ (.int .i64 ((rd_T104 l1_6 x63_2).f1))) = w80 at n0_ n1_ n2_ n3_ ⊢
              have BK367 := n0_
              have BK368 := n1_
              have BK376 := n2_
              have HB := n3_
              clear n0_ n1_ n2_ n3_
              have n0_ := Aside0.mk (blk_drew BK367.out)
              have n1_ := Aside0.mk (blk_drew BK368.out)
              have n2_ := Aside0.mk (blk_drew BK376.out)
              have n3_ := Aside0.mk (below_drew1 HB.out)
              clear BK367
              clear BK368
              clear BK376
              clear HB
              have BK367 := n0_
              have BK368 := n1_
              have BK376 := n2_
              have HB := n3_
              clear n0_ n1_ n2_ n3_
              have p378 : 0 ≤ ((ji54) : Int) := sO
              have q378 : (ji54) < (l1_6.length : Int) := sO
              obtain ⟨ad378, e378, hx378_0, hx378_1⟩ := at_T104 HR1_6.out (ji54) p378 q378
              have hw378_1 := hx378_1
              have hw378_0 := hx378_0
              obtain rfl : ad375 = ad378 := (by injection e378)
              replace hx378_0 := hB HB hx378_0
              replace hx378_1 := hB HB hx378_1
              replace p378 := eq_true p378
              replace q378 := eq_true q378
              refine st11 27 [] (cz0 BK376) (cz1 BK376) (cz0 BK368) (cz1 BK368) (cz2 BK368) (cz3 BK368) (cz4 BK368) (cz5 BK368) (cz6 BK368) (hB HB hw378_0 :) (hB HB hw378_1 :) (fun hHeld => ?_); refine with_tabW impl_Fs_isNode.tab14 impl_Fs_isNode.bits14 (fun HT_ HW_ => ?_)
              generalize w80.drew = w81 at BK367 BK368 BK376 HB hx378_0 hx378_1 hHeld ⊢
              refine pu 0 68 ?_
              refine tk11 1 69 ?_
              refine on 2 70 (fun K hK => ?_)
              refine gC Tryz.func91 #[.string ((rd_T104 l1_6 x63_2).f0)] ?_
              with_reducible refine (impl_GoodName.calls k2 ((rd_T104 l1_6 x63_2).f0) true _ A51.out).mono ?_
              rintro e w82 ⟨rfl, hb⟩
              refine ⟨_, rfl, ?_⟩
              have n0_ := nK BK367 hb
              have n1_ := nK BK368 hb
              have n2_ := nK BK376 hb
              have n3_ := nSC hb
              clear BK367
              clear BK368
              clear BK376
              clear HB
              have BK367 := n0_
              have BK368 := n1_
              have BK376 := n2_
              have HB := n3_
              clear n0_ n1_ n2_ n3_
              (try clear hb)
              (try clear hb2)
              (try clear hk)
              (try clear hi)
              refine hK.out _ _ ⟨cz0 BK376, cz1 BK376, cz0 BK368, cz1 BK368, cz2 BK368, cz3 BK368, cz4 BK368, cz5 BK368, cz6 BK368, (hB HB hw378_0 :), (hB HB hw378_1 :)⟩ (fun hHeld => ?_)
              clear hK K
              refine nm ?_
              refine pu 3 71 ?_
              refine pu 4 72 ?_
              refine pu 5 73 ?_
              refine pu 6 74 ?_
              refine pu 7 75 ?_
              refine pu 8 76 ?_
              refine pu 10 78 ?_
              refine pu 11 79 ?_
              refine pu 15 83 ?_
              refine tk11 9 77 ?_
              refine pu 12 80 ?_
              refine pu 13 81 ?_
              refine tk11 14 82 ?_
              refine tk11 16 84 ?_
              refine pu 17 85 ?_
              refine pu 18 86 ?_
              refine pu 19 87 ?_
              refine pu 20 88 ?_
              refine pz 21 89 ?_
              refine pz 22 90 ?_
              refine pz 23 91 ?_
              refine pz 24 92 ?_
              refine pz 25 93 ?_
              refine pu 26 94 ?_
              refine dn ?_
              try go_wp2
              go_ret
              exact ⟨by first | rfl | (simp [errW_none, errW_some] <;> rfl) | (simp [errW_none, errW_some]; exact isEmpty_ne _) | (simp only [← hji54]; first | rfl | (simp [errW_none, errW_some] <;> rfl)) | (simp [*, errW_none, errW_some] <;> rfl), sC⟩
            ·rw [if_neg c53] at H
             have c53b0 := decide_eq_false c53
             clear c53
             obtain ⟨t380, A83, H⟩ := bS H
             try dsimp only at H
             by_cases c84 : t380 = true
             ·subst c84
              rw [if_pos rfl] at H
              have H' := Aside0.mk H
              clear H
              have p375 : 0 ≤ (x63_2 : Int) := sO
              have q375 : x63_2 < (l1_6.length : Int) := sO
              obtain ⟨ad375, e375, hx375_0, hx375_1⟩ := ab104 HR1_6.out HB x63_2 p375 q375
              cases e375
              replace p375 := eq_true p375
              replace q375 := eq_true q375
              try go_wp2_with (first | ((with_reducible refine gd 6 rfl ?_); (first | refine bxE 6 #[.string (⟨#[]⟩ : ByteArray), .int .i64 0] 104 ?_ | refine bgE 6 #[.string (⟨#[]⟩ : ByteArray), .int .i64 0] 104 ?_); intro gb376 hg w85 hbox hb; have BK376 := Aside0.mk hbox; have GW376 := nGC hg; have GE376 := nGC hg; replace HB := nSC hb; have NB367_376 := nL BK367 hg; have NB376_367 := nH BK367 hg; replace BK367 := nK BK367 hb; have NB368_376 := nL BK368 hg; have NB376_368 := nH BK368 hg; replace BK368 := nK BK368 hb; clear hb hbox hg; have hnb86 := NB376_367.out; have hnc86 := NB367_376.out; have hnb87 := NB376_368.out; have hnc87 := NB368_376.out; have hcz88 := cb2 BK376))
              have n0_ : Aside0 (((w85.setCell ⟨gb376, 0, none⟩ (.string ((rd_T104 l1_6 x63_2).f0))).setCell ⟨gb376, 1, none⟩ (.int .i64 ((rd_T104 l1_6 x63_2).f1))).heap[gb367]? = some (.cells #[.slice A0_0 l0_0.length c0_0, .int .i64 a0_1] 30 (0, 0))) := ⟨sX BK367⟩
              have n1_ : Aside0 (((w85.setCell ⟨gb376, 0, none⟩ (.string ((rd_T104 l1_6 x63_2).f0))).setCell ⟨gb376, 1, none⟩ (.int .i64 ((rd_T104 l1_6 x63_2).f1))).heap[gb368]? = some (.cells #[.int .i64 a1_0, .int .i64 a1_1, .int .i64 a1_2, .int .i64 a1_3, .int .i64 a1_4, .string a1_5, .slice (some ad375) l1_6.length c1_6] 65 (0, 0))) := ⟨sX BK368⟩
              have n2_ : Aside0 (((w85.setCell ⟨gb376, 0, none⟩ (.string ((rd_T104 l1_6 x63_2).f0))).setCell ⟨gb376, 1, none⟩ (.int .i64 ((rd_T104 l1_6 x63_2).f1))).heap[gb376]? = some (.cells #[.string ((rd_T104 l1_6 x63_2).f0), .int .i64 ((rd_T104 l1_6 x63_2).f1)] 104 (0, 0))) := ⟨sX BK376⟩
              have n3_ : Aside0 (Below w.heap.size w ((w85.setCell ⟨gb376, 0, none⟩ (.string ((rd_T104 l1_6 x63_2).f0))).setCell ⟨gb376, 1, none⟩ (.int .i64 ((rd_T104 l1_6 x63_2).f1)))) := ⟨sC⟩
              (try clear BK367)
              (try clear BK368)
              (try clear BK376)
              (try clear HB)
              generalize ((w85.setCell ⟨gb376, 0, none⟩ (.string ((rd_T104 l1_6 x63_2).f0))).setCell ⟨gb376, 1, none⟩ (.int .i64 ((rd_T104 l1_6 x63_2).f1))) = w89 at n0_ n1_ n2_ n3_ ⊢
              have BK367 := n0_
              have BK368 := n1_
              have BK376 := n2_
              have HB := n3_
              clear n0_ n1_ n2_ n3_
              have n0_ := Aside0.mk (blk_drew BK367.out)
              have n1_ := Aside0.mk (blk_drew BK368.out)
              have n2_ := Aside0.mk (blk_drew BK376.out)
              have n3_ := Aside0.mk (below_drew1 HB.out)
              clear BK367
              clear BK368
              clear BK376
              clear HB
              have BK367 := n0_
              have BK368 := n1_
              have BK376 := n2_
              have HB := n3_
              clear n0_ n1_ n2_ n3_
              refine st4 27 [] (cz0 BK376) (cz1 BK376) (cz0 BK367) (cz1 BK367) (fun hHeld => ?_); refine with_tabW impl_Fs_isNode.tab14 impl_Fs_isNode.bits14 (fun HT_ HW_ => ?_)
              generalize w89.drew = w90 at BK367 BK368 BK376 HB hHeld ⊢
              refine pu 0 68 ?_
              refine tk4 1 69 ?_
              refine on 2 70 (fun K hK => ?_)
              refine gC Tryz.func91 #[.string ((rd_T104 l1_6 x63_2).f0)] ?_
              with_reducible refine (impl_GoodName.calls k2 ((rd_T104 l1_6 x63_2).f0) true _ A51.out).mono ?_
              rintro e w91 ⟨rfl, hb⟩
              refine ⟨_, rfl, ?_⟩
              have n0_ := nK BK367 hb
              have n1_ := nK BK368 hb
              have n2_ := nK BK376 hb
              have n3_ := nSC hb
              clear BK367
              clear BK368
              clear BK376
              clear HB
              have BK367 := n0_
              have BK368 := n1_
              have BK376 := n2_
              have HB := n3_
              clear n0_ n1_ n2_ n3_
              (try clear hb)
              (try clear hb2)
              (try clear hk)
              (try clear hi)
              refine hK.out _ _ ⟨cz0 BK376, cz1 BK376, cz0 BK367, cz1 BK367⟩ (fun hHeld => ?_)
              clear hK K
              refine nm ?_
              refine pu 3 71 ?_
              refine pu 4 72 ?_
              refine pu 5 73 ?_
              refine pu 6 74 ?_
              refine pu 7 75 ?_
              refine pz 8 76 ?_
              refine pz 9 77 ?_
              refine pz 10 78 ?_
              refine pz 11 79 ?_
              refine pz 12 80 ?_
              refine pz 13 81 ?_
              refine pz 14 82 ?_
              refine pz 15 83 ?_
              refine pz 16 84 ?_
              refine pz 17 85 ?_
              refine pu 18 86 ?_
              refine pu 19 87 ?_
              refine pu 20 88 ?_
              refine pu 22 90 ?_
              refine tk4 21 89 ?_
              refine tk4 23 91 ?_
              refine on 24 92 (fun K hK => ?_)
              refine gC Tryz.func42 #[.agg #[.slice A0_0 l0_0.length c0_0, .int .i64 a0_1], .int .i64 ((rd_T104 l1_6 x63_2).f1)] ?_
              with_reducible refine (impl_Fs_isThere.calls _ _ l0_0 a0_1 ((rd_T104 l1_6 x63_2).f1) true _ ?side1 ?side2 A83.out).mono ?_
              (case side1 => exact sD (Kd.C_below HR0_0.out HB.out))
              (case side2 => exact HC0_0.out)
              rintro e w92 ⟨rfl, hb⟩
              refine ⟨_, rfl, ?_⟩
              have n0_ := nK BK367 hb
              have n1_ := nK BK368 hb
              have n2_ := nK BK376 hb
              have n3_ := nSC hb
              clear BK367
              clear BK368
              clear BK376
              clear HB
              have BK367 := n0_
              have BK368 := n1_
              have BK376 := n2_
              have HB := n3_
              clear n0_ n1_ n2_ n3_
              (try clear hb)
              (try clear hb2)
              (try clear hk)
              (try clear hi)
              refine hK.out _ _ ⟨cz0 BK376, cz1 BK376, cz0 BK367, cz1 BK367⟩ (fun hHeld => ?_)
              clear hK K
              refine nm ?_
              refine pu 25 93 ?_
              refine pu 26 94 ?_
              refine dn ?_
              try go_wp2
              go_roundg k2
              case measure => have := HJ9.out; have := HK2.out; omega
              case rel => exact ⟨(wrap64 (x63_2 + 1)), sR, H', ⟨by have := HJ9.out; have := HK2.out; omega⟩, ⟨sK BK367⟩, ⟨sK BK368⟩, ⟨sC⟩⟩
             ·replace c84 := Bool.eq_false_iff.mpr c84
              subst c84
              rw [if_neg (show ¬ (false = true) by decide)] at H
              obtain rfl := Option.some.inj H
              have p375 : 0 ≤ (x63_2 : Int) := sO
              have q375 : x63_2 < (l1_6.length : Int) := sO
              obtain ⟨ad375, e375, hx375_0, hx375_1⟩ := ab104 HR1_6.out HB x63_2 p375 q375
              cases e375
              replace p375 := eq_true p375
              replace q375 := eq_true q375
              try go_wp2_with (first | ((with_reducible refine gd 6 rfl ?_); (first | refine bxE 6 #[.string (⟨#[]⟩ : ByteArray), .int .i64 0] 104 ?_ | refine bgE 6 #[.string (⟨#[]⟩ : ByteArray), .int .i64 0] 104 ?_); intro gb376 hg w93 hbox hb; have BK376 := Aside0.mk hbox; have GW376 := nGC hg; have GE376 := nGC hg; replace HB := nSC hb; have NB367_376 := nL BK367 hg; have NB376_367 := nH BK367 hg; replace BK367 := nK BK367 hb; have NB368_376 := nL BK368 hg; have NB376_368 := nH BK368 hg; replace BK368 := nK BK368 hb; clear hb hbox hg; have hnb94 := NB376_367.out; have hnc94 := NB367_376.out; have hnb95 := NB376_368.out; have hnc95 := NB368_376.out; have hcz96 := cb2 BK376))
              have n0_ : Aside0 (((w93.setCell ⟨gb376, 0, none⟩ (.string ((rd_T104 l1_6 x63_2).f0))).setCell ⟨gb376, 1, none⟩ (.int .i64 ((rd_T104 l1_6 x63_2).f1))).heap[gb367]? = some (.cells #[.slice A0_0 l0_0.length c0_0, .int .i64 a0_1] 30 (0, 0))) := ⟨sX BK367⟩
              have n1_ : Aside0 (((w93.setCell ⟨gb376, 0, none⟩ (.string ((rd_T104 l1_6 x63_2).f0))).setCell ⟨gb376, 1, none⟩ (.int .i64 ((rd_T104 l1_6 x63_2).f1))).heap[gb368]? = some (.cells #[.int .i64 a1_0, .int .i64 a1_1, .int .i64 a1_2, .int .i64 a1_3, .int .i64 a1_4, .string a1_5, .slice (some ad375) l1_6.length c1_6] 65 (0, 0))) := ⟨sX BK368⟩
              have n2_ : Aside0 (((w93.setCell ⟨gb376, 0, none⟩ (.string ((rd_T104 l1_6 x63_2).f0))).setCell ⟨gb376, 1, none⟩ (.int .i64 ((rd_T104 l1_6 x63_2).f1))).heap[gb376]? = some (.cells #[.string ((rd_T104 l1_6 x63_2).f0), .int .i64 ((rd_T104 l1_6 x63_2).f1)] 104 (0, 0))) := ⟨sX BK376⟩
              have n3_ : Aside0 (Below w.heap.size w ((w93.setCell ⟨gb376, 0, none⟩ (.string ((rd_T104 l1_6 x63_2).f0))).setCell ⟨gb376, 1, none⟩ (.int .i64 ((rd_T104 l1_6 x63_2).f1)))) := ⟨sC⟩
              (try clear BK367)
              (try clear BK368)
              (try clear BK376)
              (try clear HB)
              generalize ((w93.setCell ⟨gb376, 0, none⟩ (.string ((rd_T104 l1_6 x63_2).f0))).setCell ⟨gb376, 1, none⟩ (.int .i64 ((rd_T104 l1_6 x63_2).f1))) = w97 at n0_ n1_ n2_ n3_ ⊢
              have BK367 := n0_
              have BK368 := n1_
              have BK376 := n2_
              have HB := n3_
              clear n0_ n1_ n2_ n3_
              have n0_ := Aside0.mk (blk_drew BK367.out)
              have n1_ := Aside0.mk (blk_drew BK368.out)
              have n2_ := Aside0.mk (blk_drew BK376.out)
              have n3_ := Aside0.mk (below_drew1 HB.out)
              clear BK367
              clear BK368
              clear BK376
              clear HB
              have BK367 := n0_
              have BK368 := n1_
              have BK376 := n2_
              have HB := n3_
              clear n0_ n1_ n2_ n3_
              refine st4 27 [] (cz0 BK376) (cz1 BK376) (cz0 BK367) (cz1 BK367) (fun hHeld => ?_); refine with_tabW impl_Fs_isNode.tab14 impl_Fs_isNode.bits14 (fun HT_ HW_ => ?_)
              generalize w97.drew = w98 at BK367 BK368 BK376 HB hHeld ⊢
              refine pu 0 68 ?_
              refine tk4 1 69 ?_
              refine on 2 70 (fun K hK => ?_)
              refine gC Tryz.func91 #[.string ((rd_T104 l1_6 x63_2).f0)] ?_
              with_reducible refine (impl_GoodName.calls k2 ((rd_T104 l1_6 x63_2).f0) true _ A51.out).mono ?_
              rintro e w99 ⟨rfl, hb⟩
              refine ⟨_, rfl, ?_⟩
              have n0_ := nK BK367 hb
              have n1_ := nK BK368 hb
              have n2_ := nK BK376 hb
              have n3_ := nSC hb
              clear BK367
              clear BK368
              clear BK376
              clear HB
              have BK367 := n0_
              have BK368 := n1_
              have BK376 := n2_
              have HB := n3_
              clear n0_ n1_ n2_ n3_
              (try clear hb)
              (try clear hb2)
              (try clear hk)
              (try clear hi)
              refine hK.out _ _ ⟨cz0 BK376, cz1 BK376, cz0 BK367, cz1 BK367⟩ (fun hHeld => ?_)
              clear hK K
              refine nm ?_
              refine pu 3 71 ?_
              refine pu 4 72 ?_
              refine pu 5 73 ?_
              refine pu 6 74 ?_
              refine pu 7 75 ?_
              refine pz 8 76 ?_
              refine pz 9 77 ?_
              refine pz 10 78 ?_
              refine pz 11 79 ?_
              refine pz 12 80 ?_
              refine pz 13 81 ?_
              refine pz 14 82 ?_
              refine pz 15 83 ?_
              refine pz 16 84 ?_
              refine pz 17 85 ?_
              refine pu 18 86 ?_
              refine pu 19 87 ?_
              refine pu 20 88 ?_
              refine pu 22 90 ?_
              refine tk4 21 89 ?_
              refine tk4 23 91 ?_
              refine on 24 92 (fun K hK => ?_)
              refine gC Tryz.func42 #[.agg #[.slice A0_0 l0_0.length c0_0, .int .i64 a0_1], .int .i64 ((rd_T104 l1_6 x63_2).f1)] ?_
              with_reducible refine (impl_Fs_isThere.calls _ _ l0_0 a0_1 ((rd_T104 l1_6 x63_2).f1) false _ ?side1 ?side2 A83.out).mono ?_
              (case side1 => exact sD (Kd.C_below HR0_0.out HB.out))
              (case side2 => exact HC0_0.out)
              rintro e w100 ⟨rfl, hb⟩
              refine ⟨_, rfl, ?_⟩
              have n0_ := nK BK367 hb
              have n1_ := nK BK368 hb
              have n2_ := nK BK376 hb
              have n3_ := nSC hb
              clear BK367
              clear BK368
              clear BK376
              clear HB
              have BK367 := n0_
              have BK368 := n1_
              have BK376 := n2_
              have HB := n3_
              clear n0_ n1_ n2_ n3_
              (try clear hb)
              (try clear hb2)
              (try clear hk)
              (try clear hi)
              refine hK.out _ _ ⟨cz0 BK376, cz1 BK376, cz0 BK367, cz1 BK367⟩ (fun hHeld => ?_)
              clear hK K
              refine nm ?_
              refine pu 25 93 ?_
              refine pu 26 94 ?_
              refine dn ?_
              try go_wp2
              go_ret
              exact ⟨sE, sC⟩
           ·replace c52 := Bool.eq_false_iff.mpr c52
            subst c52
            rw [if_neg (show ¬ (false = true) by decide)] at H
            obtain rfl := Option.some.inj H
            have p375 : 0 ≤ (x63_2 : Int) := sO
            have q375 : x63_2 < (l1_6.length : Int) := sO
            obtain ⟨ad375, e375, hx375_0, hx375_1⟩ := ab104 HR1_6.out HB x63_2 p375 q375
            cases e375
            replace p375 := eq_true p375
            replace q375 := eq_true q375
            try go_wp2_with (first | ((with_reducible refine gd 6 rfl ?_); (first | refine bxE 6 #[.string (⟨#[]⟩ : ByteArray), .int .i64 0] 104 ?_ | refine bgE 6 #[.string (⟨#[]⟩ : ByteArray), .int .i64 0] 104 ?_); intro gb376 hg w101 hbox hb; have BK376 := Aside0.mk hbox; have GW376 := nGC hg; have GE376 := nGC hg; replace HB := nSC hb; have NB367_376 := nL BK367 hg; have NB376_367 := nH BK367 hg; replace BK367 := nK BK367 hb; have NB368_376 := nL BK368 hg; have NB376_368 := nH BK368 hg; replace BK368 := nK BK368 hb; clear hb hbox hg; have hnb102 := NB376_367.out; have hnc102 := NB367_376.out; have hnb103 := NB376_368.out; have hnc103 := NB368_376.out; have hcz104 := cb2 BK376))
            have n0_ : Aside0 (((w101.setCell ⟨gb376, 0, none⟩ (.string ((rd_T104 l1_6 x63_2).f0))).setCell ⟨gb376, 1, none⟩ (.int .i64 ((rd_T104 l1_6 x63_2).f1))).heap[gb367]? = some (.cells #[.slice A0_0 l0_0.length c0_0, .int .i64 a0_1] 30 (0, 0))) := ⟨sX BK367⟩
            have n1_ : Aside0 (((w101.setCell ⟨gb376, 0, none⟩ (.string ((rd_T104 l1_6 x63_2).f0))).setCell ⟨gb376, 1, none⟩ (.int .i64 ((rd_T104 l1_6 x63_2).f1))).heap[gb368]? = some (.cells #[.int .i64 a1_0, .int .i64 a1_1, .int .i64 a1_2, .int .i64 a1_3, .int .i64 a1_4, .string a1_5, .slice (some ad375) l1_6.length c1_6] 65 (0, 0))) := ⟨sX BK368⟩
            have n2_ : Aside0 (((w101.setCell ⟨gb376, 0, none⟩ (.string ((rd_T104 l1_6 x63_2).f0))).setCell ⟨gb376, 1, none⟩ (.int .i64 ((rd_T104 l1_6 x63_2).f1))).heap[gb376]? = some (.cells #[.string ((rd_T104 l1_6 x63_2).f0), .int .i64 ((rd_T104 l1_6 x63_2).f1)] 104 (0, 0))) := ⟨sX BK376⟩
            have n3_ : Aside0 (Below w.heap.size w ((w101.setCell ⟨gb376, 0, none⟩ (.string ((rd_T104 l1_6 x63_2).f0))).setCell ⟨gb376, 1, none⟩ (.int .i64 ((rd_T104 l1_6 x63_2).f1)))) := ⟨sC⟩
            (try clear BK367)
            (try clear BK368)
            (try clear BK376)
            (try clear HB)
            generalize ((w101.setCell ⟨gb376, 0, none⟩ (.string ((rd_T104 l1_6 x63_2).f0))).setCell ⟨gb376, 1, none⟩ (.int .i64 ((rd_T104 l1_6 x63_2).f1))) = w105 at n0_ n1_ n2_ n3_ ⊢
            have BK367 := n0_
            have BK368 := n1_
            have BK376 := n2_
            have HB := n3_
            clear n0_ n1_ n2_ n3_
            have n0_ := Aside0.mk (blk_drew BK367.out)
            have n1_ := Aside0.mk (blk_drew BK368.out)
            have n2_ := Aside0.mk (blk_drew BK376.out)
            have n3_ := Aside0.mk (below_drew1 HB.out)
            clear BK367
            clear BK368
            clear BK376
            clear HB
            have BK367 := n0_
            have BK368 := n1_
            have BK376 := n2_
            have HB := n3_
            clear n0_ n1_ n2_ n3_
            refine st2 27 [] (cz0 BK376) (cz1 BK376) (fun hHeld => ?_); refine with_tabW impl_Fs_isNode.tab14 impl_Fs_isNode.bits14 (fun HT_ HW_ => ?_)
            generalize w105.drew = w106 at BK367 BK368 BK376 HB hHeld ⊢
            refine pu 0 68 ?_
            refine tk2 1 69 ?_
            refine on 2 70 (fun K hK => ?_)
            refine gC Tryz.func91 #[.string ((rd_T104 l1_6 x63_2).f0)] ?_
            with_reducible refine (impl_GoodName.calls k2 ((rd_T104 l1_6 x63_2).f0) false _ A51.out).mono ?_
            rintro e w107 ⟨rfl, hb⟩
            refine ⟨_, rfl, ?_⟩
            have n0_ := nK BK367 hb
            have n1_ := nK BK368 hb
            have n2_ := nK BK376 hb
            have n3_ := nSC hb
            clear BK367
            clear BK368
            clear BK376
            clear HB
            have BK367 := n0_
            have BK368 := n1_
            have BK376 := n2_
            have HB := n3_
            clear n0_ n1_ n2_ n3_
            (try clear hb)
            (try clear hb2)
            (try clear hk)
            (try clear hi)
            refine hK.out _ _ ⟨cz0 BK376, cz1 BK376⟩ (fun hHeld => ?_)
            clear hK K
            refine nm ?_
            refine pu 3 71 ?_
            refine pu 4 72 ?_
            refine pz 5 73 ?_
            refine pz 6 74 ?_
            refine pz 7 75 ?_
            refine pz 8 76 ?_
            refine pz 9 77 ?_
            refine pz 10 78 ?_
            refine pz 11 79 ?_
            refine pz 12 80 ?_
            refine pz 13 81 ?_
            refine pz 14 82 ?_
            refine pz 15 83 ?_
            refine pz 16 84 ?_
            refine pz 17 85 ?_
            refine pz 18 86 ?_
            refine pu 19 87 ?_
            refine pu 20 88 ?_
            refine pz 21 89 ?_
            refine pz 22 90 ?_
            refine pz 23 91 ?_
            refine pz 24 92 ?_
            refine pz 25 93 ?_
            refine pu 26 94 ?_
            refine dn ?_
            try go_wp2
            go_ret
            exact ⟨sE, sC⟩
          ·rw [if_neg c48] at H
           have c48b0 := decide_eq_false c48
           clear c48
           obtain rfl := Option.some.inj H
           have hnb108 := NB368_367.out
           have hnc108 := NB367_368.out
           have hcz109 := cb7 BK368
           go_wp2
           go_ret
           exact ⟨sE, sC⟩
       ·rw [if_neg c45] at H
        have c45b0 := beq_eq_false_iff_ne.mpr c45
        have c45b1 := bne_iff_ne.mpr c45
        obtain rfl := Option.some.inj H
        have hnb110 := NB368_367.out
        have hnc110 := NB367_368.out
        have hcz111 := cb7 BK368
        go_wp2
        go_ret
        exact ⟨sE, sC⟩
end Go.Proofs.YtdjceippnokimaaGreatDoor.PGrp
