-- Written by a program of this session (wip/print2) out of the translation. Lean checks it.
import Derived.Test.YteffcglgdfhkmaaDoorPFsx0
import Derived.Test.YteffcglgdfhkmaaDoorPFsx7
import Derived.Test.YteffcglgdfhkmaaDoorPFsx15
import Derived.Test.YteffcglgdfhkmaaDoorPFsx17
import Derived.Test.YteffcglgdfhkmaaDoorPFsx18
import Derived.Test.YteffcglgdfhkmaaDoorPFsx19
namespace Go.Proofs.YteffcglgdfhkmaaDoor.PFs
open Go.RowKit Go.Proofs.YteffcglgdfhkmaaDoorW.PrintWords Go.Proofs.YteffcglgdfhkmaaDoorW.PrintLast Go.Proofs.YteffcglgdfhkmaaDoorW.PrintMore
attribute [local go_sem] max2_int min2_int max_two min_two max_three min_three max_four min_four   -- for this text's walks alone
set_option linter.unusedVariables false
set_option linter.unusedSimpArgs false

/-! ### spec_PathTo: function 26 -/
def spec_PathTo.j0 : Nat → Int → Bool → List (S53) → Int → Option (ByteArray × Bool)
 | 0, _, _, _, _ => none
 | k + 1, x1, x14, x544000, x544001 => if x14 = true then (some ((⟨#[]⟩ : ByteArray), false)) else ((spec_l3Path.f k x544000 x544001 x1).bind fun t546 => ((spec_l2Of.f k t546).bind fun t549 => (some (t549, true))))
def spec_PathTo.f (k : Nat) (l0_0 : List (S53)) (a0_1 : Int) (a1 : Int) : Option (ByteArray × Bool) := (spec_l3Good.f k l0_0 a0_1).bind fun t544 => (if t544 = true then ((spec_l3IsDir.f l0_0 a0_1 a1).bind fun t545 => (spec_PathTo.j0 k a1 (!t545) l0_0 a0_1)) else (spec_PathTo.j0 k a1 true l0_0 a0_1))
theorem spec_PathTo.mono_l : ∀ k, (∀ y0 y1 y2 y3, LeO (spec_PathTo.j0 k y0 y1 y2 y3) (spec_PathTo.j0 (k + 1) y0 y1 y2 y3))
 | 0 => fun _ _ _ _ r h => by simp [spec_PathTo.j0] at h
 | k + 1 => by
  have ih0 := spec_PathTo.mono_l k
  ·intro y0 y1 y2 y3
   unfold spec_PathTo.j0
   have m0 := @spec_l2Of.mono
   have m1 := @spec_l3Good.mono
   have m2 := @spec_l3Path.mono
   exact mo
theorem spec_PathTo.mono : ∀ a0 a1 a2 k, LeO (spec_PathTo.f k a0 a1 a2) (spec_PathTo.f (k + 1) a0 a1 a2) := by
 intro a0 a1 a2 k
 have ih0 := spec_PathTo.mono_l k
 unfold spec_PathTo.f
 have m0 := @spec_l2Of.mono
 have m1 := @spec_l3Good.mono
 have m2 := @spec_l3Path.mono
 exact mo
set_option maxHeartbeats 8000000 in
set_option maxRecDepth 100000 in
theorem spec_PathTo.calls (k : Nat) (A0_0 : Option Addr) (c0_0 : Nat) (l0_0 : List (S53)) (a0_1 : Int) (a1 : Int) (r1 : ByteArray) (r2 : Bool) (w : World) (hr0_0 : Kd.C k53 w A0_0 l0_0.length l0_0) (hc0_0 : l0_0.length ≤ c0_0) (h : spec_PathTo.f k l0_0 a0_1 a1 = some (r1, r2)) :
  Calls Tryd.prog 26 #[.agg #[.slice A0_0 l0_0.length c0_0, .int .i64 a0_1], .int .i64 a1] w fun e w' => e = .returned (.tuple #[.string r1, .bool r2]) ∧ Below w.heap.size w w' := by
 have hu29 := Tryd.underlying29
 have HR0_0 := Aside0.mk hr0_0
 have HC0_0 := Aside0.mk hc0_0
 clear hr0_0 hc0_0
 have HB := Aside0.mk (Below.refl w.heap.size w)
 have H : ((spec_l3Good.f k l0_0 a0_1).bind fun t544 => (if t544 = true then ((spec_l3IsDir.f l0_0 a0_1 a1).bind fun t545 => (spec_PathTo.j0 k a1 (!t545) l0_0 a0_1)) else (spec_PathTo.j0 k a1 true l0_0 a0_1))) = some (r1, r2) := h
 clear h
 have HC3 := Aside0.mk H
 clear H
 go_enter Tryd.func26, Tryd.ntmps26
 go_upto_region 1 with (first | ((with_reducible refine gd 2 rfl ?_); refine bxE 2 #[.slice A0_0 l0_0.length c0_0, .int .i64 a0_1] 29 ?_; intro gb543 hg w4 hbox hb; have BK543 := Aside0.mk hbox; have GW543 := nGB hg; have GE543 := nGB hg; replace HB := nSB hb; clear hb hbox hg))
 (try simp only [Act.put, List.setIfInBounds_toArray, List.set_cons_zero, List.set_cons_succ])
 go_cut [14] (fun v14 wc => ∃ (kq : Nat) (x14_2 : Bool), v14 = .bool x14_2 ∧ Aside0 (spec_PathTo.j0 kq a1 x14_2 l0_0 a0_1 = some (r1, r2)) ∧ Aside0 (kq ≤ k) ∧ Aside0 (wc.heap[gb543]? = some (.cells #[(.slice A0_0 l0_0.length c0_0), .int .i64 a0_1] 29 (0, 0))) ∧ Aside0 (Below w.heap.size w wc))
 case first =>
  have H := HC3.out
  clear HC3
  obtain ⟨t544, A50, H⟩ := Option.bind_eq_some_iff.mp H
  try dsimp only at H
  replace A50 := Aside0.mk A50; have A5 := A50; clear A50
  by_cases c6 : t544 = true
  ·subst c6
   rw [if_pos rfl] at H
   obtain ⟨t545, A70, H⟩ := Option.bind_eq_some_iff.mp H
   try dsimp only at H
   replace A70 := Aside0.mk A70; have A7 := A70; clear A70
   have H' := Aside0.mk H
   clear H
   have hcz8 := cb2 BK543
   go_wp2_with (first | ((with_reducible refine gt 41 rfl ?_); refine gL 41 7 Tryd.func41 #[.agg #[.slice A0_0 l0_0.length c0_0, .int .i64 a0_1]] ?_; (with_reducible refine (spec_l3Good.calls k _ _ l0_0 a0_1 true _ ?side1 ?side2 A5.out).mono ?_); (case side1 => exact sD (Kd.C_below HR0_0.out HB.out)); (case side2 => exact HC0_0.out); rintro e w9 ⟨rfl, hb⟩; refine ⟨_, rfl, ?_⟩; replace BK543 := nK BK543 hb; replace HB := nSC hb; try clear hb; have hcz10 := cb2 BK543) | (go_at_call 55; (with_reducible refine (spec_l3IsDir.calls _ _ l0_0 a0_1 a1 t545 _ ?side1 ?side2 A7.out).mono ?_); (case side1 => exact sD (Kd.C_below HR0_0.out HB.out)); (case side2 => exact HC0_0.out); rintro e w11 ⟨rfl, hb⟩; replace BK543 := nK BK543 hb; replace HB := nSC hb; try clear hb))
   go_meet
   case rel => exact ⟨_, (!t545), sR, H', ⟨by first | omega | exact Nat.le_refl _⟩, ⟨sK BK543⟩, ⟨sC⟩⟩
  ·replace c6 := Bool.eq_false_iff.mpr c6
   subst c6
   rw [if_neg (show ¬ (false = true) by decide)] at H
   have H' := Aside0.mk H
   clear H
   have hcz12 := cb2 BK543
   go_wp2_with (first | ((with_reducible refine gt 41 rfl ?_); refine gL 41 7 Tryd.func41 #[.agg #[.slice A0_0 l0_0.length c0_0, .int .i64 a0_1]] ?_; (with_reducible refine (spec_l3Good.calls k _ _ l0_0 a0_1 false _ ?side1 ?side2 A5.out).mono ?_); (case side1 => exact sD (Kd.C_below HR0_0.out HB.out)); (case side2 => exact HC0_0.out); rintro e w13 ⟨rfl, hb⟩; refine ⟨_, rfl, ?_⟩; replace BK543 := nK BK543 hb; replace HB := nSC hb; try clear hb))
   go_meet
   case rel => exact ⟨_, (true), sR, H', ⟨by first | omega | exact Nat.le_refl _⟩, ⟨sK BK543⟩, ⟨sC⟩⟩
 case rest =>
  clear HC3
  try clear c2
  try clear p2
  try clear c4
  try clear c6
  try clear hcz10
  try clear hcz12
  try clear hcz8
  obtain ⟨kq, x14_2, rfl, HA, HJ2, BK543, HB⟩ := hcut
  cases kq with
  | zero => exact absurd HA.out (by simp [spec_PathTo.j0])
  | succ kj2 =>
   have H := HA.out
   clear HA
   simp only [spec_PathTo.j0] at H
   by_cases c14 : x14_2 = true
   ·subst c14
    rw [if_pos rfl] at H
    simp only [Option.some.injEq, Prod.mk.injEq] at H
    obtain ⟨rfl, rfl⟩ := H
    go_wp2
    go_ret2
    exact ⟨sE, sC⟩
   ·replace c14 := Bool.eq_false_iff.mpr c14
    subst c14
    rw [if_neg (show ¬ (false = true) by decide)] at H
    obtain ⟨t546, A150, H⟩ := Option.bind_eq_some_iff.mp H
    try dsimp only at H
    replace A150 := Aside0.mk A150; have A15 := A150; clear A150
    obtain ⟨t549, A160, H⟩ := Option.bind_eq_some_iff.mp H
    try dsimp only at H
    replace A160 := Aside0.mk A160; have A16 := A160; clear A160
    simp only [Option.some.injEq, Prod.mk.injEq] at H
    obtain ⟨rfl, rfl⟩ := H
    have hcz17 := cb2 BK543
    go_wp2_with (first | ((with_reducible refine gt 60 rfl ?_); refine gL 60 17 Tryd.func60 #[.agg #[.slice A0_0 l0_0.length c0_0, .int .i64 a0_1], .int .i64 a1] ?_; (with_reducible refine (spec_l3Path.calls kj2 _ _ l0_0 a0_1 a1 t546 _ ?side1 ?side2 A15.out).mono ?_); (case side1 => exact sD (Kd.C_below HR0_0.out HB.out)); (case side2 => exact HC0_0.out); rintro e w18 ⟨v547, rfl, ho0, hb⟩; refine ⟨_, rfl, ?_⟩; have HO548 := Aside0.mk (Kd.R_lower ho0 (below_size sC)); replace BK543 := nK BK543 hb; replace HB := nSC hb; try clear hb; (try clear ho0); obtain ⟨Ao19, co19, eo19⟩ := Kd.R_slice HO548.out; subst eo19) | ((with_reducible refine gt 59 rfl ?_); refine gL 59 18 Tryd.func59 #[.slice Ao19 t546.length co19] ?_; (with_reducible refine (spec_l2Of.calls kj2 _ _ t546 t549 _ ?side1 ?side2 A16.out).mono ?_); (case side1 => exact sD (Kd.R_reads' HO548.out).2.2); (case side2 => exact (Kd.R_reads' HO548.out).2.1); rintro e w' ⟨rfl, ⟨nd, rfl⟩⟩; refine ⟨_, rfl, ?_⟩))
    go_ret2
    exact ⟨sE, sC⟩

/-! ### slices_Reverse_string_string: function 87 -/
def slices_Reverse_string_string.l0 : Nat → List ByteArray → Int → Int → Option (List ByteArray)
 | 0, _, _, _ => none
 | k + 1, x0, x2, x3 => if x2 < x3 then (if 0 ≤ x3 then (if x3 < (x0.length : Int) then (if 0 ≤ x2 then (if x2 < (x0.length : Int) then (slices_Reverse_string_string.l0 k ((x0.set (x2 : Int).toNat (rdOf ByteArray.empty x0 x3)).set (x3 : Int).toNat (rdOf ByteArray.empty x0 x2)) (wrap64 (x2 + 1)) (wrap64 (x3 - 1))) else (none)) else (none)) else (none)) else (none)) else (some x0)
def slices_Reverse_string_string.f (k : Nat) (l0 : List ByteArray) : Option (List ByteArray) := slices_Reverse_string_string.l0 k l0 0 (wrap64 ((l0.length : Int) - 1))
theorem slices_Reverse_string_string.mono_l : ∀ k, (∀ y0 y1 y2, LeO (slices_Reverse_string_string.l0 k y0 y1 y2) (slices_Reverse_string_string.l0 (k + 1) y0 y1 y2))
 | 0 => fun _ _ _ r h => by simp [slices_Reverse_string_string.l0] at h
 | k + 1 => by
  have ih0 := slices_Reverse_string_string.mono_l k
  ·intro y0 y1 y2
   unfold slices_Reverse_string_string.l0
   exact mo
theorem slices_Reverse_string_string.mono : ∀ a0 k, LeO (slices_Reverse_string_string.f k a0) (slices_Reverse_string_string.f (k + 1) a0) := by
 intro a0 k
 have ih0 := slices_Reverse_string_string.mono_l k
 unfold slices_Reverse_string_string.f
 exact mo
def slices_Reverse_string_string.T3 : Bool × List (List Nat × List Nat) := (true, [([], []), ([], []), ([], []), ([], []), ([], []), ([], []), ([4, 5], [4, 5]), ([6], [6]), ([], []), ([], []), ([8, 9], [8, 9]), ([10], [10]), ([0, 1, 0, 1, 4, 5, 6, 7, 11], [0, 1]), ([12, 7, 0, 1, 4, 5, 6, 7, 11], [7, 12]), ([2, 3, 0, 1, 2, 3, 4, 5, 6, 7, 8, 9, 10, 11, 12, 13], [2, 3]), ([14, 11, 13, 0, 1, 2, 3, 4, 5, 6, 7, 8, 9, 10, 11, 12, 13], [11, 14])])
def slices_Reverse_string_string.B3 : List Nat := [0, 0, 0, 0, 0, 0, 48, 112, 0, 0, 768, 1792, 4083, 8179, 16383, 32767]
theorem slices_Reverse_string_string.tab3 : rtab .any (opsOf Tryd.f87 3) = slices_Reverse_string_string.T3 := by kernel_rfl
theorem slices_Reverse_string_string.bits3 : waitsOk slices_Reverse_string_string.T3.2 slices_Reverse_string_string.B3 = true := by kernel_rfl
set_option maxHeartbeats 8000000 in
set_option maxRecDepth 100000 in
theorem slices_Reverse_string_string.calls (k : Nat) (P0_ : Nat → Prop) (u9000_ : Value) (l0 : List ByteArray) (r : List ByteArray) (w0 w : World) (hB : Below w0.heap.size w0 w) (ho0 : Kd.R Kd.string 9 w w0.heap.size P0_ u9000_ l0) (h : slices_Reverse_string_string.f k l0 = some r) :
  Calls Tryd.prog 87 #[u9000_] w fun e w' => e = .returned (.tuple #[]) ∧ Kd.R Kd.string 9 w' w0.heap.size (fun k_ => (P0_ k_ ∨ w.heap.size ≤ k_)) u9000_ r ∧ Below w0.heap.size w0 w' ∧ Kept w w' (fun k_ => P0_ k_) := by
 have HO0 := Aside0.mk (show Kd.R Kd.string 9 w w0.heap.size (fun k_ => (P0_ k_ ∨ w.heap.size ≤ k_)) u9000_ l0 from Kd.R_mono ho0 (fun k_ hk => (.inl hk)))
 have HK := Aside0.mk (Kept.refl w (fun k_ => P0_ k_))
 have HW0 := Aside0.mk hB.size
 have HB := Aside0.mk hB
 clear hB
 have H : (slices_Reverse_string_string.l0 k l0 0 (wrap64 ((l0.length : Int) - 1))) = some r := h
 clear h
 have H' := Aside0.mk H
 clear H
 obtain ⟨Ao2, co2, eo2⟩ := Kd.R_slice HO0.out
 subst eo2
 go_enter Tryd.func87, Tryd.ntmps87
 go_wp2
 go_loopg [2, 3] k (fun kq v2 v3 w' => ∃ (x0_1 : List ByteArray) (x2_1 : Int) (x3_1 : Int), v2 = .int .i64 x2_1 ∧ v3 = .int .i64 x3_1 ∧ Aside0 (slices_Reverse_string_string.l0 kq x0_1 x2_1 x3_1 = some r) ∧ Aside0 (kq ≤ k) ∧ Aside0 (Kd.R Kd.string 9 w' w0.heap.size (fun k_ => (P0_ k_ ∨ w.heap.size ≤ k_)) (.slice Ao2 l0.length co2) x0_1) ∧ Aside0 (Kept w w' (fun k_ => P0_ k_)) ∧ Aside0 (Below w0.heap.size w0 w'))
 case atStart => exact ⟨(l0), (0), (wrap64 ((l0.length : Int) - 1)), sR, sR, H', ⟨Nat.le_refl _⟩, ⟨rR HO0⟩, ⟨by repeat (first | (with_reducible first | exact HK.out | apply Kept.alloc | apply Kept.drewN | apply Kept.drew) | exact HK.out)⟩, ⟨sB⟩⟩
 case round =>
  clear H'
  try clear p2
  obtain ⟨x0_1, x2_1, x3_1, rfl, rfl, HA, HK1, HO_0, HK, HB⟩ := hrel
  have hl0_1 := (Kd.R_reads' HO_0.out).1
  rw [hl0_1] at HO_0
  (try simp only [hl0_1])
  cases gk with
  | zero => exact absurd HA.out (by simp [slices_Reverse_string_string.l0])
  | succ k1 =>
   have H := HA.out
   clear HA
   simp only [slices_Reverse_string_string.l0] at H
   by_cases c3 : x2_1 < x3_1
   ·rw [if_pos c3] at H
    have c3b0 := decide_eq_true c3
    clear c3
    by_cases c4 : 0 ≤ x3_1
    ·rw [if_pos c4] at H
     have c4b0 := decide_eq_true c4
     clear c4
     by_cases c5 : x3_1 < (x0_1.length : Int)
     ·rw [if_pos c5] at H
      have c5b0 := decide_eq_true c5
      clear c5
      by_cases c6 : 0 ≤ x2_1
      ·rw [if_pos c6] at H
       have c6b0 := decide_eq_true c6
       clear c6
       by_cases c7 : x2_1 < (x0_1.length : Int)
       ·rw [if_pos c7] at H
        have c7b0 := decide_eq_true c7
        clear c7
        obtain ⟨y552, hy552⟩ : ∃ y_ : List ByteArray, y_ = (x0_1.set (x2_1 : Int).toNat (rdOf ByteArray.empty x0_1 x3_1)) := ⟨_, rfl⟩
        replace H : (slices_Reverse_string_string.l0 k1 (y552.set (x3_1 : Int).toNat (rdOf ByteArray.empty x0_1 x2_1)) (wrap64 (x2_1 + 1)) (wrap64 (x3_1 - 1))) = some r := by first | (rw [hy552]; with_reducible exact H) | (have H2_ := (Option.bind_some _ _).symm.trans H; rw [hy552]; with_reducible exact H2_) | (have H2_ := (Option.bind_some _ _).symm.trans H; with_reducible exact H2_) | with_reducible exact H | (rw [hy552]; exact H) | exact H
        have Ny552 := Aside0.mk hy552
        clear hy552
        obtain ⟨y553, hy553⟩ : ∃ y_ : List ByteArray, y_ = (y552.set (x3_1 : Int).toNat (rdOf ByteArray.empty x0_1 x2_1)) := ⟨_, rfl⟩
        replace H : (slices_Reverse_string_string.l0 k1 y553 (wrap64 (x2_1 + 1)) (wrap64 (x3_1 - 1))) = some r := by first | (rw [hy553]; with_reducible exact H) | (have H2_ := (Option.bind_some _ _).symm.trans H; rw [hy553]; with_reducible exact H2_) | (have H2_ := (Option.bind_some _ _).symm.trans H; with_reducible exact H2_) | with_reducible exact H | (rw [hy553]; exact H) | exact H
        have Ny553 := Aside0.mk hy553
        clear hy553
        have H' := Aside0.mk H
        clear H
        try go_wp2
        have n0_ := Aside0.mk (Kd.R_drew HO_0.out)
        have n1_ := Aside0.mk (Kept.drew HK.out)
        have n2_ := Aside0.mk (below_drew1 HB.out)
        clear HO_0
        clear HK
        clear HB
        have HO_0 := n0_
        have HK := n1_
        have HB := n2_
        clear n0_ n1_ n2_
        have p550 : 0 ≤ (x3_1 : Int) := sO
        have q550 : x3_1 < (x0_1.length : Int) := sO
        obtain ⟨ad550, e550, hx550_0⟩ := Kd.at_string (Kd.R_reads' HO_0.out).2.2 x3_1 p550 q550
        cases e550
        replace p550 := eq_true p550
        replace q550 := eq_true q550
        have p551 : 0 ≤ (x2_1 : Int) := sO
        have q551 : x2_1 < (x0_1.length : Int) := sO
        obtain ⟨ad551, e551, hx551_0⟩ := Kd.at_string (Kd.R_reads' HO_0.out).2.2 x2_1 p551 q551
        obtain rfl : ad550 = ad551 := (by injection e551)
        replace p551 := eq_true p551
        replace q551 := eq_true q551
        have p8 : 0 ≤ (x2_1 : Int) := sO
        have q8 : (x2_1 : Int) < ((x0_1.length : Int) : Int) := sO
        obtain ⟨go8, co8, eo8, gb8, gl8, cl8, HG8⟩ := Kd.R_form HO_0.out (by omega)
        (first | cases eo8 | (injection eo8 with ea_ en_ ec_; (first | subst ea_ | (injection ea_ with ea_; subst ea_)); subst ec_; clear en_))
        have GB8 := Aside0.mk gb8
        have GG8 := Aside0.mk HG8
        clear gb8 gl8 HG8
        have HMgo8 := Aside0.mk (show (P0_ go8 ∨ w.heap.size ≤ go8) from (HO_0.out.1 _ rfl))
        (first | simp only [add_plain] at hx550_0 | skip)
        (first | simp only [add_plain] at hx551_0 | skip)
        obtain ⟨hx8_0, hf8_0⟩ := Kd.R_celln (⟨#[]⟩ : ByteArray) HO_0.out (x2_1 : Int) p8 q8
        replace p8 := eq_true p8
        replace q8 := eq_true q8
        have HP11 := Kd.R_putn HO_0.out (x2_1 : Int) (rdOf ByteArray.empty x0_1 x3_1)
        rw [← Ny552.out] at HP11
        have HQ11 := Aside0.mk HP11
        clear HP11
        have p9 : 0 ≤ (x3_1 : Int) := sO
        have q9 : (x3_1 : Int) < ((x0_1.length : Int) : Int) := sO
        obtain ⟨hx9_0, hf9_0⟩ := Kd.R_celln (⟨#[]⟩ : ByteArray) HQ11.out (x3_1 : Int) p9 q9
        replace p9 := eq_true p9
        replace q9 := eq_true q9
        have HP12 := Kd.R_putn HQ11.out (x3_1 : Int) (rdOf ByteArray.empty x0_1 x2_1)
        rw [← Ny553.out] at HP12
        have HQ12 := Aside0.mk HP12
        clear HP12
        refine st2 16 [13, 15] hx550_0 hx551_0 (fun hHeld => ?_); refine with_tabW slices_Reverse_string_string.tab3 slices_Reverse_string_string.bits3 (fun HT_ HW_ => ?_)
        generalize wr.drew = w10 at HO_0 HK HB GG8 HQ11 HQ12 hf8_0 hf9_0 hx550_0 hx551_0 hx8_0 hx9_0 hHeld ⊢
        refine pu 0 14 ?_
        refine pu 1 15 ?_
        refine pu 2 16 ?_
        refine pu 3 17 ?_
        refine pu 4 18 ?_
        refine pu 5 19 ?_
        refine pu 6 20 ?_
        refine pu 8 22 ?_
        refine pu 9 23 ?_
        refine pu 10 24 ?_
        refine tk2 7 21 ?_
        refine tk2 11 25 ?_
        refine pu 12 26 ?_
        refine last_ (i := 13) (N := none) #[true, true, true, true, true, true, true, true, true, true, true, true, true, true, false, false] rfl rfl (one_of HT_.out (by kernel_rfl)) (by decide) (fun K hK => ?_)
        refine skip_ (w1 := ?_) (by rfl) rfl ?_ ?_
        rotate_left
        ·go_simp
         rfl
        refine hK.out _ _ ?_
        clear hK K
        refine pu 14 27 ?_
        refine last_ (i := 15) (N := none) #[true, true, true, true, true, true, true, true, true, true, true, true, true, true, true, true] rfl rfl (one_of HT_.out (by kernel_rfl)) (by decide) (fun K hK => ?_)
        refine skip_ (w1 := ?_) (by rfl) rfl ?_ ?_
        rotate_left
        ·go_simp
         rfl
        refine hK.out _ _ ?_
        clear hK K
        refine dn ?_
        try go_wp2
        (try simp only [← hl0_1])
        go_roundg k1
        case measure => have := HK1.out; omega
        case rel => exact ⟨(y553), (wrap64 (x2_1 + 1)), (wrap64 (x3_1 - 1)), sR, sR, H', ⟨by have := HK1.out; omega⟩, ⟨by (try simp only [hl0_1]); (with_reducible repeat (first | apply Kd.R_alloc | apply Kd.R_drewN | apply Kd.R_drew)); exact HQ12.out⟩, ⟨by repeat (first | (with_reducible first | exact HK.out | apply Kept.alloc | apply Kept.drewN | apply Kept.drew | refine Kept.setCell ?_ HMgo8.out _ | refine Kept.setCell ?_ HMgo8.out _) | exact HK.out)⟩, ⟨by repeat (first | (with_reducible first | exact HB.out | apply below_alloc | apply pw_below_drewN | apply below_drew1 | refine below_set ?_ GB8.out | refine below_set ?_ GB8.out) | exact HB.out)⟩⟩
       ·rw [if_neg c7] at H
        exact absurd H (by simp)
      ·rw [if_neg c6] at H
       exact absurd H (by simp)
     ·rw [if_neg c5] at H
      exact absurd H (by simp)
    ·rw [if_neg c4] at H
     exact absurd H (by simp)
   ·rw [if_neg c3] at H
    have c3b0 := decide_eq_false c3
    clear c3
    obtain rfl := Option.some.inj H
    go_wp2
    first | go_end0 | ((try simp only [Exit.inBlock, Exit.then]); refine bodyPost_ret (results_none rfl _ _ _) rfl ?_)
    exact ⟨sE, (by first | exact (by (with_reducible repeat (first | apply Kd.R_alloc | apply Kd.R_drewN | apply Kd.R_drew)); exact HO_0.out) | (simp only [hl0_1]; exact (by (with_reducible repeat (first | apply Kd.R_alloc | apply Kd.R_drewN | apply Kd.R_drew)); exact HO_0.out))), by repeat (first | (with_reducible first | exact HB.out | apply below_alloc | apply pw_below_drewN | apply below_drew1) | exact HB.out), by repeat (first | (with_reducible first | exact HK.out | apply Kept.alloc | apply Kept.drewN | apply Kept.drew) | exact HK.out)⟩

/-! ### strings_Join: function 108 -/
def strings_Join.text (l0 : List ByteArray) (a1 : ByteArray) : ByteArray := ⟨(Lib.join (l0.map (·.data.toList)) a1.data.toList).toArray⟩
def strings_Join.f (l0 : List ByteArray) (a1 : ByteArray) : Option ByteArray := if l0.length ≤ 140737488355328 ∧ (Lib.join (l0.map (·.data.toList)) a1.data.toList).length ≤ 140737488355328 then some (strings_Join.text l0 a1) else none
theorem strings_Join.calls (A0 : Option Addr) (c0 : Nat) (l0 : List ByteArray) (a1 : ByteArray) (r : ByteArray) (w : World) (hr0 : Kd.C Kd.string w A0 l0.length l0) (hc0 : l0.length ≤ c0) (h : strings_Join.f l0 a1 = some r) :
  Calls Tryd.prog 108 #[.slice A0 l0.length c0, .string a1] w fun e w' => e = .returned (.string r) ∧ Below w.heap.size w w' := by
 unfold strings_Join.f at h
 split at h
 ·rename_i hl
  obtain rfl := Option.some.inj h
  rcases Nat.eq_zero_or_pos l0.length with h0 | h0
  ·obtain rfl := List.eq_nil_of_length_eq_zero h0
   exact (Tryd.strings_Join_none A0 c0 a1 w).mono fun e w' ⟨he, hw⟩ => ⟨he, hw ▸ Below.refl _ _⟩
  ·obtain ⟨ad, rfl, hcell⟩ := hr0.2.2 h0
   have hcell' : ∀ j x, l0[j]? = some x → w.cell? (ad.add j) = some (.string x) := fun j x hj => by
    obtain ⟨c, _, hK, hc⟩ := hcell j _ hj
    obtain rfl : c = [Value.string x] := hK
    have := hc 0 _ rfl
    rwa [show j * Kd.string.sz + 0 = j from by show j * 1 + 0 = j; omega] at this
   have h1 := hcell' 0 _ (List.getElem?_eq_getElem h0)
   obtain ⟨b, off, spot⟩ := ad
   have hspot : spot = none := by
    cases spot with
    | none => rfl
    | some x => simp [World.cell?, Addr.add] at h1; split at h1 <;> simp at h1
   subst hspot
   have hlt : b < w.heap.size := World.block_lt_of_cell? w _ h1
   exact (Tryd.strings_Join b off c0 l0 a1 w (fun j x hj => by rw [← hcell' j x hj, Addr.add_lit]) hlt hl.1 hc0 hl.2).mono fun e w' ⟨he, hb⟩ => ⟨he, hb⟩
 ·cases h

/-! ### impl_pathOf: function 88 -/
def impl_pathOf.f (l0 : List ByteArray) : Option (ByteArray) := (strings_Join.f l0 (⟨#[47]⟩ : ByteArray)).bind fun t554 => (if 1 + t554.size ≤ 9223372036854775807 then (some ((⟨#[47]⟩ : ByteArray) ++ t554)) else (none))
set_option maxHeartbeats 8000000 in
set_option maxRecDepth 100000 in
theorem impl_pathOf.calls (A0 : Option Addr) (c0 : Nat) (l0 : List ByteArray) (r : ByteArray) (w : World) (hr0 : Kd.C Kd.string w A0 l0.length l0) (hc0 : l0.length ≤ c0) (h : impl_pathOf.f l0 = some r) :
  Calls Tryd.prog 88 #[.slice A0 l0.length c0] w fun e w' => e = .returned (.string r) ∧ Below w.heap.size w w' := by
 have HR0 := Aside0.mk hr0
 have HC0 := Aside0.mk hc0
 clear hr0 hc0
 have HB := Aside0.mk (Below.refl w.heap.size w)
 have H : ((strings_Join.f l0 (⟨#[47]⟩ : ByteArray)).bind fun t554 => (if 1 + t554.size ≤ 9223372036854775807 then (some ((⟨#[47]⟩ : ByteArray) ++ t554)) else (none))) = some r := h
 clear h
 obtain ⟨t554, A20, H⟩ := Option.bind_eq_some_iff.mp H
 try dsimp only at H
 replace A20 := Aside0.mk A20; have A2 := A20; clear A20
 by_cases c3 : 1 + t554.size ≤ 9223372036854775807
 ·rw [if_pos c3] at H
  have c3b0 := eq_true c3
  have c3b1 := decide_eq_true c3
  try have c3b2 : (9223372036854775807 < 1 + t554.size) = False := eq_false (Nat.not_lt.2 c3)
  obtain rfl := Option.some.inj H
  go_enter Tryd.func88, Tryd.ntmps88
  go_wp2_with (first | ((with_reducible refine gt 108 rfl ?_); refine gL 108 4 Tryd.func108 #[.slice A0 l0.length c0, .string (⟨#[47]⟩ : ByteArray)] ?_; (with_reducible refine (strings_Join.calls _ _ l0 (⟨#[47]⟩ : ByteArray) t554 _ ?side1 ?side2 A2.out).mono ?_); (case side1 => repeat (first | exact HR0.out | (with_reducible refine Kd.C_alloc ?_ _) | (with_reducible refine Kd.C_drewN ?_ _) | (with_reducible refine Kd.C_drew ?_))); (case side2 => exact HC0.out); rintro e w4 ⟨rfl, hb⟩; refine ⟨_, rfl, ?_⟩; replace HB := nSB hb; try clear hb))
  go_ret
  exact ⟨sE, sB⟩
 ·rw [if_neg c3] at H
  exact absurd H (by simp)

/-! ### impl_Fs_pathTo: function 61 -/
def impl_Fs_pathTo.l0 : Nat → Int → List ByteArray → List (S53) → Int → Option (ByteArray)
 | 0, _, _, _, _ => none
 | k + 1, x1, x5, x556000, x556001 => if x1 = 0 then ((slices_Reverse_string_string.f k x5).bind fun t559 => ((impl_pathOf.f t559).bind fun t560 => (some t560))) else ((impl_Fs_parent.f k x556000 x556001 x1).bind fun bt561 => (if x5.length < 8796093022208 then (impl_Fs_pathTo.l0 k bt561.1 (x5 ++ [bt561.2]) x556000 x556001) else (none)))
def impl_Fs_pathTo.f (k : Nat) (l0_0 : List (S53)) (a0_1 : Int) (a1 : Int) : Option (ByteArray) := impl_Fs_pathTo.l0 k a1 (([] : List ByteArray)) l0_0 a0_1
theorem impl_Fs_pathTo.mono_l : ∀ k, (∀ y0 y1 y2 y3, LeO (impl_Fs_pathTo.l0 k y0 y1 y2 y3) (impl_Fs_pathTo.l0 (k + 1) y0 y1 y2 y3))
 | 0 => fun _ _ _ _ r h => by simp [impl_Fs_pathTo.l0] at h
 | k + 1 => by
  have ih0 := impl_Fs_pathTo.mono_l k
  ·intro y0 y1 y2 y3
   unfold impl_Fs_pathTo.l0
   have m0 := @impl_Fs_parent.mono
   have m1 := @slices_Reverse_string_string.mono
   exact mo
theorem impl_Fs_pathTo.mono : ∀ a0 a1 a2 k, LeO (impl_Fs_pathTo.f k a0 a1 a2) (impl_Fs_pathTo.f (k + 1) a0 a1 a2) := by
 intro a0 a1 a2 k
 have ih0 := impl_Fs_pathTo.mono_l k
 unfold impl_Fs_pathTo.f
 have m0 := @impl_Fs_parent.mono
 have m1 := @slices_Reverse_string_string.mono
 exact mo
set_option maxHeartbeats 8000000 in
set_option maxRecDepth 100000 in
theorem impl_Fs_pathTo.calls (k : Nat) (A0_0 : Option Addr) (c0_0 : Nat) (l0_0 : List (S53)) (a0_1 : Int) (a1 : Int) (r : ByteArray) (w : World) (hr0_0 : Kd.C k53 w A0_0 l0_0.length l0_0) (hc0_0 : l0_0.length ≤ c0_0) (h : impl_Fs_pathTo.f k l0_0 a0_1 a1 = some r) :
  Calls Tryd.prog 61 #[.agg #[.slice A0_0 l0_0.length c0_0, .int .i64 a0_1], .int .i64 a1] w fun e w' => e = .returned (.string r) ∧ Below w.heap.size w w' := by
 have hu29 := Tryd.underlying29
 have HR0_0 := Aside0.mk hr0_0
 have HC0_0 := Aside0.mk hc0_0
 clear hr0_0 hc0_0
 have HB := Aside0.mk (Below.refl w.heap.size w)
 have H : (impl_Fs_pathTo.l0 k a1 (([] : List ByteArray)) l0_0 a0_1) = some r := h
 clear h
 obtain ⟨y556, hy556⟩ : ∃ y_ : List ByteArray, y_ = (([] : List ByteArray)) := ⟨_, rfl⟩
 replace H : (impl_Fs_pathTo.l0 k a1 y556 l0_0 a0_1) = some r := by first | (rw [hy556]; with_reducible exact H) | (have H2_ := (Option.bind_some _ _).symm.trans H; rw [hy556]; with_reducible exact H2_) | (have H2_ := (Option.bind_some _ _).symm.trans H; with_reducible exact H2_) | with_reducible exact H | (rw [hy556]; exact H) | exact H
 have Ny556 := Aside0.mk hy556
 clear hy556
 have H' := Aside0.mk H
 clear H
 go_enter Tryd.func61, Tryd.ntmps61
 go_wp2_with (first | ((with_reducible refine gd 2 rfl ?_); refine bxE 2 #[.slice A0_0 l0_0.length c0_0, .int .i64 a0_1] 29 ?_; intro gb555 hg w3 hbox hb; have BK555 := Aside0.mk hbox; have GW555 := nGB hg; have GE555 := nGB hg; replace HB := nSB hb; clear hb hbox hg) | ((with_reducible refine gate_dst (N := 8) rfl ?_); refine Kd.R_lit Kd.string _ 9 ?hg (N := 8) ?hd (xs := ([] : List ByteArray)) (inner := []) (ok := fun _ => True) (okp := fun _ => True) ?hr ?hp (fun _ hk => hk) trivial (Below.refl _ _) (Nat.le_refl _) (by simp) ?_; (case hd => rfl); (case hg => rfl); (case hr => first | (go_simp; done) | (go_simp; rfl)); (case hp => exact (Reps.none _ _)); intro v557 w4 ho5 hb hg_ hnew_; clear hg_ hnew_; (first | rw [← Ny556.out] at ho5 | (simp only [Int.reduceToNat] at ho5; rw [← Ny556.out] at ho5)); have HO558 := Aside0.mk (Kd.R_lower ho5 (below_size sC)); replace BK555 := nK BK555 hb; replace HB := nSC hb; clear hb ho5))
 go_loopg [1, 5] k (fun kq v1 v5 w' => ∃ (x1_1 : Int) (x5_1 : List ByteArray), v1 = .int .i64 x1_1 ∧ Aside0 (impl_Fs_pathTo.l0 kq x1_1 x5_1 l0_0 a0_1 = some r) ∧ Aside0 (kq ≤ k) ∧ Aside0 (Kd.R Kd.string 9 w' w.heap.size (fun _ => True) v5 x5_1) ∧ Aside0 (w'.heap[gb555]? = some (.cells #[(.slice A0_0 l0_0.length c0_0), .int .i64 a0_1] 29 (0, 0))) ∧ Aside0 (Below w.heap.size w w'))
 case atStart => exact ⟨(a1), (y556), sR, H', ⟨Nat.le_refl _⟩, ⟨rR HO558⟩, ⟨sK BK555⟩, ⟨sC⟩⟩
 case round =>
  clear H'
  try clear p2
  obtain ⟨x1_1, x5_1, rfl, HA, HK1, HO_5, BK555, HB⟩ := hrel
  cases gk with
  | zero => exact absurd HA.out (by simp [impl_Fs_pathTo.l0])
  | succ k1 =>
   have H := HA.out
   clear HA
   simp only [impl_Fs_pathTo.l0] at H
   by_cases c6 : x1_1 = 0
   ·rw [if_pos c6] at H
    have c6b0 := beq_iff_eq.mpr c6
    have c6b1 := bne_eq_false_iff_eq.mpr c6
    clear c6
    obtain ⟨t559, A70, H⟩ := Option.bind_eq_some_iff.mp H
    try dsimp only at H
    replace A70 := Aside0.mk A70; have A7 := A70; clear A70
    obtain ⟨t560, A80, H⟩ := Option.bind_eq_some_iff.mp H
    try dsimp only at H
    replace A80 := Aside0.mk A80; have A8 := A80; clear A80
    obtain rfl := Option.some.inj H
    obtain ⟨Ao9, co9, eo9⟩ := Kd.R_slice HO_5.out
    subst eo9
    go_wp2_with (first | ((with_reducible refine gt 87 rfl ?_); refine gL 87 23 Tryd.func87 #[.slice Ao9 x5_1.length co9] ?_; (with_reducible refine (slices_Reverse_string_string.calls k1 (fun k_ => some k_ = (.slice Ao9 x5_1.length co9 : Value).ownBlock) (.slice Ao9 x5_1.length co9) x5_1 t559 w _ ?side1 ?side2 A7.out).mono ?_); (case side1 => repeat (first | (with_reducible first | exact HB.out | apply below_alloc | apply pw_below_drewN | apply below_drew1 | refine below_set ?_ GE555.out) | exact HB.out)); (case side2 => exact Kd.R_tight rfl HO_5.out); rintro e w10 ⟨rfl, hy0, hb, hkp⟩; refine ⟨_, rfl, ?_⟩; replace BK555 := Aside0.mk (blk_kept (sK BK555) hkp (fun hs_ => (fun e_ => (Kd.R_ne HO_5.out BK555.out (by decide)) e_) hs_)); replace HO_5 := Aside0.mk (Kd.R_reok rfl hy0 (fun k_ e_ => HO_5.out.1 k_ e_)); replace HB := Aside0.mk (hb); (try clear hb); (try clear hkp); (try clear hy0)) | ((with_reducible refine gt 88 rfl ?_); refine goesL_ (some 25) rfl rfl Tryd.func88 (by kernel_rfl) rfl #[.slice Ao9 t559.length co9] rfl (by (try simp only [List.map_toArray, List.map_cons, List.map_nil]); first | done | (rw [show t559.length = x5_1.length from (Kd.R_reads' HO_5.out).1.symm] <;> rfl) | rfl | (simp only [List.length_drop, List.length_take]; rfl)) ?_; (with_reducible refine (impl_pathOf.calls _ _ t559 t560 _ ?side1 ?side2 A8.out).mono ?_); (case side1 => exact sD (Kd.R_reads' HO_5.out).2.2); (case side2 => rw [show t559.length = x5_1.length from (Kd.R_reads' HO_5.out).1.symm]; exact (Kd.R_reads' HO_5.out).2.1); rintro e w11 ⟨rfl, hb⟩; refine ⟨_, rfl, ?_⟩; replace HO_5 := nR HO_5 hb; replace BK555 := nK BK555 hb; replace HB := nSC hb; try clear hb))
    go_ret
    exact ⟨sE, sC⟩
   ·rw [if_neg c6] at H
    have c6b0 := beq_eq_false_iff_ne.mpr c6
    have c6b1 := bne_iff_ne.mpr c6
    obtain ⟨⟨t561, t562⟩, A120, H⟩ := Option.bind_eq_some_iff.mp H
    try dsimp only at H
    replace A120 := Aside0.mk A120; have A12 := A120; clear A120
    by_cases c13 : x5_1.length < 8796093022208
    ·rw [if_pos c13] at H
     have LMc13 := Aside0.mk c13
     clear c13
     obtain ⟨y563, hy563⟩ : ∃ y_ : List ByteArray, y_ = (x5_1 ++ [t562]) := ⟨_, rfl⟩
     replace H : (impl_Fs_pathTo.l0 k1 t561 y563 l0_0 a0_1) = some r := by first | (rw [hy563]; with_reducible exact H) | (have H2_ := (Option.bind_some _ _).symm.trans H; rw [hy563]; with_reducible exact H2_) | (have H2_ := (Option.bind_some _ _).symm.trans H; with_reducible exact H2_) | with_reducible exact H | (rw [hy563]; exact H) | exact H
     have Ny563 := Aside0.mk hy563
     clear hy563
     have H' := Aside0.mk H
     clear H
     have hcz14 := cb2 BK555
     go_wp2_with (first | ((with_reducible refine gt 58 rfl ?_); refine gL 58 14 Tryd.func58 #[.agg #[.slice A0_0 l0_0.length c0_0, .int .i64 a0_1], .int .i64 x1_1] ?_; (with_reducible refine (impl_Fs_parent.calls k1 _ _ l0_0 a0_1 x1_1 t561 t562 _ ?side1 ?side2 A12.out).mono ?_); (case side1 => exact sD (Kd.C_below HR0_0.out HB.out)); (case side2 => exact HC0_0.out); rintro e w15 ⟨rfl, hb⟩; refine ⟨_, rfl, ?_⟩; replace HO_5 := nR HO_5 hb; replace BK555 := nK BK555 hb; replace HB := nSC hb; try clear hb) | ((with_reducible refine gate_builtin (b := .append) (xs := #[.tmp 17, .tmp 19]) rfl ?_); at_builtin; refine Kd.R_append Kd.string (w0 := w) w.heap.size rfl (.tmp 17) (.tmp 19) 39 9 (.string ⟨#[]⟩) 16 rfl Tryd.underlying39 info9 rfl (by decide) (by omega) u5 x5_1 t562 [.string t562] (fun _ => True) (fun _ => False) rfl rfl ?aP (fun _ hk => hk.elim) ?aF ?aO ?aB ?aS ?aL ?_; (case aP => exact rfl); (case aB => exact sC); (case aF => exact (fun _ _ => trivial)); (case aO => exact (by (with_reducible repeat (first | apply Kd.R_alloc | apply Kd.R_drewN | apply Kd.R_drew)); exact HO_5.out)); (case aS => exact (below_size sC)); (case aL => have := LMc13.out; omega); intro v564 w16 ho hb hg hat; rw [← Ny563.out] at ho; replace BK555 := Aside0.mk (blk_grown (g := gb555) (o := .cells #[.slice A0_0 l0_0.length c0_0, .int .i64 a0_1] 29 (0, 0)) (sK BK555) hg (Kd.R_ne HO_5.out BK555.out (by decide))); replace HB := Aside0.mk (hb); have HO565 := Aside0.mk (ho); clear HO_5; clear ho hb hg hat))
     go_roundg k1
     case measure => have := HK1.out; omega
     case rel => exact ⟨(t561), (y563), sR, H', ⟨by have := HK1.out; omega⟩, ⟨rR HO565⟩, ⟨sK BK555⟩, ⟨sC⟩⟩
    ·rw [if_neg c13] at H
     exact absurd H (by simp)

/-! ### impl_PathTo: function 27 -/
def impl_PathTo.f (k : Nat) (l0_0 : List (S53)) (a0_1 : Int) (a1 : Int) : Option (ByteArray × Bool) := (impl_isGoodAt.f k l0_0 a0_1 a1).bind fun t567 => (if t567 = true then ((impl_Fs_isDir.f l0_0 a0_1 a1).bind fun t568 => (if t568 = true then ((impl_Fs_pathTo.f k l0_0 a0_1 a1).bind fun t569 => (some (t569, true))) else (some ((⟨#[]⟩ : ByteArray), false)))) else (some ((⟨#[]⟩ : ByteArray), false)))
theorem impl_PathTo.mono : ∀ a0 a1 a2 k, LeO (impl_PathTo.f k a0 a1 a2) (impl_PathTo.f (k + 1) a0 a1 a2) := by
 intro a0 a1 a2 k
 unfold impl_PathTo.f
 have m0 := @impl_Fs_pathTo.mono
 have m1 := @impl_isGoodAt.mono
 exact mo
set_option maxHeartbeats 8000000 in
set_option maxRecDepth 100000 in
theorem impl_PathTo.calls (k : Nat) (A0_0 : Option Addr) (c0_0 : Nat) (l0_0 : List (S53)) (a0_1 : Int) (a1 : Int) (r1 : ByteArray) (r2 : Bool) (w : World) (hr0_0 : Kd.C k53 w A0_0 l0_0.length l0_0) (hc0_0 : l0_0.length ≤ c0_0) (h : impl_PathTo.f k l0_0 a0_1 a1 = some (r1, r2)) :
  Calls Tryd.prog 27 #[.agg #[.slice A0_0 l0_0.length c0_0, .int .i64 a0_1], .int .i64 a1] w fun e w' => e = .returned (.tuple #[.string r1, .bool r2]) ∧ Below w.heap.size w w' := by
 have hu29 := Tryd.underlying29
 have HR0_0 := Aside0.mk hr0_0
 have HC0_0 := Aside0.mk hc0_0
 clear hr0_0 hc0_0
 have HB := Aside0.mk (Below.refl w.heap.size w)
 have H : ((impl_isGoodAt.f k l0_0 a0_1 a1).bind fun t567 => (if t567 = true then ((impl_Fs_isDir.f l0_0 a0_1 a1).bind fun t568 => (if t568 = true then ((impl_Fs_pathTo.f k l0_0 a0_1 a1).bind fun t569 => (some (t569, true))) else (some ((⟨#[]⟩ : ByteArray), false)))) else (some ((⟨#[]⟩ : ByteArray), false)))) = some (r1, r2) := h
 clear h
 obtain ⟨t567, A30, H⟩ := Option.bind_eq_some_iff.mp H
 try dsimp only at H
 replace A30 := Aside0.mk A30; have A3 := A30; clear A30
 by_cases c4 : t567 = true
 ·subst c4
  rw [if_pos rfl] at H
  obtain ⟨t568, A50, H⟩ := Option.bind_eq_some_iff.mp H
  try dsimp only at H
  replace A50 := Aside0.mk A50; have A5 := A50; clear A50
  by_cases c6 : t568 = true
  ·subst c6
   rw [if_pos rfl] at H
   obtain ⟨t569, A70, H⟩ := Option.bind_eq_some_iff.mp H
   try dsimp only at H
   replace A70 := Aside0.mk A70; have A7 := A70; clear A70
   simp only [Option.some.injEq, Prod.mk.injEq] at H
   obtain ⟨rfl, rfl⟩ := H
   go_enter Tryd.func27, Tryd.ntmps27
   go_wp2_with (first | ((with_reducible refine gd 2 rfl ?_); refine bxE 2 #[.slice A0_0 l0_0.length c0_0, .int .i64 a0_1] 29 ?_; intro gb566 hg w8 hbox hb; have BK566 := Aside0.mk hbox; have GW566 := nGB hg; have GE566 := nGB hg; replace HB := nSB hb; clear hb hbox hg; have hcz9 := cb2 BK566) | ((with_reducible refine gt 52 rfl ?_); refine gL 52 8 Tryd.func52 #[.agg #[.slice A0_0 l0_0.length c0_0, .int .i64 a0_1], .int .i64 a1] ?_; (with_reducible refine (impl_isGoodAt.calls k _ _ l0_0 a0_1 a1 true _ ?side1 ?side2 A3.out).mono ?_); (case side1 => exact sD (Kd.C_below HR0_0.out HB.out)); (case side2 => exact HC0_0.out); rintro e w10 ⟨rfl, hb⟩; refine ⟨_, rfl, ?_⟩; replace BK566 := nK BK566 hb; replace HB := nSC hb; try clear hb; have hcz11 := cb2 BK566) | (go_at_call 57; (with_reducible refine (impl_Fs_isDir.calls _ _ l0_0 a0_1 a1 true _ ?side1 ?side2 A5.out).mono ?_); (case side1 => exact sD (Kd.C_below HR0_0.out HB.out)); (case side2 => exact HC0_0.out); rintro e w12 ⟨rfl, hb⟩; replace BK566 := nK BK566 hb; replace HB := nSC hb; try clear hb; have hcz13 := cb2 BK566) | ((with_reducible refine gt 61 rfl ?_); refine gL 61 18 Tryd.func61 #[.agg #[.slice A0_0 l0_0.length c0_0, .int .i64 a0_1], .int .i64 a1] ?_; (with_reducible refine (impl_Fs_pathTo.calls k _ _ l0_0 a0_1 a1 t569 _ ?side1 ?side2 A7.out).mono ?_); (case side1 => exact sD (Kd.C_below HR0_0.out HB.out)); (case side2 => exact HC0_0.out); rintro e w14 ⟨rfl, hb⟩; refine ⟨_, rfl, ?_⟩; replace BK566 := nK BK566 hb; replace HB := nSC hb; try clear hb))
   go_ret2
   exact ⟨sE, sC⟩
  ·replace c6 := Bool.eq_false_iff.mpr c6
   subst c6
   rw [if_neg (show ¬ (false = true) by decide)] at H
   simp only [Option.some.injEq, Prod.mk.injEq] at H
   obtain ⟨rfl, rfl⟩ := H
   go_enter Tryd.func27, Tryd.ntmps27
   go_wp2_with (first | ((with_reducible refine gd 2 rfl ?_); refine bxE 2 #[.slice A0_0 l0_0.length c0_0, .int .i64 a0_1] 29 ?_; intro gb566 hg w15 hbox hb; have BK566 := Aside0.mk hbox; have GW566 := nGB hg; have GE566 := nGB hg; replace HB := nSB hb; clear hb hbox hg; have hcz16 := cb2 BK566) | ((with_reducible refine gt 52 rfl ?_); refine gL 52 8 Tryd.func52 #[.agg #[.slice A0_0 l0_0.length c0_0, .int .i64 a0_1], .int .i64 a1] ?_; (with_reducible refine (impl_isGoodAt.calls k _ _ l0_0 a0_1 a1 true _ ?side1 ?side2 A3.out).mono ?_); (case side1 => exact sD (Kd.C_below HR0_0.out HB.out)); (case side2 => exact HC0_0.out); rintro e w17 ⟨rfl, hb⟩; refine ⟨_, rfl, ?_⟩; replace BK566 := nK BK566 hb; replace HB := nSC hb; try clear hb; have hcz18 := cb2 BK566) | (go_at_call 57; (with_reducible refine (impl_Fs_isDir.calls _ _ l0_0 a0_1 a1 false _ ?side1 ?side2 A5.out).mono ?_); (case side1 => exact sD (Kd.C_below HR0_0.out HB.out)); (case side2 => exact HC0_0.out); rintro e w19 ⟨rfl, hb⟩; replace BK566 := nK BK566 hb; replace HB := nSC hb; try clear hb))
   go_ret2
   exact ⟨sE, sC⟩
 ·replace c4 := Bool.eq_false_iff.mpr c4
  subst c4
  rw [if_neg (show ¬ (false = true) by decide)] at H
  simp only [Option.some.injEq, Prod.mk.injEq] at H
  obtain ⟨rfl, rfl⟩ := H
  go_enter Tryd.func27, Tryd.ntmps27
  go_wp2_with (first | ((with_reducible refine gd 2 rfl ?_); refine bxE 2 #[.slice A0_0 l0_0.length c0_0, .int .i64 a0_1] 29 ?_; intro gb566 hg w20 hbox hb; have BK566 := Aside0.mk hbox; have GW566 := nGB hg; have GE566 := nGB hg; replace HB := nSB hb; clear hb hbox hg; have hcz21 := cb2 BK566) | ((with_reducible refine gt 52 rfl ?_); refine gL 52 8 Tryd.func52 #[.agg #[.slice A0_0 l0_0.length c0_0, .int .i64 a0_1], .int .i64 a1] ?_; (with_reducible refine (impl_isGoodAt.calls k _ _ l0_0 a0_1 a1 false _ ?side1 ?side2 A3.out).mono ?_); (case side1 => exact sD (Kd.C_below HR0_0.out HB.out)); (case side2 => exact HC0_0.out); rintro e w22 ⟨rfl, hb⟩; refine ⟨_, rfl, ?_⟩; replace BK566 := nK BK566 hb; replace HB := nSC hb; try clear hb))
  go_ret2
  exact ⟨sE, sC⟩

end Go.Proofs.YteffcglgdfhkmaaDoor.PFs
