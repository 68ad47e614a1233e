-- Written by a program of this session (wip/print2) out of the translation. Lean checks it.
import Derived.Test.YteffcglgdfhkmaaDoorPWkx0
import Derived.Test.YteffcglgdfhkmaaDoorPWkx4
import Derived.Test.YteffcglgdfhkmaaDoorPWkx16
namespace Go.Proofs.YteffcglgdfhkmaaDoor.PWk
open Go.RowKit Go.Proofs.YteffcglgdfhkmaaDoorW.PrintWords Go.Proofs.YteffcglgdfhkmaaDoorW.PrintLast Go.Proofs.YteffcglgdfhkmaaDoorW.PrintMore
attribute [local go_sem] max2_int min2_int max_two min_two max_three min_three max_four min_four   -- for this text's walks alone
set_option linter.unusedVariables false
set_option linter.unusedSimpArgs false
set_option maxHeartbeats 8000000
set_option maxRecDepth 100000

/-! ### spec_l3At: function 95 -/
def spec_l3At.l0 : Nat → ByteArray → List (S60) → Int → Int → Option (Int)
 | 0, _, _, _, _ => none
 | k + 1, x1, x7, x8, x9 => if x9 < x8 then (if 0 ≤ x9 then (if x9 < (x7.length : Int) then (if ((rd_T60 x7 x9).f0).toList = x1.toList then (some ((rd_T60 x7 x9).f1)) else (spec_l3At.l0 k x1 x7 x8 (wrap64 (x9 + 1)))) else (none)) else (none)) else (some (-1))
def spec_l3At.f (k : Nat) (l0 : List (S60)) (a1 : ByteArray) : Option (Int) := spec_l3At.l0 k a1 l0 (l0.length : Int) 0
theorem spec_l3At.calls (k : Nat) (A0 : Option Addr) (c0 : Nat) (l0 : List (S60)) (a1 : ByteArray) (r : Int) (w : World) (hr0 : Kd.C k60 w A0 l0.length l0) (hc0 : l0.length ≤ c0) (h : spec_l3At.f k l0 a1 = some r) :
  Calls Tryd.prog 95 #[.slice A0 l0.length c0, .string a1] w fun e w' => e = .returned (.int .i64 r) ∧ Below w.heap.size w w' := by
 have hu60 := Tryd.underlying60
 have HR0 := Aside0.mk hr0
 have HC0 := Aside0.mk hc0
 clear hr0 hc0
 have HB := Aside0.mk (Below.refl w.heap.size w)
 have H : (spec_l3At.l0 k a1 l0 (l0.length : Int) 0) = some r := h
 clear h
 have H' := Aside0.mk H
 clear H
 go_enter Tryd.func95, Tryd.ntmps95
 go_wp2
 go_loopg [9] k (fun kq v9 w' => ∃ (x9_1 : Int), v9 = .int .i64 x9_1 ∧ Aside0 (spec_l3At.l0 kq a1 l0 (l0.length : Int) x9_1 = some r) ∧ Aside0 (kq ≤ k) ∧ Aside0 (Below w.heap.size w w'))
 case atStart => exact ⟨(0), sR, H', ⟨Nat.le_refl _⟩, ⟨sB⟩⟩
 case round =>
  clear H'
  try clear p2
  obtain ⟨x9_1, rfl, HA, HK1, HB⟩ := hrel
  cases gk with
  | zero => exact absurd HA.out (by simp [spec_l3At.l0])
  | succ k1 =>
   have H := HA.out
   clear HA
   simp only [spec_l3At.l0] at H
   by_cases c3 : x9_1 < (l0.length : Int)
   ·rw [if_pos c3] at H
    have c3b0 := decide_eq_true c3
    clear c3
    obtain ⟨c4, H⟩ := iN H
    have c4b0 := decide_eq_true c4
    clear c4
    obtain ⟨c5, H⟩ := iN H
    have c5b0 := decide_eq_true c5
    clear c5
    by_cases c6 : ((rd_T60 l0 x9_1).f0).toList = a1.toList
    ·rw [if_pos c6] at H
     have c6b0 := beq_iff_eq.mpr c6
     have c6b1 := bne_eq_false_iff_eq.mpr c6
     clear c6
     obtain rfl := Option.some.inj H
     have p545 : 0 ≤ (x9_1 : Int) := sO
     have q545 : x9_1 < (l0.length : Int) := sO
     obtain ⟨ad545, e545, hx545_0, hx545_1⟩ := ab60 HR0.out HB x9_1 p545 q545
     cases e545
     replace p545 := eq_true p545
     replace q545 := eq_true q545
     go_wp2_with (first | ((with_reducible refine gd 6 rfl ?_); refine bxE 6 #[.string (⟨#[]⟩ : ByteArray), .int .i64 0] 60 ?_; intro gb546 hg w7 hbox hb; have BK546 := Aside0.mk hbox; have GW546 := nGB hg; have GE546 := nGB hg; replace HB := nSB hb; clear hb hbox hg; have hcz8 := cb2 BK546))
     go_ret
     exact ⟨sE, sC⟩
    ·rw [if_neg c6] at H
     have c6b0 := beq_eq_false_iff_ne.mpr c6
     have c6b1 := bne_iff_ne.mpr c6
     have H' := Aside0.mk H
     clear H
     have p545 : 0 ≤ (x9_1 : Int) := sO
     have q545 : x9_1 < (l0.length : Int) := sO
     obtain ⟨ad545, e545, hx545_0, hx545_1⟩ := ab60 HR0.out HB x9_1 p545 q545
     cases e545
     replace p545 := eq_true p545
     replace q545 := eq_true q545
     go_wp2_with (first | ((with_reducible refine gd 6 rfl ?_); refine bxE 6 #[.string (⟨#[]⟩ : ByteArray), .int .i64 0] 60 ?_; intro gb546 hg w9 hbox hb; have BK546 := Aside0.mk hbox; have GW546 := nGB hg; have GE546 := nGB hg; replace HB := nSB hb; clear hb hbox hg; have hcz10 := cb2 BK546))
     go_roundg k1
     case measure => have := HK1.out; omega
     case rel => exact ⟨(wrap64 (x9_1 + 1)), sR, H', ⟨by have := HK1.out; omega⟩, ⟨sC⟩⟩
   ·rw [if_neg c3] at H
    have c3b0 := decide_eq_false c3
    clear c3
    obtain rfl := Option.some.inj H
    go_wp2
    go_ret
    exact ⟨sE, sB⟩

/-! ### spec_l7At: function 69 -/
def spec_l7At.l0 : Nat → Int → List ByteArray → Int → Int → List (S53) → Int → Option (Int)
 | 0, _, _, _, _, _, _ => none
 | k + 1, x1, x10, x11, x12, x548000, x548001 => if x12 < x11 then (if 0 ≤ x12 then (if x12 < (x10.length : Int) then (if (rdOf ByteArray.empty x10 x12).toList = ([46] : List UInt8) then (spec_l7At.l0 k x1 x10 x11 (wrap64 (x12 + 1)) x548000 x548001) else (if 0 ≤ x1 then (if x1 < (x548000.length : Int) then ((spec_l3At.f k ((rd_T53 x548000 x1).f6) (rdOf ByteArray.empty x10 x12)).bind fun t553 => (spec_l7At.l0 k t553 x10 x11 (wrap64 (x12 + 1)) x548000 x548001)) else (none)) else (none))) else (none)) else (none)) else (some x1)
def spec_l7At.f (k : Nat) (l0_0 : List (S53)) (a0_1 : Int) (a1 : Int) (a2 : ByteArray) : Option (Int) := (spec_l2Parts.f k a2).bind fun t548 => (spec_l7At.l0 k a1 t548 (t548.length : Int) 0 l0_0 a0_1)
theorem spec_l7At.calls (k : Nat) (A0_0 : Option Addr) (c0_0 : Nat) (l0_0 : List (S53)) (a0_1 : Int) (a1 : Int) (a2 : ByteArray) (r : Int) (w : World) (hr0_0 : Kd.C k53 w A0_0 l0_0.length l0_0) (hc0_0 : l0_0.length ≤ c0_0) (h : spec_l7At.f k l0_0 a0_1 a1 a2 = some r) :
  Calls Tryd.prog 69 #[.agg #[.slice A0_0 l0_0.length c0_0, .int .i64 a0_1], .int .i64 a1, .string a2] w fun e w' => e = .returned (.int .i64 r) ∧ Below w.heap.size w w' := by
 have hu29 := Tryd.underlying29
 have HR0_0 := Aside0.mk hr0_0
 have HC0_0 := Aside0.mk hc0_0
 clear hr0_0 hc0_0
 have HB := Aside0.mk (Below.refl w.heap.size w)
 have H : ((spec_l2Parts.f k a2).bind fun t548 => (spec_l7At.l0 k a1 t548 (t548.length : Int) 0 l0_0 a0_1)) = some r := h
 clear h
 obtain ⟨t548, A4, H⟩ := bS H
 try dsimp only at H
 have H' := Aside0.mk H
 clear H
 go_enter Tryd.func69, Tryd.ntmps69
 go_wp2_with (first | ((with_reducible refine gd 3 rfl ?_); refine bxE 3 #[.slice A0_0 l0_0.length c0_0, .int .i64 a0_1] 29 ?_; intro gb547 hg w5 hbox hb; have BK547 := Aside0.mk hbox; have GW547 := nGB hg; have GE547 := nGB hg; replace HB := nSB hb; clear hb hbox hg) | ((with_reducible refine gt 94 rfl ?_); refine gL 94 10 Tryd.func94 #[.string a2] ?_; (with_reducible refine (spec_l2Parts.calls k a2 t548 _ A4.out).mono ?_); rintro e w6 ⟨v549, rfl, ho0, hb⟩; refine ⟨_, rfl, ?_⟩; have HO550 := Aside0.mk (Kd.R_lower ho0 (below_size sC)); replace BK547 := nK BK547 hb; replace HB := nSC hb; try clear hb; (try clear ho0); obtain ⟨Ao7, co7, eo7⟩ := Kd.R_slice HO550.out; subst eo7))
 go_loopg [1, 12] k (fun kq v1 v12 w' => ∃ (x1_1 : Int) (x12_1 : Int), v1 = .int .i64 x1_1 ∧ v12 = .int .i64 x12_1 ∧ Aside0 (spec_l7At.l0 kq x1_1 t548 (t548.length : Int) x12_1 l0_0 a0_1 = some r) ∧ Aside0 (kq ≤ k) ∧ Aside0 (Kd.R Kd.string 9 w' w.heap.size (fun _ => True) (.slice Ao7 t548.length co7) t548) ∧ Aside0 (w'.heap[gb547]? = some (.cells #[(.slice A0_0 l0_0.length c0_0), .int .i64 a0_1] 29 (0, 0))) ∧ Aside0 (Below w.heap.size w w'))
 case atStart => exact ⟨(a1), (0), sR, sR, H', ⟨Nat.le_refl _⟩, ⟨rR HO550⟩, ⟨sK BK547⟩, ⟨sC⟩⟩
 case round =>
  clear H'
  try clear p2
  try clear c6
  obtain ⟨x1_1, x12_1, rfl, rfl, HA, HK1, HO_10, BK547, HB⟩ := hrel
  cases gk with
  | zero => exact absurd HA.out (by simp [spec_l7At.l0])
  | succ k1 =>
   have H := HA.out
   clear HA
   simp only [spec_l7At.l0] at H
   by_cases c8 : x12_1 < (t548.length : Int)
   ·rw [if_pos c8] at H
    have c8b0 := decide_eq_true c8
    clear c8
    obtain ⟨c9, H⟩ := iN H
    have c9b0 := decide_eq_true c9
    clear c9
    obtain ⟨c10, H⟩ := iN H
    have c10b0 := decide_eq_true c10
    clear c10
    by_cases c11 : (rdOf ByteArray.empty t548 x12_1).toList = ([46] : List UInt8)
    ·rw [if_pos c11] at H
     have c11b0 := beq_iff_eq.mpr c11
     have c11b1 := bne_eq_false_iff_eq.mpr c11
     clear c11
     have H' := Aside0.mk H
     clear H
     have p551 : 0 ≤ (x12_1 : Int) := sO
     have q551 : x12_1 < (t548.length : Int) := sO
     obtain ⟨ad551, e551, hx551_0⟩ := Kd.at_string (Kd.R_reads' HO_10.out).2.2 x12_1 p551 q551
     cases e551
     replace p551 := eq_true p551
     replace q551 := eq_true q551
     go_wp2
     go_roundg k1
     case measure => have := HK1.out; omega
     case rel => exact ⟨(x1_1), (wrap64 (x12_1 + 1)), sR, sR, H', ⟨by have := HK1.out; omega⟩, ⟨rR HO_10⟩, ⟨sK BK547⟩, ⟨sC⟩⟩
    ·rw [if_neg c11] at H
     have c11b0 := beq_eq_false_iff_ne.mpr c11
     have c11b1 := bne_iff_ne.mpr c11
     obtain ⟨c12, H⟩ := iN H
     have c12b0 := decide_eq_true c12
     clear c12
     obtain ⟨c13, H⟩ := iN H
     have c13b0 := decide_eq_true c13
     clear c13
     obtain ⟨t553, A14, H⟩ := bS H
     try dsimp only at H
     have H' := Aside0.mk H
     clear H
     have p551 : 0 ≤ (x12_1 : Int) := sO
     have q551 : x12_1 < (t548.length : Int) := sO
     obtain ⟨ad551, e551, hx551_0⟩ := Kd.at_string (Kd.R_reads' HO_10.out).2.2 x12_1 p551 q551
     cases e551
     replace p551 := eq_true p551
     replace q551 := eq_true q551
     have hcz15 := cb2 BK547
     have p552 : 0 ≤ (x1_1 : Int) := sO
     have q552 : x1_1 < (l0_0.length : Int) := sO
     obtain ⟨ad552, A552_6, c552_6, e552, hx552_0, hx552_1, hx552_2, hx552_3, hx552_4, hx552_5, hx552_6, hl552_6, hi552_6⟩ := ab53 HR0_0.out HB x1_1 p552 q552
     cases e552
     have HR552_6 := Aside0.mk hi552_6
     have HC552_6 := Aside0.mk hl552_6
     clear hi552_6 hl552_6
     replace p552 := eq_true p552
     replace q552 := eq_true q552
     go_wp2_with (first | ((with_reducible refine gt 95 rfl ?_); refine gL 95 25 Tryd.func95 #[.slice A552_6 ((rd_T53 l0_0 x1_1).f6).length c552_6, .string (rdOf ByteArray.empty t548 x12_1)] ?_; (with_reducible refine (spec_l3At.calls k1 _ _ ((rd_T53 l0_0 x1_1).f6) (rdOf ByteArray.empty t548 x12_1) t553 _ ?side1 ?side2 A14.out).mono ?_); (case side1 => exact sD (Kd.C_below HR552_6.out HB.out)); (case side2 => exact HC552_6.out); rintro e w16 ⟨rfl, hb⟩; refine ⟨_, rfl, ?_⟩; replace HO_10 := nR HO_10 hb; replace BK547 := nK BK547 hb; replace HB := nSC hb; try clear hb))
     go_roundg k1
     case measure => have := HK1.out; omega
     case rel => exact ⟨(t553), (wrap64 (x12_1 + 1)), sR, sR, H', ⟨by have := HK1.out; omega⟩, ⟨rR HO_10⟩, ⟨sK BK547⟩, ⟨sC⟩⟩
   ·rw [if_neg c8] at H
    have c8b0 := decide_eq_false c8
    clear c8
    obtain rfl := Option.some.inj H
    go_wp2
    go_ret
    exact ⟨sE, sC⟩

/-! ### spec_OwnedBy: function 38 -/
def spec_OwnedBy.l0 : Nat → Int → Int → List ByteArray → List ByteArray → Int → Int → List (S53) → Int → Option (List ByteArray × Bool)
 | 0, _, _, _, _, _, _, _, _ => none
 | k + 1, x1, x2, x8, x17, x18, x19, x555000, x555001 => if x19 < x18 then (if 0 ≤ x19 then (if x19 < (x17.length : Int) then ((spec_l7At.f k x555000 x555001 x1 (rdOf ByteArray.empty x17 x19)).bind fun t560 => (if 0 ≤ t560 then (if t560 < (x555000.length : Int) then (if ((rd_T53 x555000 t560).f2) = x2 then (if x8.length < 8796093022208 then (spec_OwnedBy.l0 k x1 x2 (x8 ++ [rdOf ByteArray.empty x17 x19]) x17 x18 (wrap64 (x19 + 1)) x555000 x555001) else (none)) else (spec_OwnedBy.l0 k x1 x2 x8 x17 x18 (wrap64 (x19 + 1)) x555000 x555001)) else (none)) else (none))) else (none)) else (none)) else (some (x8, true))
def spec_OwnedBy.f (k : Nat) (l0_0 : List (S53)) (a0_1 : Int) (a1 : Int) (a2 : Int) : Option (List ByteArray × Bool) := (spec_l7Asked.f k l0_0 a0_1 a1).bind fun t555 => (if t555 = true then ((spec_l7Walk.f k l0_0 a0_1 a1 (⟨#[46]⟩ : ByteArray) false).bind fun t556 => (spec_OwnedBy.l0 k a1 a2 ([] : List ByteArray) t556 (t556.length : Int) 0 l0_0 a0_1)) else (some (([] : List ByteArray), false)))
def spec_OwnedBy.T7 : Bool × List (List Nat × List Nat) := (true, [([], []), ([0], [0]), ([], []), ([], []), ([], []), ([2, 3, 4], [2, 3, 4]), ([1, 5], [1, 5]), ([6], [6]), ([7], [7]), ([], []), ([8, 9], [8, 9])])
def spec_OwnedBy.B7 : List Nat := [0, 1, 0, 0, 0, 28, 63, 127, 255, 0, 1023]
theorem spec_OwnedBy.tab7 : rtab .any (opsOf Tryd.f38 7) = spec_OwnedBy.T7 := by kernel_rfl
theorem spec_OwnedBy.bits7 : waitsOk spec_OwnedBy.T7.2 spec_OwnedBy.B7 = true := by kernel_rfl
theorem spec_OwnedBy.calls (k : Nat) (A0_0 : Option Addr) (c0_0 : Nat) (l0_0 : List (S53)) (a0_1 : Int) (a1 : Int) (a2 : Int) (r1 : List ByteArray) (r2 : Bool) (w : World) (hr0_0 : Kd.C k53 w A0_0 l0_0.length l0_0) (hc0_0 : l0_0.length ≤ c0_0) (h : spec_OwnedBy.f k l0_0 a0_1 a1 a2 = some (r1, r2)) :
  Calls Tryd.prog 38 #[.agg #[.slice A0_0 l0_0.length c0_0, .int .i64 a0_1], .int .i64 a1, .int .i64 a2] w fun e w' => ∃ v0_ : Value, e = .returned (.tuple #[v0_, .bool r2]) ∧ Kd.R Kd.string 9 w' w.heap.size (fun _ => True) v0_ r1 ∧ Below w.heap.size w w' := by
 have hu29 := Tryd.underlying29
 have HR0_0 := Aside0.mk hr0_0
 have HC0_0 := Aside0.mk hc0_0
 clear hr0_0 hc0_0
 have HB := Aside0.mk (Below.refl w.heap.size w)
 have H : ((spec_l7Asked.f k l0_0 a0_1 a1).bind fun t555 => (if t555 = true then ((spec_l7Walk.f k l0_0 a0_1 a1 (⟨#[46]⟩ : ByteArray) false).bind fun t556 => (spec_OwnedBy.l0 k a1 a2 ([] : List ByteArray) t556 (t556.length : Int) 0 l0_0 a0_1)) else (some (([] : List ByteArray), false)))) = some (r1, r2) := h
 clear h
 obtain ⟨t555, A4, H⟩ := bS H
 try dsimp only at H
 by_cases c5 : t555 = true
 ·subst c5
  rw [if_pos rfl] at H
  obtain ⟨t556, A6, H⟩ := bS H
  try dsimp only at H
  have H' := Aside0.mk H
  clear H
  go_enter Tryd.func38, Tryd.ntmps38
  go_wp2_with (first | ((with_reducible refine gd 3 rfl ?_); refine bxE 3 #[.slice A0_0 l0_0.length c0_0, .int .i64 a0_1] 29 ?_; intro gb554 hg w7 hbox hb; have BK554 := Aside0.mk hbox; have GW554 := nGB hg; have GE554 := nGB hg; replace HB := nSB hb; clear hb hbox hg; have hcz8 := cb2 BK554) | ((with_reducible refine gt 62 rfl ?_); refine gL 62 13 Tryd.func62 #[.agg #[.slice A0_0 l0_0.length c0_0, .int .i64 a0_1], .int .i64 a1] ?_; (with_reducible refine (spec_l7Asked.calls k _ _ l0_0 a0_1 a1 true _ ?side1 ?side2 A4.out).mono ?_); (case side1 => exact sD (Kd.C_below HR0_0.out HB.out)); (case side2 => exact HC0_0.out); rintro e w9 ⟨rfl, hb⟩; refine ⟨_, rfl, ?_⟩; replace BK554 := nK BK554 hb; replace HB := nSC hb; try clear hb; have hcz10 := cb2 BK554) | ((with_reducible refine gt 65 rfl ?_); refine gL 65 17 Tryd.func65 #[.agg #[.slice A0_0 l0_0.length c0_0, .int .i64 a0_1], .int .i64 a1, .string (⟨#[46]⟩ : ByteArray), .bool false] ?_; (with_reducible refine (spec_l7Walk.calls k _ _ l0_0 a0_1 a1 (⟨#[46]⟩ : ByteArray) false t556 _ ?side1 ?side2 A6.out).mono ?_); (case side1 => exact sD (Kd.C_below HR0_0.out HB.out)); (case side2 => exact HC0_0.out); rintro e w11 ⟨v557, rfl, ho0, hb⟩; refine ⟨_, rfl, ?_⟩; have HO558 := Aside0.mk (Kd.R_lower ho0 (below_size sC)); replace BK554 := nK BK554 hb; replace HB := nSC hb; try clear hb; (try clear ho0); obtain ⟨Ao12, co12, eo12⟩ := Kd.R_slice HO558.out; subst eo12))
  go_loopg [8, 19] k (fun kq v8 v19 w' => ∃ (x8_1 : List ByteArray) (x19_1 : Int), v19 = .int .i64 x19_1 ∧ Aside0 (spec_OwnedBy.l0 kq a1 a2 x8_1 t556 (t556.length : Int) x19_1 l0_0 a0_1 = some (r1, r2)) ∧ Aside0 (kq ≤ k) ∧ Aside0 (Kd.R Kd.string 9 w' w.heap.size (fun k_ => some k_ ≠ ((.slice Ao12 t556.length co12) : Value).ownBlock) v8 x8_1) ∧ Aside0 (Kd.R Kd.string 9 w' w.heap.size (fun k_ => some k_ ≠ (v8 : Value).ownBlock) (.slice Ao12 t556.length co12) t556) ∧ Aside0 (w'.heap[gb554]? = some (.cells #[(.slice A0_0 l0_0.length c0_0), .int .i64 a0_1] 29 (0, 0))) ∧ Aside0 (Below w.heap.size w w'))
  case atStart => exact ⟨(([] : List ByteArray)), (0), sR, H', ⟨Nat.le_refl _⟩, ⟨by first | exact Kd.R_nil _ _ _ _ _ | exact Kd.N_nil _ _ _ _ _ | exact Kd.V_nil _ _ _ _ _ | exact Kd.Q_nil _ _ _ _ _ | exact Kd.S_nil _ _ _ _ _⟩, ⟨by (with_reducible repeat (first | apply Kd.R_alloc | apply Kd.R_drewN | apply Kd.R_drew)); exact Kd.R_mono HO558.out (fun _ hk => (by simp [Value.ownBlock]))⟩, ⟨sK BK554⟩, ⟨sC⟩⟩
  case round =>
   clear H'
   try clear p2
   try clear c3
   try clear c5
   try clear c6
   try clear hcz10
   try clear hcz8
   obtain ⟨x8_1, x19_1, rfl, HA, HK1, HO_8, HO_17, BK554, HB⟩ := hrel
   cases gk with
   | zero => exact absurd HA.out (by simp [spec_OwnedBy.l0])
   | succ k1 =>
    have H := HA.out
    clear HA
    simp only [spec_OwnedBy.l0] at H
    by_cases c13 : x19_1 < (t556.length : Int)
    ·rw [if_pos c13] at H
     have c13b0 := decide_eq_true c13
     clear c13
     obtain ⟨c14, H⟩ := iN H
     have c14b0 := decide_eq_true c14
     clear c14
     obtain ⟨c15, H⟩ := iN H
     have c15b0 := decide_eq_true c15
     clear c15
     obtain ⟨t560, A16, H⟩ := bS H
     try dsimp only at H
     obtain ⟨c17, H⟩ := iN H
     have c17b0 := decide_eq_true c17
     clear c17
     obtain ⟨c18, H⟩ := iN H
     have c18b0 := decide_eq_true c18
     clear c18
     by_cases c19 : ((rd_T53 l0_0 t560).f2) = a2
     ·rw [if_pos c19] at H
      have c19b0 := beq_iff_eq.mpr c19
      have c19b1 := bne_eq_false_iff_eq.mpr c19
      clear c19
      obtain ⟨c20, H⟩ := iN H
      have LMc20 := Aside0.mk c20
      clear c20
      obtain ⟨y562, hy562⟩ : ∃ y_ : List ByteArray, y_ = (x8_1 ++ [rdOf ByteArray.empty t556 x19_1]) := ⟨_, rfl⟩
      replace H : (spec_OwnedBy.l0 k1 a1 a2 y562 t556 (t556.length : Int) (wrap64 (x19_1 + 1)) l0_0 a0_1) = some (r1, r2) := by first | (rw [hy562]; with_reducible exact H) | (have H2_ := (Option.bind_some _ _).symm.trans H; rw [hy562]; with_reducible exact H2_) | (have H2_ := (Option.bind_some _ _).symm.trans H; with_reducible exact H2_) | with_reducible exact H | (rw [hy562]; exact H) | exact H
      have Ny562 := Aside0.mk hy562
      clear hy562
      have H' := Aside0.mk H
      clear H
      have p559 : 0 ≤ (x19_1 : Int) := sO
      have q559 : x19_1 < (t556.length : Int) := sO
      obtain ⟨ad559, e559, hx559_0⟩ := Kd.at_string (Kd.R_reads' HO_17.out).2.2 x19_1 p559 q559
      cases e559
      replace p559 := eq_true p559
      replace q559 := eq_true q559
      try go_wp2
      have n0_ := Aside0.mk (Kd.R_drew HO_8.out)
      have n1_ := Aside0.mk (Kd.R_drew HO_17.out)
      have n2_ := Aside0.mk (blk_drew BK554.out)
      have n3_ := Aside0.mk (below_drew1 HB.out)
      clear HO_8
      clear HO_17
      clear BK554
      clear HB
      have HO_8 := n0_
      have HO_17 := n1_
      have BK554 := n2_
      have HB := n3_
      clear n0_ n1_ n2_ n3_
      have p561 : 0 ≤ (t560 : Int) := sO
      have q561 : t560 < (l0_0.length : Int) := sO
      obtain ⟨ad561, A561_6, c561_6, e561, hx561_0, hx561_1, hx561_2, hx561_3, hx561_4, hx561_5, hx561_6, hl561_6, hi561_6⟩ := at_T53 HR0_0.out t560 p561 q561
      have hw561_6 := hx561_6
      have hw561_5 := hx561_5
      have hw561_4 := hx561_4
      have hw561_3 := hx561_3
      have hw561_2 := hx561_2
      have hw561_1 := hx561_1
      have hw561_0 := hx561_0
      cases e561
      replace hx561_0 := hB HB hx561_0
      replace hx561_1 := hB HB hx561_1
      replace hx561_2 := hB HB hx561_2
      replace hx561_3 := hB HB hx561_3
      replace hx561_4 := hB HB hx561_4
      replace hx561_5 := hB HB hx561_5
      replace hx561_6 := hB HB hx561_6
      have HR561_6 := Aside0.mk hi561_6
      have HC561_6 := Aside0.mk hl561_6
      clear hi561_6 hl561_6
      replace p561 := eq_true p561
      replace q561 := eq_true q561
      refine st9 11 [] (cz0 BK554) (cz1 BK554) (hB HB hw561_0 :) (hB HB hw561_1 :) (hB HB hw561_2 :) (hB HB hw561_3 :) (hB HB hw561_4 :) (hB HB hw561_5 :) (hB HB hw561_6 :) (fun hHeld => ?_); refine with_tabW spec_OwnedBy.tab7 spec_OwnedBy.bits7 (fun HT_ HW_ => ?_)
      generalize wr.drew = w21 at HO_8 HO_17 BK554 HB HR561_6 hx561_0 hx561_1 hx561_2 hx561_3 hx561_4 hx561_5 hx561_6 hHeld ⊢
      refine pu 0 23 ?_
      refine pu 3 26 ?_
      refine pu 4 27 ?_
      refine pu 9 32 ?_
      refine tk9 1 24 ?_
      refine tk9 2 25 ?_
      refine on 5 28 (fun K hK => ?_)
      refine gC Tryd.func69 #[.agg #[.slice (some ad561) l0_0.length c0_0, .int .i64 a0_1], .int .i64 a1, .string (rdOf ByteArray.empty t556 x19_1)] ?_
      with_reducible refine (spec_l7At.calls k1 _ _ l0_0 a0_1 a1 (rdOf ByteArray.empty t556 x19_1) t560 _ ?side1 ?side2 A16.out).mono ?_
      (case side1 => exact sD (Kd.C_below HR0_0.out HB.out))
      (case side2 => exact HC0_0.out)
      rintro e w22 ⟨rfl, hb⟩
      refine ⟨_, rfl, ?_⟩
      have n0_ := nR HO_8 hb
      have n1_ := nR HO_17 hb
      have n2_ := nK BK554 hb
      have n3_ := nSC hb
      clear HO_8
      clear HO_17
      clear BK554
      clear HB
      have HO_8 := n0_
      have HO_17 := n1_
      have BK554 := n2_
      have HB := n3_
      clear n0_ n1_ n2_ n3_
      (try clear hb)
      (try clear hb2)
      (try clear hk)
      (try clear hi)
      refine hK.out _ _ ⟨cz0 BK554, cz1 BK554, (hB HB hw561_0 :), (hB HB hw561_1 :), (hB HB hw561_2 :), (hB HB hw561_3 :), (hB HB hw561_4 :), (hB HB hw561_5 :), (hB HB hw561_6 :)⟩ (fun hHeld => ?_)
      clear hK K
      refine nm ?_
      refine pu 6 29 ?_
      refine pu 7 30 ?_
      refine tk9 8 31 ?_
      refine pu 10 33 ?_
      refine dn ?_
      try go_wp2_with (first | ((with_reducible refine gate_builtin (b := .append) (xs := #[.tmp 34, .tmp 36]) rfl ?_); at_builtin; refine Kd.R_append Kd.string (w0 := w) w.heap.size rfl (.tmp 34) (.tmp 36) 39 9 (.string ⟨#[]⟩) 16 rfl Tryd.underlying39 info9 rfl (by decide) (by omega) u8 x8_1 (rdOf ByteArray.empty t556 x19_1) [.string (rdOf ByteArray.empty t556 x19_1)] (fun k_ => some k_ ≠ (.slice (some ad559) t556.length co12 : Value).ownBlock) (fun _ => False) rfl rfl ?aP (fun _ hk => hk.elim) ?aF ?aO ?aB ?aS ?aL ?_; (case aP => exact rfl); (case aB => exact sC); (case aF => exact (fun k_ hk => Kd.fresh' (Kd.R_lt (by (with_reducible repeat (first | apply Kd.R_alloc | apply Kd.R_drewN | apply Kd.R_drew)); exact HO_17.out)) k_ hk)); (case aO => exact (by (with_reducible repeat (first | apply Kd.R_alloc | apply Kd.R_drewN | apply Kd.R_drew)); exact HO_8.out)); (case aS => exact (below_size sC)); (case aL => have := LMc20.out; omega); intro v563 w23 ho hb hg hat; rw [← Ny562.out] at ho; replace HO_17 := Aside0.mk (Kd.R_after (ok := (fun _ => True)) (by (with_reducible repeat (first | apply Kd.R_alloc | apply Kd.R_drewN | apply Kd.R_drew)); exact Kd.R_mono HO_17.out (fun _ hk => ⟨trivial, hk⟩)) hg hat); replace BK554 := Aside0.mk (blk_grown (g := gb554) (o := .cells #[.slice (some ad561) l0_0.length c0_0, .int .i64 a0_1] 29 (0, 0)) (sK BK554) hg (Kd.R_ne HO_8.out BK554.out (by decide))); replace HB := Aside0.mk (hb); have HO564 := Aside0.mk (ho); clear HO_8; clear ho hb hg hat))
      go_roundg k1
      case measure => have := HK1.out; omega
      case rel => exact ⟨(y562), (wrap64 (x19_1 + 1)), sR, H', ⟨by have := HK1.out; omega⟩, ⟨rR HO564⟩, ⟨by (with_reducible repeat (first | apply Kd.R_alloc | apply Kd.R_drewN | apply Kd.R_drew)); exact Kd.R_mono HO_17.out (fun _ hk => hk.2)⟩, ⟨sK BK554⟩, ⟨sC⟩⟩
     ·rw [if_neg c19] at H
      have c19b0 := beq_eq_false_iff_ne.mpr c19
      have c19b1 := bne_iff_ne.mpr c19
      have H' := Aside0.mk H
      clear H
      have p559 : 0 ≤ (x19_1 : Int) := sO
      have q559 : x19_1 < (t556.length : Int) := sO
      obtain ⟨ad559, e559, hx559_0⟩ := Kd.at_string (Kd.R_reads' HO_17.out).2.2 x19_1 p559 q559
      cases e559
      replace p559 := eq_true p559
      replace q559 := eq_true q559
      try go_wp2
      have n0_ := Aside0.mk (Kd.R_drew HO_8.out)
      have n1_ := Aside0.mk (Kd.R_drew HO_17.out)
      have n2_ := Aside0.mk (blk_drew BK554.out)
      have n3_ := Aside0.mk (below_drew1 HB.out)
      clear HO_8
      clear HO_17
      clear BK554
      clear HB
      have HO_8 := n0_
      have HO_17 := n1_
      have BK554 := n2_
      have HB := n3_
      clear n0_ n1_ n2_ n3_
      have p561 : 0 ≤ (t560 : Int) := sO
      have q561 : t560 < (l0_0.length : Int) := sO
      obtain ⟨ad561, A561_6, c561_6, e561, hx561_0, hx561_1, hx561_2, hx561_3, hx561_4, hx561_5, hx561_6, hl561_6, hi561_6⟩ := at_T53 HR0_0.out t560 p561 q561
      have hw561_6 := hx561_6
      have hw561_5 := hx561_5
      have hw561_4 := hx561_4
      have hw561_3 := hx561_3
      have hw561_2 := hx561_2
      have hw561_1 := hx561_1
      have hw561_0 := hx561_0
      cases e561
      replace hx561_0 := hB HB hx561_0
      replace hx561_1 := hB HB hx561_1
      replace hx561_2 := hB HB hx561_2
      replace hx561_3 := hB HB hx561_3
      replace hx561_4 := hB HB hx561_4
      replace hx561_5 := hB HB hx561_5
      replace hx561_6 := hB HB hx561_6
      have HR561_6 := Aside0.mk hi561_6
      have HC561_6 := Aside0.mk hl561_6
      clear hi561_6 hl561_6
      replace p561 := eq_true p561
      replace q561 := eq_true q561
      refine st9 11 [] (cz0 BK554) (cz1 BK554) (hB HB hw561_0 :) (hB HB hw561_1 :) (hB HB hw561_2 :) (hB HB hw561_3 :) (hB HB hw561_4 :) (hB HB hw561_5 :) (hB HB hw561_6 :) (fun hHeld => ?_); refine with_tabW spec_OwnedBy.tab7 spec_OwnedBy.bits7 (fun HT_ HW_ => ?_)
      generalize wr.drew = w24 at HO_8 HO_17 BK554 HB HR561_6 hx561_0 hx561_1 hx561_2 hx561_3 hx561_4 hx561_5 hx561_6 hHeld ⊢
      refine pu 0 23 ?_
      refine pu 3 26 ?_
      refine pu 4 27 ?_
      refine pu 9 32 ?_
      refine tk9 1 24 ?_
      refine tk9 2 25 ?_
      refine on 5 28 (fun K hK => ?_)
      refine gC Tryd.func69 #[.agg #[.slice (some ad561) l0_0.length c0_0, .int .i64 a0_1], .int .i64 a1, .string (rdOf ByteArray.empty t556 x19_1)] ?_
      with_reducible refine (spec_l7At.calls k1 _ _ l0_0 a0_1 a1 (rdOf ByteArray.empty t556 x19_1) t560 _ ?side1 ?side2 A16.out).mono ?_
      (case side1 => exact sD (Kd.C_below HR0_0.out HB.out))
      (case side2 => exact HC0_0.out)
      rintro e w25 ⟨rfl, hb⟩
      refine ⟨_, rfl, ?_⟩
      have n0_ := nR HO_8 hb
      have n1_ := nR HO_17 hb
      have n2_ := nK BK554 hb
      have n3_ := nSC hb
      clear HO_8
      clear HO_17
      clear BK554
      clear HB
      have HO_8 := n0_
      have HO_17 := n1_
      have BK554 := n2_
      have HB := n3_
      clear n0_ n1_ n2_ n3_
      (try clear hb)
      (try clear hb2)
      (try clear hk)
      (try clear hi)
      refine hK.out _ _ ⟨cz0 BK554, cz1 BK554, (hB HB hw561_0 :), (hB HB hw561_1 :), (hB HB hw561_2 :), (hB HB hw561_3 :), (hB HB hw561_4 :), (hB HB hw561_5 :), (hB HB hw561_6 :)⟩ (fun hHeld => ?_)
      clear hK K
      refine nm ?_
      refine pu 6 29 ?_
      refine pu 7 30 ?_
      refine tk9 8 31 ?_
      refine pu 10 33 ?_
      refine dn ?_
      try go_wp2
      go_roundg k1
      case measure => have := HK1.out; omega
      case rel => exact ⟨(x8_1), (wrap64 (x19_1 + 1)), sR, H', ⟨by have := HK1.out; omega⟩, ⟨rR HO_8⟩, ⟨rR HO_17⟩, ⟨sK BK554⟩, ⟨sC⟩⟩
    ·rw [if_neg c13] at H
     have c13b0 := decide_eq_false c13
     clear c13
     simp only [Option.some.injEq, Prod.mk.injEq] at H
     obtain ⟨rfl, rfl⟩ := H
     go_wp2
     go_ret2
     exact ⟨_, sE, by (with_reducible repeat (first | apply Kd.R_alloc | apply Kd.R_drewN | apply Kd.R_drew)); exact Kd.R_mono HO_8.out (fun _ hk => trivial), sC⟩
 ·replace c5 := Bool.eq_false_iff.mpr c5
  subst c5
  rw [if_neg (show ¬ (false = true) by decide)] at H
  simp only [Option.some.injEq, Prod.mk.injEq] at H
  obtain ⟨rfl, rfl⟩ := H
  go_enter Tryd.func38, Tryd.ntmps38
  go_wp2_with (first | ((with_reducible refine gd 3 rfl ?_); refine bxE 3 #[.slice A0_0 l0_0.length c0_0, .int .i64 a0_1] 29 ?_; intro gb554 hg w26 hbox hb; have BK554 := Aside0.mk hbox; have GW554 := nGB hg; have GE554 := nGB hg; replace HB := nSB hb; clear hb hbox hg; have hcz27 := cb2 BK554) | ((with_reducible refine gt 62 rfl ?_); refine gL 62 13 Tryd.func62 #[.agg #[.slice A0_0 l0_0.length c0_0, .int .i64 a0_1], .int .i64 a1] ?_; (with_reducible refine (spec_l7Asked.calls k _ _ l0_0 a0_1 a1 false _ ?side1 ?side2 A4.out).mono ?_); (case side1 => exact sD (Kd.C_below HR0_0.out HB.out)); (case side2 => exact HC0_0.out); rintro e w28 ⟨rfl, hb⟩; refine ⟨_, rfl, ?_⟩; replace BK554 := nK BK554 hb; replace HB := nSC hb; try clear hb))
  go_ret2
  exact ⟨_, sE, by first | exact Kd.R_nil _ _ _ _ _ | exact Kd.N_nil _ _ _ _ _ | exact Kd.V_nil _ _ _ _ _ | exact Kd.Q_nil _ _ _ _ _ | exact Kd.S_nil _ _ _ _ _, sC⟩

end Go.Proofs.YteffcglgdfhkmaaDoor.PWk
