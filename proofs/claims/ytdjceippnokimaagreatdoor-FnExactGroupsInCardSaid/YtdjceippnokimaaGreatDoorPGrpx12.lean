import Derived.Test.YtdjceippnokimaaGreatDoorPGrpx0
import Derived.Test.YtdjceippnokimaaGreatDoorPGrpx11
namespace Go.Proofs.YtdjceippnokimaaGreatDoor.PGrp
open Go.RowKit Go.Proofs.YtdjceippnokimaaGreatDoorW.PrintWords Go.Proofs.YtdjceippnokimaaGreatDoorW.PrintLast Go.Proofs.YtdjceippnokimaaGreatDoorW.PrintMore
attribute [local go_sem] max2_int min2_int max_two min_two max_three min_three max_four min_four   -- for this text's walks alone
set_option linter.unusedVariables false
set_option linter.unusedSimpArgs false
set_option maxHeartbeats 8000000
set_option maxRecDepth 100000
/-! ### impl_partsOf: function 103 -/
open Go.Lib Go.Sort in
def impl_partsOf.raw (s : ByteArray) : List ByteArray := Lib.splitB ⟨#[47]⟩ 0 (Lib.countB s ⟨#[47]⟩) s
def impl_partsOf.f (a0 : ByteArray) : Option (List ByteArray) := if a0.size < 4294967281 then some ((impl_partsOf.raw a0).filter fun x => !x.toList.isEmpty) else none
theorem impl_partsOf.index (x : ByteArray) : Lib.indexB x ⟨#[47]⟩ = Lib.indexByte x.data.toList 47 := Lib.index_one _ _
theorem impl_partsOf.count (x : ByteArray) : (Lib.countB x ⟨#[47]⟩ : Int) = Lib.countByte x.data.toList 47 := by
 show ((Lib.count x.data.toList [47] : Nat) : Int) = _
 rw [Lib.count_one]; rfl
set_option maxHeartbeats 1000000 in
theorem impl_partsOf.gen (s : ByteArray) (w : World) (hs : s.size < 4294967281) :
  Calls Tryz.prog 122 #[.string s, .string ⟨#[47]⟩, .int .i64 0, .int .i64 (-1)] w fun e w' =>
   e = .returned (.slice (some ⟨w.heap.size, 0, none⟩) (impl_partsOf.raw s).length (impl_partsOf.raw s).length) ∧ w' = w.alloc (.cells ((impl_partsOf.raw s).map Value.string).toArray 9) := by
 have h1 : 1 ≤ (⟨#[47]⟩ : ByteArray).size := by decide
 have hle := Lib.countB_le ⟨#[47]⟩ h1 s.size s (Nat.le_refl _)
 have hlen := Lib.splitB_all ⟨#[47]⟩ h1 0 _ s rfl
 have c := Any.strings_genSplit_core Tryz.lays221 (by kernel_rfl) s ⟨#[47]⟩ 0 (-1) (Lib.countB s ⟨#[47]⟩ + 1) w hs h1 (Nat.zero_le _)
  (fun x c _ => (Any.strings_Index_one Tryz.lays143 x 47 _).mono fun _ _ ⟨he, hw⟩ => ⟨by rw [he, impl_partsOf.index], hw⟩)
  ((Any.strings_Count_one Tryz.lays138 s 47 w).mono fun _ _ ⟨he, hw⟩ => ⟨by rw [he, impl_partsOf.count], hw⟩)
  (by decide) (by decide) (by rw [if_pos (by decide)]; omega)
 rw [Nat.add_sub_cancel, hlen] at c
 have e2 : Lib.cellsOf (Lib.splitB ⟨#[47]⟩ 0 (Lib.countB s ⟨#[47]⟩) s) (Lib.countB s ⟨#[47]⟩ + 1) = ((Lib.splitB ⟨#[47]⟩ 0 (Lib.countB s ⟨#[47]⟩) s).map Value.string).toArray := by rw [← hlen]; exact Lib.cellsOf_full _
 rw [e2, ← hlen] at c
 exact c
set_option maxHeartbeats 1000000 in
theorem impl_partsOf.split (s : ByteArray) (w : World) (hs : s.size < 4294967281) :
  Calls Tryz.prog 114 #[.string s, .string ⟨#[47]⟩] w fun e w' =>
   e = .returned (.slice (some ⟨w.heap.size, 0, none⟩) (impl_partsOf.raw s).length (impl_partsOf.raw s).length) ∧ w' = w.alloc (.cells ((impl_partsOf.raw s).map Value.string).toArray 9) := by
 have C := Aside0.mk (impl_partsOf.gen s w hs)
 clear hs
 go_enter Tryz.func114, Tryz.ntmps114
 go_wp2_with (go_at_call 122; (with_reducible refine C.out.mono ?_); rintro e w' ⟨rfl, hw⟩; rw [hw])
 go_ret
 exact ⟨rfl, rfl⟩
theorem impl_partsOf.gives (x : ByteArray) (W : World) : FnGives Tryz.prog 115 #[] #[.string x] (.bool x.toList.isEmpty) W :=
 (impl_partsOf_1.calls x _ W rfl).mono fun _ _ ⟨he, hd⟩ => ⟨by rw [he]; cases x.toList <;> rfl, hd.out⟩
open Go.Sort in
set_option maxHeartbeats 1000000 in
theorem impl_partsOf.calls (a0 : ByteArray) (r : List ByteArray) (w : World) (h : impl_partsOf.f a0 = some r) :
  Calls Tryz.prog 103 #[.string a0] w fun e w' => ∃ v0_ : Value, e = .returned (v0_) ∧ Kd.R Kd.string 9 w' w.heap.size (fun _ => True) v0_ r ∧ Below w.heap.size w w' := by
 unfold impl_partsOf.f at h
 by_cases hs : a0.size < 4294967281
 ·rw [if_pos hs] at h
  obtain rfl := Option.some.inj h
  clear h
  haveI : Inhabited ByteArray := ⟨ByteArray.empty⟩
  generalize hraw : impl_partsOf.raw a0 = raw
  have S := Aside0.mk (hraw ▸ impl_partsOf.split a0 w hs)
  have hl : raw.length ≤ 4294967281 := by
   rw [← hraw]; unfold impl_partsOf.raw
   have := Lib.splitB_length_le ⟨#[47]⟩ 0 (Lib.countB a0 ⟨#[47]⟩) a0
   have h2 := Lib.countB_le ⟨#[47]⟩ (by decide) a0.size a0 (Nat.le_refl _)
   omega
  have hown : (w.alloc (.cells (raw.map Value.string).toArray 9)).ownsRow w.heap.size 9 1 (.slice (some ⟨w.heap.size, 0, none⟩) raw.length raw.length) raw.length (raw.map Value.string) :=
   ⟨by simp, .inr ⟨w.heap.size, raw.length, (raw.map Value.string).toArray, rfl, Nat.le_refl _, heap_alloc_new w _, Nat.le_refl _, by unfold maxLen; omega, by simp, by rw [Nat.mul_one, List.take_of_length_le (by simp)]⟩⟩
  have hH : Holds Value.string (w.alloc (.cells (raw.map Value.string).toArray 9)) w.heap.size 0 raw.toArray := fun j hj => by
   have hb := heap_alloc_new w (.cells (raw.map Value.string).toArray 9)
   have hj' : j < raw.length := by simpa using hj
   rw [Nat.zero_add]
   refine ⟨?_, blk_frozen hb j⟩
   rw [blk_cell hb j]
   simp [getElem!_pos, hj']
  have eg : ∀ args w, (callFunc 115 args).run Tryz.prog w = .ok (.enter 115 args) w := enters_of Tryz.func115 (by kernel_rfl) rfl
  have D := AnyE.slices_DeleteFunc Tryz.laysDel Value.string (fun _ => rfl) (fun x => x.toList.isEmpty) 115 #[] eg ByteArray.empty Tryz.zeroValue9 w.heap.size 0 raw.length raw.toArray (w.alloc (.cells (raw.map Value.string).toArray 9))
   (fun W x _ => impl_partsOf.gives x W) (fun n os dk x _ => impl_partsOf.gives x _) hH (by simp; omega) (by simp)
  have D' := Aside0.mk (show Calls Tryz.prog 113 #[.slice (some ⟨w.heap.size, 0, none⟩) raw.length raw.length, .func (.func 115) #[] #[]] (w.alloc (.cells (raw.map Value.string).toArray 9)) fun e w' =>
   e = .returned (.slice (some ⟨w.heap.size, 0, none⟩) (raw.filter fun x => !x.toList.isEmpty).length raw.length) ∧
    ∃ q, w' = putRow Value.string (Sort.ahead (w.alloc (.cells (raw.map Value.string).toArray 9)) q) w.heap.size 0 ((raw.filter fun x => !x.toList.isEmpty) ++ List.replicate (raw.length - (raw.filter fun x => !x.toList.isEmpty).length) ByteArray.empty).toArray from D)
  clear D eg hH
  have HO := Aside0.mk hown
  clear hown hs hraw hl
  go_enter Tryz.func103, Tryz.ntmps103
  go_wp2_with (first | (go_at_call 114; (with_reducible refine S.out.mono ?_); rintro e w' ⟨rfl, hw⟩; rw [hw]) | (go_at_call 113; (with_reducible refine D'.out.mono ?_); rintro e w2 ⟨rfl, q, hw2⟩; rw [hw2]))
  go_ret
  have hk : (raw.filter fun x => !x.toList.isEmpty).length ≤ raw.length := List.length_filter_le _ _
  have ho := Lib.ownsRow_putRow (q := q) HO.out (ys := (raw.filter fun x => !x.toList.isEmpty) ++ List.replicate (raw.length - (raw.filter fun x => !x.toList.isEmpty).length) ByteArray.empty) (by rw [List.length_append, List.length_replicate]; omega) hk
  rw [List.take_left] at ho
  exact ⟨_, rfl, Kd.R_of_own ho (fun _ _ => trivial), Lib.below_putRow ((Below.refl _ w).alloc (Nat.le_refl _) _) (Nat.le_refl _)⟩
 ·rw [if_neg hs] at h; cases h
def impl_isNameByte.f (a0 : Int) : Option (Bool) := if a0 ≥ 97 then (if a0 ≤ 122 then (some true) else (if a0 ≥ 48 then (if a0 ≤ 57 then (some true) else (if a0 = 46 then (some true) else (if a0 = 95 then (some true) else (some (a0 == 45))))) else (if a0 = 46 then (some true) else (if a0 = 95 then (some true) else (some (a0 == 45)))))) else (if a0 ≥ 48 then (if a0 ≤ 57 then (some true) else (if a0 = 46 then (some true) else (if a0 = 95 then (some true) else (some (a0 == 45))))) else (if a0 = 46 then (some true) else (if a0 = 95 then (some true) else (some (a0 == 45)))))
theorem impl_isNameByte.calls (a0 : Int) (r : Bool) (w : World) (h : impl_isNameByte.f a0 = some r) :
  Calls Tryz.prog 107 #[.int .u8 a0] w fun e w' => e = .returned (.bool r) ∧ Drawn0 w w' := by
 have H : (if a0 ≥ 97 then (if a0 ≤ 122 then (some true) else (if a0 ≥ 48 then (if a0 ≤ 57 then (some true) else (if a0 = 46 then (some true) else (if a0 = 95 then (some true) else (some (a0 == 45))))) else (if a0 = 46 then (some true) else (if a0 = 95 then (some true) else (some (a0 == 45)))))) else (if a0 ≥ 48 then (if a0 ≤ 57 then (some true) else (if a0 = 46 then (some true) else (if a0 = 95 then (some true) else (some (a0 == 45))))) else (if a0 = 46 then (some true) else (if a0 = 95 then (some true) else (some (a0 == 45)))))) = some r := h
 clear h
 by_cases c2 : a0 ≥ 97
 ·rw [if_pos c2] at H
  have c2b0 := decide_eq_true c2
  clear c2
  by_cases c3 : a0 ≤ 122
  ·rw [if_pos c3] at H
   have c3b0 := decide_eq_true c3
   clear c3
   obtain rfl := Option.some.inj H
   go_enter Tryz.func107, Tryz.ntmps107
   go_wp2
   go_ret
   exact ⟨by first | rfl | (simp; done) | (simp [*]; done), by repeat (first | exact Drawn0.refl _ | apply Drawn0.step)⟩
  ·rw [if_neg c3] at H
   have c3b0 := decide_eq_false c3
   clear c3
   by_cases c4 : a0 ≥ 48
   ·rw [if_pos c4] at H
    have c4b0 := decide_eq_true c4
    clear c4
    by_cases c5 : a0 ≤ 57
    ·rw [if_pos c5] at H
     have c5b0 := decide_eq_true c5
     clear c5
     obtain rfl := Option.some.inj H
     go_enter Tryz.func107, Tryz.ntmps107
     go_wp2
     go_ret
     exact ⟨by first | rfl | (simp; done) | (simp [*]; done), by repeat (first | exact Drawn0.refl _ | apply Drawn0.step)⟩
    ·rw [if_neg c5] at H
     have c5b0 := decide_eq_false c5
     clear c5
     by_cases c6 : a0 = 46
     ·rw [if_pos c6] at H
      have c6b0 := beq_iff_eq.mpr c6
      have c6b1 := bne_eq_false_iff_eq.mpr c6
      clear c6
      obtain rfl := Option.some.inj H
      go_enter Tryz.func107, Tryz.ntmps107
      go_wp2
      go_ret
      exact ⟨by first | rfl | (simp; done) | (simp [*]; done), by repeat (first | exact Drawn0.refl _ | apply Drawn0.step)⟩
     ·rw [if_neg c6] at H
      have c6b0 := beq_eq_false_iff_ne.mpr c6
      have c6b1 := bne_iff_ne.mpr c6
      by_cases c7 : a0 = 95
      ·rw [if_pos c7] at H
       have c7b0 := beq_iff_eq.mpr c7
       have c7b1 := bne_eq_false_iff_eq.mpr c7
       clear c7
       obtain rfl := Option.some.inj H
       go_enter Tryz.func107, Tryz.ntmps107
       go_wp2
       go_ret
       exact ⟨by first | rfl | (simp; done) | (simp [*]; done), by repeat (first | exact Drawn0.refl _ | apply Drawn0.step)⟩
      ·rw [if_neg c7] at H
       have c7b0 := beq_eq_false_iff_ne.mpr c7
       have c7b1 := bne_iff_ne.mpr c7
       obtain rfl := Option.some.inj H
       go_enter Tryz.func107, Tryz.ntmps107
       go_wp2
       go_ret
       exact ⟨by first | rfl | (simp; done) | (simp [*]; done), by repeat (first | exact Drawn0.refl _ | apply Drawn0.step)⟩
   ·rw [if_neg c4] at H
    have c4b0 := decide_eq_false c4
    clear c4
    by_cases c8 : a0 = 46
    ·rw [if_pos c8] at H
     have c8b0 := beq_iff_eq.mpr c8
     have c8b1 := bne_eq_false_iff_eq.mpr c8
     clear c8
     obtain rfl := Option.some.inj H
     go_enter Tryz.func107, Tryz.ntmps107
     go_wp2
     go_ret
     exact ⟨by first | rfl | (simp; done) | (simp [*]; done), by repeat (first | exact Drawn0.refl _ | apply Drawn0.step)⟩
    ·rw [if_neg c8] at H
     have c8b0 := beq_eq_false_iff_ne.mpr c8
     have c8b1 := bne_iff_ne.mpr c8
     by_cases c9 : a0 = 95
     ·rw [if_pos c9] at H
      have c9b0 := beq_iff_eq.mpr c9
      have c9b1 := bne_eq_false_iff_eq.mpr c9
      clear c9
      obtain rfl := Option.some.inj H
      go_enter Tryz.func107, Tryz.ntmps107
      go_wp2
      go_ret
      exact ⟨by first | rfl | (simp; done) | (simp [*]; done), by repeat (first | exact Drawn0.refl _ | apply Drawn0.step)⟩
     ·rw [if_neg c9] at H
      have c9b0 := beq_eq_false_iff_ne.mpr c9
      have c9b1 := bne_iff_ne.mpr c9
      obtain rfl := Option.some.inj H
      go_enter Tryz.func107, Tryz.ntmps107
      go_wp2
      go_ret
      exact ⟨by first | rfl | (simp; done) | (simp [*]; done), by repeat (first | exact Drawn0.refl _ | apply Drawn0.step)⟩
 ·rw [if_neg c2] at H
  have c2b0 := decide_eq_false c2
  clear c2
  by_cases c10 : a0 ≥ 48
  ·rw [if_pos c10] at H
   have c10b0 := decide_eq_true c10
   clear c10
   by_cases c11 : a0 ≤ 57
   ·rw [if_pos c11] at H
    have c11b0 := decide_eq_true c11
    clear c11
    obtain rfl := Option.some.inj H
    go_enter Tryz.func107, Tryz.ntmps107
    go_wp2
    go_ret
    exact ⟨by first | rfl | (simp; done) | (simp [*]; done), by repeat (first | exact Drawn0.refl _ | apply Drawn0.step)⟩
   ·rw [if_neg c11] at H
    have c11b0 := decide_eq_false c11
    clear c11
    by_cases c12 : a0 = 46
    ·rw [if_pos c12] at H
     have c12b0 := beq_iff_eq.mpr c12
     have c12b1 := bne_eq_false_iff_eq.mpr c12
     clear c12
     obtain rfl := Option.some.inj H
     go_enter Tryz.func107, Tryz.ntmps107
     go_wp2
     go_ret
     exact ⟨by first | rfl | (simp; done) | (simp [*]; done), by repeat (first | exact Drawn0.refl _ | apply Drawn0.step)⟩
    ·rw [if_neg c12] at H
     have c12b0 := beq_eq_false_iff_ne.mpr c12
     have c12b1 := bne_iff_ne.mpr c12
     by_cases c13 : a0 = 95
     ·rw [if_pos c13] at H
      have c13b0 := beq_iff_eq.mpr c13
      have c13b1 := bne_eq_false_iff_eq.mpr c13
      clear c13
      obtain rfl := Option.some.inj H
      go_enter Tryz.func107, Tryz.ntmps107
      go_wp2
      go_ret
      exact ⟨by first | rfl | (simp; done) | (simp [*]; done), by repeat (first | exact Drawn0.refl _ | apply Drawn0.step)⟩
     ·rw [if_neg c13] at H
      have c13b0 := beq_eq_false_iff_ne.mpr c13
      have c13b1 := bne_iff_ne.mpr c13
      obtain rfl := Option.some.inj H
      go_enter Tryz.func107, Tryz.ntmps107
      go_wp2
      go_ret
      exact ⟨by first | rfl | (simp; done) | (simp [*]; done), by repeat (first | exact Drawn0.refl _ | apply Drawn0.step)⟩
  ·rw [if_neg c10] at H
   have c10b0 := decide_eq_false c10
   clear c10
   by_cases c14 : a0 = 46
   ·rw [if_pos c14] at H
    have c14b0 := beq_iff_eq.mpr c14
    have c14b1 := bne_eq_false_iff_eq.mpr c14
    clear c14
    obtain rfl := Option.some.inj H
    go_enter Tryz.func107, Tryz.ntmps107
    go_wp2
    go_ret
    exact ⟨by first | rfl | (simp; done) | (simp [*]; done), by repeat (first | exact Drawn0.refl _ | apply Drawn0.step)⟩
   ·rw [if_neg c14] at H
    have c14b0 := beq_eq_false_iff_ne.mpr c14
    have c14b1 := bne_iff_ne.mpr c14
    by_cases c15 : a0 = 95
    ·rw [if_pos c15] at H
     have c15b0 := beq_iff_eq.mpr c15
     have c15b1 := bne_eq_false_iff_eq.mpr c15
     clear c15
     obtain rfl := Option.some.inj H
     go_enter Tryz.func107, Tryz.ntmps107
     go_wp2
     go_ret
     exact ⟨by first | rfl | (simp; done) | (simp [*]; done), by repeat (first | exact Drawn0.refl _ | apply Drawn0.step)⟩
    ·rw [if_neg c15] at H
     have c15b0 := beq_eq_false_iff_ne.mpr c15
     have c15b1 := bne_iff_ne.mpr c15
     obtain rfl := Option.some.inj H
     go_enter Tryz.func107, Tryz.ntmps107
     go_wp2
     go_ret
     exact ⟨by first | rfl | (simp; done) | (simp [*]; done), by repeat (first | exact Drawn0.refl _ | apply Drawn0.step)⟩
def impl_isPart_1.f (a0 : Int) : Option (Bool) := (impl_isNameByte.f a0).bind fun t352 => (some (!t352))
theorem impl_isPart_1.calls (a0 : Int) (r : Bool) (w : World) (h : impl_isPart_1.f a0 = some r) :
  Calls Tryz.prog 106 #[.int .u8 a0] w fun e w' => e = .returned (.bool r) ∧ Drawn0 w w' := by
 have H : ((impl_isNameByte.f a0).bind fun t352 => (some (!t352))) = some r := h
 clear h
 obtain ⟨t352, A2, H⟩ := bS H
 try dsimp only at H
 obtain rfl := Option.some.inj H
 go_enter Tryz.func106, Tryz.ntmps106
 go_wp2_with (first | ((with_reducible refine gt 107 rfl ?_); refine gL 107 4 Tryz.func107 #[.int .u8 a0] ?_; (with_reducible refine (impl_isNameByte.calls a0 t352 _ A2.out).mono ?_); rintro e w' ⟨rfl, ⟨nd, rfl⟩⟩; refine ⟨_, rfl, ?_⟩))
 go_ret
 exact ⟨by first | rfl | (simp; done) | (simp [*]; done), by repeat (first | exact Drawn0.refl _ | apply Drawn0.step)⟩
def slices_IndexFunc_byte_byte__impl_isPart_1.l0 : Nat → List Int → Int → Int → Option (Int)
 | 0, _, _, _ => none
 | k + 1, x0, x7, x8 => if x8 < x7 then (if 0 ≤ x8 then (if x8 < (x0.length : Int) then ((impl_isPart_1.f (rd x0 x8)).bind fun t354 => (if t354 = true then (some x8) else (slices_IndexFunc_byte_byte__impl_isPart_1.l0 k x0 x7 (wrap64 (x8 + 1))))) else (none)) else (none)) else (some (-1))
def slices_IndexFunc_byte_byte__impl_isPart_1.f (k : Nat) (l0 : List Int)  : Option (Int) := slices_IndexFunc_byte_byte__impl_isPart_1.l0 k l0 (l0.length : Int) 0
theorem slices_IndexFunc_byte_byte__impl_isPart_1.calls (k : Nat) (A0 : Option Addr) (c0 : Nat) (l0 : List Int)  (r : Int) (w : World) (hr0 : Kd.C (Kd.int .u8) w A0 l0.length l0) (hc0 : l0.length ≤ c0) (h : slices_IndexFunc_byte_byte__impl_isPart_1.f k l0 = some r) :
  Calls Tryz.prog 116 #[.slice A0 l0.length c0, .func (.func 106) #[] #[]] w fun e w' => e = .returned (.int .i64 r) ∧ Below w.heap.size w w' := by
 have HR0 := Aside0.mk hr0
 have HC0 := Aside0.mk hc0
 clear hr0 hc0
 have HB := Aside0.mk (Below.refl w.heap.size w)
 have H : (slices_IndexFunc_byte_byte__impl_isPart_1.l0 k l0 (l0.length : Int) 0) = some r := h
 clear h
 have H' := Aside0.mk H
 clear H
 go_enter Tryz.func116, Tryz.ntmps116
 go_wp2
 go_loopg [8] k (fun kq v8 w' => ∃ (x8_1 : Int), v8 = .int .i64 x8_1 ∧ Aside0 (slices_IndexFunc_byte_byte__impl_isPart_1.l0 kq l0 (l0.length : Int) x8_1 = some r) ∧ Aside0 (kq ≤ k) ∧ Aside0 (Below w.heap.size w w'))
 case atStart => exact ⟨(0), sR, H', ⟨Nat.le_refl _⟩, ⟨sB⟩⟩
 case round =>
  clear H'
  try clear p2
  obtain ⟨x8_1, rfl, HA, HK1, HB⟩ := hrel
  cases gk with
  | zero => exact absurd HA.out (by simp [slices_IndexFunc_byte_byte__impl_isPart_1.l0])
  | succ k1 =>
   have H := HA.out
   clear HA
   simp only [slices_IndexFunc_byte_byte__impl_isPart_1.l0] at H
   by_cases c3 : x8_1 < (l0.length : Int)
   ·rw [if_pos c3] at H
    have c3b0 := decide_eq_true c3
    clear c3
    obtain ⟨c4, H⟩ := iN H
    have c4b0 := decide_eq_true c4
    clear c4
    obtain ⟨c5, H⟩ := iN H
    have c5b0 := decide_eq_true c5
    clear c5
    obtain ⟨t354, A6, H⟩ := bS H
    try dsimp only at H
    by_cases c7 : t354 = true
    ·subst c7
     rw [if_pos rfl] at H
     obtain rfl := Option.some.inj H
     have p353 : 0 ≤ (x8_1 : Int) := sO
     have q353 : x8_1 < (l0.length : Int) := sO
     obtain ⟨ad353, e353, hx353_0⟩ := Kd.at_int HR0.out x8_1 p353 q353
     cases e353
     replace hx353_0 := hB HB hx353_0
     replace p353 := eq_true p353
     replace q353 := eq_true q353
     go_wp2_with (first | (go_at_call 106; (with_reducible refine (impl_isPart_1.calls (rd l0 x8_1) true _ A6.out).mono ?_); rintro e w' ⟨rfl, ⟨nd, rfl⟩⟩))
     go_ret
     exact ⟨sE, sB⟩
    ·replace c7 := Bool.eq_false_iff.mpr c7
     subst c7
     rw [if_neg (show ¬ (false = true) by decide)] at H
     have H' := Aside0.mk H
     clear H
     have p353 : 0 ≤ (x8_1 : Int) := sO
     have q353 : x8_1 < (l0.length : Int) := sO
     obtain ⟨ad353, e353, hx353_0⟩ := Kd.at_int HR0.out x8_1 p353 q353
     cases e353
     replace hx353_0 := hB HB hx353_0
     replace p353 := eq_true p353
     replace q353 := eq_true q353
     go_wp2_with (first | (go_at_call 106; (with_reducible refine (impl_isPart_1.calls (rd l0 x8_1) false _ A6.out).mono ?_); rintro e w' ⟨rfl, ⟨nd, rfl⟩⟩))
     go_roundg k1
     case measure => have := HK1.out; omega
     case rel => exact ⟨(wrap64 (x8_1 + 1)), sR, H', ⟨by have := HK1.out; omega⟩, ⟨sB⟩⟩
   ·rw [if_neg c3] at H
    have c3b0 := decide_eq_false c3
    clear c3
    obtain rfl := Option.some.inj H
    go_wp2
    go_ret
    exact ⟨sE, sB⟩
def slices_ContainsFunc_byte_byte__impl_isPart_1.f (k : Nat) (l0 : List Int)  : Option (Bool) := (slices_IndexFunc_byte_byte__impl_isPart_1.f k l0).bind fun t355 => (some (decide (t355 ≥ 0)))
theorem slices_ContainsFunc_byte_byte__impl_isPart_1.calls (k : Nat) (A0 : Option Addr) (c0 : Nat) (l0 : List Int)  (r : Bool) (w : World) (hr0 : Kd.C (Kd.int .u8) w A0 l0.length l0) (hc0 : l0.length ≤ c0) (h : slices_ContainsFunc_byte_byte__impl_isPart_1.f k l0 = some r) :
  Calls Tryz.prog 105 #[.slice A0 l0.length c0, .func (.func 106) #[] #[]] w fun e w' => e = .returned (.bool r) ∧ Below w.heap.size w w' := by
 have HR0 := Aside0.mk hr0
 have HC0 := Aside0.mk hc0
 clear hr0 hc0
 have HB := Aside0.mk (Below.refl w.heap.size w)
 have H : ((slices_IndexFunc_byte_byte__impl_isPart_1.f k l0).bind fun t355 => (some (decide (t355 ≥ 0)))) = some r := h
 clear h
 obtain ⟨t355, A3, H⟩ := bS H
 try dsimp only at H
 obtain rfl := Option.some.inj H
 go_enter Tryz.func105, Tryz.ntmps105
 go_wp2_with (first | ((with_reducible refine gt 116 rfl ?_); refine gL 116 7 Tryz.func116 #[.slice A0 l0.length c0, .func (.func 106) #[] #[]] ?_; (with_reducible refine (slices_IndexFunc_byte_byte__impl_isPart_1.calls k _ _ l0  t355 _ ?side1 ?side2 A3.out).mono ?_); (case side1 => repeat (first | exact HR0.out | (with_reducible refine Kd.C_alloc ?_ _) | (with_reducible refine Kd.C_drewN ?_ _) | (with_reducible refine Kd.C_drew ?_))); (case side2 => exact HC0.out); rintro e w4 ⟨rfl, hb⟩; refine ⟨_, rfl, ?_⟩; replace HB := nSB hb; try clear hb))
 go_ret
 exact ⟨sE, sB⟩
def impl_isPart.f (k : Nat) (a0 : ByteArray) : Option Bool := (impl_within.f (a0.size : Int) 1 8).bind fun t => if t = true then ((slices_ContainsFunc_byte_byte__impl_isPart_1.f k (bytesOf a0)).bind fun b => some (!b)) else some false
theorem impl_isPart.within (n : Int) : impl_within.f n 1 8 = some (decide (1 ≤ n) && decide (n ≤ 8)) := by
 unfold impl_within.f
 by_cases h : n ≥ 1
 ·rw [if_pos h]; simp [show (1 : Int) ≤ n from h]
 ·rw [if_neg h]; simp [show ¬ (1 : Int) ≤ n from h]
set_option maxHeartbeats 1000000 in
theorem impl_isPart.calls (k : Nat) (a0 : ByteArray) (r : Bool) (w : World) (h : impl_isPart.f k a0 = some r) :
  Calls Tryz.prog 99 #[.string a0] w fun e w' => e = .returned (.bool r) ∧ Below w.heap.size w w' := by
 unfold impl_isPart.f at h
 rw [impl_isPart.within] at h
 simp only [Option.bind_some] at h
 have hw := impl_isPart.within (a0.size : Int)
 generalize hb : (decide (1 ≤ (a0.size : Int)) && decide ((a0.size : Int) ≤ 8)) = b at h hw
 cases b with
 | false =>
  simp only [Bool.false_eq_true, if_false] at h
  obtain rfl := Option.some.inj h
  clear h hb
  have HW := Aside0.mk hw
  clear hw
  go_enter Tryz.func99, Tryz.ntmps99
  go_wp2_with (go_at_call 66; (with_reducible refine (impl_within.calls _ 1 8 false _ HW.out).mono ?_); rintro e w' ⟨rfl, ⟨nd, rfl⟩⟩)
  go_ret
  exact ⟨rfl, pw_below_drewN (Below.refl _ _) _⟩
 | true =>
  have hs : a0.size ≤ 8 := by simp at hb; omega
  simp only [if_true] at h
  obtain ⟨b, hc, h⟩ := Option.bind_eq_some_iff.mp h
  obtain rfl := Option.some.inj h
  clear h hb
  have HW := Aside0.mk hw
  have HS := Aside0.mk hs
  have HCC := Aside0.mk (fun (A : Option Addr) (c : Nat) (W : World) (hr : Kd.C (Kd.int .u8) W A a0.size (bytesOf a0)) (hc0 : a0.size ≤ c) =>
   (show Calls Tryz.prog 105 #[.slice A a0.size c, .func (.func 106) #[] #[]] W fun e w' => e = .returned (.bool b) ∧ Below W.heap.size W w' by
    have h := slices_ContainsFunc_byte_byte__impl_isPart_1.calls k A c (bytesOf a0) b W
    rw [bytesOf_length] at h
    exact h hr hc0 hc))
  clear hw hc hs
  have kb := fun W => print_bytes (P := Tryz.prog) 9 69 5 Tryz.underlying9 Tryz.underlying69 Tryz.underlying5 a0 W
  go_enter Tryz.func99, Tryz.ntmps99
  go_wp2_with (first | (go_at_call 66; (with_reducible refine (impl_within.calls _ 1 8 true _ HW.out).mono ?_); rintro e w' ⟨rfl, ⟨nd, rfl⟩⟩) | (go_at_call 105; (with_reducible refine (HCC.out _ _ _ ?hr ?hc).mono ?_); (case hr => exact Kd.C_of_reads (d := (0 : Int)) (h1 := fun _ => rfl) (bytes_reads (w.drewN nd) 5 a0 (by have := HS.out; omega))); (case hc => exact grownCap_ge _ _ _ _); rintro e w2 ⟨rfl, hb2⟩))
  go_ret
  exact ⟨rfl, below_step (bytes_below (pw_below_drewN (Below.refl _ _) _) (Nat.le_refl _) 5 a0) hb2⟩
def impl_isLong_1.f (k : Nat) (a0 : ByteArray) : Option (Bool) := (impl_isPart.f k a0).bind fun t356 => (some (!t356))
theorem impl_isLong_1.calls (k : Nat) (a0 : ByteArray) (r : Bool) (w : World) (h : impl_isLong_1.f k a0 = some r) :
  Calls Tryz.prog 104 #[.string a0] w fun e w' => e = .returned (.bool r) ∧ Below w.heap.size w w' := by
 have HB := Aside0.mk (Below.refl w.heap.size w)
 have H : ((impl_isPart.f k a0).bind fun t356 => (some (!t356))) = some r := h
 clear h
 obtain ⟨t356, A2, H⟩ := bS H
 try dsimp only at H
 obtain rfl := Option.some.inj H
 go_enter Tryz.func104, Tryz.ntmps104
 go_wp2_with (first | ((with_reducible refine gt 99 rfl ?_); refine gL 99 4 Tryz.func99 #[.string a0] ?_; (with_reducible refine (impl_isPart.calls k a0 t356 _ A2.out).mono ?_); rintro e w3 ⟨rfl, hb⟩; refine ⟨_, rfl, ?_⟩; replace HB := nSB hb; try clear hb))
 go_ret
 exact ⟨sE, sB⟩
def slices_IndexFunc_string_string__impl_isLong_1.l0 : Nat → List ByteArray → Int → Int → Option (Int)
 | 0, _, _, _ => none
 | k + 1, x0, x7, x8 => if x8 < x7 then (if 0 ≤ x8 then (if x8 < (x0.length : Int) then ((impl_isLong_1.f k (rdOf ByteArray.empty x0 x8)).bind fun t358 => (if t358 = true then (some x8) else (slices_IndexFunc_string_string__impl_isLong_1.l0 k x0 x7 (wrap64 (x8 + 1))))) else (none)) else (none)) else (some (-1))
def slices_IndexFunc_string_string__impl_isLong_1.f (k : Nat) (l0 : List ByteArray)  : Option (Int) := slices_IndexFunc_string_string__impl_isLong_1.l0 k l0 (l0.length : Int) 0
theorem slices_IndexFunc_string_string__impl_isLong_1.calls (k : Nat) (A0 : Option Addr) (c0 : Nat) (l0 : List ByteArray)  (r : Int) (w : World) (hr0 : Kd.C Kd.string w A0 l0.length l0) (hc0 : l0.length ≤ c0) (h : slices_IndexFunc_string_string__impl_isLong_1.f k l0 = some r) :
  Calls Tryz.prog 112 #[.slice A0 l0.length c0, .func (.func 104) #[] #[]] w fun e w' => e = .returned (.int .i64 r) ∧ Below w.heap.size w w' := by
 have HR0 := Aside0.mk hr0
 have HC0 := Aside0.mk hc0
 clear hr0 hc0
 have HB := Aside0.mk (Below.refl w.heap.size w)
 have H : (slices_IndexFunc_string_string__impl_isLong_1.l0 k l0 (l0.length : Int) 0) = some r := h
 clear h
 have H' := Aside0.mk H
 clear H
 go_enter Tryz.func112, Tryz.ntmps112
 go_wp2
 go_loopg [8] k (fun kq v8 w' => ∃ (x8_1 : Int), v8 = .int .i64 x8_1 ∧ Aside0 (slices_IndexFunc_string_string__impl_isLong_1.l0 kq l0 (l0.length : Int) x8_1 = some r) ∧ Aside0 (kq ≤ k) ∧ Aside0 (Below w.heap.size w w'))
 case atStart => exact ⟨(0), sR, H', ⟨Nat.le_refl _⟩, ⟨sB⟩⟩
 case round =>
  clear H'
  try clear p2
  obtain ⟨x8_1, rfl, HA, HK1, HB⟩ := hrel
  cases gk with
  | zero => exact absurd HA.out (by simp [slices_IndexFunc_string_string__impl_isLong_1.l0])
  | succ k1 =>
   have H := HA.out
   clear HA
   simp only [slices_IndexFunc_string_string__impl_isLong_1.l0] at H
   by_cases c3 : x8_1 < (l0.length : Int)
   ·rw [if_pos c3] at H
    have c3b0 := decide_eq_true c3
    clear c3
    obtain ⟨c4, H⟩ := iN H
    have c4b0 := decide_eq_true c4
    clear c4
    obtain ⟨c5, H⟩ := iN H
    have c5b0 := decide_eq_true c5
    clear c5
    obtain ⟨t358, A6, H⟩ := bS H
    try dsimp only at H
    by_cases c7 : t358 = true
    ·subst c7
     rw [if_pos rfl] at H
     obtain rfl := Option.some.inj H
     have p357 : 0 ≤ (x8_1 : Int) := sO
     have q357 : x8_1 < (l0.length : Int) := sO
     obtain ⟨ad357, e357, hx357_0⟩ := Kd.at_string HR0.out x8_1 p357 q357
     cases e357
     replace hx357_0 := hB HB hx357_0
     replace p357 := eq_true p357
     replace q357 := eq_true q357
     go_wp2_with (first | (go_at_call 104; (with_reducible refine (impl_isLong_1.calls k1 (rdOf ByteArray.empty l0 x8_1) true _ A6.out).mono ?_); rintro e w8 ⟨rfl, hb⟩; replace HB := nSB hb; try clear hb))
     go_ret
     exact ⟨sE, sB⟩
    ·replace c7 := Bool.eq_false_iff.mpr c7
     subst c7
     rw [if_neg (show ¬ (false = true) by decide)] at H
     have H' := Aside0.mk H
     clear H
     have p357 : 0 ≤ (x8_1 : Int) := sO
     have q357 : x8_1 < (l0.length : Int) := sO
     obtain ⟨ad357, e357, hx357_0⟩ := Kd.at_string HR0.out x8_1 p357 q357
     cases e357
     replace hx357_0 := hB HB hx357_0
     replace p357 := eq_true p357
     replace q357 := eq_true q357
     go_wp2_with (first | (go_at_call 104; (with_reducible refine (impl_isLong_1.calls k1 (rdOf ByteArray.empty l0 x8_1) false _ A6.out).mono ?_); rintro e w9 ⟨rfl, hb⟩; replace HB := nSB hb; try clear hb))
     go_roundg k1
     case measure => have := HK1.out; omega
     case rel => exact ⟨(wrap64 (x8_1 + 1)), sR, H', ⟨by have := HK1.out; omega⟩, ⟨sB⟩⟩
   ·rw [if_neg c3] at H
    have c3b0 := decide_eq_false c3
    clear c3
    obtain rfl := Option.some.inj H
    go_wp2
    go_ret
    exact ⟨sE, sB⟩
def slices_ContainsFunc_string_string__impl_isLong_1.f (k : Nat) (l0 : List ByteArray)  : Option (Bool) := (slices_IndexFunc_string_string__impl_isLong_1.f k l0).bind fun t359 => (some (decide (t359 ≥ 0)))
theorem slices_ContainsFunc_string_string__impl_isLong_1.calls (k : Nat) (A0 : Option Addr) (c0 : Nat) (l0 : List ByteArray)  (r : Bool) (w : World) (hr0 : Kd.C Kd.string w A0 l0.length l0) (hc0 : l0.length ≤ c0) (h : slices_ContainsFunc_string_string__impl_isLong_1.f k l0 = some r) :
  Calls Tryz.prog 102 #[.slice A0 l0.length c0, .func (.func 104) #[] #[]] w fun e w' => e = .returned (.bool r) ∧ Below w.heap.size w w' := by
 have HR0 := Aside0.mk hr0
 have HC0 := Aside0.mk hc0
 clear hr0 hc0
 have HB := Aside0.mk (Below.refl w.heap.size w)
 have H : ((slices_IndexFunc_string_string__impl_isLong_1.f k l0).bind fun t359 => (some (decide (t359 ≥ 0)))) = some r := h
 clear h
 obtain ⟨t359, A3, H⟩ := bS H
 try dsimp only at H
 obtain rfl := Option.some.inj H
 go_enter Tryz.func102, Tryz.ntmps102
 go_wp2_with (first | ((with_reducible refine gt 112 rfl ?_); refine gL 112 7 Tryz.func112 #[.slice A0 l0.length c0, .func (.func 104) #[] #[]] ?_; (with_reducible refine (slices_IndexFunc_string_string__impl_isLong_1.calls k _ _ l0  t359 _ ?side1 ?side2 A3.out).mono ?_); (case side1 => repeat (first | exact HR0.out | (with_reducible refine Kd.C_alloc ?_ _) | (with_reducible refine Kd.C_drewN ?_ _) | (with_reducible refine Kd.C_drew ?_))); (case side2 => exact HC0.out); rintro e w4 ⟨rfl, hb⟩; refine ⟨_, rfl, ?_⟩; replace HB := nSB hb; try clear hb))
 go_ret
 exact ⟨sE, sB⟩
def impl_isLong.f (k : Nat) (a0 : ByteArray) : Option (Bool) := if a0.toList = ([] : List UInt8) then (some false) else ((impl_partsOf.f a0).bind fun t360 => ((slices_ContainsFunc_string_string__impl_isLong_1.f k t360).bind fun t363 => (some (!t363))))
theorem impl_isLong.calls (k : Nat) (a0 : ByteArray) (r : Bool) (w : World) (h : impl_isLong.f k a0 = some r) :
  Calls Tryz.prog 98 #[.string a0] w fun e w' => e = .returned (.bool r) ∧ Below w.heap.size w w' := by
 have HB := Aside0.mk (Below.refl w.heap.size w)
 have H : (if a0.toList = ([] : List UInt8) then (some false) else ((impl_partsOf.f a0).bind fun t360 => ((slices_ContainsFunc_string_string__impl_isLong_1.f k t360).bind fun t363 => (some (!t363))))) = some r := h
 clear h
 by_cases c2 : a0.toList = ([] : List UInt8)
 ·rw [if_pos c2] at H
  have c2b0 := beq_iff_eq.mpr c2
  have c2b1 := bne_eq_false_iff_eq.mpr c2
  clear c2
  obtain rfl := Option.some.inj H
  go_enter Tryz.func98, Tryz.ntmps98
  go_wp2
  go_ret
  exact ⟨sE, sB⟩
 ·rw [if_neg c2] at H
  have c2b0 := beq_eq_false_iff_ne.mpr c2
  have c2b1 := bne_iff_ne.mpr c2
  obtain ⟨t360, A3, H⟩ := bS H
  try dsimp only at H
  obtain ⟨t363, A4, H⟩ := bS H
  try dsimp only at H
  obtain rfl := Option.some.inj H
  go_enter Tryz.func98, Tryz.ntmps98
  go_wp2_with (first | (go_at_call 103; (with_reducible refine (impl_partsOf.calls a0 t360 _ A3.out).mono ?_); rintro e w5 ⟨v361, rfl, ho0, hb⟩; have HO362 := Aside0.mk (Kd.R_lower ho0 (below_size sB)); replace HB := nSB hb; try clear hb; (try clear ho0); obtain ⟨Ao6, co6, eo6⟩ := Kd.R_slice HO362.out; subst eo6) | (go_at_call 102; (with_reducible refine (slices_ContainsFunc_string_string__impl_isLong_1.calls k _ _ t360  t363 _ ?side1 ?side2 A4.out).mono ?_); (case side1 => exact sD (Kd.R_reads' HO362.out).2.2); (case side2 => exact (Kd.R_reads' HO362.out).2.1); rintro e w7 ⟨rfl, hb⟩; replace HO362 := nR HO362 hb; replace HB := nSB hb; try clear hb))
  go_ret
  exact ⟨sE, sB⟩
def impl_GoodPath.f (k : Nat) (a0 : ByteArray) : Option (Bool) := if (a0.size : Int) ≤ 60 then ((impl_isLong.f k a0).bind fun t364 => (some t364)) else (some false)
theorem impl_GoodPath.calls (k : Nat) (a0 : ByteArray) (r : Bool) (w : World) (h : impl_GoodPath.f k a0 = some r) :
  Calls Tryz.prog 90 #[.string a0] w fun e w' => e = .returned (.bool r) ∧ Below w.heap.size w w' := by
 have HB := Aside0.mk (Below.refl w.heap.size w)
 have H : (if (a0.size : Int) ≤ 60 then ((impl_isLong.f k a0).bind fun t364 => (some t364)) else (some false)) = some r := h
 clear h
 by_cases c2 : (a0.size : Int) ≤ 60
 ·rw [if_pos c2] at H
  have c2b0 := decide_eq_true c2
  have c2b1 : decide (a0.size ≤ 60) = true := decide_eq_true (by omega)
  clear c2
  obtain ⟨t364, A3, H⟩ := bS H
  try dsimp only at H
  obtain rfl := Option.some.inj H
  go_enter Tryz.func90, Tryz.ntmps90
  go_wp2_with (first | (go_at_call 98; (with_reducible refine (impl_isLong.calls k a0 t364 _ A3.out).mono ?_); rintro e w4 ⟨rfl, hb⟩; replace HB := nSB hb; try clear hb))
  go_ret
  exact ⟨sE, sB⟩
 ·rw [if_neg c2] at H
  have c2b0 := decide_eq_false c2
  have c2b1 : decide (a0.size ≤ 60) = false := decide_eq_false (by omega)
  clear c2
  obtain rfl := Option.some.inj H
  go_enter Tryz.func90, Tryz.ntmps90
  go_wp2
  go_ret
  exact ⟨sE, sB⟩
def impl_isDots.f (a0 : ByteArray) : Option (Bool) := if a0.toList = ([46] : List UInt8) then (some true) else (some (a0.toList == ([46, 46] : List UInt8)))
theorem impl_isDots.calls (a0 : ByteArray) (r : Bool) (w : World) (h : impl_isDots.f a0 = some r) :
  Calls Tryz.prog 100 #[.string a0] w fun e w' => e = .returned (.bool r) ∧ Drawn0 w w' := by
 have H : (if a0.toList = ([46] : List UInt8) then (some true) else (some (a0.toList == ([46, 46] : List UInt8)))) = some r := h
 clear h
 by_cases c2 : a0.toList = ([46] : List UInt8)
 ·rw [if_pos c2] at H
  have c2b0 := beq_iff_eq.mpr c2
  have c2b1 := bne_eq_false_iff_eq.mpr c2
  clear c2
  obtain rfl := Option.some.inj H
  go_enter Tryz.func100, Tryz.ntmps100
  go_wp2
  go_ret
  exact ⟨by first | rfl | (simp; done) | (simp [*]; done), by repeat (first | exact Drawn0.refl _ | apply Drawn0.step)⟩
 ·rw [if_neg c2] at H
  have c2b0 := beq_eq_false_iff_ne.mpr c2
  have c2b1 := bne_iff_ne.mpr c2
  obtain rfl := Option.some.inj H
  go_enter Tryz.func100, Tryz.ntmps100
  go_wp2
  go_ret
  exact ⟨by first | rfl | (simp; done) | (simp [*]; done), by repeat (first | exact Drawn0.refl _ | apply Drawn0.step)⟩
def impl_GoodName.f (k : Nat) (a0 : ByteArray) : Option (Bool) := (impl_isPart.f k a0).bind fun t365 => (if t365 = true then ((impl_isDots.f a0).bind fun t366 => (some (!t366))) else (some false))
theorem impl_GoodName.calls (k : Nat) (a0 : ByteArray) (r : Bool) (w : World) (h : impl_GoodName.f k a0 = some r) :
  Calls Tryz.prog 91 #[.string a0] w fun e w' => e = .returned (.bool r) ∧ Below w.heap.size w w' := by
 have HB := Aside0.mk (Below.refl w.heap.size w)
 have H : ((impl_isPart.f k a0).bind fun t365 => (if t365 = true then ((impl_isDots.f a0).bind fun t366 => (some (!t366))) else (some false))) = some r := h
 clear h
 obtain ⟨t365, A2, H⟩ := bS H
 try dsimp only at H
 by_cases c3 : t365 = true
 ·subst c3
  rw [if_pos rfl] at H
  obtain ⟨t366, A4, H⟩ := bS H
  try dsimp only at H
  obtain rfl := Option.some.inj H
  go_enter Tryz.func91, Tryz.ntmps91
  go_wp2_with (first | ((with_reducible refine gt 99 rfl ?_); refine gL 99 4 Tryz.func99 #[.string a0] ?_; (with_reducible refine (impl_isPart.calls k a0 true _ A2.out).mono ?_); rintro e w5 ⟨rfl, hb⟩; refine ⟨_, rfl, ?_⟩; replace HB := nSB hb; try clear hb) | (go_at_call 100; (with_reducible refine (impl_isDots.calls a0 t366 _ A4.out).mono ?_); rintro e w' ⟨rfl, ⟨nd, rfl⟩⟩))
  go_ret
  exact ⟨sE, sB⟩
 ·replace c3 := Bool.eq_false_iff.mpr c3
  subst c3
  rw [if_neg (show ¬ (false = true) by decide)] at H
  obtain rfl := Option.some.inj H
  go_enter Tryz.func91, Tryz.ntmps91
  go_wp2_with (first | ((with_reducible refine gt 99 rfl ?_); refine gL 99 4 Tryz.func99 #[.string a0] ?_; (with_reducible refine (impl_isPart.calls k a0 false _ A2.out).mono ?_); rintro e w6 ⟨rfl, hb⟩; refine ⟨_, rfl, ?_⟩; replace HB := nSB hb; try clear hb))
  go_ret
  exact ⟨sE, sB⟩
end Go.Proofs.YtdjceippnokimaaGreatDoor.PGrp
