import Derived.Test.YtdjceippnokimaaGreatDoorPTrx0
import Derived.Test.YtdjceippnokimaaGreatDoorPTrx1
import Derived.Test.YtdjceippnokimaaGreatDoorPTrx3
import Derived.Test.YtdjceippnokimaaGreatDoorPTrx13
import Derived.Test.YtdjceippnokimaaGreatDoorPTrx18
import Derived.Test.YtdjceippnokimaaGreatDoorPTrx19
namespace Go.Proofs.YtdjceippnokimaaGreatDoor.PTr
open Go.RowKit Go.Proofs.YtdjceippnokimaaGreatDoorW.PrintWords Go.Proofs.YtdjceippnokimaaGreatDoorW.PrintLast Go.Proofs.YtdjceippnokimaaGreatDoorW.PrintMore
attribute [local go_sem] max2_int min2_int max_two min_two max_three min_three max_four min_four   -- for this text's walks alone
set_option linter.unusedVariables false
set_option linter.unusedSimpArgs false
set_option maxHeartbeats 8000000
set_option maxRecDepth 100000
/-! ### impl_Fs_treeText: function 24 -/
theorem isBuilderF_below {T e : TypeId} {B b : Nat} {bs : List Value} {w w1 : World} (h : Lib.IsBuilderF T e B b bs w) (hb : Below w.heap.size w w1) : Lib.IsBuilderF T e B b bs w1 := by
 have key : ∀ p, Lib.BuilderAtF T e B b p bs w → Lib.BuilderAtF T e B b p bs w1 := fun p ⟨h1, v, h2, h3, h4⟩ => ⟨h1, v, (hb.block b (blk_lt h2)).trans h2, ⟨h3.1, h3.2.imp id (fun ⟨g, cap, cur, fz, hv, hbg, hg, rest⟩ => ⟨g, cap, cur, fz, hv, hbg, (hb.block g (blk_lt hg)).trans hg, rest⟩)⟩, h4⟩
 exact h.elim (fun x => .inl (key _ x)) (fun x => .inr (key _ x))
theorem builder_write (B b : Nat) (bs : List Value) (s : ByteArray) (w : World) (h : Lib.IsBuilderF 71 5 B b bs w) (hlen : bs.length + s.size ≤ 140737488355328) (hBw : B ≤ w.heap.size) :
  Calls Tryz.prog 44 #[.pointer (some ⟨b, 0, none⟩), .string s] w fun e w' => e = .returned (.tuple #[.int .i64 s.size, .nilIface]) ∧ (Lib.BuilderAtF 71 5 B b (.pointer (some ⟨b, 0, none⟩)) (bs ++ Lib.strCells s) w' ∧ Below B w w' ∧ Lib.OthersKept 5 (some b) w w') := Any.Builder_WriteString_k Tryz.lays166 Tryz.Builder_Extra_166 B b bs s w h hlen hBw
theorem builder_string (B b : Nat) (l : List UInt8) (w : World) (h : Lib.IsBuilderF 71 5 B b (Lib.byteCells l) w) (hBw : B ≤ w.heap.size) :
  Calls Tryz.prog 46 #[.pointer (some ⟨b, 0, none⟩)] w fun e w' => e = .returned (.string ⟨l.toArray⟩) ∧ (Lib.IsBuilderF 71 5 B b (Lib.byteCells l) w' ∧ Below B w w' ∧ Lib.OthersKept 5 (some b) w w') := Tryz.Builder_String_any_k B b l w h hBw
theorem bytes_cells (acc s : ByteArray) : Lib.byteCells acc.data.toList ++ Lib.strCells s = Lib.byteCells (acc ++ s).data.toList := by
 simp [Lib.byteCells, Lib.strCells]
theorem bytes_len (acc : ByteArray) : (Lib.byteCells acc.data.toList).length = acc.size := by
 rw [Lib.byteCells_length]; rfl
def impl_Fs_treeText.go (ns : List S65) (room : Int) : List S75 → ByteArray → Option ByteArray
 | [], acc => some acc
 | x :: l, acc => (impl_Fs_wayText.f ns room x.f0 x.f1).bind fun t => if t.size ≤ 35184372088832 ∧ acc.size ≤ 105553116266496 then impl_Fs_treeText.go ns room l (acc ++ t) else none
def impl_Fs_treeText.f (k : Nat) (l0_0 : List (S65)) (a0_1 : Int) (a1 : Int) : Option ByteArray := (impl_Fs_ways.f k l0_0 a0_1 a1 false).bind fun ws => impl_Fs_treeText.go l0_0 a0_1 ws ⟨#[]⟩
theorem impl_Fs_treeText.calls (k : Nat) (A0_0 : Option Addr) (c0_0 : Nat) (l0_0 : List (S65)) (a0_1 : Int) (a1 : Int) (r : ByteArray) (w : World) (hr0_0 : Kd.C k65 w A0_0 l0_0.length l0_0) (hc0_0 : l0_0.length ≤ c0_0) (htab : Lib.TabIs Tryz.prog w "internal/strconv.uint64pow10" .u64 Lib.pow10Tab) (h : impl_Fs_treeText.f k l0_0 a0_1 a1 = some r) :
  Calls Tryz.prog 24 #[.agg #[.slice A0_0 l0_0.length c0_0, .int .i64 a0_1], .int .i64 a1] w fun e w' => e = .returned (.string r) ∧ Below w.heap.size w w' := by
 have hu30 := Tryz.underlying30
 have hu75 := Tryz.underlying75
 obtain ⟨ws, A1, h⟩ := Option.bind_eq_some_iff.mp h
 have HA := Aside0.mk A1
 have HR := Aside0.mk hr0_0
 have HC := Aside0.mk hc0_0
 have H0 := Aside0.mk h
 have HTAB := Aside0.mk htab
 have HB := Aside0.mk (Below.refl w.heap.size w)
 clear h A1 hr0_0 hc0_0 htab
 go_enter Tryz.func24, Tryz.ntmps24
 go_wp2_with (first
  | ((with_reducible refine gd 2 rfl ?_); refine bxE 2 #[.slice A0_0 l0_0.length c0_0, .int .i64 a0_1] 30 ?_; intro gF hg w2 hbox hb; have BF := Aside0.mk hbox; replace HB := nSB hb; clear hb hbox hg; have hcF := cb2 BF)
  | ((with_reducible refine gd 5 rfl ?_); refine bxE 5 #[.pointer none, .slice none 0 0] 71 ?_; intro gB hg w3 hbox hb; have BB := Aside0.mk hbox; have GB := Aside0.mk (show w.heap.size ≤ gB by rw [hg]; exact HB.out.size); have NFB := nL BF hg; have NBF := nH BF hg; replace BF := nK BF hb; replace HB := nSB hb; clear hb hbox hg hcF; have hcB := cb2 BB; have hfB0 := fz BB 0; have hfB1 := fz BB 1; have hcF := cb2 BF; have hne1 := NFB.out; have hne2 := NBF.out)
  | (go_at_call 43; (refine (impl_Fs_ways.calls k _ _ l0_0 a0_1 a1 false ws _ ?s1 HC.out HA.out).mono ?_; (case s1 => exact Kd.C_below HR.out (below_set (below_set HB.out GB.out) GB.out)); rintro e w5 ⟨v, rfl, ho, hb⟩; have B5 := Aside0.mk (below_step (below_set (below_set HB.out GB.out) GB.out) hb); have BF5 := Aside0.mk (blk_below (g := gF) (blk_far (blk_far BF.out NFB.out _) NFB.out _) hb); have BB5 := Aside0.mk (blk_below (g := gB) (blk_put (blk_put BB.out 0 _ rfl) 1 _ rfl) hb); have HO5 := Aside0.mk (Kd.R_tight rfl (Kd.R_lower ho (below_size (below_set (below_set HB.out GB.out) GB.out)))); obtain ⟨Aw, cw, ew⟩ := Kd.R_slice ho; subst ew; clear ho hb hcF hcB hfB0 hfB1 HB BF BB)))
 have hsum : ws.length ≤ 9223372036854775807 := (Kd.R_reads' HO5.out).2.2.2.1
 go_loopg [13] ws.length (fun kq v13 w' => ∃ (i : Nat) (acc : ByteArray), v13 = .int .i64 (i : Int) ∧ Aside0 (i + kq = ws.length) ∧ Aside0 (impl_Fs_treeText.go l0_0 a0_1 (ws.drop i) acc = some r) ∧ Aside0 (Lib.IsBuilderF 71 5 w.heap.size gB (Lib.byteCells acc.data.toList) w') ∧ Aside0 (w'.heap[gF]? = some (.cells #[.slice A0_0 l0_0.length c0_0, .int .i64 a0_1] 30 (0, 0))) ∧ Aside0 (Kd.R k75 75 w' w.heap.size (fun k_ => some k_ = (Value.slice Aw ws.length cw).ownBlock) (.slice Aw ws.length cw) ws) ∧ Aside0 (Below w.heap.size w w'))
 case atStart =>
  refine ⟨0, ⟨#[]⟩, rfl, ⟨by omega⟩, ⟨by simpa using H0.out⟩, ⟨?_⟩, BF5, HO5, B5⟩
  exact .inl ⟨GB.out, .slice none 0 0, BB5.out, World.ownsRowF_of (own_nil _ _ _ _), by simp [Value.ownBlock]⟩
 case round =>
  clear H0 BB5 BF5 HO5 B5
  obtain ⟨i, acc, rfl, HI, HG, HBU, BF, HO, HB⟩ := hrel
  by_cases hlt : i < ws.length
  ·obtain ⟨k1, rfl⟩ : ∃ k1, gk = k1 + 1 := ⟨gk - 1, by have := HI.out; omega⟩
   have hq : (i : Int) < (ws.length : Int) := by omega
   have hG := HG.out
   clear HG
   rw [show ws.drop i = rd_T75 ws (i : Int) :: ws.drop (i + 1) from by
    rw [List.drop_eq_getElem_cons hlt]
    unfold rd_T75
    rw [List.getD_eq_getElem?_getD, show (i : Int).toNat = i by omega, List.getElem?_eq_getElem hlt]; rfl] at hG
   unfold impl_Fs_treeText.go at hG
   obtain ⟨t, ht, hG⟩ := Option.bind_eq_some_iff.mp hG
   split at hG
   rotate_left
   ·cases hG
   rename_i hsz
   have HT := Aside0.mk ht
   have HS := Aside0.mk hsz
   have HG := Aside0.mk hG
   clear ht hsz hG
   obtain ⟨ad, e_, hx0, hx1⟩ := at_T75 (Kd.R_reads' HO.out).2.2 (i : Int) (by omega) hq
   cases e_
   simp only [Int.toNat_natCast] at hx0 hx1
   have hcF := cb2 BF
   have p_ := eq_true (show 0 ≤ (i : Int) by omega)
   have q_ := eq_true hq
   generalize rd_T75 ws (i : Int) = x at hx0 hx1 HT
   go_wp2_with (first
    | ((with_reducible refine gd 7 rfl ?_); refine bxE 7 #[.string (⟨#[]⟩ : ByteArray), .int .i64 0] 75 ?_; intro gx hg w9 hbox hb; have BX := Aside0.mk hbox; have HM := Aside0.mk hb; have GX := Aside0.mk (show wr.heap.size ≤ gx by rw [hg]; exact Nat.le_refl _); have hnx : gF ≠ gx := (by have := blk_lt BF.out; rw [hg]; omega); have hnx2 : gx ≠ gF := (fun e => hnx e.symm); clear hbox; replace hcF := cb2 (Aside0.mk (blk_below (g := gF) BF.out hb)); clear hb hg hx0 hx1; have hcX := cb2 BX; have hfX0 := fz BX 0; have hfX1 := fz BX 1)
    | (go_at_call 45; (refine (impl_Fs_wayText.calls A0_0 c0_0 l0_0 a0_1 x.f0 x.f1 t _ ?s1 HC.out ?s2 HT.out).mono ?_; (case s1 => exact Kd.C_below HR.out (below_step HB.out (below_set (below_set HM.out GX.out) GX.out))); (case s2 => exact tab_below HTAB.out (below_step HB.out (below_set (below_set HM.out GX.out) GX.out))); rintro e w10 ⟨rfl, hb⟩; have HM2 := Aside0.mk (below_step (below_set (below_set HM.out GX.out) GX.out) hb); clear hb hcF hcX hfX0 hfX1))
    | (go_at_call 44; (refine (builder_write w.heap.size gB _ t _ (isBuilderF_below HBU.out HM2.out) (by rw [bytes_len]; have := HS.out; omega) (Nat.le_trans (below_size HB.out) (below_size HM2.out))).mono ?_; rintro e w11 ⟨rfl, hbu, hb2, hk2⟩)))
   go_roundg k1
   case measure => omega
   case rel =>
    have hty : ∀ (g : Nat) (cs : Array Value) (T : Nat), w10.heap[g]? = some (.cells cs T (0, 0)) → T ≠ 71 → g ≠ gB := by
     intro g cs T hg hT e_
     obtain ⟨_, v_, hv_, _⟩ | ⟨_, v_, hv_, _⟩ := isBuilderF_below HBU.out HM2.out <;> (rw [e_, hv_] at hg; injection hg with hg; injection hg with _ hg; exact hT hg.symm)
    have hF := blk_below (g := gF) BF.out HM2.out
    have hR10 := Kd.R_below HO.out HM2.out
    refine ⟨i + 1, acc ++ t, ?_, ⟨by have := HI.out; omega⟩, HG, ⟨?_⟩, ⟨?_⟩, ⟨?_⟩, ⟨?_⟩⟩
    ·have hw_ : wrap64 ((i : Int) + 1) = ((i + 1 : Nat) : Int) := by unfold wrap64; omega
     first | rfl | (simp; done) | (simp [hw_]; done) | (rw [hw_])
    ·rw [← bytes_cells]; exact .inr hbu
    ·exact hk2 gF _ hF (fun e_ => hty gF _ _ hF (by decide) (Option.some.inj e_)) (fun c_ f_ e_ => by cases e_)
    ·exact Kd.R_step hR10 (fun k_ hk_ hlt_ => by
      obtain ⟨cells, hc⟩ := Kd.R_typed hR10 k_ hk_.symm
      rw [hk2 k_ _ hc (fun e_ => hty k_ _ _ hc (by decide) (Option.some.inj e_)) (fun c_ f_ e_ => by cases e_), hc])
    ·exact (below_step HB.out HM2.out).trans hb2
  ·have hG := HG.out
   clear HG
   rw [List.drop_eq_nil_iff.mpr (by omega)] at hG
   obtain rfl := Option.some.inj hG
   have hq : ¬ (i : Int) < (ws.length : Int) := by omega
   go_wp2_with (go_at_call 46; refine (builder_string w.heap.size gB acc.data.toList _ HBU.out (below_size HB.out)).mono ?_; rintro e W1 ⟨rfl, _, b1, _⟩)
   go_ret
   exact ⟨by simp, HB.out.trans b1⟩
def impl_TreeText.f (k : Nat) (l0_0 : List (S65)) (a0_1 : Int) (a1 : Int) : Option (ByteArray × Bool) := (impl_isGoodAt.f k l0_0 a0_1 a1).bind fun t444 => (if t444 = true then ((impl_Fs_treeText.f k l0_0 a0_1 a1).bind fun t445 => (some (t445, true))) else (some ((⟨#[]⟩ : ByteArray), false)))
theorem impl_TreeText.calls (k : Nat) (A0_0 : Option Addr) (c0_0 : Nat) (l0_0 : List (S65)) (a0_1 : Int) (a1 : Int) (r1 : ByteArray) (r2 : Bool) (w : World) (hr0_0 : Kd.C k65 w A0_0 l0_0.length l0_0) (hc0_0 : l0_0.length ≤ c0_0) (htab : Lib.TabIs Tryz.prog w "internal/strconv.uint64pow10" .u64 Lib.pow10Tab) (h : impl_TreeText.f k l0_0 a0_1 a1 = some (r1, r2)) :
  Calls Tryz.prog 18 #[.agg #[.slice A0_0 l0_0.length c0_0, .int .i64 a0_1], .int .i64 a1] w fun e w' => e = .returned (.tuple #[.string r1, .bool r2]) ∧ Below w.heap.size w w' := by
 have HTAB := Aside0.mk htab
 clear htab
 have hu30 := Tryz.underlying30
 have HR0_0 := Aside0.mk hr0_0
 have HC0_0 := Aside0.mk hc0_0
 clear hr0_0 hc0_0
 have HB := Aside0.mk (Below.refl w.heap.size w)
 have H : ((impl_isGoodAt.f k l0_0 a0_1 a1).bind fun t444 => (if t444 = true then ((impl_Fs_treeText.f k l0_0 a0_1 a1).bind fun t445 => (some (t445, true))) else (some ((⟨#[]⟩ : ByteArray), false)))) = some (r1, r2) := h
 clear h
 obtain ⟨t444, A3, H⟩ := bS H
 try dsimp only at H
 by_cases c4 : t444 = true
 ·subst c4
  rw [if_pos rfl] at H
  obtain ⟨t445, A5, H⟩ := bS H
  try dsimp only at H
  simp only [Option.some.injEq, Prod.mk.injEq] at H
  obtain ⟨rfl, rfl⟩ := H
  go_enter Tryz.func18, Tryz.ntmps18
  go_wp2_with (first | ((with_reducible refine gd 2 rfl ?_); refine bxE 2 #[.slice A0_0 l0_0.length c0_0, .int .i64 a0_1] 30 ?_; intro gb443 hg w6 hbox hb; have BK443 := Aside0.mk hbox; have GW443 := nGB hg; have GE443 := nGB hg; replace HB := nSB hb; clear hb hbox hg; have hcz7 := cb2 BK443) | ((with_reducible refine gt 23 rfl ?_); refine gL 23 8 Tryz.func23 #[.agg #[.slice A0_0 l0_0.length c0_0, .int .i64 a0_1], .int .i64 a1] ?_; (with_reducible refine (impl_isGoodAt.calls k _ _ l0_0 a0_1 a1 true _ ?side1 ?side2 A3.out).mono ?_); (case side1 => exact sD (Kd.C_below HR0_0.out HB.out)); (case side2 => exact HC0_0.out); rintro e w8 ⟨rfl, hb⟩; refine ⟨_, rfl, ?_⟩; replace BK443 := nK BK443 hb; replace HB := nSC hb; try clear hb; have hcz9 := cb2 BK443) | ((with_reducible refine gt 24 rfl ?_); refine gL 24 12 Tryz.func24 #[.agg #[.slice A0_0 l0_0.length c0_0, .int .i64 a0_1], .int .i64 a1] ?_; (with_reducible refine (impl_Fs_treeText.calls k _ _ l0_0 a0_1 a1 t445 _ ?side1 ?side2 ?side3 A5.out).mono ?_); (case side1 => exact sD (Kd.C_below HR0_0.out HB.out)); (case side2 => exact HC0_0.out); (case side3 => exact tab_below HTAB.out sC); rintro e w10 ⟨rfl, hb⟩; refine ⟨_, rfl, ?_⟩; replace BK443 := nK BK443 hb; replace HB := nSC hb; try clear hb))
  go_ret2
  exact ⟨sE, sC⟩
 ·replace c4 := Bool.eq_false_iff.mpr c4
  subst c4
  rw [if_neg (show ¬ (false = true) by decide)] at H
  simp only [Option.some.injEq, Prod.mk.injEq] at H
  obtain ⟨rfl, rfl⟩ := H
  go_enter Tryz.func18, Tryz.ntmps18
  go_wp2_with (first | ((with_reducible refine gd 2 rfl ?_); refine bxE 2 #[.slice A0_0 l0_0.length c0_0, .int .i64 a0_1] 30 ?_; intro gb443 hg w11 hbox hb; have BK443 := Aside0.mk hbox; have GW443 := nGB hg; have GE443 := nGB hg; replace HB := nSB hb; clear hb hbox hg; have hcz12 := cb2 BK443) | ((with_reducible refine gt 23 rfl ?_); refine gL 23 8 Tryz.func23 #[.agg #[.slice A0_0 l0_0.length c0_0, .int .i64 a0_1], .int .i64 a1] ?_; (with_reducible refine (impl_isGoodAt.calls k _ _ l0_0 a0_1 a1 false _ ?side1 ?side2 A3.out).mono ?_); (case side1 => exact sD (Kd.C_below HR0_0.out HB.out)); (case side2 => exact HC0_0.out); rintro e w13 ⟨rfl, hb⟩; refine ⟨_, rfl, ?_⟩; replace BK443 := nK BK443 hb; replace HB := nSC hb; try clear hb))
  go_ret2
  exact ⟨sE, sC⟩
def laws_FnExactTreeText.j0 : Nat → Bool → List (S61) → Int → List (S65) → Int → Option (Bool)
 | 0, _, _, _, _, _ => none
 | k + 1, x38, x447000, x447001, x459000, x459001 => if x38 = true then (some false) else ((laws_toFs.f k x447000 x447001).bind fun bt461 => ((laws_eqFs.f k x459000 x459001 bt461.1 bt461.2).bind fun t465 => (if t465 = true then (some true) else (some false))))
def laws_FnExactTreeText.f (k : Nat) (l0_0 : List (S61)) (a0_1 : Int) (a1 : Int) : Option (Bool) := (laws_szFs.f k l0_0 a0_1 1048576).bind fun t447 => (if t447 < 0 then (some true) else ((laws_toFs.f k l0_0 a0_1).bind fun bt448 => ((spec_TreeText.f k bt448.1 bt448.2 a1).bind fun bt452 => ((laws_toFs.f k l0_0 a0_1).bind fun bt454 => ((impl_TreeText.f k bt454.1 bt454.2 a1).bind fun bt459 => (if bt459.1.toList = bt452.1.toList then (laws_FnExactTreeText.j0 k (bt459.2 != bt452.2) l0_0 a0_1 bt454.1 bt454.2) else (laws_FnExactTreeText.j0 k true l0_0 a0_1 bt454.1 bt454.2)))))))
theorem laws_FnExactTreeText.calls (k : Nat) (A0_0 : Option Addr) (c0_0 : Nat) (l0_0 : List (S61)) (a0_1 : Int) (a1 : Int) (r : Bool) (w : World) (hr0_0 : Kd.C k61 w A0_0 l0_0.length l0_0) (hc0_0 : l0_0.length ≤ c0_0) (htab : Lib.TabIs Tryz.prog w "internal/strconv.uint64pow10" .u64 Lib.pow10Tab) (h : laws_FnExactTreeText.f k l0_0 a0_1 a1 = some r) :
  Calls Tryz.prog 5 #[.agg #[.slice A0_0 l0_0.length c0_0, .int .i64 a0_1], .int .i64 a1] w fun e w' => e = .returned (.bool r) ∧ Below w.heap.size w w' := by
 have HTAB := Aside0.mk htab
 clear htab
 have hu24 := Tryz.underlying24
 have hu30 := Tryz.underlying30
 have HR0_0 := Aside0.mk hr0_0
 have HC0_0 := Aside0.mk hc0_0
 clear hr0_0 hc0_0
 have HB := Aside0.mk (Below.refl w.heap.size w)
 have H : ((laws_szFs.f k l0_0 a0_1 1048576).bind fun t447 => (if t447 < 0 then (some true) else ((laws_toFs.f k l0_0 a0_1).bind fun bt448 => ((spec_TreeText.f k bt448.1 bt448.2 a1).bind fun bt452 => ((laws_toFs.f k l0_0 a0_1).bind fun bt454 => ((impl_TreeText.f k bt454.1 bt454.2 a1).bind fun bt459 => (if bt459.1.toList = bt452.1.toList then (laws_FnExactTreeText.j0 k (bt459.2 != bt452.2) l0_0 a0_1 bt454.1 bt454.2) else (laws_FnExactTreeText.j0 k true l0_0 a0_1 bt454.1 bt454.2)))))))) = some r := h
 clear h
 obtain ⟨t447, A3, H⟩ := bS H
 try dsimp only at H
 by_cases c4 : t447 < 0
 ·rw [if_pos c4] at H
  have c4b0 := decide_eq_true c4
  clear c4
  obtain rfl := Option.some.inj H
  go_enter Tryz.func5, Tryz.ntmps5
  go_wp2_with (first | ((with_reducible refine gd 2 rfl ?_); refine bxE 2 #[.slice A0_0 l0_0.length c0_0, .int .i64 a0_1] 24 ?_; intro gb446 hg w5 hbox hb; have BK446 := Aside0.mk hbox; have GW446 := nGB hg; have GE446 := nGB hg; replace HB := nSB hb; clear hb hbox hg; have hcz6 := cb2 BK446) | ((with_reducible refine gt 6 rfl ?_); refine gL 6 13 Tryz.func6 #[.agg #[.slice A0_0 l0_0.length c0_0, .int .i64 a0_1], .int .i64 1048576] ?_; (with_reducible refine (laws_szFs.calls k _ _ l0_0 a0_1 1048576 t447 _ ?side1 ?side2 A3.out).mono ?_); (case side1 => exact sD (Kd.C_below HR0_0.out HB.out)); (case side2 => exact HC0_0.out); rintro e w7 ⟨rfl, hb⟩; refine ⟨_, rfl, ?_⟩; replace BK446 := nK BK446 hb; replace HB := nSC hb; try clear hb))
  go_ret
  exact ⟨sE, sC⟩
 ·rw [if_neg c4] at H
  have c4b0 := decide_eq_false c4
  clear c4
  obtain ⟨⟨t448, t451⟩, A8, H⟩ := bS H
  try dsimp only at H
  obtain ⟨⟨t452, t453⟩, A9, H⟩ := bS H
  try dsimp only at H
  obtain ⟨⟨t454, t457⟩, A10, H⟩ := bS H
  try dsimp only at H
  obtain ⟨⟨t459, t460⟩, A11, H⟩ := bS H
  try dsimp only at H
  have HC12 := Aside0.mk H
  clear H
  go_enter Tryz.func5, Tryz.ntmps5
  go_upto_region 8 with (first | ((with_reducible refine gd 2 rfl ?_); refine bxE 2 #[.slice A0_0 l0_0.length c0_0, .int .i64 a0_1] 24 ?_; intro gb446 hg w13 hbox hb; have BK446 := Aside0.mk hbox; have GW446 := nGB hg; have GE446 := nGB hg; replace HB := nSB hb; clear hb hbox hg; have hcz14 := cb2 BK446) | ((with_reducible refine gt 6 rfl ?_); refine gL 6 13 Tryz.func6 #[.agg #[.slice A0_0 l0_0.length c0_0, .int .i64 a0_1], .int .i64 1048576] ?_; (with_reducible refine (laws_szFs.calls k _ _ l0_0 a0_1 1048576 t447 _ ?side1 ?side2 A3.out).mono ?_); (case side1 => exact sD (Kd.C_below HR0_0.out HB.out)); (case side2 => exact HC0_0.out); rintro e w15 ⟨rfl, hb⟩; refine ⟨_, rfl, ?_⟩; replace BK446 := nK BK446 hb; replace HB := nSC hb; try clear hb; have hcz16 := cb2 BK446) | ((with_reducible refine gt 8 rfl ?_); refine gL 8 18 Tryz.func8 #[.agg #[.slice A0_0 l0_0.length c0_0, .int .i64 a0_1]] ?_; (with_reducible refine (laws_toFs.calls k _ _ l0_0 a0_1 t448 t451 _ ?side1 ?side2 A8.out).mono ?_); (case side1 => exact sD (Kd.C_below HR0_0.out HB.out)); (case side2 => exact HC0_0.out); rintro e w17 ⟨v449, rfl, ho0, hb⟩; refine ⟨_, rfl, ?_⟩; have HO450 := Aside0.mk (Kd.S_lower ho0 (below_size sC)); replace BK446 := nK BK446 hb; replace HB := nSC hb; try clear hb; (try clear ho0); obtain ⟨Ao18, co18, eo18⟩ := Kd.S_slice HO450.out; subst eo18) | ((with_reducible refine gt 17 rfl ?_); refine gL 17 20 Tryz.func17 #[.agg #[.slice Ao18 t448.length co18, .int .i64 t451], .int .i64 a1] ?_; (with_reducible refine (spec_TreeText.calls k _ _ t448 t451 a1 t452 t453 _ ?side1 ?side2 A9.out).mono ?_); (case side1 => exact sD (Kd.S_reads' HO450.out).2.2); (case side2 => exact (Kd.S_reads' HO450.out).2.1); rintro e w19 ⟨rfl, hb⟩; refine ⟨_, rfl, ?_⟩; replace HO450 := nS HO450 hb; replace BK446 := nK BK446 hb; replace HB := nSC hb; try clear hb; have hcz20 := cb2 BK446) | ((with_reducible refine gt 8 rfl ?_); refine gL 8 24 Tryz.func8 #[.agg #[.slice A0_0 l0_0.length c0_0, .int .i64 a0_1]] ?_; (with_reducible refine (laws_toFs.calls k _ _ l0_0 a0_1 t454 t457 _ ?side1 ?side2 A10.out).mono ?_); (case side1 => exact sD (Kd.C_below HR0_0.out HB.out)); (case side2 => exact HC0_0.out); rintro e w21 ⟨v455, rfl, ho0, hb⟩; refine ⟨_, rfl, ?_⟩; have HO456 := Aside0.mk (Kd.S_lower (Kd.S_new' ho0 (Kd.S_lt (by (with_reducible repeat (first | apply Kd.S_alloc | apply Kd.S_drewN | apply Kd.S_drew)); exact HO450.out))) (below_size sC)); replace HO450 := Aside0.mk (Kd.S_elder' (by (with_reducible repeat (first | apply Kd.S_alloc | apply Kd.S_drewN | apply Kd.S_drew)); exact HO450.out) (Kd.S_base ho0) hb); replace BK446 := nK BK446 hb; replace HB := nSC hb; try clear hb; (try clear ho0)) | ((with_reducible refine gd 8 rfl ?_); refine bxE 8 #[.slice none 0 0, .int .i64 0] 30 ?_; intro gb458 hg w22 hbox hb; replace HO450 := nS HO450 hb; replace HO456 := nS HO456 hb; have BK458 := Aside0.mk hbox; have GW458 := nGC hg; have GE458 := nGC hg; replace HB := nSC hb; have NB446_458 := nL BK446 hg; have NB458_446 := nH BK446 hg; replace BK446 := nK BK446 hb; clear hb hbox hg; obtain ⟨Ao23, co23, eo23⟩ := Kd.S_slice HO456.out; subst eo23; have hnb24 := NB458_446.out; have hnc24 := NB446_458.out; have hcz25 := cb2 BK458) | ((with_reducible refine gt 18 rfl ?_); refine gL 18 28 Tryz.func18 #[.agg #[.slice Ao23 t454.length co23, .int .i64 t457], .int .i64 a1] ?_; (with_reducible refine (impl_TreeText.calls k _ _ t454 t457 a1 t459 t460 _ ?side1 ?side2 ?side3 A11.out).mono ?_); (case side1 => refine (Kd.S_reads' (e := 65) (base := w.heap.size) (ok := fun k_ => (True ∧ some k_ ≠ (.slice Ao18 t448.length co18 : Value).ownBlock)) (n := t454.length) (c := co23) ?_).2.2; exact (by (with_reducible repeat (first | apply Kd.S_alloc | apply Kd.S_drewN | apply Kd.S_drew)); exact (Kd.S_mono (Kd.S_far (p := ⟨gb458, 1, none⟩) (Kd.S_far (p := ⟨gb458, 0, none⟩) (Kd.S_types HO456.out BK458.out (by decide)) (fun _ hk => hk.2) (.slice Ao23 t454.length co23)) (fun _ hk => hk.2) (.int .i64 t457)) (fun _ h_ => h_.1)))); (case side2 => exact (Kd.S_reads' HO456.out).2.1); (case side3 => exact tab_below HTAB.out sC); rintro e w26 ⟨rfl, hb⟩; refine ⟨_, rfl, ?_⟩; replace HO450 := nSf HO450 BK458 hb; replace HO456 := nSf HO456 BK458 hb; replace BK446 := nF BK446 hb; replace BK458 := nX #[.slice Ao23 t454.length co23, .int .i64 t457] BK458 hb; replace HB := nSC hb; try clear hb))
  (try simp only [Act.put, List.setIfInBounds_toArray, List.set_cons_zero, List.set_cons_succ])
  go_cut [38] (fun v38 wc => ∃ (kq : Nat) (x38_11 : Bool), v38 = .bool x38_11 ∧ Aside0 (laws_FnExactTreeText.j0 kq x38_11 l0_0 a0_1 t454 t457 = some r) ∧ Aside0 (kq ≤ k) ∧ Aside0 (Kd.S k65 65 wc w.heap.size (fun _ => True) (.slice Ao23 t454.length co23) t454) ∧ Aside0 (wc.heap[gb446]? = some (.cells #[(.slice A0_0 l0_0.length c0_0), .int .i64 a0_1] 24 (0, 0))) ∧ Aside0 (wc.heap[gb458]? = some (.cells #[(.slice Ao23 t454.length co23), .int .i64 t457] 30 (0, 0))) ∧ Aside0 (Below w.heap.size w wc))
  case first =>
   have H := HC12.out
   clear HC12
   by_cases c27 : t459.toList = t452.toList
   ·rw [if_pos c27] at H
    have c27b0 := beq_iff_eq.mpr c27
    have c27b1 := bne_eq_false_iff_eq.mpr c27
    clear c27
    (first | rw [c27b0] | (simp only [i64_w, i32_w]; rw [c27b0]) | skip)
    have H' := Aside0.mk H
    clear H
    go_wp2
    go_meet
    case rel => exact ⟨_, ((t460 != t453)), sR, H', ⟨by first | omega | exact Nat.le_refl _⟩, ⟨by (with_reducible repeat (first | apply Kd.S_alloc | apply Kd.S_drewN | apply Kd.S_drew)); exact Kd.S_mono HO456.out (fun _ hk => trivial)⟩, ⟨sK BK446⟩, ⟨sK BK458⟩, ⟨sC⟩⟩
   ·rw [if_neg c27] at H
    have c27b0 := beq_eq_false_iff_ne.mpr c27
    have c27b1 := bne_iff_ne.mpr c27
    (first | rw [c27b0] | (simp only [i64_w, i32_w]; rw [c27b0]) | skip)
    have H' := Aside0.mk H
    clear H
    go_wp2
    go_meet
    case rel => exact ⟨_, (true), sR, H', ⟨by first | omega | exact Nat.le_refl _⟩, ⟨by (with_reducible repeat (first | apply Kd.S_alloc | apply Kd.S_drewN | apply Kd.S_drew)); exact Kd.S_mono HO456.out (fun _ hk => trivial)⟩, ⟨sK BK446⟩, ⟨sK BK458⟩, ⟨sC⟩⟩
  case rest =>
   clear HC12
   try clear c1
   try clear c2
   try clear p2
   try clear c4
   try clear c4b0
   try clear c5
   try clear c6
   try clear c8
   try clear c17
   try clear c18
   try clear c24
   try clear c27
   try clear c27b0
   try clear c27b1
   try clear hcz14
   try clear hcz16
   try clear hcz20
   try clear hcz25
   try clear hcz6
   obtain ⟨kq, x38_11, rfl, HA, HJ11, HO_459000, BK446, BK458, HB⟩ := hcut
   cases kq with
   | zero => exact absurd HA.out (by simp [laws_FnExactTreeText.j0])
   | succ kj11 =>
    have H := HA.out
    clear HA
    simp only [laws_FnExactTreeText.j0] at H
    by_cases c28 : x38_11 = true
    ·subst c28
     rw [if_pos rfl] at H
     obtain rfl := Option.some.inj H
     go_wp2
     go_ret
     exact ⟨sE, sC⟩
    ·replace c28 := Bool.eq_false_iff.mpr c28
     subst c28
     rw [if_neg (show ¬ (false = true) by decide)] at H
     obtain ⟨⟨t461, t464⟩, A29, H⟩ := bS H
     try dsimp only at H
     obtain ⟨t465, A30, H⟩ := bS H
     try dsimp only at H
     by_cases c31 : t465 = true
     ·subst c31
      rw [if_pos rfl] at H
      obtain rfl := Option.some.inj H
      try go_wp2
      have n0_ := Aside0.mk (Kd.S_drew HO_459000.out)
      have n1_ := Aside0.mk (blk_drew BK446.out)
      have n2_ := Aside0.mk (blk_drew BK458.out)
      have n3_ := Aside0.mk (below_drew1 HB.out)
      clear HO_459000
      clear BK446
      clear BK458
      clear HB
      have HO_459000 := n0_
      have BK446 := n1_
      have BK458 := n2_
      have HB := n3_
      clear n0_ n1_ n2_ n3_
      refine st4 5 [] (cz0 BK458) (cz1 BK458) (cz0 BK446) (cz1 BK446) (fun hHeld => ?_)
      generalize wc.drew = w32 at HO_459000 BK446 BK458 HB hHeld ⊢
      refine tk4 0 39 ?_
      refine tk4 1 40 ?_
      refine on 2 41 (fun K hK => ?_)
      refine gC Tryz.func8 #[.agg #[.slice A0_0 l0_0.length c0_0, .int .i64 a0_1]] ?_
      with_reducible refine (laws_toFs.calls kj11 _ _ l0_0 a0_1 t461 t464 _ ?side1 ?side2 A29.out).mono ?_
      (case side1 => exact sD (Kd.C_below HR0_0.out HB.out))
      (case side2 => exact HC0_0.out)
      rintro e w33 ⟨v462, rfl, ho0, hb⟩
      refine ⟨_, rfl, ?_⟩
      have n0_ := Aside0.mk (Kd.S_elder' (by (with_reducible repeat (first | apply Kd.S_alloc | apply Kd.S_drewN | apply Kd.S_drew)); exact HO_459000.out) (Kd.S_base ho0) hb)
      have n1_ := Aside0.mk (Kd.S_lower (Kd.S_new' ho0 (Kd.S_lt (by (with_reducible repeat (first | apply Kd.S_alloc | apply Kd.S_drewN | apply Kd.S_drew)); exact HO_459000.out))) (below_size sC))
      have n2_ := nK BK446 hb
      have n3_ := nK BK458 hb
      have n4_ := nSC hb
      clear HO_459000
      clear BK446
      clear BK458
      clear HB
      have HO_459000 := n0_
      have HO463 := n1_
      have BK446 := n2_
      have BK458 := n3_
      have HB := n4_
      clear n0_ n1_ n2_ n3_ n4_
      (try clear hb)
      (try clear hb2)
      (try clear hk)
      (try clear hi)
      (try clear ho0)
      obtain ⟨Ao34, co34, eo34⟩ := Kd.S_slice HO463.out
      (first | subst eo34 | (injection eo34 with f1_ f2_ f3_; have f4_ := f1_.symm; have f5_ := f3_.symm; clear f1_ f2_ f3_; subst f4_; subst f5_))
      refine hK.out _ _ ⟨cz0 BK458, cz1 BK458, cz0 BK446, cz1 BK446⟩ (fun hHeld => ?_)
      clear hK K
      refine nm ?_
      refine on 3 42 (fun K hK => ?_)
      refine gC Tryz.func10 #[.agg #[.slice Ao23 t454.length co23, .int .i64 t457], .agg #[.slice Ao34 t461.length co34, .int .i64 t464]] ?_
      with_reducible refine (laws_eqFs.calls kj11 _ _ t454 t457 _ _ t461 t464 true _ ?side1 ?side2 ?side3 ?side4 A30.out).mono ?_
      (case side1 => exact sD (Kd.S_reads' HO_459000.out).2.2)
      (case side2 => exact (Kd.S_reads' HO_459000.out).2.1)
      (case side3 => exact sD (Kd.S_reads' HO463.out).2.2)
      (case side4 => exact (Kd.S_reads' HO463.out).2.1)
      rintro e w35 ⟨rfl, hb⟩
      refine ⟨_, rfl, ?_⟩
      have n0_ := nS HO_459000 hb
      have n1_ := nS HO463 hb
      have n2_ := nK BK446 hb
      have n3_ := nK BK458 hb
      have n4_ := nSC hb
      clear HO_459000
      clear HO463
      clear BK446
      clear BK458
      clear HB
      have HO_459000 := n0_
      have HO463 := n1_
      have BK446 := n2_
      have BK458 := n3_
      have HB := n4_
      clear n0_ n1_ n2_ n3_ n4_
      (try clear hb)
      (try clear hb2)
      (try clear hk)
      (try clear hi)
      refine hK.out _ _ ⟨cz0 BK458, cz1 BK458, cz0 BK446, cz1 BK446⟩ (fun hHeld => ?_)
      clear hK K
      refine nm ?_
      refine pu 4 43 ?_
      refine dn ?_
      try go_wp2
      go_ret
      exact ⟨sE, sC⟩
     ·replace c31 := Bool.eq_false_iff.mpr c31
      subst c31
      rw [if_neg (show ¬ (false = true) by decide)] at H
      obtain rfl := Option.some.inj H
      try go_wp2
      have n0_ := Aside0.mk (Kd.S_drew HO_459000.out)
      have n1_ := Aside0.mk (blk_drew BK446.out)
      have n2_ := Aside0.mk (blk_drew BK458.out)
      have n3_ := Aside0.mk (below_drew1 HB.out)
      clear HO_459000
      clear BK446
      clear BK458
      clear HB
      have HO_459000 := n0_
      have BK446 := n1_
      have BK458 := n2_
      have HB := n3_
      clear n0_ n1_ n2_ n3_
      refine st4 5 [] (cz0 BK458) (cz1 BK458) (cz0 BK446) (cz1 BK446) (fun hHeld => ?_)
      generalize wc.drew = w36 at HO_459000 BK446 BK458 HB hHeld ⊢
      refine tk4 0 39 ?_
      refine tk4 1 40 ?_
      refine on 2 41 (fun K hK => ?_)
      refine gC Tryz.func8 #[.agg #[.slice A0_0 l0_0.length c0_0, .int .i64 a0_1]] ?_
      with_reducible refine (laws_toFs.calls kj11 _ _ l0_0 a0_1 t461 t464 _ ?side1 ?side2 A29.out).mono ?_
      (case side1 => exact sD (Kd.C_below HR0_0.out HB.out))
      (case side2 => exact HC0_0.out)
      rintro e w37 ⟨v462, rfl, ho0, hb⟩
      refine ⟨_, rfl, ?_⟩
      have n0_ := Aside0.mk (Kd.S_elder' (by (with_reducible repeat (first | apply Kd.S_alloc | apply Kd.S_drewN | apply Kd.S_drew)); exact HO_459000.out) (Kd.S_base ho0) hb)
      have n1_ := Aside0.mk (Kd.S_lower (Kd.S_new' ho0 (Kd.S_lt (by (with_reducible repeat (first | apply Kd.S_alloc | apply Kd.S_drewN | apply Kd.S_drew)); exact HO_459000.out))) (below_size sC))
      have n2_ := nK BK446 hb
      have n3_ := nK BK458 hb
      have n4_ := nSC hb
      clear HO_459000
      clear BK446
      clear BK458
      clear HB
      have HO_459000 := n0_
      have HO463 := n1_
      have BK446 := n2_
      have BK458 := n3_
      have HB := n4_
      clear n0_ n1_ n2_ n3_ n4_
      (try clear hb)
      (try clear hb2)
      (try clear hk)
      (try clear hi)
      (try clear ho0)
      obtain ⟨Ao38, co38, eo38⟩ := Kd.S_slice HO463.out
      (first | subst eo38 | (injection eo38 with f1_ f2_ f3_; have f4_ := f1_.symm; have f5_ := f3_.symm; clear f1_ f2_ f3_; subst f4_; subst f5_))
      refine hK.out _ _ ⟨cz0 BK458, cz1 BK458, cz0 BK446, cz1 BK446⟩ (fun hHeld => ?_)
      clear hK K
      refine nm ?_
      refine on 3 42 (fun K hK => ?_)
      refine gC Tryz.func10 #[.agg #[.slice Ao23 t454.length co23, .int .i64 t457], .agg #[.slice Ao38 t461.length co38, .int .i64 t464]] ?_
      with_reducible refine (laws_eqFs.calls kj11 _ _ t454 t457 _ _ t461 t464 false _ ?side1 ?side2 ?side3 ?side4 A30.out).mono ?_
      (case side1 => exact sD (Kd.S_reads' HO_459000.out).2.2)
      (case side2 => exact (Kd.S_reads' HO_459000.out).2.1)
      (case side3 => exact sD (Kd.S_reads' HO463.out).2.2)
      (case side4 => exact (Kd.S_reads' HO463.out).2.1)
      rintro e w39 ⟨rfl, hb⟩
      refine ⟨_, rfl, ?_⟩
      have n0_ := nS HO_459000 hb
      have n1_ := nS HO463 hb
      have n2_ := nK BK446 hb
      have n3_ := nK BK458 hb
      have n4_ := nSC hb
      clear HO_459000
      clear HO463
      clear BK446
      clear BK458
      clear HB
      have HO_459000 := n0_
      have HO463 := n1_
      have BK446 := n2_
      have BK458 := n3_
      have HB := n4_
      clear n0_ n1_ n2_ n3_ n4_
      (try clear hb)
      (try clear hb2)
      (try clear hk)
      (try clear hi)
      refine hK.out _ _ ⟨cz0 BK458, cz1 BK458, cz0 BK446, cz1 BK446⟩ (fun hHeld => ?_)
      clear hK K
      refine nm ?_
      refine pu 4 43 ?_
      refine dn ?_
      try go_wp2
      go_ret
      exact ⟨sE, sC⟩
def laws_FnExactTreeText.Pure : Prop := ∀ (l0_0 : List (S61)) (a0_1 : Int) (a1 : Int), (l0_0.length ≤ 9223372036854775807 ∧ ∀ e1_ ∈ l0_0, ((Lit.int .i64 e1_.f0).wf = true ∧ ((Lit.int .i64 e1_.f1).wf = true ∧ ((Lit.int .i64 e1_.f2).wf = true ∧ ((Lit.int .i64 e1_.f3).wf = true ∧ ((Lit.int .i64 e1_.f4).wf = true ∧ (e1_.f5.size ≤ 9223372036854775807 ∧ (e1_.f6.length ≤ 9223372036854775807 ∧ ∀ e2_ ∈ e1_.f6, (e2_.f0.size ≤ 9223372036854775807 ∧ (Lit.int .i64 e2_.f1).wf = true))))))))) → (Lit.int .i64 a0_1).wf = true → (Lit.int .i64 a1).wf = true → ∃ k, laws_FnExactTreeText.f k l0_0 a0_1 a1 = some true
end Go.Proofs.YtdjceippnokimaaGreatDoor.PTr
