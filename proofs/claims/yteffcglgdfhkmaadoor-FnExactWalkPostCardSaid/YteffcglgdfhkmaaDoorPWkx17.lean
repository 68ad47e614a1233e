-- Written by a program of this session (wip/print2) out of the translation. Lean checks it.
import Derived.Test.YteffcglgdfhkmaaDoorPWkx0
import Derived.Test.YteffcglgdfhkmaaDoorPWkx16
namespace Go.Proofs.YteffcglgdfhkmaaDoor.PWk
open Go.RowKit Go.Proofs.YteffcglgdfhkmaaDoorW.PrintWords Go.Proofs.YteffcglgdfhkmaaDoorW.PrintLast Go.Proofs.YteffcglgdfhkmaaDoorW.PrintMore
attribute [local go_sem] max2_int min2_int max_two min_two max_three min_three max_four min_four   -- for this text's walks alone
set_option linter.unusedVariables false
set_option linter.unusedSimpArgs false
set_option maxHeartbeats 8000000
set_option maxRecDepth 100000

/-! ### impl_Fs_ways: function 70 -/
theorem walk_elt {w w' : World} {P : Nat → Prop} {ad : Addr} {xs : List S53} {A6 : Option Addr} {c6 : Nat} {i : Int} (h : ∀ W_, Kept w W_ P → Kd.C k53 W_ (some ad) xs.length xs) (hk : Kept w w' P) (h0 : 0 ≤ i) (h1 : i < xs.length)
  (hc : w'.cell? ⟨(ad.add (i.toNat * 7)).block, (ad.add (i.toNat * 7)).off + 6, none⟩ = some (.slice A6 (rd_T53 xs i).f6.length c6)) : ∀ W_, Kept w W_ P → Kd.C k60 W_ A6 (rd_T53 xs i).f6.length (rd_T53 xs i).f6 := by
 have hlt : (ad.add (i.toNat * 7)).block < w.heap.size := by
  obtain ⟨ad', A', c', e', x0, x1, x2, x3, x4, x5, x6, hl, hi⟩ := at_T53 (h w (Kept.refl w P)) i h0 h1
  cases e'
  exact World.block_lt_of_cell? w ⟨(ad.add (i.toNat * 7)).block, (ad.add (i.toNat * 7)).off + 6, none⟩ x6
 have hP : ¬ P (ad.add (i.toNat * 7)).block := by
  intro hp
  have hK : Kept w { w with heap := w.heap.setIfInBounds (ad.add (i.toNat * 7)).block (.cells #[] 0 (0, 0)) } P := by
   refine ⟨by simp, fun j hj hn => ?_⟩
   have hne : (ad.add (i.toNat * 7)).block ≠ j := fun e => hn (e ▸ hp)
   simp [Array.getElem?_setIfInBounds_ne hne]
  obtain ⟨ad', A', c', e', x0, x1, x2, x3, x4, x5, x6, hl, hi⟩ := at_T53 (h _ hK) i h0 h1
  cases e'
  simp [World.cell?, Array.getElem?_setIfInBounds_self, hlt] at x6
 intro W hW
 obtain ⟨ad', A', c', e', x0, x1, x2, x3, x4, x5, x6, hl, hi⟩ := at_T53 (h W hW) i h0 h1
 cases e'
 have e1 := World.cell?_of_block (a := ⟨(ad.add (i.toNat * 7)).block, (ad.add (i.toNat * 7)).off + 6, none⟩) (hk.2 _ hlt hP)
 have e2 := World.cell?_of_block (a := ⟨(ad.add (i.toNat * 7)).block, (ad.add (i.toNat * 7)).off + 6, none⟩) (hW.2 _ hlt hP)
 have e3 := Option.some.inj (hc.symm.trans (e1.trans (e2.symm.trans x6)))
 injection e3 with ea _ _
 subst ea
 exact hi
mutual
def impl_walk.f : Nat → List S53 → Int → ByteArray → Int → Bool → Option (List S78)
| 0, _, _, _, _, _ => none
| k + 1, ns, room, p, n, b => if 0 ≤ n then (if n < (ns.length : Int) then ((impl_walk.l0 k ns room p b (rd_T53 ns n).f6 0).bind fun mid => some (if b = true then mid ++ [⟨p, n⟩] else ⟨p, n⟩ :: mid)) else none) else none
def impl_walk.l0 : Nat → List S53 → Int → ByteArray → Bool → List S60 → Int → Option (List S78)
| 0, _, _, _, _, _, _ => none
| k + 1, ns, room, p, b, es, j => if j < (es.length : Int) then (if 0 ≤ j then ((impl_below.f p (rd_T60 es j).f0).bind fun q => ((impl_walk.f k ns room q (rd_T60 es j).f1 b).bind fun r1 => ((impl_walk.l0 k ns room p b es (wrap64 (j + 1))).bind fun r2 => some (r1 ++ r2)))) else none) else some []
end
/-- What is kept where the captured row grows. -/
def Grow (gO : Nat) (v : Value) (k_ : Nat) : Prop := k_ = gO ∨ some k_ = v.ownBlock
theorem Grow.then_ {w W W2 : World} {gO : Nat} {v v' : Value} (hK : Kept w W (Grow gO v)) (hat : ∀ k, some k = v'.ownBlock → some k = v.ownBlock ∨ w.heap.size ≤ k) (h : Kept W W2 (Grow gO v')) : Kept w W2 (Grow gO v) :=
 Kept.then_ hK h (fun k hk => by
  rcases hk with h1 | h1
  ·exact .inl (.inl h1)
  ·rcases hat k h1 with h2 | h2
   ·exact .inl (.inr h2)
   ·exact .inr h2)
theorem impl_ways_1.calls (gO : Nat) (v : Value) (outs : List S78) (p : ByteArray) (n : Int) (w0 w : World) (hB : Below w0.heap.size w0 w) (hge : w0.heap.size ≤ gO) (hbl : w.heap[gO]? = some (.cells #[v] 75 (0, 0))) (hown : Kd.R k78 78 w w0.heap.size (fun k => k ≠ gO) v outs) (hl : outs.length < 5864062014805) :
  Calls Tryd.prog 97 #[.agg #[.string p, .int .i64 n], .pointer (some ⟨gO, 0, none⟩)] w fun e w' => e = .returned (.tuple #[]) ∧ ∃ v' : Value, w'.heap[gO]? = some (.cells #[v'] 75 (0, 0)) ∧ Kd.R k78 78 w' w0.heap.size (fun k => k ≠ gO) v' (outs ++ [⟨p, n⟩]) ∧ Below w0.heap.size w0 w' ∧ Kept w w' (Grow gO v) ∧ (∀ k, some k = v'.ownBlock → some k = v.ownBlock ∨ w.heap.size ≤ k) := by
 have hu78 := Tryd.underlying78
 have hu75 := Tryd.underlying75
 have BO := Aside0.mk hbl
 have HO := Aside0.mk hown
 have HB := Aside0.mk hB
 have GO := Aside0.mk hge
 have HK := Aside0.mk (Kept.refl w (Grow gO v))
 clear hB hge hbl hown
 have hcO := cz0 BO
 have hfO := fz BO 0
 obtain ⟨Ao, co, eo⟩ := Kd.R_slice HO.out
 subst eo
 go_enter Tryd.func97, Tryd.ntmps97
 go_wp2_with (first | ((with_reducible refine gd 2 rfl ?_); refine bxE 2 #[.string p, .int .i64 n] 78 ?_; intro gb2 hg w2 hbox hb; have BK2 := Aside0.mk hbox; have NB2 := nL BO hg; replace BO := nK BO hb; replace HO := nR HO hb; have HSZ := Aside0.mk HK.out.1; replace HK := Aside0.mk (Kept.below HK.out hb); replace HSZ := Aside0.mk HK.out.1; replace HB := nSB hb; clear hb hbox hg; have hnb := NB2.out; have hcz2 := cb2 BK2; have hcz3 := cz0 BO; have hfz3 := fz BO 0) | ((with_reducible refine gate_builtin (b := .append) (xs := #[.tmp 3, .tmp 5]) rfl ?_); at_builtin; refine Kd.R_append k78 (w0 := w0) w0.heap.size rfl (.tmp 3) (.tmp 5) 75 78 (.agg #[(.string ⟨#[]⟩), (.int .i64 0)]) 24 rfl Tryd.underlying75 info78 rfl (by decide) (by omega) (.slice Ao outs.length co) outs ⟨p, n⟩ [.string p, .int .i64 n] (fun k => k ≠ gO) (fun _ => False) rfl rfl ?aP (fun _ hk => hk.elim) ?aF ?aO ?aB ?aS ?aL ?_; (case aP => exact k78_mkM _ _ _ ⟨p, n⟩); (case aB => exact HB.out); (case aF => exact (fun k hk => by have := blk_lt BO.out; omega)); (case aO => exact HO.out); (case aS => exact below_size HB.out); (case aL => omega); intro v1 w3 ho hb hg hat; obtain ⟨A1, c1, e1⟩ := Kd.R_slice ho; rw [List.length_append, List.length_singleton] at e1; subst e1; have BO1 := Aside0.mk (blk_grown BO.out hg (fun e_ => (HO.out.1 gO e_.symm) rfl)); have HAT := Aside0.mk (show ∀ k, some k = (Value.slice A1 (outs.length + 1) c1).ownBlock → some k = (Value.slice Ao outs.length co).ownBlock ∨ w.heap.size ≤ k from fun k hk => Or.elim hat (fun h1 => .inl (hk.trans h1)) (fun ⟨b, h1, h2⟩ => .inr (by rw [h1] at hk; injection hk with hk; subst hk; exact Nat.le_trans HSZ.out h2))); have HK1 := Aside0.mk (Kept.of_grown hg HK.out (fun k hk => .inl (.inr hk.symm))); clear BO HK HO HB; have BO := BO1; have HK := HK1; have HO := Aside0.mk ho; have HB := Aside0.mk hb; clear BO1 HK1 ho hb hg hat; have hcz4 := cz0 BO; have hfz4 := fz BO 0) | ((with_reducible refine gate_store (t := 75) (p := 1) rfl ?_); refine store_event (t := 75) (p := 1) (v := ?vo_w) (w1 := (w3.setCell ⟨gO, 0, none⟩ (.slice A1 (outs.length + 1) c1))) ?hg ?ho ?hn ?hr ?_; (case ho => rfl); (case hg => rfl); (case hn => rfl); (case hr => first | (go_simp; done) | (go_simp; rfl)); intro w4 hw; subst hw))
 go_end0
 exact ⟨rfl, _, blk_put BO.out 0 _ rfl, Kd.R_far HO.out (fun k hk => hk) _, below_set HB.out GO.out, Kept.setCell HK.out (.inl (.inl rfl)) _, HAT.out⟩
theorem impl_walk.calls (k : Nat) : ∀ (A0 : Option Addr) (c0 : Nat) (ns : List S53) (room : Int) (p : ByteArray) (n : Int) (b : Bool) (gO : Nat) (v : Value) (outs r : List S78) (w0 w : World) (hB : Below w0.heap.size w0 w) (hge : w0.heap.size ≤ gO) (hr0 : ∀ W_, Kept w W_ (Grow gO v) → Kd.C k53 W_ A0 ns.length ns) (hc0 : ns.length ≤ c0) (hbl : w.heap[gO]? = some (.cells #[v] 75 (0, 0))) (hown : Kd.R k78 78 w w0.heap.size (fun k => k ≠ gO) v outs) (hl : outs.length + r.length < 5864062014805) (h : impl_walk.f k ns room p n b = some r),
  Calls Tryd.prog 96 #[.agg #[.slice A0 ns.length c0, .int .i64 room], .agg #[.string p, .int .i64 n], .bool b, .func (.func 97) #[] #[.pointer (some ⟨gO, 0, none⟩)]] w fun e w' => e = .returned (.tuple #[]) ∧ ∃ v' : Value, w'.heap[gO]? = some (.cells #[v'] 75 (0, 0)) ∧ Kd.R k78 78 w' w0.heap.size (fun k => k ≠ gO) v' (outs ++ r) ∧ Below w0.heap.size w0 w' ∧ Kept w w' (Grow gO v) ∧ (∀ k, some k = v'.ownBlock → some k = v.ownBlock ∨ w.heap.size ≤ k) := by
 induction k using Nat.strongRecOn with
 | _ k ih =>
 intro A0 c0 ns room p n b gO v outs r w0 w hB hge hr0 hc0 hbl hown hl h
 cases k with
 | zero => exact absurd h (by simp [impl_walk.f])
 | succ k =>
 simp only [impl_walk.f] at h
 by_cases c1 : 0 ≤ n
 rotate_left
 ·rw [if_neg c1] at h; cases h
 rw [if_pos c1] at h
 by_cases c2 : n < (ns.length : Int)
 rotate_left
 ·rw [if_neg c2] at h; cases h
 rw [if_pos c2] at h
 obtain ⟨mid, hmid, h⟩ := Option.bind_eq_some_iff.mp h
 have hr := Option.some.inj h
 clear h
 have hu29 := Tryd.underlying29
 have hu60 := Tryd.underlying60
 have hu78 := Tryd.underlying78
 have hu75 := Tryd.underlying75
 have hu53 := Tryd.underlying53
 have HR := Aside0.mk hr0
 have HC := Aside0.mk hc0
 have BO := Aside0.mk hbl
 have HO := Aside0.mk hown
 have HB := Aside0.mk hB
 have GO := Aside0.mk hge
 have HL := Aside0.mk hl
 have HM := Aside0.mk hmid
 have HK := Aside0.mk (Kept.refl w (Grow gO v))
 have HW := Aside0.mk (show ∀ k, some k = v.ownBlock → k < w.heap.size from fun k hk => Kd.R_lt hown k hk.symm)
 have HG := Aside0.mk (blk_lt hbl)
 have p1 := c1
 have q1 := c2
 have b1 : decide (0 ≤ n) = true := decide_eq_true c1
 have b2 : decide (n < (ns.length : Int)) = true := decide_eq_true c2
 clear hB hge hbl hown hl hmid hr0 hc0 c1 c2
 cases b with
 | false =>
  have HRr := Aside0.mk hr
  clear hr
  go_enter Tryd.func96, Tryd.ntmps96
  go_wp2_with (first | ((with_reducible refine gd 4 rfl ?_); refine bxE 4 #[.slice A0 ns.length c0, .int .i64 room] 29 ?_; intro gF hg w2 hbox hb; have BF := Aside0.mk hbox; have GF := Aside0.mk (show w.heap.size ≤ gF by rw [hg]; exact HK.out.1); have NOF := nL BO hg; have NFO := nH BO hg; replace BO := nK BO hb; replace HO := nR HO hb; replace HK := Aside0.mk (Kept.below HK.out hb); replace HB := nSB hb; clear hb hbox hg) | ((with_reducible refine gd 5 rfl ?_); refine bxE 5 #[.string p, .int .i64 n] 78 ?_; intro gW hg w3 hbox hb; have BW := Aside0.mk hbox; have GW := Aside0.mk (show w.heap.size ≤ gW by rw [hg]; exact HK.out.1); have NOW := nL BO hg; have NWO := nH BO hg; have NFW := nL BF hg; have NWF := nH BF hg; replace BO := nK BO hb; replace BF := nK BF hb; replace HO := nR HO hb; replace HK := Aside0.mk (Kept.below HK.out hb); replace HB := nSB hb; clear hb hbox hg; have hcW := cb2 BW; have hcF := cb2 BF) | (go_at_call 97; (refine (impl_ways_1.calls gO v outs p n w0 _ ?s1 GO.out ?s2 ?s3 ?s4).mono ?_); (case s1 => exact sB); (case s2 => exact (sK BO)); (case s3 => exact rR HO); (case s4 => have := HL.out; omega); rintro e w5 ⟨rfl, v1, k1, k2, k3, k4, k5⟩; have BF1 := Aside0.mk (blk_kept (sK BF) k4 (fun hs => Or.elim hs (fun h1 => NFO.out h1) (fun h1 => by have := HW.out _ h1; have := GF.out; omega))); have BW1 := Aside0.mk (blk_kept (sK BW) k4 (fun hs => Or.elim hs (fun h1 => NWO.out h1) (fun h1 => by have := HW.out _ h1; have := GW.out; omega))); have HAT := Aside0.mk (show ∀ k, some k = v1.ownBlock → some k = v.ownBlock ∨ w.heap.size ≤ k from fun k hk => (k5 k hk).imp id (fun h1 => Nat.le_trans HK.out.1 h1)); have HNW := Aside0.mk (show ∀ k, some k = v1.ownBlock → k ≠ gW from fun k hk => Or.elim (k5 k hk) (fun h1 => by have := HW.out k h1; have := GW.out; omega) (fun h1 => by have h2 := blk_lt BW.out; have h3 : w3.heap.size ≤ k := h1; omega)); replace HK := Aside0.mk (Kept.then_ (S := Grow gO v) HK.out k4 (fun k hk => .inl hk)); clear BF BW BO HO HB; have BF := BF1; have BW := BW1; have BO := Aside0.mk k1; have HO := Aside0.mk k2; have HB := Aside0.mk k3; clear BF1 BW1 k1 k2 k3 k4 k5; obtain ⟨ad, A6, c6, e6, hx0, hx1, hx2, hx3, hx4, hx5, hx6, hl6, hi6⟩ := at_T53 (HR.out _ HK.out) n p1 q1; cases e6; have HE := Aside0.mk (walk_elt HR.out HK.out p1 q1 hx6); have HC6 := Aside0.mk hl6; clear hl6 hi6; have hcW := cb2 BW; have hcF := cb2 BF; have p2 := eq_true p1; have q2 := eq_true q1))
  go_loopg [23] k (fun kq v23 w' => ∃ (j : Int) (vc : Value) (X rest : List S78), v23 = .int .i64 j ∧ Aside0 (impl_walk.l0 kq ns room p false (rd_T53 ns n).f6 j = some rest) ∧ Aside0 (kq ≤ k) ∧ Aside0 (X ++ rest = outs ++ r) ∧ Aside0 (w'.heap[gO]? = some (.cells #[vc] 75 (0, 0))) ∧ Aside0 (Kd.R k78 78 w' w0.heap.size (fun k => k ≠ gO) vc X) ∧ Aside0 (w'.heap[gF]? = some (.cells #[.slice (some ad) ns.length c0, .int .i64 room] 29 (0, 0))) ∧ Aside0 (w'.heap[gW]? = some (.cells #[.string p, .int .i64 n] 78 (0, 0))) ∧ Aside0 (Kept w w' (Grow gO v)) ∧ Aside0 (∀ k, some k = vc.ownBlock → some k = v.ownBlock ∨ w.heap.size ≤ k) ∧ Aside0 (∀ k, some k = vc.ownBlock → k ≠ gW) ∧ Aside0 (Below w0.heap.size w0 w'))
  case atStart => exact ⟨0, v1, outs ++ [⟨p, n⟩], mid, sR, HM, ⟨Nat.le_refl _⟩, ⟨by rw [← HRr.out]; simp⟩, ⟨sK BO⟩, ⟨rR HO⟩, ⟨sK BF⟩, ⟨sK BW⟩, ⟨by repeat (first | exact HK.out | apply Kept.drewN | apply Kept.drew)⟩, HAT, HNW, ⟨sB⟩⟩
  case round =>
   clear hcW hcF BO HO BF BW HK HAT HNW HB
   obtain ⟨j, vc, X, rest, rfl, HA, HK1, HX, BO, HO, BF, BW, HK, HAT, HNW, HB⟩ := hrel
   cases gk with
   | zero => exact absurd HA.out (by simp [impl_walk.l0])
   | succ k1 =>
   have H := HA.out
   clear HA
   simp only [impl_walk.l0] at H
   by_cases c4 : j < (((rd_T53 ns n).f6).length : Int)
   rotate_left
   ·rw [if_neg c4] at H
    have c4b := decide_eq_false c4
    have e4 := Option.some.inj H
    subst e4
    go_wp2
    go_end0
    exact ⟨rfl, vc, sK BO, by rw [← HX.out, List.append_nil]; exact HO.out, sB, HK.out, HAT.out⟩
   rw [if_pos c4] at H
   by_cases c5 : 0 ≤ j
   rotate_left
   ·rw [if_neg c5] at H; cases H
   rw [if_pos c5] at H
   obtain ⟨q, A1, H⟩ := Option.bind_eq_some_iff.mp H
   obtain ⟨r1, A2, H⟩ := Option.bind_eq_some_iff.mp H
   obtain ⟨r2, A3, H⟩ := Option.bind_eq_some_iff.mp H
   have er := Option.some.inj H
   clear H
   have p3 := c5
   have q3 := c4
   have b3 := decide_eq_true c4
   have b4 := decide_eq_true c5
   obtain ⟨ade, ee, hy0, hy1⟩ := at_T60 (HE.out _ HK.out) j p3 q3
   have ee' := ee
   subst ee
   have p4 := eq_true p3
   have q4 := eq_true q3
   have hcW := cb2 BW
   have hcF := cb2 BF
   go_wp2_with (first | ((with_reducible refine gd 9 rfl ?_); refine bxE 9 #[.string (⟨#[]⟩ : ByteArray), .int .i64 0] 60 ?_; intro gE hg w6 hbox hb; have BE := Aside0.mk hbox; have GE := Aside0.mk (show w.heap.size ≤ gE by rw [hg]; exact HK.out.1); have GE0 := Aside0.mk (show w0.heap.size ≤ gE by rw [hg]; exact below_size sB); have NOE := nL BO hg; have NEO := nH BO hg; have NFE := nL BF hg; have NEF := nH BF hg; have NWE := nL BW hg; have NEW := nH BW hg; replace BO := nK BO hb; replace BF := nK BF hb; replace BW := nK BW hb; replace HO := nR HO hb; replace HK := Aside0.mk (Kept.below HK.out hb); replace HB := nSB hb; clear hb hbox hg; have hcE := cb2 BE) | ((with_reducible refine gate_store (t := 60) (p := 9) rfl ?_); refine store_event (t := 60) (p := 9) (v := ?vo_w) (w1 := ((w6.setCell ⟨gE, 0, none⟩ (.string ((rd_T60 (rd_T53 ns n).f6 j).f0))).setCell ⟨gE, 1, none⟩ (.int .i64 ((rd_T60 (rd_T53 ns n).f6 j).f1)))) ?hg ?ho ?hn ?hr ?_; (case ho => rfl); (case hg => rfl); (case hn => rfl); (case hr => first | (go_simp; done) | (go_simp; rfl)); intro w7 hw; have n0 := Aside0.mk (show Kd.R k78 78 w7 w0.heap.size (fun k => k ≠ gO) vc X from by rw [hw]; exact Kd.R_mono (Kd.R_far (p := ⟨gE, 1, none⟩) (Kd.R_far (p := ⟨gE, 0, none⟩) (Kd.R_types HO.out BE.out (by decide)) (fun _ hk => hk.2) _) (fun _ hk => hk.2) _) (fun _ h => h.1)); have n1 := Aside0.mk (show w7.heap[gO]? = some (.cells #[vc] 75 (0, 0)) from by rw [hw]; exact sX BO); have n2 := Aside0.mk (show w7.heap[gF]? = some (.cells #[.slice (some ad) ns.length c0, .int .i64 room] 29 (0, 0)) from by rw [hw]; exact sX BF); have n3 := Aside0.mk (show w7.heap[gW]? = some (.cells #[.string p, .int .i64 n] 78 (0, 0)) from by rw [hw]; exact sX BW); have n4 := Aside0.mk (show w7.heap[gE]? = some (.cells #[.string ((rd_T60 (rd_T53 ns n).f6 j).f0), .int .i64 ((rd_T60 (rd_T53 ns n).f6 j).f1)] 60 (0, 0)) from by rw [hw]; exact sX BE); have n5 := Aside0.mk (show Kept w w7 (Grow gO v) from by rw [hw]; exact Kept.setCell (Kept.setCell HK.out (.inr GE.out) _) (.inr GE.out) _); have n6 := Aside0.mk (show Below w0.heap.size w0 w7 from by rw [hw]; exact below_set (below_set HB.out GE0.out) GE0.out); clear HO BO BF BW BE HK HB hw hcE; have HO := n0; have BO := n1; have BF := n2; have BW := n3; have BE := n4; have HK := n5; have HB := n6; clear n0 n1 n2 n3 n4 n5 n6))
   have n0 := Aside0.mk (blk_drew BO.out)
   have n1 := Aside0.mk (blk_drew BF.out)
   have n2 := Aside0.mk (blk_drew BW.out)
   have n3 := Aside0.mk (blk_drew BE.out)
   have n4 := Aside0.mk (Kd.R_drew HO.out)
   have n5 := Aside0.mk (Kept.drew HK.out)
   have n6 := Aside0.mk (below_drew1 HB.out)
   clear BO BF BW BE HO HK HB
   have BO := n0
   have BF := n1
   have BW := n2
   have BE := n3
   have HO := n4
   have HK := n5
   have HB := n6
   clear n0 n1 n2 n3 n4 n5 n6
   refine st6 12 [11] (cz0 BF) (cz1 BF) (cz0 BW) (cz1 BW) (cz0 BE) (cz1 BE) (fun hHeld => ?_)
   generalize w7.drew = w8 at BO BF BW BE HO HK HB hHeld ⊢
   refine pu 1 28 ?_
   refine pu 3 30 ?_
   refine pu 6 33 ?_
   refine pu 9 36 ?_
   refine pu 10 37 ?_
   refine tk6 0 27 ?_
   refine tk6 2 29 ?_
   refine tk6 4 31 ?_
   refine tk6 7 34 ?_
   refine on 5 32 (fun K hK => ?_)
   refine gC Tryd.func111 #[.string p, .string ((rd_T60 (rd_T53 ns n).f6 j).f0)] ?_
   refine (impl_below.calls p ((rd_T60 (rd_T53 ns n).f6 j).f0) q _ A1).mono ?_
   rintro e w' ⟨rfl, ⟨nd, rfl⟩⟩
   refine ⟨_, rfl, ?_⟩
   refine hK.out _ _ hHeld (fun hHeld => ?_)
   clear hK K
   refine nm ?_
   refine pu 8 35 ?_
   refine last_ (i := 11) (N := some 38) #[true, true, true, true, true, true, true, true, true, true, true, true] rfl rfl (by kernel_rfl) (by decide) (fun K hK => ?_)
   refine gC Tryd.func96 #[.agg #[.slice (some ad) ns.length c0, .int .i64 room], .agg #[.string q, .int .i64 ((rd_T60 (rd_T53 ns n).f6 j).f1)], .bool false, .func (.func 97) #[] #[.pointer (some ⟨gO, 0, none⟩)]] ?_
   refine (ih k1 (by have := HK1.out; omega) (some ad) c0 ns room q ((rd_T60 (rd_T53 ns n).f6 j).f1) false gO vc X r1 w0 _ ?s1 GO.out ?s2 HC.out ?s3 ?s4 ?s5 A2).mono ?_
   case s1 => exact sB
   case s2 => exact fun W_ hW => HR.out W_ (Grow.then_ HK.out HAT.out hW)
   case s3 => exact sK BO
   case s4 => exact rR HO
   case s5 => exact (by have e := congrArg List.length HX.out; rw [← er] at e; simp only [List.length_append] at e; have := HL.out; omega)
   rintro e w9 ⟨rfl, v2, k1', k2', k3', k4', k5'⟩
   refine ⟨_, rfl, ?_⟩
   have n0 := Aside0.mk (blk_kept (sK BF) k4' (fun hs => Or.elim hs (fun h1 => NFO.out h1) (fun h1 => Kd.R_ne HO.out BF.out (by decide) h1)))
   have n1 := Aside0.mk (blk_kept (sK BW) k4' (fun hs => Or.elim hs (fun h1 => NWO.out h1) (fun h1 => HNW.out _ h1 rfl)))
   have n2 := Aside0.mk (show ∀ k, some k = v2.ownBlock → some k = v.ownBlock ∨ w.heap.size ≤ k from fun k hk => Or.elim (k5' k hk) (fun h1 => HAT.out k h1) (fun h1 => .inr (Nat.le_trans HK.out.1 h1)))
   have n3 := Aside0.mk (show ∀ k, some k = v2.ownBlock → k ≠ gW from fun k hk => Or.elim (k5' k hk) (fun h1 => HNW.out k h1) (fun h1 => by have h2 := blk_lt BW.out; have h3 : w8.heap.size ≤ k := h1; omega))
   have n4 := Aside0.mk (Grow.then_ HK.out HAT.out k4')
   have n5 := Aside0.mk (show (X ++ r1) ++ r2 = outs ++ r from by rw [List.append_assoc, er]; exact HX.out)
   clear BF BW BE BO HO HB HK HAT HNW
   have BF := n0
   have BW := n1
   have HAT := n2
   have HNW := n3
   have HK := n4
   have BO := Aside0.mk k1'
   have HO := Aside0.mk k2'
   have HB := Aside0.mk k3'
   refine hK.out _ _ ?_
   clear hK K
   refine nm ?_
   refine dn ?_
   have A3' := Aside0.mk A3
   try go_wp2
   go_roundg k1
   case measure => have := HK1.out; omega
   case rel => exact ⟨wrap64 (j + 1), v2, X ++ r1, r2, sR, A3', ⟨by have := HK1.out; omega⟩, n5, ⟨sK BO⟩, ⟨rR HO⟩, ⟨sK BF⟩, ⟨sK BW⟩, ⟨by repeat (first | exact HK.out | apply Kept.drewN | apply Kept.drew)⟩, HAT, HNW, ⟨sB⟩⟩
 | true =>
  have HRr := Aside0.mk hr
  clear hr
  go_enter Tryd.func96, Tryd.ntmps96
  go_wp2_with (first | ((with_reducible refine gd 4 rfl ?_); refine bxE 4 #[.slice A0 ns.length c0, .int .i64 room] 29 ?_; intro gF hg w2 hbox hb; have BF := Aside0.mk hbox; have GF := Aside0.mk (show w.heap.size ≤ gF by rw [hg]; exact HK.out.1); have NOF := nL BO hg; have NFO := nH BO hg; replace BO := nK BO hb; replace HO := nR HO hb; replace HK := Aside0.mk (Kept.below HK.out hb); replace HB := nSB hb; clear hb hbox hg) | ((with_reducible refine gd 5 rfl ?_); refine bxE 5 #[.string p, .int .i64 n] 78 ?_; intro gW hg w3 hbox hb; have BW := Aside0.mk hbox; have GW := Aside0.mk (show w.heap.size ≤ gW by rw [hg]; exact HK.out.1); have NOW := nL BO hg; have NWO := nH BO hg; have NFW := nL BF hg; have NWF := nH BF hg; replace BO := nK BO hb; replace BF := nK BF hb; replace HO := nR HO hb; replace HK := Aside0.mk (Kept.below HK.out hb); replace HB := nSB hb; clear hb hbox hg; have hcW := cb2 BW; have hcF := cb2 BF; obtain ⟨ad, A6, c6, e6, hx0, hx1, hx2, hx3, hx4, hx5, hx6, hl6, hi6⟩ := at_T53 (HR.out _ HK.out) n p1 q1; cases e6; have HE := Aside0.mk (walk_elt HR.out HK.out p1 q1 hx6); have HC6 := Aside0.mk hl6; clear hl6 hi6; have p2 := eq_true p1; have q2 := eq_true q1; have HAT := Aside0.mk (show ∀ k, some k = v.ownBlock → some k = v.ownBlock ∨ w.heap.size ≤ k from fun k hk => .inl hk); have HNW := Aside0.mk (show ∀ k, some k = v.ownBlock → k ≠ gW from fun k hk => by have := HW.out k hk; have := GW.out; omega)))
  go_loopg [23] k (fun kq v23 w' => ∃ (j : Int) (vc : Value) (X rest : List S78), v23 = .int .i64 j ∧ Aside0 (impl_walk.l0 kq ns room p true (rd_T53 ns n).f6 j = some rest) ∧ Aside0 (kq ≤ k) ∧ Aside0 (X ++ rest = outs ++ mid) ∧ Aside0 (w'.heap[gO]? = some (.cells #[vc] 75 (0, 0))) ∧ Aside0 (Kd.R k78 78 w' w0.heap.size (fun k => k ≠ gO) vc X) ∧ Aside0 (w'.heap[gF]? = some (.cells #[.slice (some ad) ns.length c0, .int .i64 room] 29 (0, 0))) ∧ Aside0 (w'.heap[gW]? = some (.cells #[.string p, .int .i64 n] 78 (0, 0))) ∧ Aside0 (Kept w w' (Grow gO v)) ∧ Aside0 (∀ k, some k = vc.ownBlock → some k = v.ownBlock ∨ w.heap.size ≤ k) ∧ Aside0 (∀ k, some k = vc.ownBlock → k ≠ gW) ∧ Aside0 (Below w0.heap.size w0 w'))
  case atStart => exact ⟨0, v, outs, mid, sR, HM, ⟨Nat.le_refl _⟩, ⟨rfl⟩, ⟨sK BO⟩, ⟨rR HO⟩, ⟨sK BF⟩, ⟨sK BW⟩, ⟨by repeat (first | exact HK.out | apply Kept.drewN | apply Kept.drew)⟩, HAT, HNW, ⟨sB⟩⟩
  case round =>
   clear hcW hcF BO HO BF BW HK HAT HNW HB
   obtain ⟨j, vc, X, rest, rfl, HA, HK1, HX, BO, HO, BF, BW, HK, HAT, HNW, HB⟩ := hrel
   cases gk with
   | zero => exact absurd HA.out (by simp [impl_walk.l0])
   | succ k1 =>
   have H := HA.out
   clear HA
   simp only [impl_walk.l0] at H
   by_cases c4 : j < (((rd_T53 ns n).f6).length : Int)
   rotate_left
   ·rw [if_neg c4] at H
    have c4b := decide_eq_false c4
    have e4 := Option.some.inj H
    subst e4
    have hcW := cb2 BW
    go_wp2_with (go_at_call 97; (refine (impl_ways_1.calls gO vc X p n w0 _ ?s1 GO.out ?s2 ?s3 ?s4).mono ?_); (case s1 => exact sB); (case s2 => exact (sK BO)); (case s3 => exact rR HO); (case s4 => have e := congrArg List.length HX.out; have e2 := congrArg List.length HRr.out; simp only [List.length_append, List.length_nil, if_true, List.length_singleton] at e e2; have := HL.out; omega); rintro e w5 ⟨rfl, v2, k1', k2', k3', k4', k5'⟩)
    go_end0
    exact ⟨rfl, v2, k1', (by have e2 := HRr.out; simp at e2; rw [← e2, ← List.append_assoc, ← HX.out, List.append_nil]; exact k2'), k3', Grow.then_ HK.out HAT.out k4', fun k hk => Or.elim (k5' k hk) (fun h1 => HAT.out k h1) (fun h1 => .inr (Nat.le_trans HK.out.1 h1))⟩
   rw [if_pos c4] at H
   by_cases c5 : 0 ≤ j
   rotate_left
   ·rw [if_neg c5] at H; cases H
   rw [if_pos c5] at H
   obtain ⟨q, A1, H⟩ := Option.bind_eq_some_iff.mp H
   obtain ⟨r1, A2, H⟩ := Option.bind_eq_some_iff.mp H
   obtain ⟨r2, A3, H⟩ := Option.bind_eq_some_iff.mp H
   have er := Option.some.inj H
   clear H
   have p3 := c5
   have q3 := c4
   have b3 := decide_eq_true c4
   have b4 := decide_eq_true c5
   obtain ⟨ade, ee, hy0, hy1⟩ := at_T60 (HE.out _ HK.out) j p3 q3
   have ee' := ee
   subst ee
   have p4 := eq_true p3
   have q4 := eq_true q3
   have hcW := cb2 BW
   have hcF := cb2 BF
   go_wp2_with (first | ((with_reducible refine gd 9 rfl ?_); refine bxE 9 #[.string (⟨#[]⟩ : ByteArray), .int .i64 0] 60 ?_; intro gE hg w6 hbox hb; have BE := Aside0.mk hbox; have GE := Aside0.mk (show w.heap.size ≤ gE by rw [hg]; exact HK.out.1); have GE0 := Aside0.mk (show w0.heap.size ≤ gE by rw [hg]; exact below_size sB); have NOE := nL BO hg; have NEO := nH BO hg; have NFE := nL BF hg; have NEF := nH BF hg; have NWE := nL BW hg; have NEW := nH BW hg; replace BO := nK BO hb; replace BF := nK BF hb; replace BW := nK BW hb; replace HO := nR HO hb; replace HK := Aside0.mk (Kept.below HK.out hb); replace HB := nSB hb; clear hb hbox hg; have hcE := cb2 BE) | ((with_reducible refine gate_store (t := 60) (p := 9) rfl ?_); refine store_event (t := 60) (p := 9) (v := ?vo_w) (w1 := ((w6.setCell ⟨gE, 0, none⟩ (.string ((rd_T60 (rd_T53 ns n).f6 j).f0))).setCell ⟨gE, 1, none⟩ (.int .i64 ((rd_T60 (rd_T53 ns n).f6 j).f1)))) ?hg ?ho ?hn ?hr ?_; (case ho => rfl); (case hg => rfl); (case hn => rfl); (case hr => first | (go_simp; done) | (go_simp; rfl)); intro w7 hw; have n0 := Aside0.mk (show Kd.R k78 78 w7 w0.heap.size (fun k => k ≠ gO) vc X from by rw [hw]; exact Kd.R_mono (Kd.R_far (p := ⟨gE, 1, none⟩) (Kd.R_far (p := ⟨gE, 0, none⟩) (Kd.R_types HO.out BE.out (by decide)) (fun _ hk => hk.2) _) (fun _ hk => hk.2) _) (fun _ h => h.1)); have n1 := Aside0.mk (show w7.heap[gO]? = some (.cells #[vc] 75 (0, 0)) from by rw [hw]; exact sX BO); have n2 := Aside0.mk (show w7.heap[gF]? = some (.cells #[.slice (some ad) ns.length c0, .int .i64 room] 29 (0, 0)) from by rw [hw]; exact sX BF); have n3 := Aside0.mk (show w7.heap[gW]? = some (.cells #[.string p, .int .i64 n] 78 (0, 0)) from by rw [hw]; exact sX BW); have n4 := Aside0.mk (show w7.heap[gE]? = some (.cells #[.string ((rd_T60 (rd_T53 ns n).f6 j).f0), .int .i64 ((rd_T60 (rd_T53 ns n).f6 j).f1)] 60 (0, 0)) from by rw [hw]; exact sX BE); have n5 := Aside0.mk (show Kept w w7 (Grow gO v) from by rw [hw]; exact Kept.setCell (Kept.setCell HK.out (.inr GE.out) _) (.inr GE.out) _); have n6 := Aside0.mk (show Below w0.heap.size w0 w7 from by rw [hw]; exact below_set (below_set HB.out GE0.out) GE0.out); clear HO BO BF BW BE HK HB hw hcE; have HO := n0; have BO := n1; have BF := n2; have BW := n3; have BE := n4; have HK := n5; have HB := n6; clear n0 n1 n2 n3 n4 n5 n6))
   have n0 := Aside0.mk (blk_drew BO.out)
   have n1 := Aside0.mk (blk_drew BF.out)
   have n2 := Aside0.mk (blk_drew BW.out)
   have n3 := Aside0.mk (blk_drew BE.out)
   have n4 := Aside0.mk (Kd.R_drew HO.out)
   have n5 := Aside0.mk (Kept.drew HK.out)
   have n6 := Aside0.mk (below_drew1 HB.out)
   clear BO BF BW BE HO HK HB
   have BO := n0
   have BF := n1
   have BW := n2
   have BE := n3
   have HO := n4
   have HK := n5
   have HB := n6
   clear n0 n1 n2 n3 n4 n5 n6
   refine st6 12 [11] (cz0 BF) (cz1 BF) (cz0 BW) (cz1 BW) (cz0 BE) (cz1 BE) (fun hHeld => ?_)
   generalize w7.drew = w8 at BO BF BW BE HO HK HB hHeld ⊢
   refine pu 1 28 ?_
   refine pu 3 30 ?_
   refine pu 6 33 ?_
   refine pu 9 36 ?_
   refine pu 10 37 ?_
   refine tk6 0 27 ?_
   refine tk6 2 29 ?_
   refine tk6 4 31 ?_
   refine tk6 7 34 ?_
   refine on 5 32 (fun K hK => ?_)
   refine gC Tryd.func111 #[.string p, .string ((rd_T60 (rd_T53 ns n).f6 j).f0)] ?_
   refine (impl_below.calls p ((rd_T60 (rd_T53 ns n).f6 j).f0) q _ A1).mono ?_
   rintro e w' ⟨rfl, ⟨nd, rfl⟩⟩
   refine ⟨_, rfl, ?_⟩
   refine hK.out _ _ hHeld (fun hHeld => ?_)
   clear hK K
   refine nm ?_
   refine pu 8 35 ?_
   refine last_ (i := 11) (N := some 38) #[true, true, true, true, true, true, true, true, true, true, true, true] rfl rfl (by kernel_rfl) (by decide) (fun K hK => ?_)
   refine gC Tryd.func96 #[.agg #[.slice (some ad) ns.length c0, .int .i64 room], .agg #[.string q, .int .i64 ((rd_T60 (rd_T53 ns n).f6 j).f1)], .bool true, .func (.func 97) #[] #[.pointer (some ⟨gO, 0, none⟩)]] ?_
   refine (ih k1 (by have := HK1.out; omega) (some ad) c0 ns room q ((rd_T60 (rd_T53 ns n).f6 j).f1) true gO vc X r1 w0 _ ?s1 GO.out ?s2 HC.out ?s3 ?s4 ?s5 A2).mono ?_
   case s1 => exact sB
   case s2 => exact fun W_ hW => HR.out W_ (Grow.then_ HK.out HAT.out hW)
   case s3 => exact sK BO
   case s4 => exact rR HO
   case s5 => exact (by have e := congrArg List.length HX.out; have e2 := congrArg List.length HRr.out; rw [← er] at e; simp only [List.length_append, if_true, List.length_singleton] at e e2; have := HL.out; omega)
   rintro e w9 ⟨rfl, v2, k1', k2', k3', k4', k5'⟩
   refine ⟨_, rfl, ?_⟩
   have n0 := Aside0.mk (blk_kept (sK BF) k4' (fun hs => Or.elim hs (fun h1 => NFO.out h1) (fun h1 => Kd.R_ne HO.out BF.out (by decide) h1)))
   have n1 := Aside0.mk (blk_kept (sK BW) k4' (fun hs => Or.elim hs (fun h1 => NWO.out h1) (fun h1 => HNW.out _ h1 rfl)))
   have n2 := Aside0.mk (show ∀ k, some k = v2.ownBlock → some k = v.ownBlock ∨ w.heap.size ≤ k from fun k hk => Or.elim (k5' k hk) (fun h1 => HAT.out k h1) (fun h1 => .inr (Nat.le_trans HK.out.1 h1)))
   have n3 := Aside0.mk (show ∀ k, some k = v2.ownBlock → k ≠ gW from fun k hk => Or.elim (k5' k hk) (fun h1 => HNW.out k h1) (fun h1 => by have h2 := blk_lt BW.out; have h3 : w8.heap.size ≤ k := h1; omega))
   have n4 := Aside0.mk (Grow.then_ HK.out HAT.out k4')
   have n5 := Aside0.mk (show (X ++ r1) ++ r2 = outs ++ mid from by rw [List.append_assoc, er]; exact HX.out)
   clear BF BW BE BO HO HB HK HAT HNW
   have BF := n0
   have BW := n1
   have HAT := n2
   have HNW := n3
   have HK := n4
   have BO := Aside0.mk k1'
   have HO := Aside0.mk k2'
   have HB := Aside0.mk k3'
   refine hK.out _ _ ?_
   clear hK K
   refine nm ?_
   refine dn ?_
   have A3' := Aside0.mk A3
   try go_wp2
   go_roundg k1
   case measure => have := HK1.out; omega
   case rel => exact ⟨wrap64 (j + 1), v2, X ++ r1, r2, sR, A3', ⟨by have := HK1.out; omega⟩, n5, ⟨sK BO⟩, ⟨rR HO⟩, ⟨sK BF⟩, ⟨sK BW⟩, ⟨by repeat (first | exact HK.out | apply Kept.drewN | apply Kept.drew)⟩, HAT, HNW, ⟨sB⟩⟩
def impl_Fs_ways.f (k : Nat) (l0_0 : List (S53)) (a0_1 : Int) (a1 : Int) (a2 : Bool) : Option (List (S78)) := (impl_walk.f k l0_0 a0_1 (⟨#[46]⟩ : ByteArray) a1 a2).bind fun r => if r.length < 5864062014805 then some r else none
theorem impl_Fs_ways.calls (k : Nat) (A0_0 : Option Addr) (c0_0 : Nat) (l0_0 : List (S53)) (a0_1 : Int) (a1 : Int) (a2 : Bool) (r : List (S78)) (w : World) (hr0_0 : Kd.C k53 w A0_0 l0_0.length l0_0) (hc0_0 : l0_0.length ≤ c0_0) (h : impl_Fs_ways.f k l0_0 a0_1 a1 a2 = some r) :
  Calls Tryd.prog 70 #[.agg #[.slice A0_0 l0_0.length c0_0, .int .i64 a0_1], .int .i64 a1, .bool a2] w fun e w' => ∃ v : Value, e = .returned v ∧ Kd.R k78 78 w' w.heap.size (fun _ => True) v r ∧ Below w.heap.size w w' := by
 have hu29 := Tryd.underlying29
 have hu78 := Tryd.underlying78
 have hu75 := Tryd.underlying75
 obtain ⟨r', A1, h⟩ := Option.bind_eq_some_iff.mp h
 by_cases hl : r'.length < 5864062014805
 rotate_left
 ·rw [if_neg hl] at h; cases h
 rw [if_pos hl] at h
 obtain rfl := Option.some.inj h
 have HA := Aside0.mk A1
 have HL := Aside0.mk hl
 have HR := Aside0.mk hr0_0
 have HC := Aside0.mk hc0_0
 have HB := Aside0.mk (Below.refl w.heap.size w)
 clear h A1 hl hr0_0 hc0_0
 go_enter Tryd.func70, Tryd.ntmps70
 go_wp2_with (first | ((with_reducible refine gd 3 rfl ?_); refine bxE 3 #[.slice A0_0 l0_0.length c0_0, .int .i64 a0_1] 29 ?_; intro gF hg w2 hbox hb; have BF := Aside0.mk hbox; replace HB := nSB hb; clear hb hbox hg; have hcF := cb2 BF) | ((with_reducible refine gate_dst (N := 8) rfl ?_); refine Kd.R_lit k78 _ 78 ?hg (N := 8) ?hd (xs := ([] : List S78)) (inner := []) (ok := fun _ => True) (okp := fun _ => True) ?hr ?hp (fun _ hk => hk) trivial (Below.refl _ _) (Nat.le_refl _) (by simp) ?_; (case hd => rfl); (case hg => rfl); (case hr => first | (go_simp; done) | (go_simp; rfl)); (case hp => exact (Reps.none _ _)); intro v w3 ho hb hg_ hnew_; clear hg_ hnew_; obtain ⟨Av, cv, ev⟩ := Kd.R_slice ho; subst ev; have HO := Aside0.mk (Kd.R_lower ho (below_size sB)); replace BF := nK BF hb; replace HB := nSB hb; clear hb ho; have hcF := cb2 BF) | ((with_reducible refine gd 7 rfl ?_); refine bxE 7 #[.slice none 0 0] 75 ?_; intro gO hg w4 hbox hb; have BO := Aside0.mk hbox; have GO := nGB hg; have NFO := nL BF hg; have NOF := nH BF hg; replace BF := nK BF hb; replace HO := nR HO hb; replace HB := nSB hb; clear hb hbox hg; have hcO := cz0 BO; have hfO := fz BO 0) | ((with_reducible refine gate_store (t := 75) (p := 7) rfl ?_); refine store_event (t := 75) (p := 7) (v := ?vo_w) (w1 := (w4.setCell ⟨gO, 0, none⟩ (.slice Av 0 cv))) ?hg ?ho ?hn ?hr ?_; (case ho => rfl); (case hg => rfl); (case hn => rfl); (case hr => first | (go_simp; done) | (go_simp; rfl)); intro w5 hw; have n0 := Aside0.mk (show Kd.R k78 78 w5 w.heap.size (fun k => k ≠ gO) (.slice Av 0 cv) ([] : List S78) from by rw [hw]; exact Kd.R_mono (Kd.R_far (p := ⟨gO, 0, none⟩) (Kd.R_types HO.out BO.out (by decide)) (fun _ hk => hk.2) _) (fun _ h => h.2)); have n1 := Aside0.mk (show w5.heap[gO]? = some (.cells #[.slice Av 0 cv] 75 (0, 0)) from by rw [hw]; exact blk_put (sK BO) 0 _ rfl); have n2 := Aside0.mk (show w5.heap[gF]? = some (.cells #[.slice A0_0 l0_0.length c0_0, .int .i64 a0_1] 29 (0, 0)) from by rw [hw]; exact blk_far (sK BF) NFO.out _); have n3 := Aside0.mk (show Below w.heap.size w w5 from by rw [hw]; exact below_set HB.out GO.out); clear HO BO BF HB hw hcO hfO; have HO := n0; have BO := n1; have BF := n2; have HB := n3; clear n0 n1 n2 n3; have hcF := cb2 BF) | (go_at_call 96; (refine (impl_walk.calls k A0_0 c0_0 l0_0 a0_1 (⟨#[46]⟩ : ByteArray) a1 a2 gO (.slice Av 0 cv) [] r' w _ ?s1 GO.out ?s2 HC.out ?s3 ?s4 ?s5 HA.out).mono ?_); (case s1 => exact sB); (case s2 => exact fun W_ hW => Kd.C_kept_came k53_heap HR.out (show Below w.heap.size w _ from sB) (fun k_ hs => Or.elim hs (fun e => by have := GO.out; omega) (fun e => Kd.R_base HO.out k_ e.symm)) W_ hW); (case s3 => exact (sK BO)); (case s4 => exact rR HO); (case s5 => have := HL.out; simp; omega); rintro e w6 ⟨rfl, v', k1, k2, k3, k4, k5⟩; have BO1 := Aside0.mk k1; have hcO := cz0 BO1))
 go_ret
 exact ⟨_, rfl, Kd.R_mono k2 (fun _ _ => trivial), k3⟩

/-! ### impl_walked: function 66 -/
def impl_walked.l0 : Nat → List ByteArray → List (S78) → Int → Int → Option (List ByteArray × Bool)
 | 0, _, _, _, _ => none
 | k + 1, x8, x19, x20, x21 => if x21 < x20 then (if 0 ≤ x21 then (if x21 < (x19.length : Int) then (if x8.length < 8796093022208 then (impl_walked.l0 k (x8 ++ [(rd_T78 x19 x21).f0]) x19 x20 (wrap64 (x21 + 1))) else (none)) else (none)) else (none)) else (some (x8, true))
def impl_walked.f (k : Nat) (l0_0 : List (S53)) (a0_1 : Int) (a1 : Int) (a2 : Bool) : Option (List ByteArray × Bool) := (impl_isGoodAt.f k l0_0 a0_1 a1).bind fun t438 => (if t438 = true then ((impl_Fs_ways.f k l0_0 a0_1 a1 a2).bind fun t442 => (impl_walked.l0 k (([] : List ByteArray)) t442 (t442.length : Int) 0)) else (some (([] : List ByteArray), false)))
theorem impl_walked.calls (k : Nat) (A0_0 : Option Addr) (c0_0 : Nat) (l0_0 : List (S53)) (a0_1 : Int) (a1 : Int) (a2 : Bool) (r1 : List ByteArray) (r2 : Bool) (w : World) (hr0_0 : Kd.C k53 w A0_0 l0_0.length l0_0) (hc0_0 : l0_0.length ≤ c0_0) (h : impl_walked.f k l0_0 a0_1 a1 a2 = some (r1, r2)) :
  Calls Tryd.prog 66 #[.agg #[.slice A0_0 l0_0.length c0_0, .int .i64 a0_1], .int .i64 a1, .bool a2] w fun e w' => ∃ v0_ : Value, e = .returned (.tuple #[v0_, .bool r2]) ∧ Kd.R Kd.string 9 w' w.heap.size (fun _ => True) v0_ r1 ∧ Below w.heap.size w w' := by
 have hu29 := Tryd.underlying29
 have hu78 := Tryd.underlying78
 have HR0_0 := Aside0.mk hr0_0
 have HC0_0 := Aside0.mk hc0_0
 clear hr0_0 hc0_0
 have HB := Aside0.mk (Below.refl w.heap.size w)
 have H : ((impl_isGoodAt.f k l0_0 a0_1 a1).bind fun t438 => (if t438 = true then ((impl_Fs_ways.f k l0_0 a0_1 a1 a2).bind fun t442 => (impl_walked.l0 k (([] : List ByteArray)) t442 (t442.length : Int) 0)) else (some (([] : List ByteArray), false)))) = some (r1, r2) := h
 clear h
 obtain ⟨t438, A4, H⟩ := bS H
 try dsimp only at H
 by_cases c5 : t438 = true
 ·subst c5
  rw [if_pos rfl] at H
  obtain ⟨y439, hy439⟩ : ∃ y_ : List ByteArray, y_ = (([] : List ByteArray)) := ⟨_, rfl⟩
  replace H : ((impl_Fs_ways.f k l0_0 a0_1 a1 a2).bind fun t442 => (impl_walked.l0 k y439 t442 (t442.length : Int) 0)) = some (r1, r2) := by first | (rw [hy439]; with_reducible exact H) | (have H2_ := (Option.bind_some _ _).symm.trans H; rw [hy439]; with_reducible exact H2_) | (have H2_ := (Option.bind_some _ _).symm.trans H; with_reducible exact H2_) | with_reducible exact H | (rw [hy439]; exact H) | exact H
  have Ny439 := Aside0.mk hy439
  clear hy439
  obtain ⟨t442, A6, H⟩ := bS H
  try dsimp only at H
  have H' := Aside0.mk H
  clear H
  go_enter Tryd.func66, Tryd.ntmps66
  go_wp2_with (first | ((with_reducible refine gd 3 rfl ?_); refine bxE 3 #[.slice A0_0 l0_0.length c0_0, .int .i64 a0_1] 29 ?_; intro gb437 hg w7 hbox hb; have BK437 := Aside0.mk hbox; have GW437 := nGB hg; have GE437 := nGB hg; replace HB := nSB hb; clear hb hbox hg; have hcz8 := cb2 BK437) | ((with_reducible refine gt 52 rfl ?_); refine gL 52 13 Tryd.func52 #[.agg #[.slice A0_0 l0_0.length c0_0, .int .i64 a0_1], .int .i64 a1] ?_; (with_reducible refine (impl_isGoodAt.calls k _ _ l0_0 a0_1 a1 true _ ?side1 ?side2 A4.out).mono ?_); (case side1 => exact sD (Kd.C_below HR0_0.out HB.out)); (case side2 => exact HC0_0.out); rintro e w9 ⟨rfl, hb⟩; refine ⟨_, rfl, ?_⟩; replace BK437 := nK BK437 hb; replace HB := nSC hb; try clear hb) | ((with_reducible refine gate_dst (N := 15) rfl ?_); refine Kd.R_lit Kd.string _ 9 ?hg (N := 15) ?hd (xs := ([] : List ByteArray)) (inner := []) (ok := fun _ => True) (okp := fun _ => True) ?hr ?hp (fun _ hk => hk) trivial (Below.refl _ _) (Nat.le_refl _) (by simp) ?_; (case hd => rfl); (case hg => rfl); (case hr => first | (go_simp; done) | (go_simp; rfl)); (case hp => exact (Reps.none _ _)); intro v440 w10 ho11 hb hg_ hnew_; clear hg_ hnew_; (first | rw [← Ny439.out] at ho11 | (simp only [Int.reduceToNat] at ho11; rw [← Ny439.out] at ho11)); have HO441 := Aside0.mk (Kd.R_lower ho11 (below_size sC)); replace BK437 := nK BK437 hb; replace HB := nSC hb; clear hb ho11; have hcz12 := cb2 BK437) | ((with_reducible refine gt 70 rfl ?_); refine gL 70 19 Tryd.func70 #[.agg #[.slice A0_0 l0_0.length c0_0, .int .i64 a0_1], .int .i64 a1, .bool a2] ?_; (with_reducible refine (impl_Fs_ways.calls k _ _ l0_0 a0_1 a1 a2 t442 _ ?side1 ?side2 A6.out).mono ?_); (case side1 => exact sD (Kd.C_below HR0_0.out HB.out)); (case side2 => exact HC0_0.out); rintro e w13 ⟨v443, rfl, ho0, hb⟩; refine ⟨_, rfl, ?_⟩; replace HO441 := nR HO441 hb; have HO444 := Aside0.mk (Kd.R_lower ho0 (below_size sC)); replace BK437 := nK BK437 hb; replace HB := nSC hb; try clear hb; (try clear ho0); obtain ⟨Ao14, co14, eo14⟩ := Kd.R_slice HO444.out; subst eo14))
  go_loopg [8, 21] k (fun kq v8 v21 w' => ∃ (x8_1 : List ByteArray) (x21_1 : Int), v21 = .int .i64 x21_1 ∧ Aside0 (impl_walked.l0 kq x8_1 t442 (t442.length : Int) x21_1 = some (r1, r2)) ∧ Aside0 (kq ≤ k) ∧ Aside0 (Kd.R Kd.string 9 w' w.heap.size (fun _ => True) v8 x8_1) ∧ Aside0 (Kd.R k78 78 w' w.heap.size (fun _ => True) (.slice Ao14 t442.length co14) t442) ∧ Aside0 (w'.heap[gb437]? = some (.cells #[(.slice A0_0 l0_0.length c0_0), .int .i64 a0_1] 29 (0, 0))) ∧ Aside0 (Below w.heap.size w w'))
  case atStart => exact ⟨(y439), (0), sR, H', ⟨Nat.le_refl _⟩, ⟨rR HO441⟩, ⟨rR HO444⟩, ⟨sK BK437⟩, ⟨sC⟩⟩
  case round =>
   clear H'
   try clear p2
   try clear c5
   try clear c6
   try clear c7
   try clear hcz12
   try clear hcz8
   obtain ⟨x8_1, x21_1, rfl, HA, HK1, HO_8, HO_19, BK437, HB⟩ := hrel
   cases gk with
   | zero => exact absurd HA.out (by simp [impl_walked.l0])
   | succ k1 =>
    have H := HA.out
    clear HA
    simp only [impl_walked.l0] at H
    by_cases c15 : x21_1 < (t442.length : Int)
    ·rw [if_pos c15] at H
     have c15b0 := decide_eq_true c15
     clear c15
     obtain ⟨c16, H⟩ := iN H
     have c16b0 := decide_eq_true c16
     clear c16
     obtain ⟨c17, H⟩ := iN H
     have c17b0 := decide_eq_true c17
     clear c17
     obtain ⟨c18, H⟩ := iN H
     have LMc18 := Aside0.mk c18
     clear c18
     obtain ⟨y447, hy447⟩ : ∃ y_ : List ByteArray, y_ = (x8_1 ++ [(rd_T78 t442 x21_1).f0]) := ⟨_, rfl⟩
     replace H : (impl_walked.l0 k1 y447 t442 (t442.length : Int) (wrap64 (x21_1 + 1))) = some (r1, r2) := by first | (rw [hy447]; with_reducible exact H) | (have H2_ := (Option.bind_some _ _).symm.trans H; rw [hy447]; with_reducible exact H2_) | (have H2_ := (Option.bind_some _ _).symm.trans H; with_reducible exact H2_) | with_reducible exact H | (rw [hy447]; exact H) | exact H
     have Ny447 := Aside0.mk hy447
     clear hy447
     have H' := Aside0.mk H
     clear H
     have p445 : 0 ≤ (x21_1 : Int) := sO
     have q445 : x21_1 < (t442.length : Int) := sO
     obtain ⟨ad445, e445, hx445_0, hx445_1⟩ := at_T78 (Kd.R_reads' HO_19.out).2.2 x21_1 p445 q445
     cases e445
     replace p445 := eq_true p445
     replace q445 := eq_true q445
     go_wp2_with (first | ((with_reducible refine gd 10 rfl ?_); refine bxE 10 #[.string (⟨#[]⟩ : ByteArray), .int .i64 0] 78 ?_; intro gb446 hg w19 hbox hb; replace HO_8 := nR HO_8 hb; replace HO_19 := Aside0.mk (Kd.R_below (Kd.R_elderB (by (with_reducible repeat (first | apply Kd.R_alloc | apply Kd.R_drewN | apply Kd.R_drew)); exact HO_19.out) gb446 (Nat.le_of_eq hg.symm)) hb); have BK446 := Aside0.mk hbox; have GW446 := nGC hg; have GE446 := nGC hg; replace HB := nSC hb; have NB437_446 := nL BK437 hg; have NB446_437 := nH BK437 hg; replace BK437 := nK BK437 hb; clear hb hbox hg; have hnb20 := NB446_437.out; have hnc20 := NB437_446.out; have hcz21 := cb2 BK446) | ((with_reducible refine gate_builtin (b := .append) (xs := #[.tmp 25, .tmp 28]) rfl ?_); at_builtin; refine Kd.R_append Kd.string (w0 := w) w.heap.size rfl (.tmp 25) (.tmp 28) 39 9 (.string ⟨#[]⟩) 16 rfl Tryd.underlying39 info9 rfl (by decide) (by omega) u8 x8_1 ((rd_T78 t442 x21_1).f0) [.string ((rd_T78 t442 x21_1).f0)] (fun _ => True) (fun _ => False) rfl (by first | (go_simp; done) | (go_simp; rfl)) ?aP (fun _ hk => hk.elim) ?aF ?aO ?aB ?aS ?aL ?_; (case aP => exact rfl); (case aB => exact sC); (case aF => exact (fun _ _ => trivial)); (case aO => exact (by (with_reducible repeat (first | apply Kd.R_alloc | apply Kd.R_drewN | apply Kd.R_drew)); exact Kd.R_mono (Kd.R_far (p := ⟨gb446, 1, none⟩) (Kd.R_far (p := ⟨gb446, 0, none⟩) (Kd.R_types HO_8.out BK446.out (by decide)) (fun _ hk => hk.2) (.string ((rd_T78 t442 x21_1).f0))) (fun _ hk => hk.2) (.int .i64 ((rd_T78 t442 x21_1).f1))) (fun _ hk => trivial))); (case aS => exact (below_size sC)); (case aL => have := LMc18.out; omega); intro v448 w22 ho hb hg hat; rw [← Ny447.out] at ho; replace HO_19 := Aside0.mk (Kd.R_over' (by (with_reducible repeat (first | apply Kd.R_alloc | apply Kd.R_drewN | apply Kd.R_drew)); exact (Kd.R_mono (Kd.R_far (p := ⟨gb446, 1, none⟩) (Kd.R_far (p := ⟨gb446, 0, none⟩) (Kd.R_mono HO_19.out (fun k_ hk => (⟨hk, hk.2⟩ : _ ∧ k_ ≠ gb446))) (fun _ hk => hk.2) (.string ((rd_T78 t442 x21_1).f0))) (fun _ hk => hk.2) (.int .i64 ((rd_T78 t442 x21_1).f1))) (fun _ h_ => h_.1))) (Kd.R_typed (by (with_reducible repeat (first | apply Kd.R_alloc | apply Kd.R_drewN | apply Kd.R_drew)); exact (Kd.R_mono (Kd.R_far (p := ⟨gb446, 1, none⟩) (Kd.R_far (p := ⟨gb446, 0, none⟩) (Kd.R_types HO_8.out BK446.out (by decide)) (fun _ hk => hk.2) (.string ((rd_T78 t442 x21_1).f0))) (fun _ hk => hk.2) (.int .i64 ((rd_T78 t442 x21_1).f1))) (fun _ h_ => h_.1)))) (by decide) hg); replace BK437 := Aside0.mk (blk_grown (g := gb437) (o := .cells #[.slice A0_0 l0_0.length c0_0, .int .i64 a0_1] 29 (0, 0)) (sX BK437) hg (Kd.R_ne HO_8.out BK437.out (by decide))); replace BK446 := Aside0.mk (blk_grown (g := gb446) (o := .cells #[.string ((rd_T78 t442 x21_1).f0), .int .i64 ((rd_T78 t442 x21_1).f1)] 78 (0, 0)) (sX BK446) hg (Kd.R_ne HO_8.out BK446.out (by decide))); replace HB := Aside0.mk (hb); have HO449 := Aside0.mk (ho); clear HO_8; clear ho hb hg hat))
     go_roundg k1
     case measure => have := HK1.out; omega
     case rel => exact ⟨(y447), (wrap64 (x21_1 + 1)), sR, H', ⟨by have := HK1.out; omega⟩, ⟨rR HO449⟩, ⟨by (with_reducible repeat (first | apply Kd.R_alloc | apply Kd.R_drewN | apply Kd.R_drew)); exact Kd.R_mono HO_19.out (fun _ hk => trivial)⟩, ⟨sK BK437⟩, ⟨sC⟩⟩
    ·rw [if_neg c15] at H
     have c15b0 := decide_eq_false c15
     clear c15
     simp only [Option.some.injEq, Prod.mk.injEq] at H
     obtain ⟨rfl, rfl⟩ := H
     go_wp2
     go_ret2
     exact ⟨_, sE, by (with_reducible repeat (first | apply Kd.R_alloc | apply Kd.R_drewN | apply Kd.R_drew)); exact HO_8.out, sC⟩
 ·replace c5 := Bool.eq_false_iff.mpr c5
  subst c5
  rw [if_neg (show ¬ (false = true) by decide)] at H
  simp only [Option.some.injEq, Prod.mk.injEq] at H
  obtain ⟨rfl, rfl⟩ := H
  go_enter Tryd.func66, Tryd.ntmps66
  go_wp2_with (first | ((with_reducible refine gd 3 rfl ?_); refine bxE 3 #[.slice A0_0 l0_0.length c0_0, .int .i64 a0_1] 29 ?_; intro gb437 hg w23 hbox hb; have BK437 := Aside0.mk hbox; have GW437 := nGB hg; have GE437 := nGB hg; replace HB := nSB hb; clear hb hbox hg; have hcz24 := cb2 BK437) | ((with_reducible refine gt 52 rfl ?_); refine gL 52 13 Tryd.func52 #[.agg #[.slice A0_0 l0_0.length c0_0, .int .i64 a0_1], .int .i64 a1] ?_; (with_reducible refine (impl_isGoodAt.calls k _ _ l0_0 a0_1 a1 false _ ?side1 ?side2 A4.out).mono ?_); (case side1 => exact sD (Kd.C_below HR0_0.out HB.out)); (case side2 => exact HC0_0.out); rintro e w25 ⟨rfl, hb⟩; refine ⟨_, rfl, ?_⟩; replace BK437 := nK BK437 hb; replace HB := nSC hb; try clear hb))
  go_ret2
  exact ⟨_, sE, by first | exact Kd.R_nil _ _ _ _ _ | exact Kd.N_nil _ _ _ _ _ | exact Kd.V_nil _ _ _ _ _ | exact Kd.Q_nil _ _ _ _ _ | exact Kd.S_nil _ _ _ _ _, sC⟩

/-! ### impl_WalkPre: function 37 -/
def impl_WalkPre.f (k : Nat) (l0_0 : List (S53)) (a0_1 : Int) (a1 : Int) : Option (List ByteArray × Bool) := (impl_walked.f k l0_0 a0_1 a1 false).bind fun bt451 => (some (bt451.1, bt451.2))
theorem impl_WalkPre.calls (k : Nat) (A0_0 : Option Addr) (c0_0 : Nat) (l0_0 : List (S53)) (a0_1 : Int) (a1 : Int) (r1 : List ByteArray) (r2 : Bool) (w : World) (hr0_0 : Kd.C k53 w A0_0 l0_0.length l0_0) (hc0_0 : l0_0.length ≤ c0_0) (h : impl_WalkPre.f k l0_0 a0_1 a1 = some (r1, r2)) :
  Calls Tryd.prog 37 #[.agg #[.slice A0_0 l0_0.length c0_0, .int .i64 a0_1], .int .i64 a1] w fun e w' => ∃ v0_ : Value, e = .returned (.tuple #[v0_, .bool r2]) ∧ Kd.R Kd.string 9 w' w.heap.size (fun _ => True) v0_ r1 ∧ Below w.heap.size w w' := by
 have hu29 := Tryd.underlying29
 have HR0_0 := Aside0.mk hr0_0
 have HC0_0 := Aside0.mk hc0_0
 clear hr0_0 hc0_0
 have HB := Aside0.mk (Below.refl w.heap.size w)
 have H : ((impl_walked.f k l0_0 a0_1 a1 false).bind fun bt451 => (some (bt451.1, bt451.2))) = some (r1, r2) := h
 clear h
 obtain ⟨⟨t451, t454⟩, A3, H⟩ := bS H
 try dsimp only at H
 simp only [Option.some.injEq, Prod.mk.injEq] at H
 obtain ⟨rfl, rfl⟩ := H
 go_enter Tryd.func37, Tryd.ntmps37
 go_wp2_with (first | ((with_reducible refine gd 2 rfl ?_); refine bxE 2 #[.slice A0_0 l0_0.length c0_0, .int .i64 a0_1] 29 ?_; intro gb450 hg w4 hbox hb; have BK450 := Aside0.mk hbox; have GW450 := nGB hg; have GE450 := nGB hg; replace HB := nSB hb; clear hb hbox hg; have hcz5 := cb2 BK450) | ((with_reducible refine gt 66 rfl ?_); refine gL 66 8 Tryd.func66 #[.agg #[.slice A0_0 l0_0.length c0_0, .int .i64 a0_1], .int .i64 a1, .bool false] ?_; (with_reducible refine (impl_walked.calls k _ _ l0_0 a0_1 a1 false t451 t454 _ ?side1 ?side2 A3.out).mono ?_); (case side1 => exact sD (Kd.C_below HR0_0.out HB.out)); (case side2 => exact HC0_0.out); rintro e w6 ⟨v452, rfl, ho0, hb⟩; refine ⟨_, rfl, ?_⟩; have HO453 := Aside0.mk (Kd.R_lower ho0 (below_size sC)); replace BK450 := nK BK450 hb; replace HB := nSC hb; try clear hb; (try clear ho0)))
 go_ret2
 exact ⟨_, sE, by (with_reducible repeat (first | apply Kd.R_alloc | apply Kd.R_drewN | apply Kd.R_drew)); exact HO453.out, sC⟩

end Go.Proofs.YteffcglgdfhkmaaDoor.PWk
