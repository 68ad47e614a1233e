import Derived.Test.YtdjceippnokimaaGreatDoorPSatx0
import Derived.Test.YtdjceippnokimaaGreatDoorPSatx14
import Derived.Test.YtdjceippnokimaaGreatDoorPSatx18
namespace Go.Proofs.YtdjceippnokimaaGreatDoor.PSat
open Go.RowKit Go.Proofs.YtdjceippnokimaaGreatDoorW.PrintWords Go.Proofs.YtdjceippnokimaaGreatDoorW.PrintLast Go.Proofs.YtdjceippnokimaaGreatDoorW.PrintMore
attribute [local go_sem] max2_int min2_int max_two min_two max_three min_three max_four min_four
set_option linter.unusedVariables false
set_option linter.unusedSimpArgs false
set_option maxHeartbeats 8000000
set_option maxRecDepth 100000
/-! ### impl_isGoodAt: function 23 -/
def impl_isGoodAt.f (k : Nat) (lq : List (S65)) (aq : Int) (a1 : Int) : Option (Bool) := (impl_GoodFs.f k lq aq).bind fun t454 => (if t454 = true then ((impl_Fs_isThere.f lq aq a1).bind fun t455 => (some t455)) else (some false))
theorem impl_isGoodAt.calls (k : Nat) (Aq : Option Addr) (cq : Nat) (lq : List (S65)) (aq : Int) (a1 : Int) (r : Bool) (w : World) (hr0_0 : Kd.C k65 w Aq lq.length lq) (hc0_0 : lq.length ≤ cq) (h : impl_isGoodAt.f k lq aq a1 = some r) :
  Calls Tryz.prog 23 #[.agg #[.slice Aq lq.length cq, .int .i64 aq], .int .i64 a1] w fun e w' => e = .returned (.bool r) ∧ Below w.heap.size w w' := by
 have hu30 := Tryz.underlying30; have Hq := aM hr0_0; have Kq := aM hc0_0; clear hr0_0 hc0_0; have HB := b0 w; have H : ((impl_GoodFs.f k lq aq).bind fun t454 => (if t454 = true then ((impl_Fs_isThere.f lq aq a1).bind fun t455 => (some t455)) else (some false))) = some r := h; clear h; obtain ⟨t454, A3, H⟩ := bS H; (try dsimp only at H); by_cases c4 : t454 = true
 ·subst c4; rw [if_pos rfl] at H; obtain ⟨t455, A5, H⟩ := bS H; (try dsimp only at H); obtain rfl := sI H; go_enter Tryz.func23, Tryz.ntmps23
  go_wp2_with (first | ((with_reducible refine gd 2 rfl ?_); refine bxE 2 #[.slice Aq lq.length cq, .int .i64 aq] 30 ?_; intro gb453 hg w6 hbox hb; have BK453 := aM hbox; have GW453 := nGB hg; have GE453 := nGB hg; replace HB := nSB hb; clear hb hbox hg; have hcz7 := cb2 BK453) | ((with_reducible refine gt 41 rfl ?_); refine gL 41 6 Tryz.func41 #[.agg #[.slice Aq lq.length cq, .int .i64 aq]] ?_; (with_reducible refine (impl_GoodFs.calls k _ _ lq aq true _ ?side1 ?side2 A3.out).mono ?_); (case side1 => exact sD (Kd.C_below Hq.out HB.out)); (case side2 => exact Kq.out); rintro e w8 ⟨rfl, hb⟩; refine ⟨_, rfl, ?_⟩; replace BK453 := nK BK453 hb; replace HB := nSC hb; try clear hb; have hcz9 := cb2 BK453) | (go_at_call 42; (with_reducible refine (impl_Fs_isThere.calls _ _ lq aq a1 t455 _ ?side1 ?side2 A5.out).mono ?_); (case side1 => exact sD (Kd.C_below Hq.out HB.out)); (case side2 => exact Kq.out); rintro e w10 ⟨rfl, hb⟩; replace BK453 := nK BK453 hb; replace HB := nSC hb; try clear hb))
  go_ret
  exact ⟨sE, sC⟩
 ·replace c4 := Bool.eq_false_iff.mpr c4; subst c4; rw [if_neg nt] at H; obtain rfl := sI H; go_enter Tryz.func23, Tryz.ntmps23
  go_wp2_with (first | ((with_reducible refine gd 2 rfl ?_); refine bxE 2 #[.slice Aq lq.length cq, .int .i64 aq] 30 ?_; intro gb453 hg w11 hbox hb; have BK453 := aM hbox; have GW453 := nGB hg; have GE453 := nGB hg; replace HB := nSB hb; clear hb hbox hg; have hcz12 := cb2 BK453) | ((with_reducible refine gt 41 rfl ?_); refine gL 41 6 Tryz.func41 #[.agg #[.slice Aq lq.length cq, .int .i64 aq]] ?_; (with_reducible refine (impl_GoodFs.calls k _ _ lq aq false _ ?side1 ?side2 A3.out).mono ?_); (case side1 => exact sD (Kd.C_below Hq.out HB.out)); (case side2 => exact Kq.out); rintro e w13 ⟨rfl, hb⟩; refine ⟨_, rfl, ?_⟩; replace BK453 := nK BK453 hb; replace HB := nSC hb; try clear hb))
  go_ret
  exact ⟨sE, sC⟩
def impl_below.f (a0 : ByteArray) (a1 : ByteArray) : Option (ByteArray) := if a0.toList = ([46] : List UInt8) then (some a1) else (if a0.size + 1 ≤ 9223372036854775807 then (if a0.size + 1 + a1.size ≤ 9223372036854775807 then (some ((a0 ++ (⟨#[47]⟩ : ByteArray)) ++ a1)) else (none)) else (none))
theorem impl_below.calls (a0 : ByteArray) (a1 : ByteArray) (r : ByteArray) (w : World) (h : impl_below.f a0 a1 = some r) :
  Calls Tryz.prog 92 #[.string a0, .string a1] w fun e w' => e = .returned (.string r) ∧ Drawn0 w w' := by
 have H : (if a0.toList = ([46] : List UInt8) then (some a1) else (if a0.size + 1 ≤ 9223372036854775807 then (if a0.size + 1 + a1.size ≤ 9223372036854775807 then (some ((a0 ++ (⟨#[47]⟩ : ByteArray)) ++ a1)) else (none)) else (none))) = some r := h; clear h; by_cases c3 : a0.toList = ([46] : List UInt8)
 ·rw [if_pos c3] at H; have c3b0 := beq_iff_eq.mpr c3; have c3b1 := bne_eq_false_iff_eq.mpr c3; clear c3; obtain rfl := sI H; go_enter Tryz.func92, Tryz.ntmps92; go_wp2; go_ret
  exact eD
 ·rw [if_neg c3] at H; have c3b0 := beq_eq_false_iff_ne.mpr c3; have c3b1 := bne_iff_ne.mpr c3; by_cases c4 : a0.size + 1 ≤ 9223372036854775807
  ·rw [if_pos c4] at H; have c4b0 := eq_true c4; have c4b1 := decide_eq_true c4
   try have c4b2 : (9223372036854775807 < a0.size + 1) = False := eq_false (Nat.not_lt.2 c4)
   obtain ⟨c5, H⟩ := iN H; have c5b0 := eq_true c5; have c5b1 := decide_eq_true c5
   try have c5b2 : (9223372036854775807 < a0.size + 1 + a1.size) = False := eq_false (Nat.not_lt.2 c5)
   obtain rfl := sI H; go_enter Tryz.func92, Tryz.ntmps92; go_wp2; go_ret
   exact eD
  ·rw [if_neg c4] at H; exact absurd H (by simp)
theorem walk_elt {w w' : World} {P : Nat → Prop} {ad : Addr} {xs : List S65} {A6 : Option Addr} {c6 : Nat} {i : Int} (h : ∀ W_, Kept w W_ P → Kd.C k65 W_ (some ad) xs.length xs) (hk : Kept w w' P) (h0 : 0 ≤ i) (h1 : i < xs.length)
  (hc : w'.cell? ⟨(ad.add (i.toNat * 7)).block, (ad.add (i.toNat * 7)).off + 6, none⟩ = some (.slice A6 (r65 xs i).f6.length c6)) : ∀ W_, Kept w W_ P → Kd.C k104 W_ A6 (r65 xs i).f6.length (r65 xs i).f6 := by
 have hlt : (ad.add (i.toNat * 7)).block < w.heap.size := by
  obtain ⟨ad', A', c', e', x0, x1, x2, x3, x4, x5, x6, hl, hi⟩ := at_T65 (h w (Kept.refl w P)) i h0 h1; cases e'
  exact World.block_lt_of_cell? w ⟨(ad.add (i.toNat * 7)).block, (ad.add (i.toNat * 7)).off + 6, none⟩ x6
 have hP : ¬ P (ad.add (i.toNat * 7)).block := by
  intro hp; have hK : Kept w { w with heap := w.heap.setIfInBounds (ad.add (i.toNat * 7)).block (.cells #[] 0 (0, 0)) } P := by
   refine ⟨by simp, fun j hj hn => ?_⟩; have hne : (ad.add (i.toNat * 7)).block ≠ j := fun e => hn (e ▸ hp)
   simp [Array.getElem?_setIfInBounds_ne hne]
  obtain ⟨ad', A', c', e', x0, x1, x2, x3, x4, x5, x6, hl, hi⟩ := at_T65 (h _ hK) i h0 h1; cases e'
  simp [World.cell?, Array.getElem?_setIfInBounds_self, hlt] at x6
 intro W hW; obtain ⟨ad', A', c', e', x0, x1, x2, x3, x4, x5, x6, hl, hi⟩ := at_T65 (h W hW) i h0 h1; cases e'
 have e1 := World.cell?_of_block (a := ⟨(ad.add (i.toNat * 7)).block, (ad.add (i.toNat * 7)).off + 6, none⟩) (hk.2 _ hlt hP); have e2 := World.cell?_of_block (a := ⟨(ad.add (i.toNat * 7)).block, (ad.add (i.toNat * 7)).off + 6, none⟩) (hW.2 _ hlt hP); have e3 := Option.some.inj (hc.symm.trans (e1.trans (e2.symm.trans x6)))
 injection e3 with ea _ _
 subst ea; exact hi
mutual
def impl_walk.f : Nat → List S65 → Int → ByteArray → Int → Bool → Option (List S75)
| 0, _, _, _, _, _ => none
| k + 1, ns, room, p, n, b => if 0 ≤ n then (if n < (ns.length : Int) then ((impl_walk.l0 k ns room p b (r65 ns n).f6 0).bind fun mid => some (if b = true then mid ++ [⟨p, n⟩] else ⟨p, n⟩ :: mid)) else none) else none
def impl_walk.l0 : Nat → List S65 → Int → ByteArray → Bool → List S104 → Int → Option (List S75)
| 0, _, _, _, _, _, _ => none
| k + 1, ns, room, p, b, es, j => if j < (es.length : Int) then (if 0 ≤ j then ((impl_below.f p (r104 es j).f0).bind fun q => ((impl_walk.f k ns room q (r104 es j).f1 b).bind fun r1 => ((impl_walk.l0 k ns room p b es (wrap64 (j + 1))).bind fun r2 => some (r1 ++ r2)))) else none) else some []
end
def Grow (gO : Nat) (v : Value) (k_ : Nat) : Prop := k_ = gO ∨ some k_ = v.ownBlock
theorem Grow.then_ {w W W2 : World} {gO : Nat} {v v' : Value} (hK : Kept w W (Grow gO v)) (hat : ∀ k, some k = v'.ownBlock → some k = v.ownBlock ∨ w.heap.size ≤ k) (h : Kept W W2 (Grow gO v')) : Kept w W2 (Grow gO v) :=
 Kept.then_ hK h (fun k hk => by
  rcases hk with h1 | h1
  ·exact .inl (.inl h1)
  ·rcases hat k h1 with h2 | h2
   ·exact .inl (.inr h2)
   ·exact .inr h2)
theorem impl_ways_1.calls (gO : Nat) (v : Value) (outs : List S75) (p : ByteArray) (n : Int) (w0 w : World) (hB : Below w0.heap.size w0 w) (hge : w0.heap.size ≤ gO) (hbl : w.heap[gO]? = some (.cells #[v] 72 (0, 0))) (hown : Kd.R k75 75 w w0.heap.size (fun k => k ≠ gO) v outs) (hl : outs.length < 5864062014805) :
  Calls Tryz.prog 72 #[.agg #[.string p, .int .i64 n], .pointer (some ⟨gO, 0, none⟩)] w fun e w' => e = .returned (.tuple #[]) ∧ ∃ v' : Value, w'.heap[gO]? = some (.cells #[v'] 72 (0, 0)) ∧ Kd.R k75 75 w' w0.heap.size (fun k => k ≠ gO) v' (outs ++ [⟨p, n⟩]) ∧ Below w0.heap.size w0 w' ∧ Kept w w' (Grow gO v) ∧ (∀ k, some k = v'.ownBlock → some k = v.ownBlock ∨ w.heap.size ≤ k) := by
 have hu75 := Tryz.underlying75; have hu72 := Tryz.underlying72; have BO := aM hbl; have HO := aM hown; have HB := aM hB; have GO := aM hge; have HK := aM (Kept.refl w (Grow gO v)); clear hB hge hbl hown; have hcO := cz0 BO; have hfO := fz BO 0; obtain ⟨Ao, co, eo⟩ := Kd.R_slice HO.out; subst eo; go_enter Tryz.func72, Tryz.ntmps72
 go_wp2_with (first | ((with_reducible refine gd 2 rfl ?_); refine bxE 2 #[.string p, .int .i64 n] 75 ?_; intro gb2 hg w2 hbox hb; have BK2 := aM hbox; have NB2 := nL BO hg; replace BO := nK BO hb; replace HO := nR HO hb; have HSZ := aM HK.out.1; replace HK := aM (Kept.below HK.out hb); replace HSZ := aM HK.out.1; replace HB := nSB hb; clear hb hbox hg; have hnb := NB2.out; have hcz2 := cb2 BK2; have hcz3 := cz0 BO; have hfz3 := fz BO 0) | ((with_reducible refine gate_builtin (b := .append) (xs := #[.tmp 3, .tmp 5]) rfl ?_); at_builtin; refine Kd.R_append k75 (w0 := w0) w0.heap.size rfl (.tmp 3) (.tmp 5) 72 75 (.agg #[(.string ⟨#[]⟩), (.int .i64 0)]) 24 rfl Tryz.underlying72 info75 rfl (by decide) (by omega) (.slice Ao outs.length co) outs ⟨p, n⟩ [.string p, .int .i64 n] (fun k => k ≠ gO) (fun _ => False) rfl rfl ?aP (fun _ hk => hk.elim) ?aF ?aO ?aB ?aS ?aL ?_; (case aP => exact k75_mkM _ _ _ ⟨p, n⟩); (case aB => exact HB.out); (case aF => exact (fun k hk => by have := blk_lt BO.out; omega)); (case aO => exact HO.out); (case aS => exact below_size HB.out); (case aL => omega); intro v1 w3 ho hb hg hat; obtain ⟨A1, c1, e1⟩ := Kd.R_slice ho; rw [List.length_append, List.length_singleton] at e1; subst e1; have BO1 := aM (blk_grown BO.out hg (fun e_ => (HO.out.1 gO e_.symm) rfl)); have HAT := aM (show ∀ k, some k = (Value.slice A1 (outs.length + 1) c1).ownBlock → some k = (Value.slice Ao outs.length co).ownBlock ∨ w.heap.size ≤ k from fun k hk => Or.elim hat (fun h1 => .inl (hk.trans h1)) (fun ⟨b, h1, h2⟩ => .inr (by rw [h1] at hk; injection hk with hk; subst hk; exact Nat.le_trans HSZ.out h2))); have HK1 := aM (Kept.of_grown hg HK.out (fun k hk => .inl (.inr hk.symm))); clear BO HK HO HB; have BO := BO1; have HK := HK1; have HO := aM ho; have HB := aM hb; clear BO1 HK1 ho hb hg hat; have hcz4 := cz0 BO; have hfz4 := fz BO 0) | ((with_reducible refine gate_store (t := 72) (p := 1) rfl ?_); refine store_event (t := 72) (p := 1) (v := ?vo_w) (w1 := (w3.setCell ⟨gO, 0, none⟩ (.slice A1 (outs.length + 1) c1))) ?hg ?ho ?hn ?hr ?_; (case ho => rfl); (case hg => rfl); (case hn => rfl); (case hr => first | (go_simp; done) | (go_simp; rfl)); intro w4 hw; subst hw))
 go_end0
 exact ⟨rfl, _, blk_put BO.out 0 _ rfl, Kd.R_far HO.out (fun k hk => hk) _, below_set HB.out GO.out, Kept.setCell HK.out (.inl (.inl rfl)) _, HAT.out⟩
theorem impl_walk.calls (k : Nat) : ∀ (A0 : Option Addr) (c0 : Nat) (ns : List S65) (room : Int) (p : ByteArray) (n : Int) (b : Bool) (gO : Nat) (v : Value) (outs r : List S75) (w0 w : World) (hB : Below w0.heap.size w0 w) (hge : w0.heap.size ≤ gO) (hr0 : ∀ W_, Kept w W_ (Grow gO v) → Kd.C k65 W_ A0 ns.length ns) (hc0 : ns.length ≤ c0) (hbl : w.heap[gO]? = some (.cells #[v] 72 (0, 0))) (hown : Kd.R k75 75 w w0.heap.size (fun k => k ≠ gO) v outs) (hl : outs.length + r.length < 5864062014805) (h : impl_walk.f k ns room p n b = some r),
  Calls Tryz.prog 71 #[.agg #[.slice A0 ns.length c0, .int .i64 room], .agg #[.string p, .int .i64 n], .bool b, .func (.func 72) #[] #[.pointer (some ⟨gO, 0, none⟩)]] w fun e w' => e = .returned (.tuple #[]) ∧ ∃ v' : Value, w'.heap[gO]? = some (.cells #[v'] 72 (0, 0)) ∧ Kd.R k75 75 w' w0.heap.size (fun k => k ≠ gO) v' (outs ++ r) ∧ Below w0.heap.size w0 w' ∧ Kept w w' (Grow gO v) ∧ (∀ k, some k = v'.ownBlock → some k = v.ownBlock ∨ w.heap.size ≤ k) := by
 induction k using Nat.strongRecOn with
 | _ k ih =>
 intro A0 c0 ns room p n b gO v outs r w0 w hB hge hr0 hc0 hbl hown hl h; cases k with
 | zero => exact absurd h (by simp [impl_walk.f])
 | succ k =>
 simp only [impl_walk.f] at h; by_cases c1 : 0 ≤ n
 rotate_left
 ·rw [if_neg c1] at h; cases h
 rw [if_pos c1] at h; by_cases c2 : n < (ns.length : Int)
 rotate_left
 ·rw [if_neg c2] at h; cases h
 rw [if_pos c2] at h; obtain ⟨mid, hmid, h⟩ := Option.bind_eq_some_iff.mp h; have hr := Option.some.inj h; clear h; have hu30 := Tryz.underlying30; have hu104 := Tryz.underlying104; have hu75 := Tryz.underlying75; have hu72 := Tryz.underlying72; have hu65 := Tryz.underlying65; have HR := aM hr0; have HC := aM hc0; have BO := aM hbl; have HO := aM hown; have HB := aM hB; have GO := aM hge; have HL := aM hl; have HM := aM hmid; have HK := aM (Kept.refl w (Grow gO v)); have HW := aM (show ∀ k, some k = v.ownBlock → k < w.heap.size from fun k hk => Kd.R_lt hown k hk.symm); have HG := aM (blk_lt hbl); have p1 := c1; have q1 := c2; have b1 : decide (0 ≤ n) = true := decide_eq_true c1; have b2 : decide (n < (ns.length : Int)) = true := decide_eq_true c2; clear hB hge hbl hown hl hmid hr0 hc0 c1 c2; cases b with
 | false =>
  have HRr := aM hr; clear hr; go_enter Tryz.func71, Tryz.ntmps71
  go_wp2_with (first | ((with_reducible refine gd 4 rfl ?_); refine bxE 4 #[.slice A0 ns.length c0, .int .i64 room] 30 ?_; intro gF hg w2 hbox hb; have BF := aM hbox; have GF := aM (show w.heap.size ≤ gF by rw [hg]; exact HK.out.1); have NOF := nL BO hg; have NFO := nH BO hg; replace BO := nK BO hb; replace HO := nR HO hb; replace HK := aM (Kept.below HK.out hb); replace HB := nSB hb; clear hb hbox hg) | ((with_reducible refine gd 5 rfl ?_); refine bxE 5 #[.string p, .int .i64 n] 75 ?_; intro gW hg w3 hbox hb; have BW := aM hbox; have GW := aM (show w.heap.size ≤ gW by rw [hg]; exact HK.out.1); have NOW := nL BO hg; have NWO := nH BO hg; have NFW := nL BF hg; have NWF := nH BF hg; replace BO := nK BO hb; replace BF := nK BF hb; replace HO := nR HO hb; replace HK := aM (Kept.below HK.out hb); replace HB := nSB hb; clear hb hbox hg; have hcW := cb2 BW; have hcF := cb2 BF) | (go_at_call 72; (refine (impl_ways_1.calls gO v outs p n w0 _ ?s1 GO.out ?s2 ?s3 ?s4).mono ?_); (case s1 => exact sB); (case s2 => exact (sK BO)); (case s3 => exact rR HO); (case s4 => have := HL.out; omega); rintro e w5 ⟨rfl, v1, k1, k2, k3, k4, k5⟩; have BF1 := aM (blk_kept (sK BF) k4 (fun hs => Or.elim hs (fun h1 => NFO.out h1) (fun h1 => by have := HW.out _ h1; have := GF.out; omega))); have BW1 := aM (blk_kept (sK BW) k4 (fun hs => Or.elim hs (fun h1 => NWO.out h1) (fun h1 => by have := HW.out _ h1; have := GW.out; omega))); have HAT := aM (show ∀ k, some k = v1.ownBlock → some k = v.ownBlock ∨ w.heap.size ≤ k from fun k hk => (k5 k hk).imp id (fun h1 => Nat.le_trans HK.out.1 h1)); have HNW := aM (show ∀ k, some k = v1.ownBlock → k ≠ gW from fun k hk => Or.elim (k5 k hk) (fun h1 => by have := HW.out k h1; have := GW.out; omega) (fun h1 => by have h2 := blk_lt BW.out; have h3 : w3.heap.size ≤ k := h1; omega)); replace HK := aM (Kept.then_ (S := Grow gO v) HK.out k4 (fun k hk => .inl hk)); clear BF BW BO HO HB; have BF := BF1; have BW := BW1; have BO := aM k1; have HO := aM k2; have HB := aM k3; clear BF1 BW1 k1 k2 k3 k4 k5; obtain ⟨ad, A6, c6, e6, hx0, hx1, hx2, hx3, hx4, hx5, hx6, hl6, hi6⟩ := at_T65 (HR.out _ HK.out) n p1 q1; cases e6; have HE := aM (walk_elt HR.out HK.out p1 q1 hx6); have HC6 := aM hl6; clear hl6 hi6; have hcW := cb2 BW; have hcF := cb2 BF; have p2 := eq_true p1; have q2 := eq_true q1))
  go_loopg [23] k (fun kq v23 w' => ∃ (j : Int) (vc : Value) (X rest : List S75), v23 = .int .i64 j ∧ Aside0 (impl_walk.l0 kq ns room p false (r65 ns n).f6 j = some rest) ∧ Aside0 (kq ≤ k) ∧ Aside0 (X ++ rest = outs ++ r) ∧ Aside0 (w'.heap[gO]? = some (.cells #[vc] 72 (0, 0))) ∧ Aside0 (Kd.R k75 75 w' w0.heap.size (fun k => k ≠ gO) vc X) ∧ Aside0 (w'.heap[gF]? = some (.cells #[.slice (some ad) ns.length c0, .int .i64 room] 30 (0, 0))) ∧ Aside0 (w'.heap[gW]? = some (.cells #[.string p, .int .i64 n] 75 (0, 0))) ∧ Aside0 (Kept w w' (Grow gO v)) ∧ Aside0 (∀ k, some k = vc.ownBlock → some k = v.ownBlock ∨ w.heap.size ≤ k) ∧ Aside0 (∀ k, some k = vc.ownBlock → k ≠ gW) ∧ Aside0 (Below w0.heap.size w0 w'))
  case atStart => exact ⟨0, v1, outs ++ [⟨p, n⟩], mid, sR, HM, ⟨Nat.le_refl _⟩, ⟨by rw [← HRr.out]; simp⟩, ⟨sK BO⟩, ⟨rR HO⟩, ⟨sK BF⟩, ⟨sK BW⟩, ⟨by repeat (first | exact HK.out | apply Kept.drewN | apply Kept.drew)⟩, HAT, HNW, ⟨sB⟩⟩
  case round =>
   clear hcW hcF BO HO BF BW HK HAT HNW HB; obtain ⟨j, vc, X, rest, rfl, HA, HK1, HX, BO, HO, BF, BW, HK, HAT, HNW, HB⟩ := hrel; cases gk with
   | zero => exact absurd HA.out (by simp [impl_walk.l0])
   | succ k1 =>
   have H := HA.out; clear HA; simp only [impl_walk.l0] at H; by_cases c4 : j < (((r65 ns n).f6).length : Int)
   rotate_left
   ·rw [if_neg c4] at H; have c4b := decide_eq_false c4; have e4 := Option.some.inj H; subst e4; go_wp2
    go_end0
    exact ⟨rfl, vc, sK BO, by rw [← HX.out, List.append_nil]; exact HO.out, sB, HK.out, HAT.out⟩
   rw [if_pos c4] at H; by_cases c5 : 0 ≤ j
   rotate_left
   ·rw [if_neg c5] at H; cases H
   rw [if_pos c5] at H; obtain ⟨q, A1, H⟩ := Option.bind_eq_some_iff.mp H; obtain ⟨r1, A2, H⟩ := Option.bind_eq_some_iff.mp H; obtain ⟨r2, A3, H⟩ := Option.bind_eq_some_iff.mp H; have er := Option.some.inj H; clear H; have p3 := c5; have q3 := c4; have b3 := decide_eq_true c4; have b4 := decide_eq_true c5; obtain ⟨ade, ee, hy0, hy1⟩ := at_T104 (HE.out _ HK.out) j p3 q3; have ee' := ee; subst ee; have p4 := eq_true p3; have q4 := eq_true q3; have hcW := cb2 BW; have hcF := cb2 BF
   go_wp2_with (first | ((with_reducible refine gd 9 rfl ?_); refine bxE 9 #[.string (⟨#[]⟩ : ByteArray), .int .i64 0] 104 ?_; intro gE hg w6 hbox hb; have BE := aM hbox; have GE := aM (show w.heap.size ≤ gE by rw [hg]; exact HK.out.1); have GE0 := aM (show w0.heap.size ≤ gE by rw [hg]; exact below_size sB); have NOE := nL BO hg; have NEO := nH BO hg; have NFE := nL BF hg; have NEF := nH BF hg; have NWE := nL BW hg; have NEW := nH BW hg; replace BO := nK BO hb; replace BF := nK BF hb; replace BW := nK BW hb; replace HO := nR HO hb; replace HK := aM (Kept.below HK.out hb); replace HB := nSB hb; clear hb hbox hg; have hcE := cb2 BE) | ((with_reducible refine gate_store (t := 104) (p := 9) rfl ?_); refine store_event (t := 104) (p := 9) (v := ?vo_w) (w1 := ((w6.setCell ⟨gE, 0, none⟩ (.string ((r104 (r65 ns n).f6 j).f0))).setCell ⟨gE, 1, none⟩ (.int .i64 ((r104 (r65 ns n).f6 j).f1)))) ?hg ?ho ?hn ?hr ?_; (case ho => rfl); (case hg => rfl); (case hn => rfl); (case hr => first | (go_simp; done) | (go_simp; rfl)); intro w7 hw; have n0 := aM (show Kd.R k75 75 w7 w0.heap.size (fun k => k ≠ gO) vc X from by rw [hw]; exact Kd.R_mono (Kd.R_far (p := ⟨gE, 1, none⟩) (Kd.R_far (p := ⟨gE, 0, none⟩) (Kd.R_types HO.out BE.out (by decide)) (fun _ hk => hk.2) _) (fun _ hk => hk.2) _) (fun _ h => h.1)); have n1 := aM (show w7.heap[gO]? = some (.cells #[vc] 72 (0, 0)) from by rw [hw]; exact sX BO); have n2 := aM (show w7.heap[gF]? = some (.cells #[.slice (some ad) ns.length c0, .int .i64 room] 30 (0, 0)) from by rw [hw]; exact sX BF); have n3 := aM (show w7.heap[gW]? = some (.cells #[.string p, .int .i64 n] 75 (0, 0)) from by rw [hw]; exact sX BW); have n4 := aM (show w7.heap[gE]? = some (.cells #[.string ((r104 (r65 ns n).f6 j).f0), .int .i64 ((r104 (r65 ns n).f6 j).f1)] 104 (0, 0)) from by rw [hw]; exact sX BE); have n5 := aM (show Kept w w7 (Grow gO v) from by rw [hw]; exact Kept.setCell (Kept.setCell HK.out (.inr GE.out) _) (.inr GE.out) _); have n6 := aM (show Below w0.heap.size w0 w7 from by rw [hw]; exact below_set (below_set HB.out GE0.out) GE0.out); clear HO BO BF BW BE HK HB hw hcE; have HO := n0; have BO := n1; have BF := n2; have BW := n3; have BE := n4; have HK := n5; have HB := n6; clear n0 n1 n2 n3 n4 n5 n6))
   have n0 := aM (blk_drew BO.out); have n1 := aM (blk_drew BF.out); have n2 := aM (blk_drew BW.out); have n3 := aM (blk_drew BE.out); have n4 := aM (Kd.R_drew HO.out); have n5 := aM (Kept.drew HK.out); have n6 := aM (below_drew1 HB.out); clear BO BF BW BE HO HK HB; have BO := n0; have BF := n1; have BW := n2; have BE := n3; have HO := n4; have HK := n5; have HB := n6; clear n0 n1 n2 n3 n4 n5 n6; refine st6 12 [11] (cz0 BF) (cz1 BF) (cz0 BW) (cz1 BW) (cz0 BE) (cz1 BE) (fun hHeld => ?_); generalize w7.drew = w8 at BO BF BW BE HO HK HB hHeld ⊢; refine pu 1 28 ?_; refine pu 3 30 ?_; refine pu 6 33 ?_; refine pu 9 36 ?_; refine pu 10 37 ?_; refine tk6 0 27 ?_; refine tk6 2 29 ?_; refine tk6 4 31 ?_; refine tk6 7 34 ?_; refine on 5 32 (fun K hK => ?_); refine gC Tryz.func92 #[.string p, .string ((r104 (r65 ns n).f6 j).f0)] ?_; refine (impl_below.calls p ((r104 (r65 ns n).f6 j).f0) q _ A1).mono ?_; rintro e w' ⟨rfl, ⟨nd, rfl⟩⟩; refine ⟨_, rfl, ?_⟩; refine hK.out _ _ hHeld (fun hHeld => ?_); clear hK K; refine nm ?_; refine pu 8 35 ?_; refine last_ (i := 11) (N := some 38) #[true, true, true, true, true, true, true, true, true, true, true, true] rfl rfl (by kernel_rfl) (by decide) (fun K hK => ?_); refine gC Tryz.func71 #[.agg #[.slice (some ad) ns.length c0, .int .i64 room], .agg #[.string q, .int .i64 ((r104 (r65 ns n).f6 j).f1)], .bool false, .func (.func 72) #[] #[.pointer (some ⟨gO, 0, none⟩)]] ?_; refine (ih k1 (by have := HK1.out; omega) (some ad) c0 ns room q ((r104 (r65 ns n).f6 j).f1) false gO vc X r1 w0 _ ?s1 GO.out ?s2 HC.out ?s3 ?s4 ?s5 A2).mono ?_
   case s1 => exact sB
   case s2 => exact fun W_ hW => HR.out W_ (Grow.then_ HK.out HAT.out hW)
   case s3 => exact sK BO
   case s4 => exact rR HO
   case s5 => exact (by have e := congrArg List.length HX.out; rw [← er] at e; simp only [List.length_append] at e; have := HL.out; omega)
   rintro e w9 ⟨rfl, v2, k1', k2', k3', k4', k5'⟩; refine ⟨_, rfl, ?_⟩; have n0 := aM (blk_kept (sK BF) k4' (fun hs => Or.elim hs (fun h1 => NFO.out h1) (fun h1 => Kd.R_ne HO.out BF.out (by decide) h1))); have n1 := aM (blk_kept (sK BW) k4' (fun hs => Or.elim hs (fun h1 => NWO.out h1) (fun h1 => HNW.out _ h1 rfl))); have n2 := aM (show ∀ k, some k = v2.ownBlock → some k = v.ownBlock ∨ w.heap.size ≤ k from fun k hk => Or.elim (k5' k hk) (fun h1 => HAT.out k h1) (fun h1 => .inr (Nat.le_trans HK.out.1 h1))); have n3 := aM (show ∀ k, some k = v2.ownBlock → k ≠ gW from fun k hk => Or.elim (k5' k hk) (fun h1 => HNW.out k h1) (fun h1 => by have h2 := blk_lt BW.out; have h3 : w8.heap.size ≤ k := h1; omega)); have n4 := aM (Grow.then_ HK.out HAT.out k4'); have n5 := aM (show (X ++ r1) ++ r2 = outs ++ r from by rw [List.append_assoc, er]; exact HX.out); clear BF BW BE BO HO HB HK HAT HNW; have BF := n0; have BW := n1; have HAT := n2; have HNW := n3; have HK := n4; have BO := aM k1'; have HO := aM k2'; have HB := aM k3'; refine hK.out _ _ ?_; clear hK K; refine nm ?_; refine dn ?_; have A3' := aM A3
   try go_wp2
   go_roundg k1
   case measure => have := HK1.out; omega
   case rel => exact ⟨wrap64 (j + 1), v2, X ++ r1, r2, sR, A3', ⟨by have := HK1.out; omega⟩, n5, ⟨sK BO⟩, ⟨rR HO⟩, ⟨sK BF⟩, ⟨sK BW⟩, ⟨by repeat (first | exact HK.out | apply Kept.drewN | apply Kept.drew)⟩, HAT, HNW, ⟨sB⟩⟩
 | true =>
  have HRr := aM hr; clear hr; go_enter Tryz.func71, Tryz.ntmps71
  go_wp2_with (first | ((with_reducible refine gd 4 rfl ?_); refine bxE 4 #[.slice A0 ns.length c0, .int .i64 room] 30 ?_; intro gF hg w2 hbox hb; have BF := aM hbox; have GF := aM (show w.heap.size ≤ gF by rw [hg]; exact HK.out.1); have NOF := nL BO hg; have NFO := nH BO hg; replace BO := nK BO hb; replace HO := nR HO hb; replace HK := aM (Kept.below HK.out hb); replace HB := nSB hb; clear hb hbox hg) | ((with_reducible refine gd 5 rfl ?_); refine bxE 5 #[.string p, .int .i64 n] 75 ?_; intro gW hg w3 hbox hb; have BW := aM hbox; have GW := aM (show w.heap.size ≤ gW by rw [hg]; exact HK.out.1); have NOW := nL BO hg; have NWO := nH BO hg; have NFW := nL BF hg; have NWF := nH BF hg; replace BO := nK BO hb; replace BF := nK BF hb; replace HO := nR HO hb; replace HK := aM (Kept.below HK.out hb); replace HB := nSB hb; clear hb hbox hg; have hcW := cb2 BW; have hcF := cb2 BF; obtain ⟨ad, A6, c6, e6, hx0, hx1, hx2, hx3, hx4, hx5, hx6, hl6, hi6⟩ := at_T65 (HR.out _ HK.out) n p1 q1; cases e6; have HE := aM (walk_elt HR.out HK.out p1 q1 hx6); have HC6 := aM hl6; clear hl6 hi6; have p2 := eq_true p1; have q2 := eq_true q1; have HAT := aM (show ∀ k, some k = v.ownBlock → some k = v.ownBlock ∨ w.heap.size ≤ k from fun k hk => .inl hk); have HNW := aM (show ∀ k, some k = v.ownBlock → k ≠ gW from fun k hk => by have := HW.out k hk; have := GW.out; omega)))
  go_loopg [23] k (fun kq v23 w' => ∃ (j : Int) (vc : Value) (X rest : List S75), v23 = .int .i64 j ∧ Aside0 (impl_walk.l0 kq ns room p true (r65 ns n).f6 j = some rest) ∧ Aside0 (kq ≤ k) ∧ Aside0 (X ++ rest = outs ++ mid) ∧ Aside0 (w'.heap[gO]? = some (.cells #[vc] 72 (0, 0))) ∧ Aside0 (Kd.R k75 75 w' w0.heap.size (fun k => k ≠ gO) vc X) ∧ Aside0 (w'.heap[gF]? = some (.cells #[.slice (some ad) ns.length c0, .int .i64 room] 30 (0, 0))) ∧ Aside0 (w'.heap[gW]? = some (.cells #[.string p, .int .i64 n] 75 (0, 0))) ∧ Aside0 (Kept w w' (Grow gO v)) ∧ Aside0 (∀ k, some k = vc.ownBlock → some k = v.ownBlock ∨ w.heap.size ≤ k) ∧ Aside0 (∀ k, some k = vc.ownBlock → k ≠ gW) ∧ Aside0 (Below w0.heap.size w0 w'))
  case atStart => exact ⟨0, v, outs, mid, sR, HM, ⟨Nat.le_refl _⟩, ⟨rfl⟩, ⟨sK BO⟩, ⟨rR HO⟩, ⟨sK BF⟩, ⟨sK BW⟩, ⟨by repeat (first | exact HK.out | apply Kept.drewN | apply Kept.drew)⟩, HAT, HNW, ⟨sB⟩⟩
  case round =>
   clear hcW hcF BO HO BF BW HK HAT HNW HB; obtain ⟨j, vc, X, rest, rfl, HA, HK1, HX, BO, HO, BF, BW, HK, HAT, HNW, HB⟩ := hrel; cases gk with
   | zero => exact absurd HA.out (by simp [impl_walk.l0])
   | succ k1 =>
   have H := HA.out; clear HA; simp only [impl_walk.l0] at H; by_cases c4 : j < (((r65 ns n).f6).length : Int)
   rotate_left
   ·rw [if_neg c4] at H; have c4b := decide_eq_false c4; have e4 := Option.some.inj H; subst e4; have hcW := cb2 BW
    go_wp2_with (go_at_call 72; (refine (impl_ways_1.calls gO vc X p n w0 _ ?s1 GO.out ?s2 ?s3 ?s4).mono ?_); (case s1 => exact sB); (case s2 => exact (sK BO)); (case s3 => exact rR HO); (case s4 => have e := congrArg List.length HX.out; have e2 := congrArg List.length HRr.out; simp only [List.length_append, List.length_nil, if_true, List.length_singleton] at e e2; have := HL.out; omega); rintro e w5 ⟨rfl, v2, k1', k2', k3', k4', k5'⟩)
    go_end0
    exact ⟨rfl, v2, k1', (by have e2 := HRr.out; simp at e2; rw [← e2, ← List.append_assoc, ← HX.out, List.append_nil]; exact k2'), k3', Grow.then_ HK.out HAT.out k4', fun k hk => Or.elim (k5' k hk) (fun h1 => HAT.out k h1) (fun h1 => .inr (Nat.le_trans HK.out.1 h1))⟩
   rw [if_pos c4] at H; by_cases c5 : 0 ≤ j
   rotate_left
   ·rw [if_neg c5] at H; cases H
   rw [if_pos c5] at H; obtain ⟨q, A1, H⟩ := Option.bind_eq_some_iff.mp H; obtain ⟨r1, A2, H⟩ := Option.bind_eq_some_iff.mp H; obtain ⟨r2, A3, H⟩ := Option.bind_eq_some_iff.mp H; have er := Option.some.inj H; clear H; have p3 := c5; have q3 := c4; have b3 := decide_eq_true c4; have b4 := decide_eq_true c5; obtain ⟨ade, ee, hy0, hy1⟩ := at_T104 (HE.out _ HK.out) j p3 q3; have ee' := ee; subst ee; have p4 := eq_true p3; have q4 := eq_true q3; have hcW := cb2 BW; have hcF := cb2 BF
   go_wp2_with (first | ((with_reducible refine gd 9 rfl ?_); refine bxE 9 #[.string (⟨#[]⟩ : ByteArray), .int .i64 0] 104 ?_; intro gE hg w6 hbox hb; have BE := aM hbox; have GE := aM (show w.heap.size ≤ gE by rw [hg]; exact HK.out.1); have GE0 := aM (show w0.heap.size ≤ gE by rw [hg]; exact below_size sB); have NOE := nL BO hg; have NEO := nH BO hg; have NFE := nL BF hg; have NEF := nH BF hg; have NWE := nL BW hg; have NEW := nH BW hg; replace BO := nK BO hb; replace BF := nK BF hb; replace BW := nK BW hb; replace HO := nR HO hb; replace HK := aM (Kept.below HK.out hb); replace HB := nSB hb; clear hb hbox hg; have hcE := cb2 BE) | ((with_reducible refine gate_store (t := 104) (p := 9) rfl ?_); refine store_event (t := 104) (p := 9) (v := ?vo_w) (w1 := ((w6.setCell ⟨gE, 0, none⟩ (.string ((r104 (r65 ns n).f6 j).f0))).setCell ⟨gE, 1, none⟩ (.int .i64 ((r104 (r65 ns n).f6 j).f1)))) ?hg ?ho ?hn ?hr ?_; (case ho => rfl); (case hg => rfl); (case hn => rfl); (case hr => first | (go_simp; done) | (go_simp; rfl)); intro w7 hw; have n0 := aM (show Kd.R k75 75 w7 w0.heap.size (fun k => k ≠ gO) vc X from by rw [hw]; exact Kd.R_mono (Kd.R_far (p := ⟨gE, 1, none⟩) (Kd.R_far (p := ⟨gE, 0, none⟩) (Kd.R_types HO.out BE.out (by decide)) (fun _ hk => hk.2) _) (fun _ hk => hk.2) _) (fun _ h => h.1)); have n1 := aM (show w7.heap[gO]? = some (.cells #[vc] 72 (0, 0)) from by rw [hw]; exact sX BO); have n2 := aM (show w7.heap[gF]? = some (.cells #[.slice (some ad) ns.length c0, .int .i64 room] 30 (0, 0)) from by rw [hw]; exact sX BF); have n3 := aM (show w7.heap[gW]? = some (.cells #[.string p, .int .i64 n] 75 (0, 0)) from by rw [hw]; exact sX BW); have n4 := aM (show w7.heap[gE]? = some (.cells #[.string ((r104 (r65 ns n).f6 j).f0), .int .i64 ((r104 (r65 ns n).f6 j).f1)] 104 (0, 0)) from by rw [hw]; exact sX BE); have n5 := aM (show Kept w w7 (Grow gO v) from by rw [hw]; exact Kept.setCell (Kept.setCell HK.out (.inr GE.out) _) (.inr GE.out) _); have n6 := aM (show Below w0.heap.size w0 w7 from by rw [hw]; exact below_set (below_set HB.out GE0.out) GE0.out); clear HO BO BF BW BE HK HB hw hcE; have HO := n0; have BO := n1; have BF := n2; have BW := n3; have BE := n4; have HK := n5; have HB := n6; clear n0 n1 n2 n3 n4 n5 n6))
   have n0 := aM (blk_drew BO.out); have n1 := aM (blk_drew BF.out); have n2 := aM (blk_drew BW.out); have n3 := aM (blk_drew BE.out); have n4 := aM (Kd.R_drew HO.out); have n5 := aM (Kept.drew HK.out); have n6 := aM (below_drew1 HB.out); clear BO BF BW BE HO HK HB; have BO := n0; have BF := n1; have BW := n2; have BE := n3; have HO := n4; have HK := n5; have HB := n6; clear n0 n1 n2 n3 n4 n5 n6; refine st6 12 [11] (cz0 BF) (cz1 BF) (cz0 BW) (cz1 BW) (cz0 BE) (cz1 BE) (fun hHeld => ?_); generalize w7.drew = w8 at BO BF BW BE HO HK HB hHeld ⊢; refine pu 1 28 ?_; refine pu 3 30 ?_; refine pu 6 33 ?_; refine pu 9 36 ?_; refine pu 10 37 ?_; refine tk6 0 27 ?_; refine tk6 2 29 ?_; refine tk6 4 31 ?_; refine tk6 7 34 ?_; refine on 5 32 (fun K hK => ?_); refine gC Tryz.func92 #[.string p, .string ((r104 (r65 ns n).f6 j).f0)] ?_; refine (impl_below.calls p ((r104 (r65 ns n).f6 j).f0) q _ A1).mono ?_; rintro e w' ⟨rfl, ⟨nd, rfl⟩⟩; refine ⟨_, rfl, ?_⟩; refine hK.out _ _ hHeld (fun hHeld => ?_); clear hK K; refine nm ?_; refine pu 8 35 ?_; refine last_ (i := 11) (N := some 38) #[true, true, true, true, true, true, true, true, true, true, true, true] rfl rfl (by kernel_rfl) (by decide) (fun K hK => ?_); refine gC Tryz.func71 #[.agg #[.slice (some ad) ns.length c0, .int .i64 room], .agg #[.string q, .int .i64 ((r104 (r65 ns n).f6 j).f1)], .bool true, .func (.func 72) #[] #[.pointer (some ⟨gO, 0, none⟩)]] ?_; refine (ih k1 (by have := HK1.out; omega) (some ad) c0 ns room q ((r104 (r65 ns n).f6 j).f1) true gO vc X r1 w0 _ ?s1 GO.out ?s2 HC.out ?s3 ?s4 ?s5 A2).mono ?_
   case s1 => exact sB
   case s2 => exact fun W_ hW => HR.out W_ (Grow.then_ HK.out HAT.out hW)
   case s3 => exact sK BO
   case s4 => exact rR HO
   case s5 => exact (by have e := congrArg List.length HX.out; have e2 := congrArg List.length HRr.out; rw [← er] at e; simp only [List.length_append, if_true, List.length_singleton] at e e2; have := HL.out; omega)
   rintro e w9 ⟨rfl, v2, k1', k2', k3', k4', k5'⟩; refine ⟨_, rfl, ?_⟩; have n0 := aM (blk_kept (sK BF) k4' (fun hs => Or.elim hs (fun h1 => NFO.out h1) (fun h1 => Kd.R_ne HO.out BF.out (by decide) h1))); have n1 := aM (blk_kept (sK BW) k4' (fun hs => Or.elim hs (fun h1 => NWO.out h1) (fun h1 => HNW.out _ h1 rfl))); have n2 := aM (show ∀ k, some k = v2.ownBlock → some k = v.ownBlock ∨ w.heap.size ≤ k from fun k hk => Or.elim (k5' k hk) (fun h1 => HAT.out k h1) (fun h1 => .inr (Nat.le_trans HK.out.1 h1))); have n3 := aM (show ∀ k, some k = v2.ownBlock → k ≠ gW from fun k hk => Or.elim (k5' k hk) (fun h1 => HNW.out k h1) (fun h1 => by have h2 := blk_lt BW.out; have h3 : w8.heap.size ≤ k := h1; omega)); have n4 := aM (Grow.then_ HK.out HAT.out k4'); have n5 := aM (show (X ++ r1) ++ r2 = outs ++ mid from by rw [List.append_assoc, er]; exact HX.out); clear BF BW BE BO HO HB HK HAT HNW; have BF := n0; have BW := n1; have HAT := n2; have HNW := n3; have HK := n4; have BO := aM k1'; have HO := aM k2'; have HB := aM k3'; refine hK.out _ _ ?_; clear hK K; refine nm ?_; refine dn ?_; have A3' := aM A3
   try go_wp2
   go_roundg k1
   case measure => have := HK1.out; omega
   case rel => exact ⟨wrap64 (j + 1), v2, X ++ r1, r2, sR, A3', ⟨by have := HK1.out; omega⟩, n5, ⟨sK BO⟩, ⟨rR HO⟩, ⟨sK BF⟩, ⟨sK BW⟩, ⟨by repeat (first | exact HK.out | apply Kept.drewN | apply Kept.drew)⟩, HAT, HNW, ⟨sB⟩⟩
def impl_Fs_ways.f (k : Nat) (lq : List (S65)) (aq : Int) (a1 : Int) (a2 : Bool) : Option (List (S75)) := (impl_walk.f k lq aq (⟨#[46]⟩ : ByteArray) a1 a2).bind fun r => if r.length < 5864062014805 then some r else none
theorem impl_Fs_ways.calls (k : Nat) (Aq : Option Addr) (cq : Nat) (lq : List (S65)) (aq : Int) (a1 : Int) (a2 : Bool) (r : List (S75)) (w : World) (hr0_0 : Kd.C k65 w Aq lq.length lq) (hc0_0 : lq.length ≤ cq) (h : impl_Fs_ways.f k lq aq a1 a2 = some r) :
  Calls Tryz.prog 43 #[.agg #[.slice Aq lq.length cq, .int .i64 aq], .int .i64 a1, .bool a2] w fun e w' => ∃ v : Value, e = .returned v ∧ Kd.R k75 75 w' w.heap.size (fun _ => True) v r ∧ Below w.heap.size w w' := by
 have hu30 := Tryz.underlying30; have hu75 := Tryz.underlying75; have hu72 := Tryz.underlying72; obtain ⟨r', A1, h⟩ := Option.bind_eq_some_iff.mp h; by_cases hl : r'.length < 5864062014805
 rotate_left
 ·rw [if_neg hl] at h; cases h
 rw [if_pos hl] at h; obtain rfl := Option.some.inj h; have HA := aM A1; have HL := aM hl; have HR := aM hr0_0; have HC := aM hc0_0; have HB := b0 w; clear h A1 hl hr0_0 hc0_0; go_enter Tryz.func43, Tryz.ntmps43
 go_wp2_with (first | ((with_reducible refine gd 3 rfl ?_); refine bxE 3 #[.slice Aq lq.length cq, .int .i64 aq] 30 ?_; intro gF hg w2 hbox hb; have BF := aM hbox; replace HB := nSB hb; clear hb hbox hg; have hcF := cb2 BF) | ((with_reducible refine gate_dst (N := 8) rfl ?_); refine Kd.R_lit k75 _ 75 ?hg (N := 8) ?hd (xs := ([] : List S75)) (inner := []) (ok := fun _ => True) (okp := fun _ => True) ?hr ?hp (fun _ hk => hk) trivial (Below.refl _ _) (Nat.le_refl _) (by simp) ?_; (case hd => rfl); (case hg => rfl); (case hr => first | (go_simp; done) | (go_simp; rfl)); (case hp => exact (Reps.none _ _)); intro v w3 ho hb hg_ hnew_; clear hg_ hnew_; obtain ⟨Av, cv, ev⟩ := Kd.R_slice ho; subst ev; have HO := aM (Kd.R_lower ho (below_size sB)); replace BF := nK BF hb; replace HB := nSB hb; clear hb ho; have hcF := cb2 BF) | ((with_reducible refine gd 7 rfl ?_); refine bxE 7 #[.slice none 0 0] 72 ?_; intro gO hg w4 hbox hb; have BO := aM hbox; have GO := nGB hg; have NFO := nL BF hg; have NOF := nH BF hg; replace BF := nK BF hb; replace HO := nR HO hb; replace HB := nSB hb; clear hb hbox hg; have hcO := cz0 BO; have hfO := fz BO 0) | ((with_reducible refine gate_store (t := 72) (p := 7) rfl ?_); refine store_event (t := 72) (p := 7) (v := ?vo_w) (w1 := (w4.setCell ⟨gO, 0, none⟩ (.slice Av 0 cv))) ?hg ?ho ?hn ?hr ?_; (case ho => rfl); (case hg => rfl); (case hn => rfl); (case hr => first | (go_simp; done) | (go_simp; rfl)); intro w5 hw; have n0 := aM (show Kd.R k75 75 w5 w.heap.size (fun k => k ≠ gO) (.slice Av 0 cv) ([] : List S75) from by rw [hw]; exact Kd.R_mono (Kd.R_far (p := ⟨gO, 0, none⟩) (Kd.R_types HO.out BO.out (by decide)) (fun _ hk => hk.2) _) (fun _ h => h.2)); have n1 := aM (show w5.heap[gO]? = some (.cells #[.slice Av 0 cv] 72 (0, 0)) from by rw [hw]; exact blk_put (sK BO) 0 _ rfl); have n2 := aM (show w5.heap[gF]? = some (.cells #[.slice Aq lq.length cq, .int .i64 aq] 30 (0, 0)) from by rw [hw]; exact blk_far (sK BF) NFO.out _); have n3 := aM (show Below w.heap.size w w5 from by rw [hw]; exact below_set HB.out GO.out); clear HO BO BF HB hw hcO hfO; have HO := n0; have BO := n1; have BF := n2; have HB := n3; clear n0 n1 n2 n3; have hcF := cb2 BF) | (go_at_call 71; (refine (impl_walk.calls k Aq cq lq aq (⟨#[46]⟩ : ByteArray) a1 a2 gO (.slice Av 0 cv) [] r' w _ ?s1 GO.out ?s2 HC.out ?s3 ?s4 ?s5 HA.out).mono ?_); (case s1 => exact sB); (case s2 => exact fun W_ hW => Kd.C_kept_came k65_heap HR.out (show Below w.heap.size w _ from sB) (fun k_ hs => Or.elim hs (fun e => by have := GO.out; omega) (fun e => Kd.R_base HO.out k_ e.symm)) W_ hW); (case s3 => exact (sK BO)); (case s4 => exact rR HO); (case s5 => have := HL.out; simp; omega); rintro e w6 ⟨rfl, v', k1, k2, k3, k4, k5⟩; have BO1 := aM k1; have hcO := cz0 BO1))
 go_ret
 exact ⟨_, rfl, Kd.R_mono k2 (fun _ _ => trivial), k3⟩
def impl_kindSign.f (a0 : Int) : Option (ByteArray) := if 0 ≤ a0 then (if a0 ≤ (wrap64 (a0 + 1)) then (if (wrap64 (a0 + 1)) ≤ 4 then (some ((⟨#[32, 45, 100, 108]⟩ : ByteArray).extract (a0 : Int).toNat ((wrap64 (a0 + 1)) : Int).toNat)) else (none)) else (none)) else (none)
theorem impl_kindSign.calls (a0 : Int) (r : ByteArray) (w : World) (h : impl_kindSign.f a0 = some r) :
  Calls Tryz.prog 74 #[.int .i64 a0] w fun e w' => e = .returned (.string r) ∧ Drawn0 w w' := by
 have H : (if 0 ≤ a0 then (if a0 ≤ (wrap64 (a0 + 1)) then (if (wrap64 (a0 + 1)) ≤ 4 then (some ((⟨#[32, 45, 100, 108]⟩ : ByteArray).extract (a0 : Int).toNat ((wrap64 (a0 + 1)) : Int).toNat)) else (none)) else (none)) else (none)) = some r := h; clear h; by_cases c2 : 0 ≤ a0
 ·rw [if_pos c2] at H; have c2b0 := eq_true c2; have c2b1 := decide_eq_true c2; clear c2; obtain ⟨c3, H⟩ := iN H; have c3b0 := eq_true c3; have c3b1 := decide_eq_true c3; obtain ⟨c4, H⟩ := iN H; have c4b0 := eq_true c4; have c4b1 := decide_eq_true c4; obtain rfl := sI H; go_enter Tryz.func74, Tryz.ntmps74; go_wp2; go_ret
  exact eD
 ·rw [if_neg c2] at H; exact absurd H (by simp)
def impl_modeText.bit (a0 : Int) (j : Nat) : Bool := Go.bits .and .i64 (a0 / 2 ^ j) 1 == 0
def impl_modeText.base : List Int := [114, 119, 120, 114, 119, 120, 114, 119, 120]
def impl_modeText.list (a0 : Int) : List Int := [if impl_modeText.bit a0 8 then 45 else 114, if impl_modeText.bit a0 7 then 45 else 119, if impl_modeText.bit a0 6 then 45 else 120, if impl_modeText.bit a0 5 then 45 else 114, if impl_modeText.bit a0 4 then 45 else 119, if impl_modeText.bit a0 3 then 45 else 120, if impl_modeText.bit a0 2 then 45 else 114, if impl_modeText.bit a0 1 then 45 else 119, if impl_modeText.bit a0 0 then 45 else 120]
def impl_modeText.f (a0 : Int) : Option ByteArray := some (strOfNums (impl_modeText.list a0))
def impl_modeText.at_ (a0 : Int) (k : Nat) : List Int := (impl_modeText.list a0).take k ++ impl_modeText.base.drop k
def impl_modeText.Row (a0 : Int) (g k : Nat) (W : World) : Prop := W.heap[g]? = some (.cells ((impl_modeText.at_ a0 k).map (Value.int .u8)).toArray 5 (9, 10))
theorem impl_modeText.row_cell {a0 : Int} {g k : Nat} {W : World} (h : impl_modeText.Row a0 g k W) (i : Nat) : W.cell? ⟨g, i, none⟩ = ((impl_modeText.at_ a0 k).map (Value.int .u8))[i]? := by
 unfold impl_modeText.Row at h
 simp [World.cell?, h]
theorem impl_modeText.row_free {a0 : Int} {g k : Nat} {W : World} (h : impl_modeText.Row a0 g k W) (i : Nat) (hi : i < 9) : W.frozen? ⟨g, i, none⟩ = false := by
 unfold impl_modeText.Row at h
 simp [World.frozen?, h]; omega
theorem impl_modeText.row_set {a0 : Int} {g k : Nat} {W : World} (h : impl_modeText.Row a0 g k W) (v : Value) (c : Array Value) (hc : ((impl_modeText.at_ a0 k).map (Value.int .u8)).toArray.setIfInBounds k v = c) : (W.setCell ⟨g, k, none⟩ v).heap[g]? = some (.cells c 5 (9, 10)) := by
 unfold impl_modeText.Row at h; subst hc
 simp [World.setCell, Array.getElem?_modify, h]
theorem impl_modeText.row_put {a0 : Int} {g k : Nat} {W : World} (hk : k < 9) (hb : impl_modeText.bit a0 (8 - k) = true) (h : impl_modeText.Row a0 g k W) : impl_modeText.Row a0 g (k + 1) (W.setCell ⟨g, k, none⟩ (.int .u8 45)) := by
 refine impl_modeText.row_set h _ _ ?_
 rcases (by omega : k = 0 ∨ k = 1 ∨ k = 2 ∨ k = 3 ∨ k = 4 ∨ k = 5 ∨ k = 6 ∨ k = 7 ∨ k = 8) with rfl | rfl | rfl | rfl | rfl | rfl | rfl | rfl | rfl <;> simp only [Nat.reduceSub] at hb <;> simp [impl_modeText.at_, impl_modeText.base, impl_modeText.list, hb]
theorem impl_modeText.row_stay {a0 : Int} {g k : Nat} {W : World} (hk : k < 9) (hb : impl_modeText.bit a0 (8 - k) = false) (h : impl_modeText.Row a0 g k W) : impl_modeText.Row a0 g (k + 1) W := by
 have e : impl_modeText.at_ a0 (k + 1) = impl_modeText.at_ a0 k := by
  rcases (by omega : k = 0 ∨ k = 1 ∨ k = 2 ∨ k = 3 ∨ k = 4 ∨ k = 5 ∨ k = 6 ∨ k = 7 ∨ k = 8) with rfl | rfl | rfl | rfl | rfl | rfl | rfl | rfl | rfl <;> simp only [Nat.reduceSub] at hb <;> simp [impl_modeText.at_, impl_modeText.base, impl_modeText.list, hb]
 unfold impl_modeText.Row at h ⊢; rw [e]; exact h
theorem impl_modeText.row_text {a0 : Int} {g : Nat} {W : World} (h : impl_modeText.Row a0 g 9 W) : (convert 69 9 (.slice (some ⟨g, 0, none⟩) 9 9)).run Tryz.prog W = .ok (.string (strOfNums (impl_modeText.list a0))) W := by
 refine run_convert_bytes_arg W 69 5 Tryz.underlying69 Tryz.underlying5 g 0 9 9 (impl_modeText.list a0) rfl (fun i hi => ?_) 9 Tryz.underlying9; have hl : i < (impl_modeText.list a0).length := hi; have e : impl_modeText.at_ a0 9 = impl_modeText.list a0 := by simp [impl_modeText.at_, impl_modeText.base, impl_modeText.list]
 rw [Nat.zero_add, impl_modeText.row_cell h, e]
 simp [List.getElem?_eq_getElem hl]
set_option maxHeartbeats 4000000 in
theorem impl_modeText.calls (a0 : Int) (r : ByteArray) (w : World) (h : impl_modeText.f a0 = some r) :
  Calls Tryz.prog 75 #[.int .i64 a0] w fun e w' => e = .returned (.string r) ∧ Below w.heap.size w w' := by
 obtain rfl := Option.some.inj h; clear h; have kc := fun (w : World) (C : Array Value) (n c : Nat) => Lib.run_convert_bytes_const (P := Tryz.prog) w 69 5 C n c Tryz.underlying69 Tryz.underlying5
 go_enter Tryz.func75, Tryz.ntmps75; go_wp2
 go_loopw [9] (fun i wr => ∃ k : Nat, k ≤ 9 ∧ i = .int .i64 k ∧ impl_modeText.Row a0 w.heap.size k wr ∧ Below w.heap.size w wr) (fun i _ => 9 - (intOf i).toNat)
 case atStart => exact ⟨0, by omega, rfl, by unfold impl_modeText.Row; simpa [impl_modeText.at_, impl_modeText.base] using heap_alloc_new w _, (Below.refl _ w).alloc (Nat.le_refl _) _⟩
 case round =>
  obtain ⟨k, hk, rfl, hrow, hb⟩ := hrel; have HB := aM hb; have HR := aM hrow; clear hb hrow; by_cases hlt : k < 9
  ·rcases (by omega : k = 0 ∨ k = 1 ∨ k = 2 ∨ k = 3 ∨ k = 4 ∨ k = 5 ∨ k = 6 ∨ k = 7 ∨ k = 8) with rfl | rfl | rfl | rfl | rfl | rfl | rfl | rfl | rfl
   ·have hc := impl_modeText.row_cell HR.out 0; have hf := impl_modeText.row_free HR.out 0 (by omega)
    simp [impl_modeText.at_, impl_modeText.base, impl_modeText.list] at hc
    go_wp2
    ·rename_i hb_
     exact ⟨⟨1, by omega, rfl, impl_modeText.row_put (k := 0) (by omega) (by simpa [impl_modeText.bit] using hb_) HR.out, HB.out.setCell (Nat.le_refl _) _⟩, by simp [intOf]⟩
    ·rename_i hb_
     exact ⟨⟨1, by omega, rfl, impl_modeText.row_stay (k := 0) (by omega) (by simpa [impl_modeText.bit] using hb_) HR.out, HB.out⟩, by simp [intOf]⟩
   ·have hc := impl_modeText.row_cell HR.out 1; have hf := impl_modeText.row_free HR.out 1 (by omega)
    simp [impl_modeText.at_, impl_modeText.base, impl_modeText.list] at hc
    go_wp2
    ·rename_i hb_
     exact ⟨⟨2, by omega, rfl, impl_modeText.row_put (k := 1) (by omega) (by simpa [impl_modeText.bit] using hb_) HR.out, HB.out.setCell (Nat.le_refl _) _⟩, by simp [intOf]⟩
    ·rename_i hb_
     exact ⟨⟨2, by omega, rfl, impl_modeText.row_stay (k := 1) (by omega) (by simpa [impl_modeText.bit] using hb_) HR.out, HB.out⟩, by simp [intOf]⟩
   ·have hc := impl_modeText.row_cell HR.out 2; have hf := impl_modeText.row_free HR.out 2 (by omega)
    simp [impl_modeText.at_, impl_modeText.base, impl_modeText.list] at hc
    go_wp2
    ·rename_i hb_
     exact ⟨⟨3, by omega, rfl, impl_modeText.row_put (k := 2) (by omega) (by simpa [impl_modeText.bit] using hb_) HR.out, HB.out.setCell (Nat.le_refl _) _⟩, by simp [intOf]⟩
    ·rename_i hb_
     exact ⟨⟨3, by omega, rfl, impl_modeText.row_stay (k := 2) (by omega) (by simpa [impl_modeText.bit] using hb_) HR.out, HB.out⟩, by simp [intOf]⟩
   ·have hc := impl_modeText.row_cell HR.out 3; have hf := impl_modeText.row_free HR.out 3 (by omega)
    simp [impl_modeText.at_, impl_modeText.base, impl_modeText.list] at hc
    go_wp2
    ·rename_i hb_
     exact ⟨⟨4, by omega, rfl, impl_modeText.row_put (k := 3) (by omega) (by simpa [impl_modeText.bit] using hb_) HR.out, HB.out.setCell (Nat.le_refl _) _⟩, by simp [intOf]⟩
    ·rename_i hb_
     exact ⟨⟨4, by omega, rfl, impl_modeText.row_stay (k := 3) (by omega) (by simpa [impl_modeText.bit] using hb_) HR.out, HB.out⟩, by simp [intOf]⟩
   ·have hc := impl_modeText.row_cell HR.out 4; have hf := impl_modeText.row_free HR.out 4 (by omega)
    simp [impl_modeText.at_, impl_modeText.base, impl_modeText.list] at hc
    go_wp2
    ·rename_i hb_
     exact ⟨⟨5, by omega, rfl, impl_modeText.row_put (k := 4) (by omega) (by simpa [impl_modeText.bit] using hb_) HR.out, HB.out.setCell (Nat.le_refl _) _⟩, by simp [intOf]⟩
    ·rename_i hb_
     exact ⟨⟨5, by omega, rfl, impl_modeText.row_stay (k := 4) (by omega) (by simpa [impl_modeText.bit] using hb_) HR.out, HB.out⟩, by simp [intOf]⟩
   ·have hc := impl_modeText.row_cell HR.out 5; have hf := impl_modeText.row_free HR.out 5 (by omega)
    simp [impl_modeText.at_, impl_modeText.base, impl_modeText.list] at hc
    go_wp2
    ·rename_i hb_
     exact ⟨⟨6, by omega, rfl, impl_modeText.row_put (k := 5) (by omega) (by simpa [impl_modeText.bit] using hb_) HR.out, HB.out.setCell (Nat.le_refl _) _⟩, by simp [intOf]⟩
    ·rename_i hb_
     exact ⟨⟨6, by omega, rfl, impl_modeText.row_stay (k := 5) (by omega) (by simpa [impl_modeText.bit] using hb_) HR.out, HB.out⟩, by simp [intOf]⟩
   ·have hc := impl_modeText.row_cell HR.out 6; have hf := impl_modeText.row_free HR.out 6 (by omega)
    simp [impl_modeText.at_, impl_modeText.base, impl_modeText.list] at hc
    go_wp2
    ·rename_i hb_
     exact ⟨⟨7, by omega, rfl, impl_modeText.row_put (k := 6) (by omega) (by simpa [impl_modeText.bit] using hb_) HR.out, HB.out.setCell (Nat.le_refl _) _⟩, by simp [intOf]⟩
    ·rename_i hb_
     exact ⟨⟨7, by omega, rfl, impl_modeText.row_stay (k := 6) (by omega) (by simpa [impl_modeText.bit] using hb_) HR.out, HB.out⟩, by simp [intOf]⟩
   ·have hc := impl_modeText.row_cell HR.out 7; have hf := impl_modeText.row_free HR.out 7 (by omega)
    simp [impl_modeText.at_, impl_modeText.base, impl_modeText.list] at hc
    go_wp2
    ·rename_i hb_
     exact ⟨⟨8, by omega, rfl, impl_modeText.row_put (k := 7) (by omega) (by simpa [impl_modeText.bit] using hb_) HR.out, HB.out.setCell (Nat.le_refl _) _⟩, by simp [intOf]⟩
    ·rename_i hb_
     exact ⟨⟨8, by omega, rfl, impl_modeText.row_stay (k := 7) (by omega) (by simpa [impl_modeText.bit] using hb_) HR.out, HB.out⟩, by simp [intOf]⟩
   ·have hc := impl_modeText.row_cell HR.out 8; have hf := impl_modeText.row_free HR.out 8 (by omega)
    simp [impl_modeText.at_, impl_modeText.base, impl_modeText.list] at hc
    go_wp2
    ·rename_i hb_
     exact ⟨⟨9, by omega, rfl, impl_modeText.row_put (k := 8) (by omega) (by simpa [impl_modeText.bit] using hb_) HR.out, HB.out.setCell (Nat.le_refl _) _⟩, by simp [intOf]⟩
    ·rename_i hb_
     exact ⟨⟨9, by omega, rfl, impl_modeText.row_stay (k := 8) (by omega) (by simpa [impl_modeText.bit] using hb_) HR.out, HB.out⟩, by simp [intOf]⟩
  ·obtain rfl : k = 9 := by omega
   have hcv := impl_modeText.row_text HR.out; go_wp2; go_ret
   exact ⟨rfl, HB.out⟩
theorem tab_below {w w' : World} (h : Lib.TabIs Tryz.prog w "internal/strconv.uint64pow10" .u64 Lib.pow10Tab) (hb : Below w.heap.size w w') : Lib.TabIs Tryz.prog w' "internal/strconv.uint64pow10" .u64 Lib.pow10Tab := by
 unfold Lib.TabIs World.var? at h ⊢; cases hg : Tryz.prog.globalNamed "internal/strconv.uint64pow10" with
 | none => rw [hg] at h; cases h
 | some g =>
  rw [hg] at h; simp only [Option.bind_some] at h ⊢; have hlt : g < w.heap.size := by
   rcases Nat.lt_or_ge g w.heap.size with h' | h'
   ·exact h'
   ·rw [Array.getElem?_eq_none h'] at h; cases h
  rw [hb.block g hlt]; exact h
def strconv_Itoa.f (a0 : Int) : Option ByteArray := if -9223372036854775808 ≤ a0 ∧ a0 ≤ 9223372036854775807 then some ⟨(Lib.itoa a0).toArray⟩ else none
theorem strconv_Itoa.calls (a0 : Int) (r : ByteArray) (w : World) (htab : Lib.TabIs Tryz.prog w "internal/strconv.uint64pow10" .u64 Lib.pow10Tab) (h : strconv_Itoa.f a0 = some r) :
  Calls Tryz.prog 76 #[.int .i64 a0] w fun e w' => e = .returned (.string r) ∧ Below w.heap.size w w' := by
 unfold strconv_Itoa.f at h
 split at h
 ·rename_i hb
  obtain rfl := Option.some.inj h; refine (Tryz.strconv_Itoa a0 hb.1 hb.2 w htab).mono fun e w' ⟨he, k, os, hw⟩ => ⟨he, ?_⟩
  rw [hw]; exact Lib.below_grow _ w (Nat.le_refl _) k os
 ·cases h
end Go.Proofs.YtdjceippnokimaaGreatDoor.PSat
