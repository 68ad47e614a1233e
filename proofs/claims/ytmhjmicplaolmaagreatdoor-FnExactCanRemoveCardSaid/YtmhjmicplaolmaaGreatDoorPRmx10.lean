import Derived.Test.YtmhjmicplaolmaaGreatDoorPRmx0
import Derived.Test.YtmhjmicplaolmaaGreatDoorPRmx8
import Derived.Test.YtmhjmicplaolmaaGreatDoorPRmx9
namespace Go.Proofs.YtmhjmicplaolmaaGreatDoor.PRm
open Go.RowKit Go.Proofs.YtmhjmicplaolmaaGreatDoorW.PrintWords Go.Proofs.YtmhjmicplaolmaaGreatDoorW.PrintLast Go.Proofs.YtmhjmicplaolmaaGreatDoorW.PrintMore
attribute [local go_sem] max2_int min2_int max_two min_two max_three min_three max_four min_four
set_option linter.unusedVariables false
set_option linter.unusedSimpArgs false
set_option maxHeartbeats 8000000
set_option maxRecDepth 100000
/-! ### impl_Fs_taken: function 23 -/
structure Kp (w W : World) (S : Nat → Prop) : Prop where
 size : w.heap.size ≤ W.heap.size
 block : ∀ i, i < w.heap.size → ¬ S i → W.heap[i]? = w.heap[i]?
 os : W.os = w.os
 tape : W.tape = w.tape
 output : W.output = w.output
theorem Kp.refl (w : World) (S : Nat → Prop) : Kp w w S := ⟨Nat.le_refl _, fun _ _ _ => rfl, rfl, rfl, rfl⟩
theorem Kp.of_below {w W : World} (h : Below w.heap.size w W) (S : Nat → Prop) : Kp w W S := ⟨h.size, fun i hi _ => h.block i hi, h.os, h.tape, h.output⟩
theorem Kp.then_ {w W W2 : World} {S S2 : Nat → Prop} (h : Kp w W S) (k : Kp W W2 S2) (hs : ∀ k, S2 k → S k ∨ w.heap.size ≤ k) : Kp w W2 S :=
 ⟨Nat.le_trans h.size k.size, fun i hi hn => (k.block i (Nat.lt_of_lt_of_le hi h.size) (fun h2 => (hs i h2).elim hn (fun h3 => by omega))).trans (h.block i hi hn), k.os.trans h.os, k.tape.trans h.tape, k.output.trans h.output⟩
theorem Kp.of_grown {w W W2 : World} {S : Nat → Prop} {row : Option Nat} (hg : W.grownBy W2 row) (h : Kp w W S) (hr : ∀ k, row = some k → S k ∨ w.heap.size ≤ k) : Kp w W2 S :=
 h.then_ (S2 := fun k => row = some k) ⟨hg.size, fun i hi hn => hg.block i hi (fun he => hn he.symm), hg.os, hg.tape, hg.output⟩ hr
theorem Kp.below {w W W2 : World} {S : Nat → Prop} (h : Kp w W S) (hb : Below W.heap.size W W2) : Kp w W2 S := h.then_ (Kp.of_below hb (fun _ => False)) (fun _ hk => hk.elim)
theorem Kp.drew {w W : World} {S : Nat → Prop} (h : Kp w W S) : Kp w W.drew S := ⟨h.size, h.block, h.os, h.tape, h.output⟩
theorem Kp.drewN {w W : World} {S : Nat → Prop} (h : Kp w W S) (m : Nat) : Kp w (W.drewN m) S := ⟨h.size, h.block, h.os, h.tape, h.output⟩
theorem Kp.setCell {w W : World} {S : Nat → Prop} (h : Kp w W S) {p : Addr} (hp : S p.block ∨ w.heap.size ≤ p.block) (u : Value) : Kp w (W.setCell p u) S :=
 h.then_ (S2 := fun k => k = p.block) ⟨by simp [World.setCell], fun i _ hn => Below.heap_setCell W p u i hn, rfl, rfl, rfl⟩ (fun k hk => by rw [hk]; exact hp)
theorem Kp.to_below {w W : World} {S : Nat → Prop} {B : Nat} (h : Kp w W S) (hB : B ≤ w.heap.size) (hs : ∀ k, S k → B ≤ k) : Below B w W := ⟨h.os, h.tape, h.output, h.size, fun k hk => h.block k (Nat.lt_of_lt_of_le hk hB) (fun h2 => by have := hs k h2; omega)⟩
theorem blk_kp {W W2 : World} {S : Nat → Prop} {g : Nat} {o : Obj} (hb : W.heap[g]? = some o) (hk : Kp W W2 S) (hne : ¬ S g) : W2.heap[g]? = some o := (hk.block g (blk_lt hb) hne).trans hb
theorem cell_kp {W W2 : World} {S : Nat → Prop} {a : Addr} {v : Value} (hc : W.cell? a = some v) (hk : Kp W W2 S) (hne : ¬ S a.block) : W2.cell? a = some v := (World.cell?_of_block (hk.block a.block (World.block_lt_of_cell? W a hc) hne)).trans hc
def mix {α : Type} (d : Kd α) : Kd (List Value ⊕ α) where
 sz := d.sz
 E := d.E
 K := fun w x cs => match x with
  | .inl c => cs = c ∧ cs.length = d.sz ∧ ∀ u ∈ cs, u.oneCell' = true
  | .inr a => d.K w a cs
 M := fun w base ok x cs => match x with
  | .inl c => cs = c ∧ cs.length = d.sz ∧ ∀ u ∈ cs, u.oneCell' = true
  | .inr a => d.M w base ok a cs
 K_len := fun {w x cs} h => by
  cases x with
  | inl c => exact h.2.1
  | inr a => exact d.K_len h
 K_one := fun {w x cs} h => by
  cases x with
  | inl c => exact h.2.2
  | inr a => exact d.K_one h
 K_below := fun {w w1 x cs} hb h => by
  cases x with
  | inl c => exact h
  | inr a => exact d.K_below hb h
 K_of_M := fun {w base ok x cs} h => by
  cases x with
  | inl c => exact h
  | inr a => exact d.K_of_M h
 M_mono := fun {w base ok ok' x cs} hok h => by
  cases x with
  | inl c => exact h
  | inr a => exact d.M_mono hok h
 M_bound := fun {w base ok x cs} h => by
  cases x with
  | inl c => exact h
  | inr a => exact d.M_bound h
 M_move := fun {w w1 base ok x cs} hm h => by
  cases x with
  | inl c => exact h
  | inr a => exact d.M_move hm h
 M_lower := fun {w base base' ok x cs} hb h => by
  cases x with
  | inl c => exact h
  | inr a => exact d.M_lower hb h
theorem mix_of_raw {α : Type} {d : Kd α} {e : Nat} {w : World} {base : Nat} {ok : Nat → Prop} {v : Value} {css : List (List Value)} (h : (Kd.raw d.sz).R e w base ok v css) : Kd.S (mix d) e w base ok v (css.map Sum.inl) := by
 obtain ⟨h0, inner, ho, hr⟩ := h; refine ⟨fun _ => 0, h0, inner, by rw [List.length_zipIdx, List.length_map]; exact ho, by rw [List.length_zipIdx, List.length_map]; exact hr.1, fun j p hj => ?_⟩; rw [List.getElem?_zipIdx, Nat.zero_add, List.getElem?_map] at hj; obtain ⟨x, hx, rfl⟩ := Option.map_eq_some_iff.1 hj; obtain ⟨c, hc, rfl⟩ := Option.map_eq_some_iff.1 hx; exact hr.2 j c hc
theorem unmix {α : Type} {d : Kd α} {e : Nat} {w : World} {base : Nat} {ok : Nat → Prop} {v : Value} {xs : List α} (h : Kd.S (mix d) e w base ok v (xs.map Sum.inr)) : Kd.S d e w base ok v xs := by
 obtain ⟨f, h0, inner, ho, hr⟩ := h; rw [List.length_zipIdx, List.length_map] at ho; refine ⟨f, h0, inner, by rw [List.length_zipIdx]; exact ho, by have := hr.1; rw [List.length_zipIdx, List.length_map] at this; rw [List.length_zipIdx]; exact this, fun j p hj => ?_⟩; rw [List.getElem?_zipIdx, Nat.zero_add] at hj; obtain ⟨x, hx, rfl⟩ := Option.map_eq_some_iff.1 hj; exact hr.2 j (Sum.inr x, j) (Kd.zip_at (by rw [List.getElem?_map, hx]; rfl))
theorem raws {α : Type} {d : Kd α} {w : World} {A : Option Addr} {n : Nat} {xs : List α} (h : Kd.C d w A n xs) : ∃ css : List (List Value), css.length = xs.length ∧ Kd.C (Kd.raw d.sz) w A n css ∧ ∀ (j : Nat) (x : α), xs[j]? = some x → ∃ c, css[j]? = some c ∧ d.K w x c := by
 obtain ⟨h1, h2, h3⟩ := h
 rcases Nat.eq_zero_or_pos n with h0 | h0
 ·have : xs = [] := List.eq_nil_of_length_eq_zero (by omega); subst this; exact ⟨[], rfl, ⟨h1, h2, fun hp => absurd hp (by omega)⟩, fun j x hx => by simp at hx⟩
 ·obtain ⟨ad, e, hc⟩ := h3 h0; have hc' : ∀ j : Fin xs.length, ∃ c, c.length = d.sz ∧ d.K w xs[j] c ∧ ∀ i u, c[i]? = some u → w.cell? (ad.add (j * d.sz + i)) = some u := fun j => hc j _ (List.getElem?_eq_getElem j.2)
  have hch := fun j => Classical.choose_spec (hc' j)
  refine ⟨List.ofFn fun j => Classical.choose (hc' j), List.length_ofFn, ⟨by rw [List.length_ofFn]; exact h1, h2, fun _ => ⟨ad, e, fun j c hj => ?_⟩⟩, fun j x hx => ?_⟩
  ·rw [List.getElem?_ofFn] at hj
   split at hj
   ·rename_i hl
    obtain rfl := Option.some.inj hj; obtain ⟨a1, a2, a3⟩ := hch ⟨j, hl⟩; exact ⟨_, a1, ⟨rfl, a1, fun u hu => d.K_one a2 u hu⟩, a3⟩
   ·cases hj
  ·have hl : j < xs.length := by
    rcases Nat.lt_or_ge j xs.length with h | h
    ·exact h
    ·rw [List.getElem?_eq_none h] at hx; cases hx
   refine ⟨Classical.choose (hc' ⟨j, hl⟩), by rw [List.getElem?_ofFn, dif_pos hl], ?_⟩; have := (hch ⟨j, hl⟩).2.1; rw [List.getElem?_eq_getElem hl] at hx; obtain rfl := Option.some.inj hx; exact this
theorem slices_Clone_E.calls (A0 : Option Addr) (c0 : Nat) (l0 : List S87) (w : World) (hr0 : Kd.C k87 w A0 l0.length l0) (hc0 : l0.length ≤ c0) (hl : l0.length < 5864062014805) :
  Calls Tryz.prog 66 #[.slice A0 l0.length c0] w fun e w' => ∃ v0_ : Value, e = .returned v0_ ∧ Kd.R k87 87 w' w.heap.size (fun _ => True) v0_ l0 ∧ Below w.heap.size w w' := by
 have HB := b0 w; have HR := aM hr0; have HC := aM hc0; have HL := aM hl; clear hr0 hc0 hl; cases A0 with
 | none =>
  have h0 : l0 = [] := by
   rcases Nat.eq_zero_or_pos l0.length with h | h
   ·exact List.eq_nil_of_length_eq_zero h
   ·obtain ⟨_, e, _⟩ := HR.out.2.2 h; cases e
  subst h0; have he : ∀ W, (binOp .eql 60 (.slice none 0 c0) (.slice none 0 0)).run Tryz.prog W = .ok (.bool true) W := fun W => Lib.run_eql_slice_nil W 60 87 none _ c0 0 0 Tryz.underlying60
  go_enter Tryz.func66, Tryz.ntmps66; go_wp2; go_ret
  exact ⟨_, rfl, Kd.R_nil _ _ _ _ _, sB⟩
 | some ad =>
  have he : ∀ W, (binOp .eql 60 (.slice (some ad) l0.length c0) (.slice none 0 0)).run Tryz.prog W = .ok (.bool false) W := fun W => Lib.run_eql_slice_nil W 60 87 (some ad) _ c0 0 0 Tryz.underlying60
  go_enter Tryz.func66, Tryz.ntmps66
  go_wp2_with (first
   | ((with_reducible refine gate_dst (N := 5) rfl ?_); refine Kd.R_lit k87 _ 87 ?hg (N := 5) ?hd (xs := ([] : List S87)) (inner := []) (ok := fun _ => True) (okp := fun _ => True) ?hr ?hp (fun _ hk => hk) trivial (Below.refl _ _) (Nat.le_refl _) (by simp) ?_; (case hd => rfl); (case hg => rfl); (case hr => first | (go_simp; done) | (go_simp; rfl)); (case hp => exact (Reps.none _ _)); intro v5 w5 ho hb hg_ hnew_; clear hg_ hnew_; have HO := aM (Kd.R_lower ho (below_size sC)); replace HB := nSC hb; clear hb ho)
   | ((with_reducible refine gate_builtin (b := .append) (xs := #[.tmp 5, .tmp 6]) rfl ?_); at_builtin; refine Kd.R_append_rows k87 (w0 := w) w.heap.size rfl (.tmp 5) (.tmp 6) 60 87 (.agg #[(.string ⟨#[]⟩), (.int .i64 0)]) 24 rfl Tryz.underlying60 info87 rfl (by decide) (by omega) v5 ([] : List S87) l0 _ _ _ (fun _ => True) (fun _ => False) rfl rfl ?aO ?aR (fun _ _ h => h) (fun _ h => h.elim) ?aF ?aB ?aS ?aL ?_; (case aR => repeat (first | exact (Kd.C_below HR.out HB.out) | (with_reducible refine Kd.C_alloc ?_ _) | (with_reducible refine Kd.C_drewN ?_ _) | (with_reducible refine Kd.C_drew ?_))); (case aB => exact sC); (case aF => exact (fun _ _ => trivial)); (case aO => exact rR HO); (case aS => exact (below_size sC)); (case aL => have := HL.out; simp only [List.length_nil]; omega); intro v7 w7 ho hb hg hat; have HO7 := aM ho; replace HB := aM hb; clear ho hb hg hat))
  go_ret
  exact ⟨_, rfl, rR HO7, sC⟩
theorem slices_Clone_N.calls (A0 : Option Addr) (c0 : Nat) (l0 : List (List Value)) (w : World) (hr0 : Kd.C (Kd.raw 7) w A0 l0.length l0) (hc0 : l0.length ≤ c0) (hl : l0.length < 1759218604441) :
  Calls Tryz.prog 65 #[.slice A0 l0.length c0] w fun e w' => ∃ v0_ : Value, e = .returned v0_ ∧ Kd.R (Kd.raw 7) 62 w' w.heap.size (fun _ => True) v0_ l0 ∧ Below w.heap.size w w' := by
 have HB := b0 w; have HR := aM hr0; have HC := aM hc0; have HL := aM hl; clear hr0 hc0 hl; cases A0 with
 | none =>
  have h0 : l0 = [] := by
   rcases Nat.eq_zero_or_pos l0.length with h | h
   ·exact List.eq_nil_of_length_eq_zero h
   ·obtain ⟨_, e, _⟩ := HR.out.2.2 h; cases e
  subst h0; have he : ∀ W, (binOp .eql 30 (.slice none 0 c0) (.slice none 0 0)).run Tryz.prog W = .ok (.bool true) W := fun W => Lib.run_eql_slice_nil W 30 62 none _ c0 0 0 Tryz.underlying30
  go_enter Tryz.func65, Tryz.ntmps65; go_wp2; go_ret
  exact ⟨_, rfl, Kd.R_nil _ _ _ _ _, sB⟩
 | some ad =>
  have he : ∀ W, (binOp .eql 30 (.slice (some ad) l0.length c0) (.slice none 0 0)).run Tryz.prog W = .ok (.bool false) W := fun W => Lib.run_eql_slice_nil W 30 62 (some ad) _ c0 0 0 Tryz.underlying30
  go_enter Tryz.func65, Tryz.ntmps65
  go_wp2_with (first
   | ((with_reducible refine gate_dst (N := 5) rfl ?_); refine Kd.R_lit (Kd.raw 7) _ 62 ?hg (N := 5) ?hd (xs := ([] : List (List Value))) (inner := []) (ok := fun _ => True) (okp := fun _ => True) ?hr ?hp (fun _ hk => hk) trivial (Below.refl _ _) (Nat.le_refl _) (by simp) ?_; (case hd => rfl); (case hg => rfl); (case hr => first | (go_simp; done) | (go_simp; rfl)); (case hp => exact (Reps.none _ _)); intro v5 w5 ho hb hg_ hnew_; clear hg_ hnew_; have HO := aM (Kd.R_lower ho (below_size sC)); replace HB := nSC hb; clear hb ho)
   | ((with_reducible refine gate_builtin (b := .append) (xs := #[.tmp 5, .tmp 6]) rfl ?_); at_builtin; refine Kd.R_append_rows (Kd.raw 7) (w0 := w) w.heap.size rfl (.tmp 5) (.tmp 6) 30 62 (.agg #[(.int .i64 0), (.int .i64 0), (.int .i64 0), (.int .i64 0), (.int .i64 0), (.string ⟨#[]⟩), (.slice none 0 0)]) 80 rfl Tryz.underlying30 info62 rfl (by decide) (by omega) v5 ([] : List (List Value)) l0 _ _ _ (fun _ => True) (fun _ => False) rfl rfl ?aO ?aR (fun _ _ h => h) (fun _ h => h.elim) ?aF ?aB ?aS ?aL ?_; (case aR => repeat (first | exact (Kd.C_below HR.out HB.out) | (with_reducible refine Kd.C_alloc ?_ _) | (with_reducible refine Kd.C_drewN ?_ _) | (with_reducible refine Kd.C_drew ?_))); (case aB => exact sC); (case aF => exact (fun _ _ => trivial)); (case aO => exact rR HO); (case aS => exact (below_size sC)); (case aL => have := HL.out; simp only [List.length_nil]; omega); intro v7 w7 ho hb hg hat; have HO7 := aM ho; replace HB := aM hb; clear ho hb hg hat))
  go_ret
  exact ⟨_, rfl, rR HO7, sC⟩
def impl_Fs_own.f (l0 : List S62) (room : Int) : Option (List S62 × Int) := if l0.length < 1759218604441 ∧ ∀ x ∈ l0, x.f6.length < 5864062014805 then some (l0, room) else none
theorem impl_Fs_own.calls (A0 : Option Addr) (c0 : Nat) (l0 : List S62) (room : Int) (r : List S62) (r2 : Int) (w : World) (hr0 : Kd.C k62 w A0 l0.length l0) (hc0 : l0.length ≤ c0) (h : impl_Fs_own.f l0 room = some (r, r2)) :
  Calls Tryz.prog 40 #[.agg #[.slice A0 l0.length c0, .int .i64 room]] w fun e w' => ∃ v0_ : Value, e = .returned (.agg #[v0_, .int .i64 r2]) ∧ Kd.S k62 62 w' w.heap.size (fun _ => True) v0_ r ∧ Below w.heap.size w w' := by
 unfold impl_Fs_own.f at h
 split at h
 rotate_left
 ·cases h
 rename_i hb0
 obtain ⟨hl, hls⟩ := hb0; obtain ⟨rfl, rfl⟩ : l0 = r ∧ room = r2 := by simpa using h
 clear h; obtain ⟨css, hcl, hcC, hcK⟩ := raws hr0; have hu32 := Tryz.underlying32; have hu62 := Tryz.underlying62; have hu30 := Tryz.underlying30; have HB := b0 w; have HCK := aM hcK; have HN := aM hcl; have HLS := aM hls; have HLB := aM hl
 have HCl := aM (show ∀ W, Kd.C (Kd.raw 7) W A0 l0.length css → Calls Tryz.prog 65 #[.slice A0 l0.length c0] W (fun e w' => ∃ v0_ : Value, e = .returned v0_ ∧ Kd.R (Kd.raw 7) 62 w' W.heap.size (fun _ => True) v0_ css ∧ Below W.heap.size W w') from fun W hW => by
  have := slices_Clone_N.calls A0 c0 css W (by rw [hcl]; exact hW) (by omega) (by omega)
  rwa [hcl] at this)
 have HCC : Aside0 (Kd.C (Kd.raw 7) w A0 l0.length css) := ⟨hcC⟩; clear hcK hcl hls hr0 hcC hc0 hl; go_enter Tryz.func40, Tryz.ntmps40
 go_wp2_with (first
  | ((with_reducible refine gd 1 rfl ?_); refine bxE 1 #[.slice A0 l0.length c0, .int .i64 room] 32 ?_; intro gF hg w1 hbox hb; have BF := aM hbox; have GF := nGB hg; replace HB := nSB hb; clear hb hbox hg; have hcF := cb2 BF)
  | ((with_reducible refine gd 2 rfl ?_); refine bxE 2 #[.slice none 0 0, .int .i64 0] 32 ?_; intro gR hg w2 hbox hb; have BR := aM hbox; have GR := nGC hg; replace HB := nSC hb; have NFR := nL BF hg; have NRF := nH BF hg; replace BF := nK BF hb; clear hb hbox hg; have hcF := cb2 BF; have hcR := cb2 BR)
  | (go_at_call 65; go_loud (refine (HCl.out _ (by repeat (first | exact (Kd.C_below HCC.out HB.out) | (with_reducible refine Kd.C_alloc ?_ _) | (with_reducible refine Kd.C_drewN ?_ _) | (with_reducible refine Kd.C_drew ?_)))).mono ?_; rintro e w3 ⟨v, rfl, hR, hb⟩; have HO := aM (Kd.R_lower hR (below_size sC)); replace HB := nSC hb; replace BF := nK BF hb; replace BR := nK BR hb; clear hR hb; obtain ⟨A, c, eA⟩ := Kd.R_slice HO.out; rw [HN.out] at eA; subst eA; have hcF := cb2 BF)))
 go_loopg [11] l0.length (fun kq v11 w' => ∃ i : Nat, v11 = .int .i64 i ∧ Aside0 (i ≤ l0.length ∧ l0.length ≤ i + kq) ∧ Aside0 (w'.heap[gF]? = some (.cells #[.slice A l0.length c, .int .i64 room] 32 (0, 0))) ∧ Aside0 (w'.heap[gR]? = some (.cells #[.slice none 0 0, .int .i64 0] 32 (0, 0))) ∧ Aside0 (Kd.S (mix k62) 62 w' w.heap.size (fun k_ => True) (.slice A l0.length c) ((l0.take i).map Sum.inr ++ (css.drop i).map Sum.inl)) ∧ Aside0 (Below w.heap.size w w'))
 case atStart => exact ⟨0, sR, ⟨Nat.zero_le _, by omega⟩, ⟨sX BF⟩, ⟨sX BR⟩, ⟨by simpa using mix_of_raw (d := k62) (rRf HO BF (fun _ _ => trivial))⟩, ⟨sC⟩⟩
 case round =>
  clear HO BF BR HB hcF hcR; obtain ⟨i, rfl, HI, BF, BR, HS, HB⟩ := hrel; have hcF := cb2 BF; have hcR := cb2 BR; have hi1 := HI.out.1; by_cases c1 : i < l0.length
  ·have c1b : decide ((i : Int) < (l0.length : Int)) = true := decide_eq_true (by omega); have c1c : ((i : Int) < (l0.length : Int)) = True := eq_true (by omega); have c1d : (0 ≤ (i : Int)) = True := eq_true (by omega); have hlc : css.length = l0.length := HN.out; obtain ⟨g, cap, eA, hg1, hg2, cells, hgc⟩ := Kd.S_form HS.out (by simp; omega); have hxl : (List.map Sum.inr (List.take i l0) ++ List.map Sum.inl (List.drop i css) : List (List Value ⊕ S62)).length = l0.length := by simp; omega
   rw [hxl] at eA
   injection eA with e1 e2 e3
   subst e1 e3; clear e2; obtain ⟨oki, ce, hcel, hM, hcc, hfr, hoki, hH⟩ := Kd.S_elem HS.out (Sum.inl []) (i : Int) (by omega) (by omega); have hgd : (List.map Sum.inr (List.take i l0) ++ List.map Sum.inl (List.drop i css) : List (List Value ⊕ S62)).getD ((i : Int)).toNat (Sum.inl []) = Sum.inl (css[i]'(by omega)) := by
    rw [Int.toNat_natCast, List.getD_eq_getElem?_getD, List.getElem?_append_right (by simp; omega)]; simp only [List.length_map, List.length_take, Nat.min_eq_left hi1, Nat.sub_self, List.getElem?_map, List.getElem?_drop, Nat.add_zero, List.getElem?_eq_getElem (show i < css.length by omega), Option.map_some, Option.getD_some]
   rw [hgd] at hM; obtain ⟨ci, hci, hK⟩ := HCK.out i l0[i] (List.getElem?_eq_getElem c1); rw [List.getElem?_eq_getElem (show i < css.length by omega)] at hci; obtain ⟨A6, c6, e6, l6, g6⟩ := k62_open hK; have hce : ce = [.int .i64 l0[i].f0, .int .i64 l0[i].f1, .int .i64 l0[i].f2, .int .i64 l0[i].f3, .int .i64 l0[i].f4, .string l0[i].f5, .slice A6 l0[i].f6.length c6] := by
    rw [← e6, ← Option.some.inj hci]; exact hM.1
   subst hce; have hx6 : wr.cell? ⟨g, i * 7 + 6, none⟩ = some (.slice A6 l0[i].f6.length c6) := by have := hcc 6 _ rfl; rwa [Int.toNat_natCast] at this
   have hf6 : wr.frozen? ⟨g, i * 7 + 6, none⟩ = false := by have := hfr 6; rwa [Int.toNat_natCast] at this
   have hl6 := HLS.out l0[i] (List.getElem_mem _); have HH := aM hH; have HG6 := aM g6; have HL6 := aM l6; have HLl := aM hl6; have hgF : Aside0 (g ≠ gF) := ⟨fun e => by subst e; have := hgc.symm.trans BF.out; injection this with this; injection this with _ t; cases t⟩; have NGR : Aside0 (g ≠ gR) := ⟨fun e => by subst e; have := hgc.symm.trans BR.out; injection this with this; injection this with _ t; cases t⟩; have HGL := aM (And.intro hg1 hg2); generalize hnode : l0[i] = nd at *; clear hM hK e6 hci hgd hH g6 l6 hl6 hcc hfr hoki hgc hg1 hg2; go_wp2; refine st2 13 [12] hcF.1 hx6 (fun hHeld => ?_); have BF8 := aM (blk_drew BF.out); have BR8 := aM (blk_drew BR.out); have HB8 := aM (below_drew1 HB.out); have HH8 := aM (Kd.H_widen (Kd.H_drew HH.out)); have hf8 : Aside0 (wr.drew.frozen? ⟨g, i * 7 + 6, none⟩ = false) := ⟨hf6⟩; have HG8 : Aside0 (k87.C wr.drew A6 nd.f6.length nd.f6) := ⟨Kd.C_drew (Kd.C_below HG6.out HB.out)⟩; have HZ8 : Aside0 (g < wr.drew.heap.size) := ⟨HGL.out.2⟩; clear BF BR HB HH HG6 hx6 hf6 hcF hcR HS; generalize wr.drew = w8 at *; refine pu 0 14 ?_; refine tk2 1 15 ?_; refine pu 2 16 ?_; refine pu 3 17 ?_; refine tk2 4 18 ?_; refine pu 5 19 ?_; refine pu 6 20 ?_; refine pu 7 21 ?_; refine tk2 8 22 ?_; refine on 9 23 (fun K hK => ?_); refine gC Tryz.func66 #[.slice A6 nd.f6.length c6] ?_; refine (slices_Clone_E.calls A6 c6 nd.f6 w8 HG8.out HL6.out HLl.out).mono ?_; rintro e w9 ⟨v6, rfl, hR6, hb6⟩; obtain ⟨A7, c7, e7⟩ := Kd.R_slice hR6; subst e7; refine ⟨_, rfl, ?_⟩; refine hK.out _ _ ⟨(hb6.cell (World.block_lt_of_cell? w8 _ hHeld.1)).trans hHeld.1, (hb6.cell (World.block_lt_of_cell? w8 _ hHeld.2)).trans hHeld.2⟩ (fun hHeld => ?_); clear hK K; refine nm ?_; refine pu 10 24 ?_; refine pu 11 25 ?_; have hf9 : w9.frozen? ⟨g, i * 7 + 6, none⟩ = false := (World.frozen?_of_block (a := ⟨g, i * 7 + 6, none⟩) (hb6.block g HZ8.out)).trans hf8.out; have hx9 := hHeld.2; refine last_ (i := 12) (N := none) #[true, true, true, true, true, true, true, true, true, true, true, true, true] rfl rfl (by kernel_rfl) (by decide) (fun K hK => ?_); refine skip_ (w1 := w9.setCell ⟨g, i * 7 + 6, none⟩ (.slice A7 nd.f6.length c7)) rfl rfl (by first | (go_simp; done) | (go_simp; rfl)) ?_; refine hK.out _ _ ?_; refine dn ?_; have hH1 := Kd.H_below HH8.out hb6; obtain ⟨hH2, hG⟩ := Kd.H_seg (seg := [Value.slice A7 nd.f6.length c7]) (j := 6) hH1 (by omega) (by omega) (show 6 + 1 ≤ 7 by omega) (fun q hq => by rw [List.mem_singleton.1 hq]; rfl); have hR7 : Kd.R k87 87 (w9.setCells g ((i : Int).toNat * (mix k62).sz + 6) [Value.slice A7 nd.f6.length c7]) w.heap.size (fun k => w8.heap.size ≤ k) (.slice A7 nd.f6.length c7) nd.f6 :=
    Kd.R_lower (Kd.R_step (Kd.R_mono (Kd.R_bound hR6) (fun k hk => hk.2.1)) (fun k hk hlt => hG.block k hlt (fun e => by
     injection e with e
     have := HZ8.out
     omega))) HB8.out.size
   have hS5 := Kd.H_back hH2 (x' := Sum.inr nd) (okp := fun k => w8.heap.size ≤ k) (k62_mkM _ _ _ nd hR7) (fun k hk => .inr ⟨trivial, hk⟩); have hset : (List.map Sum.inr (List.take i l0) ++ List.map Sum.inl (List.drop i css) : List (List Value ⊕ S62)).set ((i : Int)).toNat (Sum.inr nd) = List.map Sum.inr (List.take (i + 1) l0) ++ List.map Sum.inl (List.drop (i + 1) css) := by
    rw [Int.toNat_natCast, List.set_append_right _ _ (by simp; omega), List.drop_eq_getElem_cons (show i < css.length by omega), List.map_cons]; simp only [List.length_map, List.length_take, Nat.min_eq_left hi1, Nat.sub_self, List.set_cons_zero]; rw [List.take_succ_eq_append_getElem c1, List.map_append, hnode, List.append_assoc]
    rfl
   rw [hset] at hS5; have HS5 : Aside0 (Kd.S (mix k62) 62 (w9.setCell ⟨g, i * 7 + 6, none⟩ (.slice A7 nd.f6.length c7)) w.heap.size (fun k_ => True) (.slice (some ⟨g, 0, none⟩) l0.length c) (List.map Sum.inr (List.take (i + 1) l0) ++ List.map Sum.inl (List.drop (i + 1) css))) := ⟨hS5⟩; have BF9 := nK BF8 hb6; have BR9 := nK BR8 hb6; have HB9 := below_then HB8.out HB8.out.size hb6; clear hS5 hH2 hG hH1 hR7 hR6 hb6 hf9 hx9 hHeld hK K hset; go_wp2; go_roundg (l0.length - (i + 1))
   case measure => have := HI.out; omega
   case rel => exact ⟨i + 1, by have := HLB.out; have hw : IntKind.i64.wrap ((i : Int) + 1) = ((i + 1 : Nat) : Int) := (by simp [IntKind.wrap, IntKind.bits, IntKind.signed]; omega); first | rw [hw] | (rw [i64_w] at hw; rw [hw]), ⟨by omega, by have := HI.out; omega⟩, ⟨blk_far BF9.out (Ne.symm hgF.out) _⟩, ⟨blk_far BR9.out (Ne.symm NGR.out) _⟩, HS5, ⟨below_set HB9 HGL.out.1⟩⟩
  ·obtain rfl : i = l0.length := by omega
   have hlt : ((l0.length : Int) < (l0.length : Int)) = False := by simp
   clear c1; go_wp2; refine bodyPost_ret (results_cell_row rfl _ _ gR 32 #[.slice A l0.length c, .int .i64 room] (0, 0) _ rfl (sX BR) Tryz.underlying32 rfl (by kernel_rfl)) rfl ?_; have HU : Aside0 (Kd.S k62 62 wr w.heap.size (fun k_ => True) (.slice A l0.length c) l0) := ⟨by have := HS.out; rw [List.take_of_length_le (Nat.le_refl _), List.drop_eq_nil_of_le (by rw [HN.out]; exact Nat.le_refl _), List.map_nil, List.append_nil] at this; exact unmix this⟩; exact ⟨_, sE, rSf HU BR (fun _ hk => trivial), sC⟩
theorem own_slack {w : World} {base e size n g cap : Nat} {inner : List Value} (h : w.ownsRow base e size (.slice (some ⟨g, 0, none⟩) n cap) n inner) {off : Nat} (ho : n * size ≤ off) (u : Value) : (w.setCell ⟨g, off, none⟩ u).ownsRow base e size (.slice (some ⟨g, 0, none⟩) n cap) n inner := by
 obtain ⟨h1, h2⟩ := h; refine ⟨h1, ?_⟩
 rcases h2 with ⟨h2, _⟩ | ⟨g', cap', cur, hv, hg, hh, hn, hm, hs, ht⟩
 ·cases h2
 ·injection hv with a _ b
  injection a with a
  injection a with a
  subst a b; refine .inr ⟨g, cap, cur.setIfInBounds off u, rfl, hg, blk_set hh off u, hn, hm, by rw [Array.size_setIfInBounds]; exact hs, ?_⟩; rw [← ht]; apply List.ext_getElem?
  intro i; rw [List.getElem?_take, List.getElem?_take]; by_cases hi : i < n * size
  ·rw [if_pos hi, if_pos hi, Array.getElem?_toList, Array.getElem?_toList, Array.getElem?_setIfInBounds_ne (by omega)]
  ·rw [if_neg hi, if_neg hi]
theorem R_slack1 {α : Type} {d : Kd α} {w : World} {base e n g cap : Nat} {ok : Nat → Prop} {xs : List α} (h : d.R e w base ok (.slice (some ⟨g, 0, none⟩) n cap) xs) {off : Nat} (ho : n * d.sz ≤ off) (u : Value) : d.R e (w.setCell ⟨g, off, none⟩ u) base ok (.slice (some ⟨g, 0, none⟩) n cap) xs := by
 have hn := (Kd.R_reads' h).1; obtain ⟨h0, inner, hw, hr⟩ := h; subst hn; refine ⟨h0, inner, own_slack hw ho u, hr.imp_ (fun p c hp => Kd.M_step hp (fun k hk hlt => Below.heap_setCell w ⟨g, off, none⟩ u k (fun e => hk.2 (by rw [e]; rfl))))⟩
theorem R_slack {α : Type} {d : Kd α} {base e n g cap : Nat} {ok : Nat → Prop} {xs : List α} : ∀ (vs : List Value) (w : World) (off : Nat), d.R e w base ok (.slice (some ⟨g, 0, none⟩) n cap) xs → n * d.sz ≤ off → d.R e (w.setCells g off vs) base ok (.slice (some ⟨g, 0, none⟩) n cap) xs
 | [], _, _, h, _ => h
 | v :: r, w, off, h, ho => R_slack r _ (off + 1) (R_slack1 h ho v) (by omega)
theorem Kp.setCells {w : World} {P : Nat → Prop} {g : Nat} (hP : P g) : ∀ (vs : List Value) (W : World) (off : Nat), Kp w W P → Kp w (W.setCells g off vs) P
 | [], _, _, h => h
 | v :: r, W, off, h => Kp.setCells hP r _ (off + 1) (Kp.setCell h (.inl hP) v)
theorem impl_drop_1.calls (gN : Nat) (nm : ByteArray) (x : S87) (w : World) (hbN : w.heap[gN]? = some (.cells #[.string nm] 9 (0, 0))) :
  Calls Tryz.prog 105 #[.agg #[.string x.f0, .int .i64 x.f1], .pointer (some ⟨gN, 0, none⟩)] w fun e w' => e = .returned (.bool (x.f0.toList == nm.toList)) ∧ Below w.heap.size w w' := by
 have HB := b0 w; have BN := aM hbN; clear hbN; have hu87 := Tryz.underlying87; have hcN := cb1 BN; go_enter Tryz.func105, Tryz.ntmps105
 go_wp2_with (first
  | ((with_reducible refine gd 2 rfl ?_); refine bxE 2 #[.string x.f0, .int .i64 x.f1] 87 ?_; intro gb hg w1 hbox hb; have BE := aM hbox; replace HB := nSB hb; have NE := nL BN hg; replace BN := nK BN hb; clear hb hbox hg; have hcN := cb1 BN; have hcE := cb2 BE))
 go_ret
 exact ⟨rfl, sB⟩
def ixI (l : List S87) (nm : ByteArray) : Int := if l.findIdx (fun x => x.f0.toList == nm.toList) < l.length then (l.findIdx (fun x => x.f0.toList == nm.toList) : Int) else -1
theorem slices_IndexFunc_E.calls (A0 : Option Addr) (c0 : Nat) (l0 : List S87) (gN : Nat) (nm : ByteArray) (w : World) (hr0 : Kd.C k87 w A0 l0.length l0) (hc0 : l0.length ≤ c0) (hl : l0.length < 5864062014805) (hbN : w.heap[gN]? = some (.cells #[.string nm] 9 (0, 0))) :
  Calls Tryz.prog 109 #[.slice A0 l0.length c0, .func (.func 105) #[] #[.pointer (some ⟨gN, 0, none⟩)]] w fun e w' => e = .returned (.int .i64 (ixI l0 nm)) ∧ Below w.heap.size w w' := by
 have HR0 := aM hr0; have HL := aM hl; have BN := aM hbN; have HB := b0 w; have hu87 := Tryz.underlying87; clear hr0 hc0 hl hbN; go_enter Tryz.func109, Tryz.ntmps109; go_wp2
 go_loopg [8] l0.length (fun kq v8 w' => ∃ i : Nat, v8 = .int .i64 i ∧ Aside0 (i ≤ l0.length ∧ l0.length ≤ i + kq) ∧ Aside0 (∀ j (hj : j < l0.length), j < i → (l0[j].f0.toList == nm.toList) = false) ∧ Aside0 (w'.heap[gN]? = some (.cells #[.string nm] 9 (0, 0))) ∧ Aside0 (Below w.heap.size w w'))
 case atStart => exact ⟨0, sR, ⟨Nat.zero_le _, by omega⟩, ⟨fun j _ hj => by omega⟩, ⟨sX BN⟩, ⟨sC⟩⟩
 case round =>
  clear BN HB; obtain ⟨i, rfl, HI, HN, BN, HB⟩ := hrel; by_cases c1 : i < l0.length
  ·have c1b : decide ((i : Int) < (l0.length : Int)) = true := decide_eq_true (by omega); have p1 : (0 : Int) ≤ (i : Int) := by omega
   have q1 : (i : Int) < (l0.length : Int) := by omega
   obtain ⟨ad, ead, hx0, hx1⟩ := at_T87 HR0.out (i : Int) p1 q1; cases ead; rw [Int.toNat_natCast] at hx0 hx1; replace hx0 := hB HB hx0; replace hx1 := hB HB hx1; have hrd : r87 l0 (i : Int) = l0[i] := by show l0.getD _ _ = _; rw [Int.toNat_natCast, List.getD_eq_getElem?_getD, List.getElem?_eq_getElem c1]; rfl
   rw [hrd] at hx0 hx1; have p2 := eq_true p1; have q2 := eq_true q1
   have HX := aM (show ∀ z, z = l0[i] → (∀ j (hj : j < l0.length), j < i → (l0[j].f0.toList == nm.toList) = false) → (z.f0.toList == nm.toList) = true → ixI l0 nm = (i : Int) from fun z hz hn ht => by
    subst hz; have : l0.findIdx (fun x => x.f0.toList == nm.toList) = i := (List.findIdx_eq c1).mpr ⟨ht, fun j hj => hn j (by omega) hj⟩; unfold ixI
    rw [this, if_pos c1])
   have HY := aM (show ∀ z, z = l0[i] → (z.f0.toList == nm.toList) = false → (∀ j (hj : j < l0.length), j < i → (l0[j].f0.toList == nm.toList) = false) → ∀ j (hj : j < l0.length), j < i + 1 → (l0[j].f0.toList == nm.toList) = false from fun z hz ht hn j hj hji => by
    subst hz
    rcases Nat.lt_or_ge j i with h | h
    ·exact hn j hj h
    ·obtain rfl : j = i := by omega
     exact ht)
   generalize hz : l0[i] = z at *; have HZ := aM hz; clear hz hrd p1 q1; by_cases c2 : (z.f0.toList == nm.toList) = true
   ·go_wp2_with (first | (go_at_call 105; go_loud (refine (impl_drop_1.calls gN nm z _ (sK BN)).mono ?_; rintro e w8 ⟨rfl, hb⟩; replace HB := nSB hb; replace BN := nK BN hb; clear hb)))
    go_ret
    exact ⟨by rw [HX.out z rfl HN.out c2]; rfl, sB⟩
   ·replace c2 := Bool.eq_false_iff.mpr c2
    go_wp2_with (first | (go_at_call 105; go_loud (refine (impl_drop_1.calls gN nm z _ (sK BN)).mono ?_; rintro e w8 ⟨rfl, hb⟩; replace HB := nSB hb; replace BN := nK BN hb; clear hb)))
    go_roundg (l0.length - (i + 1))
    case measure => have := HI.out; omega
    case rel => exact ⟨i + 1, by have := HL.out; have hw : IntKind.i64.wrap ((i : Int) + 1) = ((i + 1 : Nat) : Int) := (by simp [IntKind.wrap, IntKind.bits, IntKind.signed]; omega); first | rw [hw] | (rw [i64_w] at hw; rw [hw]), ⟨by omega, by have := HI.out; omega⟩, ⟨HY.out z rfl c2 HN.out⟩, ⟨sX BN⟩, ⟨sC⟩⟩
  ·obtain rfl : i = l0.length := by have := HI.out; omega
   have hlt : ((l0.length : Int) < (l0.length : Int)) = False := by simp
   clear c1; go_wp2; go_ret
   refine ⟨?_, sB⟩; have : ¬ l0.findIdx (fun x => x.f0.toList == nm.toList) < l0.length := by
    rw [List.findIdx_lt_length]; rintro ⟨x, hx, ht⟩; obtain ⟨j, hj, rfl⟩ := List.mem_iff_getElem.1 hx; rw [HN.out j hj hj] at ht; cases ht
   unfold ixI; rw [if_neg this]
   rfl
def encE (x : S87) : List Value := [.string x.f0, .int .i64 x.f1]
theorem rep_at (enc : S87 → List Value) (k : Nat) (hk : ∀ x, (enc x).length = k) (zr : S87) : ∀ n i : Nat, ((List.replicate n zr).flatMap enc)[i]? = if i < n * k then (enc zr)[i % k]? else none
 | 0, i => by simp
 | n + 1, i => by
  rw [List.replicate_succ, List.flatMap_cons, List.getElem?_append, hk]; by_cases h : i < k
  ·rw [if_pos h, if_pos (by rw [Nat.add_mul]; omega), Nat.mod_eq_of_lt h]
  ·rw [if_neg h, rep_at enc k hk zr n (i - k), ← Nat.mod_eq_sub_mod (by omega)]; by_cases h2 : i < (n + 1) * k
   ·rw [if_pos h2, if_pos (by rw [Nat.add_mul] at h2; omega)]
   ·rw [if_neg h2, if_neg (by rw [Nat.add_mul] at h2; omega)]
theorem zero_cells (n : Nat) : (Builtin.zeroCells #[Value.string (⟨#[]⟩ : ByteArray), Value.int .i64 0] n).toList = (List.replicate n z87).flatMap encE := by
 apply List.ext_getElem?
 intro i; rw [rep_at encE 2 (fun _ => rfl)]; simp only [Builtin.zeroCells, Array.toList_map, Array.toList_range, List.getElem?_map, List.getElem?_range]; by_cases h : i < n * 2
 ·rw [if_pos h]
  rcases Nat.mod_two_eq_zero_or_one i with e | e <;> simp [h, e, encE, z87]
 ·rw [if_neg h]
  simp [h]
theorem clear_run (w : World) (t ty : TypeId) (ht : Tryz.prog.underlying t = some (.slice 87)) (b o n c : Nat) (hn : 0 < n)
  (hc : ∀ j, j < n * 2 → (w.cell? ⟨b, o + j, none⟩).isSome = true) (hf : ∀ j, j < n * 2 → w.frozen? ⟨b, o + j, none⟩ = false) :
  (Builtin.clear_ #[t] ty #[.slice (some ⟨b, o, none⟩) n c]).run Tryz.prog w = .ok (.tuple #[]) (w.setCells b o ((List.replicate n z87).flatMap encE)) := by
 have hl : ((List.replicate n z87).flatMap encE).length = n * 2 := by
  rw [← zero_cells]; simp [Builtin.zeroCells]
 have hst := run_storeCells_cells (P := Tryz.prog) b o ((List.replicate n z87).flatMap encE) 0 w (by rw [hl]; simpa using hc) (by rw [hl]; simpa using hf) (by
  intro v hv; obtain ⟨x, _, hx⟩ := List.mem_flatMap.1 hv
  rcases List.mem_cons.1 hx with rfl | hx
  ·rfl
  ·rcases List.mem_cons.1 hx with rfl | hx
   ·rfl
   ·cases hx)
 simp only [Nat.add_zero] at hst; rw [← zero_cells] at hst ⊢; have hv : ∀ w, (zeroValue 87).run Tryz.prog w = .ok (.agg #[.string (⟨#[]⟩ : ByteArray), .int .i64 0]) w := Tryz.zeroValue87; obtain ⟨m, rfl⟩ : ∃ m, n = m + 1 := ⟨n - 1, by omega⟩
 simp [Builtin.clear_, run_underlying ht, hv, hst, Value.cells]
theorem ent_at {w : World} {base g n c : Nat} {ok : Nat → Prop} {xs : List S87} (h : Kd.R k87 87 w base ok (.slice (some ⟨g, 0, none⟩) n c) xs) (i : Nat) (hi : i < xs.length) :
  w.cell? ⟨g, i * 2, none⟩ = some (.string xs[i].f0) ∧ w.cell? ⟨g, i * 2 + 1, none⟩ = some (.int .i64 xs[i].f1) ∧ w.frozen? ⟨g, i * 2, none⟩ = false ∧ w.frozen? ⟨g, i * 2 + 1, none⟩ = false := by
 have hn := (Kd.R_reads' h).1; obtain ⟨cs, hl, hM, hcc, hf⟩ := Kd.R_elem h z87 (i : Int) (by omega) (by omega); rw [Int.toNat_natCast, List.getD_eq_getElem?_getD, List.getElem?_eq_getElem hi] at hM; obtain rfl := k87_openM hM; have h0 := hcc 0 _ rfl; have h1 := hcc 1 _ rfl; have f0 := hf 0; have f1 := hf 1; rw [Int.toNat_natCast] at h0 h1 f0 f1; exact ⟨h0, h1, f0, f1⟩
theorem ent_put {w : World} {base g n c : Nat} {ok : Nat → Prop} {xs : List S87} (h : Kd.R k87 87 w base ok (.slice (some ⟨g, 0, none⟩) n c) xs) (i : Nat) (hi : i < xs.length) (x : S87) :
  Kd.R k87 87 ((w.setCell ⟨g, i * 2, none⟩ (.string x.f0)).setCell ⟨g, i * 2 + 1, none⟩ (.int .i64 x.f1)) base ok (.slice (some ⟨g, 0, none⟩) n c) (xs.set i x) := by
 have hn := (Kd.R_reads' h).1; obtain ⟨cs, hl, hM, hcc, hf⟩ := Kd.R_elem h z87 (i : Int) (by omega) (by omega); obtain rfl := k87_openM hM; have := (Kd.R_seg h (i : Int) (by omega) (by omega) (seg := [.string x.f0, .int .i64 x.f1]) (j := 0) (x' := x) (okp := fun _ => False) hl hcc (show 0 + 2 ≤ 2 by omega) (k87_mkM _ _ _ x) (fun _ hk => hk.elim)).1; rw [Int.toNat_natCast] at this; exact this
theorem nRF {α : Type} {d : Kd α} {e base : Nat} {ok : Nat → Prop} {v : Value} {xs : List α} {w W w2 : World} (x : Aside0 (Kd.R d e w base ok v xs)) (hb : Below W.heap.size W w2) (h : Kd.R d e w base ok v xs → Kd.R d e W base ok v xs := by (intro x_; repeat (first | (with_reducible first | exact x_ | apply Kd.R_alloc | apply Kd.R_drewN | apply Kd.R_drew) | refine Kd.R_far ?_ (fun _ hk => hk.2) _ | exact x_))) : Aside0 (Kd.R d e w2 base ok v xs) := ⟨Kd.R_below (h x.out) hb⟩
theorem nKF {w W W2 : World} {S : Nat → Prop} {g : Nat} (x : Aside0 (Kp w W S)) (y : Aside0 (w.heap.size ≤ g)) {W1 : World} (hb : Below W1.heap.size W1 W2) (h : Kp w W S → Kp w W1 S := by (intro x_; repeat (first | exact x_ | apply Kp.drewN | apply Kp.drew | refine Kp.setCell ?_ (.inr (Aside0.out (by assumption))) _))) : Aside0 (Kp w W2 S) := ⟨Kp.below (h x.out) hb⟩
theorem rF {p q : Prop} (x : Aside0 p) (h : p → q := by (intro x_; repeat (first | (with_reducible first | exact x_ | apply Kd.R_alloc | apply Kd.R_drewN | apply Kd.R_drew) | refine Kd.R_far ?_ (fun _ hk => hk.2) _ | exact x_))) : q := h x.out
theorem kF {w W W2 : World} {S : Nat → Prop} {g : Nat} (x : Aside0 (Kp w W S)) (y : Aside0 (w.heap.size ≤ g)) (h : Kp w W S → Kp w W2 S := by (intro x_; repeat (first | exact x_ | apply Kp.drewN | apply Kp.drew | refine Kp.setCell ?_ (.inr (Aside0.out (by assumption))) _))) : Kp w W2 S := h x.out
def keepE (nm : ByteArray) (x : S87) : Bool := !(x.f0.toList == nm.toList)
theorem keep_step (l : List S87) (nm : ByteArray) (j : Nat) (hj : j < l.length) : (l.take (j + 1)).filter (keepE nm) = (l.take j).filter (keepE nm) ++ (if keepE nm l[j] = true then [l[j]] else []) := by
 rw [List.take_succ_eq_append_getElem hj, List.filter_append]
 congr 1
 by_cases h : keepE nm l[j] = true
 ·rw [if_pos h, List.filter_cons_of_pos h, List.filter_nil]
 ·rw [if_neg h, List.filter_cons_of_neg h, List.filter_nil]
theorem slices_DeleteFunc_E.calls (A0 : Option Addr) (c : Nat) (l0 : List S87) (gN : Nat) (nm : ByteArray) (base : Nat) (ok : Nat → Prop) (w : World) (hr0 : Kd.R k87 87 w base ok (.slice A0 l0.length c) l0) (hl : l0.length < 5864062014805) (hbN : w.heap[gN]? = some (.cells #[.string nm] 9 (0, 0))) :
  Calls Tryz.prog 104 #[.slice A0 l0.length c, .func (.func 105) #[] #[.pointer (some ⟨gN, 0, none⟩)]] w fun e w' => ∃ v' : Value, e = .returned v' ∧ Kd.R k87 87 w' base ok v' (l0.filter (keepE nm)) ∧ Kp w w' (fun k_ => some k_ = (Value.slice A0 l0.length c).ownBlock) := by
 have HR := aM hr0; have HL := aM hl; have BN := aM hbN; have hu87 := Tryz.underlying87; have hu60 := Tryz.underlying60; have HK := aM (Kp.refl w (fun k_ => some k_ = (Value.slice A0 l0.length c).ownBlock)); have hrd := Kd.R_reads' hr0; have HRD := aM hrd; clear hr0 hl hbN; by_cases hex : l0.findIdx (fun x => x.f0.toList == nm.toList) < l0.length
 rotate_left
 ·have hix : ixI l0 nm = -1 := by unfold ixI; rw [if_neg hex]
  have hfil : l0.filter (keepE nm) = l0 := by
   rw [List.filter_eq_self]; intro x hx; unfold keepE; cases h : (x.f0.toList == nm.toList) with
   | false => rfl
   | true => exact absurd (List.findIdx_lt_length.2 ⟨x, hx, h⟩) hex
  have HF := aM hfil; clear hex hfil hrd; go_enter Tryz.func104, Tryz.ntmps104
  go_wp2_with (first | (go_at_call 109; go_loud (refine (slices_IndexFunc_E.calls A0 c l0 gN nm _ (sD HRD.out.2.2) HRD.out.2.1 HL.out (sK BN)).mono ?_; rintro e w1 ⟨rfl, hb⟩; replace HK := aM (Kp.below HK.out hb); replace HR := nR HR hb; clear hb; rw [hix])))
  go_ret
  exact ⟨_, rfl, by rw [HF.out]; exact HR.out, HK.out⟩
 ·have hix : ixI l0 nm = (l0.findIdx (fun x => x.f0.toList == nm.toList) : Int) := by unfold ixI; rw [if_pos hex]
  obtain ⟨g, cap, eA, hg1, hg2, cells, hgc⟩ := Kd.R_form HR.out (by omega)
  injection eA with e1 e2 e3
  subst e1 e3; clear e2
  have HN0 := aM (show (l0.take (l0.findIdx (fun x => x.f0.toList == nm.toList) + 1)).filter (keepE nm) = l0.take (l0.findIdx (fun x => x.f0.toList == nm.toList)) from by
   rw [keep_step _ _ _ hex, if_neg (by
    have := List.findIdx_getElem (w := hex); unfold keepE
    rw [this]; simp), List.append_nil, List.filter_eq_self]
   intro x hx; obtain ⟨j, hj, rfl⟩ := List.mem_iff_getElem.1 hx; rw [List.length_take] at hj; rw [List.getElem_take]; have := List.not_of_lt_findIdx (p := fun x : S87 => x.f0.toList == nm.toList) (xs := l0) (i := j) (by omega); unfold keepE
   simpa using this)
  generalize hi0 : l0.findIdx (fun x => x.f0.toList == nm.toList) = i0 at *; have NGN : Aside0 (gN ≠ g) := ⟨fun e => by subst e; have := hgc.symm.trans BN.out; injection this with this; injection this with _ t; cases t⟩; have HG := aM (And.intro hg1 hg2); have hw0 : IntKind.i64.wrap ((i0 : Int) + 1) = ((i0 + 1 : Nat) : Int) := by have := HL.out; simp [IntKind.wrap, IntKind.bits, IntKind.signed]; omega
  have hne0 : ((i0 : Int) == -1) = false := by rw [beq_eq_false_iff_ne]; omega
  have hn1 : ¬ ((i0 : Int) = -1) := by omega
  clear hgc hg1 hg2 hi0; have HEX := aM hex; clear hex hrd; go_enter Tryz.func104, Tryz.ntmps104
  go_wp2_with (first | (go_at_call 109; go_loud (refine (slices_IndexFunc_E.calls _ c l0 gN nm _ (sD HRD.out.2.2) HRD.out.2.1 HL.out (sK BN)).mono ?_; rintro e w1 ⟨rfl, hb⟩; replace HK := aM (Kp.below HK.out hb); replace HR := nR HR hb; replace BN := nK BN hb; clear hb; rw [hix])))
  go_loopg [5, 6] l0.length (fun kq v5 v6 w' => ∃ (i j : Nat) (cur : List S87), v5 = .int .i64 i ∧ v6 = .int .i64 j ∧ Aside0 (i < j ∧ j ≤ l0.length ∧ l0.length ≤ j + kq) ∧ Aside0 (cur.length = l0.length ∧ cur.take i = (l0.take j).filter (keepE nm) ∧ cur.drop j = l0.drop j) ∧ Aside0 (Kd.R k87 87 w' base ok (.slice (some ⟨g, 0, none⟩) l0.length c) cur) ∧ Aside0 (w'.heap[gN]? = some (.cells #[.string nm] 9 (0, 0))) ∧ Aside0 (Kp w w' (fun k_ => some k_ = (Value.slice (some ⟨g, 0, none⟩) l0.length c).ownBlock)))
  case atStart => exact ⟨i0, i0 + 1, l0, rfl, by first | rfl | (simp; done) | rw [hw0] | (rw [i64_w] at hw0; rw [hw0]), ⟨by omega, by have := HEX.out; omega, by omega⟩, ⟨rfl, HN0.out.symm, rfl⟩, ⟨by exact rR HR⟩, ⟨sX BN⟩, ⟨by repeat (first | exact HK.out | apply Kp.drewN | apply Kp.drew)⟩⟩
  case round =>
   clear HR BN HK HN0 HEX hix hw0; obtain ⟨i, j, cur, rfl, rfl, HI, HC, HR, BN, HK⟩ := hrel; have hij := HI.out.1; have hjn := HI.out.2.1; have hcl := HC.out.1; by_cases c1 : j < l0.length
   ·have c1b : decide ((j : Int) < (l0.length : Int)) = true := decide_eq_true (by omega); have hcj : cur[j]'(by omega) = l0[j] := by
     have := congrArg (fun l => l[0]?) HC.out.2.2; simp only [List.getElem?_drop, Nat.add_zero, List.getElem?_eq_getElem (show j < cur.length by omega), List.getElem?_eq_getElem c1] at this; exact Option.some.inj this
    obtain ⟨hx0, hx1, hf0, hf1⟩ := ent_at HR.out j (by omega); rw [hcj] at hx0 hx1; have HT := aM (keep_step l0 nm j c1); generalize hz : l0[j] = z at *; have HZ := aM hz; have HCJ := aM hcj; have p1 : (0 ≤ (j : Int)) = True := eq_true (by omega); have q1 : ((j : Int) < (l0.length : Int)) = True := eq_true (by omega); have p2 : (0 ≤ (i : Int)) = True := eq_true (by omega); have q2 : ((i : Int) < (l0.length : Int)) = True := eq_true (by omega); clear hz hcj; have hw1 : IntKind.i64.wrap ((j : Int) + 1) = ((j + 1 : Nat) : Int) := by have := HL.out; simp [IntKind.wrap, IntKind.bits, IntKind.signed]; omega
    have hw2 : IntKind.i64.wrap ((i : Int) + 1) = ((i + 1 : Nat) : Int) := by have := HL.out; simp [IntKind.wrap, IntKind.bits, IntKind.signed]; omega
    rw [i64_w] at hw1 hw2; have HW := aM (And.intro hw1 hw2); clear hw1 hw2; cases hk : keepE nm z with
    | false =>
     have hk2 : (z.f0.toList == nm.toList) = true := by unfold keepE at hk; simpa using hk
     rw [hk] at HT; clear hk
     go_wp2_with (first
      | ((with_reducible refine gd 7 rfl ?_); refine bxE 7 #[.string (⟨#[]⟩ : ByteArray), .int .i64 0] 87 ?_; intro gV hg w2 hbox hb; have BV := aM hbox; have GV := aM (show w.heap.size ≤ gV by rw [hg]; exact HK.out.1); replace HK := aM (Kp.below HK.out hb); have NV := nL BN hg; replace HR := nR (aM (Kd.R_mono (ok' := fun k_ => ok k_ ∧ k_ ≠ gV) (Kd.R_bound HR.out) (fun k hk => ⟨hk.1, by have h3 := hk.2.2.1; intro e3; subst e3; rw [hg] at h3; exact Nat.lt_irrefl _ h3⟩))) hb; replace BN := nK BN hb; clear hb hbox hg; have hcV := cb2 BV)
      | (go_at_call 105; go_loud (refine (impl_drop_1.calls gN nm z _ (sX BN)).mono ?_; rintro e w8 ⟨rfl, hb⟩; replace HR := nRF HR hb; replace BN := nF BN hb; replace HK := nKF HK GV hb; clear hb)))
     go_roundg (l0.length - (j + 1))
     case measure => have := HI.out; omega
     case rel => exact ⟨i, j + 1, cur, rfl, by rw [HW.out.1], ⟨by omega, by omega, by omega⟩, ⟨hcl, by rw [HT.out, HC.out.2.1]; simp, by have := congrArg (List.drop 1) HC.out.2.2; rwa [List.drop_drop, List.drop_drop] at this⟩, ⟨Kd.R_mono (ok := fun k_ => ok k_ ∧ k_ ≠ gV) (rF HR) (fun _ hk => hk.1)⟩, ⟨sX BN⟩, ⟨kF HK GV⟩⟩
    | true =>
     have hk2 : (z.f0.toList == nm.toList) = false := by unfold keepE at hk; simpa using hk
     rw [hk] at HT; clear hk; have hic : i < cur.length := by omega
     go_wp2_with (first
      | ((with_reducible refine gd 7 rfl ?_); refine bxE 7 #[.string (⟨#[]⟩ : ByteArray), .int .i64 0] 87 ?_; intro gV hg w2 hbox hb; have BV := aM hbox; have GV := aM (show w.heap.size ≤ gV by rw [hg]; exact HK.out.1); replace HK := aM (Kp.below HK.out hb); have NV := nL BN hg; replace HR := nR (aM (Kd.R_mono (ok' := fun k_ => ok k_ ∧ k_ ≠ gV) (Kd.R_bound HR.out) (fun k hk => ⟨hk.1, by have h3 := hk.2.2.1; intro e3; subst e3; rw [hg] at h3; exact Nat.lt_irrefl _ h3⟩))) hb; replace BN := nK BN hb; clear hb hbox hg; have hcV := cb2 BV)
      | (go_at_call 105; go_loud (refine (impl_drop_1.calls gN nm z _ (sX BN)).mono ?_; rintro e w8 ⟨rfl, hb⟩; replace HR := nRF HR hb; replace BN := nF BN hb; replace HK := nKF HK GV hb; replace BV := nX #[.string z.f0, .int .i64 z.f1] BV hb; clear hb hcV hx0 hx1 hf0 hf1; have hcV := cb2 BV; have hxi := ent_at HR.out i hic)))
     go_roundg (l0.length - (j + 1))
     case measure => have := HI.out; omega
     case rel => exact ⟨i + 1, j + 1, cur.set i z, by rw [HW.out.2], by rw [HW.out.1], ⟨by omega, by omega, by omega⟩, ⟨by rw [List.length_set]; exact hcl, by rw [HT.out, List.take_succ_eq_append_getElem (by rw [List.length_set]; exact hic), List.take_set_of_le (Nat.le_refl _), List.getElem_set_self, HC.out.2.1]; simp, by rw [List.drop_set_of_lt (by omega)]; have := congrArg (List.drop 1) HC.out.2.2; rwa [List.drop_drop, List.drop_drop] at this⟩, ⟨Kd.R_mono (ok := fun k_ => ok k_ ∧ k_ ≠ gV) (ent_put (rF HR) i hic z) (fun _ hk => hk.1)⟩, ⟨blk_far (blk_far BN.out NGN.out _) NGN.out _⟩, ⟨Kp.setCell (p := ⟨g, i * 2 + 1, none⟩) (Kp.setCell (p := ⟨g, i * 2, none⟩) HK.out (.inl rfl) _) (.inl rfl) _⟩⟩
   ·obtain rfl : j = l0.length := by omega
    have hlt : ((l0.length : Int) < (l0.length : Int)) = False := by simp
    have hfin : cur.take i = l0.filter (keepE nm) := by rw [HC.out.2.1, List.take_of_length_le (Nat.le_refl _)]
    have hcl2 : ∀ ty, (Builtin.clear_ #[60] ty #[.slice (some ⟨g, i * 2, none⟩) (l0.length - i) (c - i)]).run Tryz.prog wr = .ok (.tuple #[]) (wr.setCells g (i * 2) ((List.replicate (l0.length - i) z87).flatMap encE)) :=
     fun ty => clear_run wr 60 ty Tryz.underlying60 g (i * 2) (l0.length - i) (c - i) (by omega) (fun q hq => by
      obtain ⟨a0, a1, _, _⟩ := ent_at HR.out (i + q / 2) (by omega)
      rcases Nat.mod_two_eq_zero_or_one q with e | e
      ·rw [show i * 2 + q = (i + q / 2) * 2 by omega, a0]; rfl
      ·rw [show i * 2 + q = (i + q / 2) * 2 + 1 by omega, a1]; rfl) (fun q hq => by
      obtain ⟨_, _, a0, a1⟩ := ent_at HR.out (i + q / 2) (by omega)
      rcases Nat.mod_two_eq_zero_or_one q with e | e
      ·rw [show i * 2 + q = (i + q / 2) * 2 by omega]; exact a0
      ·rw [show i * 2 + q = (i + q / 2) * 2 + 1 by omega]; exact a1)
    have p2 : (0 ≤ (i : Int)) = True := eq_true (by omega); have q2 : ((i : Int) ≤ (l0.length : Int)) = True := eq_true (by omega); have HF := aM hfin; have q3 : (i ≤ c) = True := eq_true (by have := HRD.out.2.1; omega); have q5 : (c = i) = False := eq_false (by have := HRD.out.2.1; omega); have q6 : (i = c) = False := eq_false (by have := HRD.out.2.1; omega); have q7 : (c - i = 0) = False := eq_false (by have := HRD.out.2.1; omega); have q4 : ((i : Int) ≤ (c : Int)) = True := eq_true (by have := HRD.out.2.1; omega); have hic : i < c := by have := HRD.out.2.1; omega
    clear c1 hfin; go_wp2; go_ret
    refine ⟨_, rfl, ?_, Kp.setCells (P := fun k_ => some k_ = (Value.slice (some ⟨g, 0, none⟩) l0.length c).ownBlock) rfl _ _ _ HK.out⟩; have h9 := R_slack ((List.replicate (l0.length - i) z87).flatMap encE) wr (i * 2) (Kd.R_take (m := i) HR.out (by omega)) (Nat.le_refl _); rw [HF.out] at h9; exact h9
def dropN (ns : List S62) (dir : Int) (nm : ByteArray) (t : Int) : List S62 := ns.set dir.toNat ⟨(r62 ns dir).f0, (r62 ns dir).f1, (r62 ns dir).f2, (r62 ns dir).f3, t, (r62 ns dir).f5, (r62 ns dir).f6.filter (keepE nm)⟩
theorem Hseg1 {d : Kd S62} {e : Nat} {w : World} {base g n cap : Nat} {ok oki : Nat → Prop} {xs : List S62} {i : Int} {c : List Value} (h : Kd.H d e w base ok (.slice (some ⟨g, 0, none⟩) n cap) xs i oki c) (h0 : 0 ≤ i) (h1 : i < n) (j : Nat) (u : Value) (hj : j + 1 ≤ d.sz) (hu : u.oneCell' = true) :
  Kd.H d e (w.setCell ⟨g, i.toNat * d.sz + j, none⟩ u) base ok (.slice (some ⟨g, 0, none⟩) n cap) xs i oki (c.take j ++ [u] ++ c.drop (j + 1)) := (Kd.H_seg h h0 h1 (seg := [u]) (j := j) hj (fun q hq => by rw [List.mem_singleton.1 hq]; exact hu)).1
set_option maxHeartbeats 400000 in
theorem impl_Fs_drop.calls (g c : Nat) (ns : List S62) (room dir : Int) (nm : ByteArray) (t : Int) (base : Nat) (ok : Nat → Prop) (w : World) (hS : Kd.S k62 62 w base ok (.slice (some ⟨g, 0, none⟩) ns.length c) ns) (h0 : 0 ≤ dir) (h1 : dir < (ns.length : Int)) (hl : (r62 ns dir).f6.length < 5864062014805) :
  Calls Tryz.prog 92 #[.agg #[.slice (some ⟨g, 0, none⟩) ns.length c, .int .i64 room], .int .i64 dir, .string nm, .int .i64 t] w fun e w' => e = .returned (.tuple #[]) ∧ Kd.S k62 62 w' base ok (.slice (some ⟨g, 0, none⟩) ns.length c) (dropN ns dir nm t) ∧ Kp w w' ok := by
 have hu32 := Tryz.underlying32; have hu62 := Tryz.underlying62; have hu30 := Tryz.underlying30; have HL := aM hl; have HGok := aM ((Kd.S_R hS).1 g rfl); obtain ⟨oki, ce, hcel, hM, hcc, hfr, hoki, hH⟩ := Kd.S_elem hS z62 dir h0 h1; rw [show ns.getD dir.toNat z62 = r62 ns dir from rfl] at hM; obtain ⟨v6, rfl, hR⟩ := k62_openM hM; obtain ⟨A6, c6, e6⟩ := Kd.R_slice hR; subst e6; have hgt : Aside0 (∃ cells, w.heap[g]? = some (.cells cells 62 (0, 0))) := ⟨(Kd.S_typed hS) g rfl⟩; have hx6 := hcc 6 _ rfl; have hx4 := hcc 4 _ rfl; have hf6 := hfr 6; have hf4 := hfr 4; change w.cell? ⟨g, dir.toNat * 7 + 6, none⟩ = _ at hx6
 change w.cell? ⟨g, dir.toNat * 7 + 4, none⟩ = _ at hx4
 change w.frozen? ⟨g, dir.toNat * 7 + 6, none⟩ = _ at hf6
 change w.frozen? ⟨g, dir.toNat * 7 + 4, none⟩ = _ at hf4
 have HR := aM hR; have HH := aM hH; have HOK := aM hoki; have HB := b0 w; have HGL : Aside0 (g < w.heap.size) := ⟨by obtain ⟨_, h⟩ := hgt.out; exact blk_lt h⟩; have p1 := eq_true h0; have q1 := eq_true h1; have HD := aM (And.intro h0 h1); unfold dropN; generalize r62 ns dir = nd at *; clear hS hM hcc hfr hoki hH hR hl h0 h1 hcel; go_enter Tryz.func92, Tryz.ntmps92
 go_wp2_with (first
  | ((with_reducible refine gd 4 rfl ?_); refine bxE 4 #[.slice (some ⟨g, 0, none⟩) ns.length c, .int .i64 room] 32 ?_; intro gF hg w1 hbox hb; have BF := aM hbox; replace HB := nSB hb; replace HR := nR HR hb; clear hb hbox hg; have hcF := cb2 BF)
  | ((with_reducible refine gd 6 rfl ?_); refine bxE 6 #[.string nm] 9 ?_; intro gN hg w2 hbox hb; have BN := aM hbox; replace HB := nSB hb; replace HR := nR HR hb; replace BF := nK BF hb; replace hx6 := hB HB hx6; replace hx4 := hB HB hx4; clear hb hbox hg; have hcF := cb2 BF; have hcN := cb1 BN)
  | (go_at_call 104; go_loud (refine (slices_DeleteFunc_E.calls A6 c6 nd.f6 gN nm base oki _ (rR HR) HL.out (sK BN)).mono ?_; rintro e w3 ⟨v7, rfl, hR7, hK7⟩; obtain ⟨A7, c7, e7⟩ := Kd.R_slice hR7; subst e7; have NG := aM (show ¬ (some g = (Value.slice A6 nd.f6.length c6).ownBlock) from fun e => (HOK.out g (HR.out.1 g e.symm)).2 rfl); have HB3 := HB; replace hx6 := cell_kp hx6 hK7 NG.out; replace hx4 := cell_kp hx4 hK7 NG.out; replace hf6 := (World.frozen?_of_block (a := ⟨g, dir.toNat * 7 + 6, none⟩) ((hK7.2 g (Nat.lt_of_lt_of_le HGL.out HB.out.size) NG.out).trans (HB.out.block g HGL.out))).trans hf6; replace hf4 := (World.frozen?_of_block (a := ⟨g, dir.toNat * 7 + 4, none⟩) ((hK7.2 g (Nat.lt_of_lt_of_le HGL.out HB.out.size) NG.out).trans (HB.out.block g HGL.out))).trans hf4; have HR7 := aM hR7; have HK7 := aM hK7; have HBa := HB; clear hR7 hK7)))
 go_end0
 have hok6 : ∀ k_, some k_ = (Value.slice A6 nd.f6.length c6).ownBlock → oki k_ := fun k_ hk => HR.out.1 k_ hk.symm
 have hB := HBa.out; have hK := HK7.out; have hH1 := Kd.H_step (Kd.H_below HH.out hB) (fun k_ _ hn hlt => hK.2 k_ hlt (fun hk => hn (hok6 k_ hk))); have hH2 := Hseg1 (d := k62) hH1 HD.out.1 HD.out.2 6 (.slice A7 (nd.f6.filter (keepE nm)).length c7) (by decide) rfl; have hH3 := Hseg1 (d := k62) hH2 HD.out.1 HD.out.2 4 (.int .i64 t) (by decide) rfl; have hne : ∀ k_, oki k_ → k_ ≠ g := fun k_ hk => (HOK.out k_ hk).2
 have hR9 := Kd.R_far (p := ⟨g, dir.toNat * 7 + 4, none⟩) (Kd.R_far (p := ⟨g, dir.toNat * 7 + 6, none⟩) HR7.out hne (.slice A7 (nd.f6.filter (keepE nm)).length c7)) hne (.int .i64 t); have hS9 := Kd.H_back hH3 (x' := (⟨nd.f0, nd.f1, nd.f2, nd.f3, t, nd.f5, nd.f6.filter (keepE nm)⟩ : S62)) (okp := oki) (k62_mkM _ _ _ (⟨nd.f0, nd.f1, nd.f2, nd.f3, t, nd.f5, nd.f6.filter (keepE nm)⟩ : S62) hR9) (fun _ hk => hk); refine ⟨rfl, hS9, ?_⟩; exact Kp.setCell (p := ⟨g, dir.toNat * 7 + 4, none⟩) (Kp.setCell (p := ⟨g, dir.toNat * 7 + 6, none⟩) (Kp.then_ (Kp.of_below hB ok) hK (fun k_ hk => .inl (HOK.out k_ (hok6 k_ hk)).1)) (.inl HGok.out) _) (.inl HGok.out) _
def impl_Fs_unlink.f (k : Nat) (ns : List S62) (room dir : Int) (nm : ByteArray) (t : Int) : Option (List S62) :=
 (impl_Fs_entry.f k ns room dir nm).bind fun node => if 0 ≤ dir ∧ dir < (ns.length : Int) ∧ (r62 ns dir).f6.length < 5864062014805 then ((impl_Fs_links.f k (dropN ns dir nm t) room).bind fun out => if 0 ≤ node ∧ node < (out.length : Int) then (if rd out node = 0 then (if node < (ns.length : Int) then some ((dropN ns dir nm t).set node.toNat z62) else none) else some (dropN ns dir nm t)) else none) else none
theorem drop_len (ns : List S62) (dir : Int) (nm : ByteArray) (t : Int) : (dropN ns dir nm t).length = ns.length := List.length_set ..
set_option maxHeartbeats 1000000 in
theorem impl_Fs_unlink.calls (k : Nat) (g c : Nat) (ns : List S62) (room dir : Int) (nm : ByteArray) (t : Int) (r : List S62) (base : Nat) (ok : Nat → Prop) (w : World) (hS : Kd.S k62 62 w base ok (.slice (some ⟨g, 0, none⟩) ns.length c) ns) (hok : ∀ k_, ok k_ → k_ < w.heap.size) (h : impl_Fs_unlink.f k ns room dir nm t = some r) :
  Calls Tryz.prog 71 #[.agg #[.slice (some ⟨g, 0, none⟩) ns.length c, .int .i64 room], .int .i64 dir, .string nm, .int .i64 t] w fun e w' => e = .returned (.tuple #[]) ∧ Kd.S k62 62 w' base ok (.slice (some ⟨g, 0, none⟩) ns.length c) r ∧ Kp w w' ok := by
 unfold impl_Fs_unlink.f at h; obtain ⟨node, hE, h⟩ := Option.bind_eq_some_iff.mp h
 split at h
 rotate_left
 ·cases h
 rename_i hb0
 obtain ⟨h0, h1, hl⟩ := hb0; obtain ⟨out, hL, h⟩ := Option.bind_eq_some_iff.mp h
 split at h
 rotate_left
 ·cases h
 rename_i hb1
 obtain ⟨n0, n1⟩ := hb1; have hu32 := Tryz.underlying32; have hu62 := Tryz.underlying62; have hu30 := Tryz.underlying30; have HE := aM hE; have HL := aM hL; have HS := aM hS; have HK := aM (Kp.refl w ok); have HOK := aM hok; have HD := aM (And.intro h0 (And.intro h1 hl)); have HLen := aM (drop_len ns dir nm t); have HGok := aM ((Kd.S_R hS).1 g rfl); have HGL : Aside0 (g < w.heap.size) := ⟨Kd.S_lt hS g rfl⟩; clear hE hL hS hok h0 h1 hl; generalize hD : dropN ns dir nm t = ds at *; have p1 := eq_true n0; have q1 := eq_true n1; by_cases hz : rd out node = 0
 ·rw [if_pos hz] at h
  split at h
  rotate_left
  ·cases h
  rename_i n2
  obtain rfl := Option.some.inj h; clear h; have q2 := eq_true n2; have HN := aM (And.intro n0 n2); have HO1 := aM (And.intro n0 n1); go_enter Tryz.func71, Tryz.ntmps71
  go_wp2_with (first
   | ((with_reducible refine gd 4 rfl ?_); refine bxE 4 #[.slice (some ⟨g, 0, none⟩) ns.length c, .int .i64 room] 32 ?_; intro gF hg w1 hbox hb; have BF := aM hbox; replace HK := aM (Kp.below HK.out hb); have NF := aM (show ∀ k_, ok k_ → k_ ≠ gF from fun k_ hk e => by have := HOK.out k_ hk; rw [e, hg] at this; exact Nat.lt_irrefl _ this); have GF := aM (show w.heap.size ≤ gF by rw [hg]; exact Nat.le_refl _); replace HS := nS HS hb; clear hb hbox hg; have hcF := cb2 BF)
   | (go_at_call 67; go_loud (refine (impl_Fs_entry.calls k _ _ ns room dir nm node _ (sD (Kd.S_reads' HS.out).2.2) (Kd.S_reads' HS.out).2.1 HE.out).mono ?_; rintro e w2 ⟨rfl, hb⟩; replace HK := aM (Kp.below HK.out hb); replace HS := nS HS hb; replace BF := nK BF hb; clear hb; have hcF := cb2 BF))
   | (go_at_call 92; go_loud (refine (impl_Fs_drop.calls g c ns room dir nm t base ok _ (rS HS) HD.out.1 HD.out.2.1 HD.out.2.2).mono ?_; rintro e w3 ⟨rfl, hS3, hK3⟩; rw [hD] at hS3; replace HK := aM (Kp.then_ HK.out hK3 (fun k_ hk => .inl hk)); replace BF := aM (blk_kp BF.out hK3 (fun hk => NF.out gF hk rfl)); replace HS := aM hS3; clear hS3 hK3; have hcF := cb2 BF))
   | (go_at_call 88; go_loud (have hS4 := HS.out; rw [← HLen.out] at hS4 ⊢; refine (impl_Fs_links.calls k _ _ ds room out _ (sD (Kd.S_reads' hS4).2.2) (Kd.S_reads' hS4).2.1 HL.out).mono ?_; rintro e w4 ⟨v, rfl, hR4, hb⟩; obtain ⟨gO, cO, eO, _, _, _⟩ := Kd.R_form hR4 (by have := HO1.out; omega); subst eO; have hx4 : w4.cell? ⟨gO, node.toNat, none⟩ = some (.int .i64 (rd out node)) := (Kd.R_cell (0 : Int) hR4 node HO1.out.1 (by have := HO1.out; omega)).1; replace HK := aM (Kp.below HK.out hb); replace HS := nS HS hb; replace BF := nK BF hb; clear hS4; have hcF := cb2 BF; rw [HLen.out]; rw [hz] at hx4; obtain ⟨oki, ce, hcel, hM, hcc, hfr, hoki, hH⟩ := Kd.S_elem HS.out z62 node HN.out.1 HN.out.2; rw [show ds.getD node.toNat z62 = r62 ds node from rfl] at hM; obtain ⟨v6, rfl, hR⟩ := k62_openM hM; have y0 := hcc 0 _ rfl; have y1 := hcc 1 _ rfl; have y2 := hcc 2 _ rfl; have y3 := hcc 3 _ rfl; have y4 := hcc 4 _ rfl; have y5 := hcc 5 _ rfl; have y6 := hcc 6 _ rfl; have f0 := hfr 0; have f1 := hfr 1; have f2 := hfr 2; have f3 := hfr 3; have f4 := hfr 4; have f5 := hfr 5; have f6 := hfr 6; rw [show (k62).sz = 7 from rfl] at y0 y1 y2 y3 y4 y5 y6 f0 f1 f2 f3 f4 f5 f6; rw [Nat.add_zero] at y0 f0; have HH := aM hH; clear hcc hfr hcel hM hH hR hoki)))
  go_end0
  have hH := HH.out
  obtain ⟨hH2, hG⟩ := Kd.H_seg (seg := [Value.int .i64 0, .int .i64 0, .int .i64 0, .int .i64 0, .int .i64 0, .string (⟨#[]⟩ : ByteArray), .slice none 0 0]) (j := 0) hH HN.out.1 HN.out.2 (show 0 + 7 ≤ 7 by omega) (fun q hq => by
   simp only [List.mem_cons, List.not_mem_nil, or_false] at hq
   rcases hq with rfl | rfl | rfl | rfl | rfl | rfl | rfl <;> rfl)
  have hS5 := Kd.H_back hH2 (x' := z62) (okp := fun _ => False) (k62_mkM _ _ _ z62 (Kd.R_nil _ _ _ _ _)) (fun _ hk => hk.elim); refine ⟨rfl, hS5, ?_⟩; exact Kp.setCells (P := ok) HGok.out [Value.int .i64 0, .int .i64 0, .int .i64 0, .int .i64 0, .int .i64 0, .string (⟨#[]⟩ : ByteArray), .slice none 0 0] w4 (node.toNat * 7) HK.out
 ·rw [if_neg hz] at h; obtain rfl := Option.some.inj h; clear h; have HO1 := aM (And.intro n0 n1); have hzb : (rd out node == 0) = false := by rw [beq_eq_false_iff_ne]; exact hz
  go_enter Tryz.func71, Tryz.ntmps71
  go_wp2_with (first
   | ((with_reducible refine gd 4 rfl ?_); refine bxE 4 #[.slice (some ⟨g, 0, none⟩) ns.length c, .int .i64 room] 32 ?_; intro gF hg w1 hbox hb; have BF := aM hbox; replace HK := aM (Kp.below HK.out hb); have NF := aM (show ∀ k_, ok k_ → k_ ≠ gF from fun k_ hk e => by have := HOK.out k_ hk; rw [e, hg] at this; exact Nat.lt_irrefl _ this); have GF := aM (show w.heap.size ≤ gF by rw [hg]; exact Nat.le_refl _); replace HS := nS HS hb; clear hb hbox hg; have hcF := cb2 BF)
   | (go_at_call 67; go_loud (refine (impl_Fs_entry.calls k _ _ ns room dir nm node _ (sD (Kd.S_reads' HS.out).2.2) (Kd.S_reads' HS.out).2.1 HE.out).mono ?_; rintro e w2 ⟨rfl, hb⟩; replace HK := aM (Kp.below HK.out hb); replace HS := nS HS hb; replace BF := nK BF hb; clear hb; have hcF := cb2 BF))
   | (go_at_call 92; go_loud (refine (impl_Fs_drop.calls g c ns room dir nm t base ok _ (rS HS) HD.out.1 HD.out.2.1 HD.out.2.2).mono ?_; rintro e w3 ⟨rfl, hS3, hK3⟩; rw [hD] at hS3; replace HK := aM (Kp.then_ HK.out hK3 (fun k_ hk => .inl hk)); replace BF := aM (blk_kp BF.out hK3 (fun hk => NF.out gF hk rfl)); replace HS := aM hS3; clear hS3 hK3; have hcF := cb2 BF))
   | (go_at_call 88; go_loud (have hS4 := HS.out; rw [← HLen.out] at hS4 ⊢; refine (impl_Fs_links.calls k _ _ ds room out _ (sD (Kd.S_reads' hS4).2.2) (Kd.S_reads' hS4).2.1 HL.out).mono ?_; rintro e w4 ⟨v, rfl, hR4, hb⟩; obtain ⟨gO, cO, eO, _, _, _⟩ := Kd.R_form hR4 (by have := HO1.out; omega); subst eO; have hx4 : w4.cell? ⟨gO, node.toNat, none⟩ = some (.int .i64 (rd out node)) := (Kd.R_cell (0 : Int) hR4 node HO1.out.1 (by have := HO1.out; omega)).1; replace HK := aM (Kp.below HK.out hb); replace HS := nS HS hb; replace BF := nK BF hb; clear hS4; have hcF := cb2 BF; rw [HLen.out])))
  go_end0
  exact ⟨rfl, rS HS, by repeat (first | exact HK.out | apply Kp.drewN | apply Kp.drew)⟩
structure S111 where
 f0 : ByteArray
 f1 : Int
def k111 : Kd S111 := Kd.iso (Kd.pair Kd.string (Kd.int .i64)) (fun x : S111 => (x.f0, x.f1))
theorem k111_mkM (w : World) (base : Nat) (ok : Nat → Prop) (x : S111)  : k111.M w base ok x [.string x.f0, .int .i64 x.f1] := ⟨[.string x.f0], [.int .i64 x.f1], rfl, rfl, rfl⟩
theorem info111 : (Tryz.prog.info? 111).map (fun i => (i.zero, i.size, i.bytes)) = some (some (.agg #[(.string ⟨#[]⟩), (.int .i64 0)]), 2, 24) := by kernel_rfl
def faultO (ns : List S62) (fs : List S111) (path : ByteArray) : Option (Bool × List S62 × List S111) := if fs.length < 5864062014804 then some (false, ns, fs ++ [⟨path, 4⟩]) else none
def impl_Fs_take.t (k : Nat) (ns : List S62) (room u gi dir : Int) (na path : ByteArray) (t : Int) (fs : List S111) : Option (Bool × List S62 × List S111) :=
 (impl_Fs_mayChange.f ns room u gi dir).bind fun b => if b = true then ((impl_Fs_unlink.f k ns room dir na t).bind fun ns' => some (true, ns', fs)) else faultO ns fs path
mutual
def impl_Fs_take.f : Nat → List S62 → Int → Int → Int → Int → ByteArray → ByteArray → Int → List S111 → Option (Bool × List S62 × List S111)
 | 0, _, _, _, _, _, _, _, _, _ => none
 | k + 1, ns, room, u, gi, dir, na, path, t, fs => (impl_Fs_entry.f k ns room dir na).bind fun node => if 0 ≤ node ∧ node < (ns.length : Int) ∧ (r62 ns node).f6.length < 5864062014805 then (if 0 < (r62 ns node).f6.length then ((impl_Fs_mayLook.f ns room u gi node).bind fun b => if b = true then ((impl_Fs_take.l0 k ns room u gi node path t fs (r62 ns node).f6 0 true).bind fun x => if x.1 = true then impl_Fs_take.t k x.2.1 room u gi dir na path t x.2.2 else some (false, x.2.1, x.2.2)) else faultO ns fs path) else impl_Fs_take.t k ns room u gi dir na path t fs) else none
def impl_Fs_take.l0 : Nat → List S62 → Int → Int → Int → Int → ByteArray → Int → List S111 → List S87 → Int → Bool → Option (Bool × List S62 × List S111)
 | 0, _, _, _, _, _, _, _, _, _, _, _ => none
 | k + 1, ns, room, u, gi, node, path, t, fs, es, j, all => if j < (es.length : Int) then (if 0 ≤ j then ((impl_slash.f path (r87 es j).f0).bind fun q => (impl_Fs_take.f k ns room u gi node (r87 es j).f0 q t fs).bind fun x => impl_Fs_take.l0 k x.2.1 room u gi node path t x.2.2 es (wrap64 (j + 1)) (x.1 && all)) else none) else some (all, ns, fs)
end
theorem entry_n {k : Nat} {W : World} {base g n c : Nat} {ok : Nat → Prop} {ns : List S62} {room dir : Int} {na : ByteArray} {r : Int} (hS : Kd.S k62 62 W base ok (.slice (some ⟨g, 0, none⟩) n c) ns) (h : impl_Fs_entry.f k ns room dir na = some r) : Calls Tryz.prog 67 #[.agg #[.slice (some ⟨g, 0, none⟩) n c, .int .i64 room], .int .i64 dir, .string na] W fun e w' => e = .returned (.int .i64 r) ∧ Below W.heap.size W w' := by
 obtain ⟨rfl, hc, hC⟩ := Kd.S_reads' hS; exact impl_Fs_entry.calls k _ c ns room dir na r W hC hc h
theorem look_n {W : World} {base g n c : Nat} {ok : Nat → Prop} {ns : List S62} {room u gi node : Int} {r : Bool} (hS : Kd.S k62 62 W base ok (.slice (some ⟨g, 0, none⟩) n c) ns) (h : impl_Fs_mayLook.f ns room u gi node = some r) : Calls Tryz.prog 68 #[.agg #[.slice (some ⟨g, 0, none⟩) n c, .int .i64 room], .agg #[.int .i64 u, .int .i64 gi], .int .i64 node] W fun e w' => e = .returned (.bool r) ∧ Below W.heap.size W w' := by
 obtain ⟨rfl, hc, hC⟩ := Kd.S_reads' hS; exact impl_Fs_mayLook.calls _ c ns room u gi node r W hC hc h
theorem change_n {W : World} {base g n c : Nat} {ok : Nat → Prop} {ns : List S62} {room u gi node : Int} {r : Bool} (hS : Kd.S k62 62 W base ok (.slice (some ⟨g, 0, none⟩) n c) ns) (h : impl_Fs_mayChange.f ns room u gi node = some r) : Calls Tryz.prog 70 #[.agg #[.slice (some ⟨g, 0, none⟩) n c, .int .i64 room], .agg #[.int .i64 u, .int .i64 gi], .int .i64 node] W fun e w' => e = .returned (.bool r) ∧ Below W.heap.size W w' := by
 obtain ⟨rfl, hc, hC⟩ := Kd.S_reads' hS; exact impl_Fs_mayChange.calls _ c ns room u gi node r W hC hc h
theorem unlink_n {k : Nat} {W : World} {base g n c : Nat} {ok : Nat → Prop} {ns r : List S62} {room dir t : Int} {na : ByteArray} (hS : Kd.S k62 62 W base ok (.slice (some ⟨g, 0, none⟩) n c) ns) (hok : ∀ k_, ok k_ → k_ < W.heap.size) (h : impl_Fs_unlink.f k ns room dir na t = some r) : Calls Tryz.prog 71 #[.agg #[.slice (some ⟨g, 0, none⟩) n c, .int .i64 room], .int .i64 dir, .string na, .int .i64 t] W fun e w' => e = .returned (.tuple #[]) ∧ Kd.S k62 62 w' base ok (.slice (some ⟨g, 0, none⟩) n c) r ∧ Kp W w' ok := by
 obtain ⟨rfl, hc, hC⟩ := Kd.S_reads' hS; exact impl_Fs_unlink.calls k g c ns room dir na t r base ok W hS hok h
def Tk (ok : Nat → Prop) (gF : Nat) (v : Value) (k_ : Nat) : Prop := ok k_ ∨ k_ = gF ∨ some k_ = v.ownBlock
theorem Tk.then_ {ok : Nat → Prop} {w W W2 : World} {gF : Nat} {v v' : Value} (hK : Kp w W (Tk ok gF v)) (hat : ∀ k_, some k_ = v'.ownBlock → some k_ = v.ownBlock ∨ w.heap.size ≤ k_) (h : Kp W W2 (Tk ok gF v')) : Kp w W2 (Tk ok gF v) :=
 Kp.then_ hK h (fun k_ hk => by
  rcases hk with h1 | h1 | h1
  ·exact .inl (.inl h1)
  ·exact .inl (.inr (.inl h1))
  ·rcases hat k_ h1 with h2 | h2
   ·exact .inl (.inr (.inr h2))
   ·exact .inr h2)
theorem blk_tk {ok : Nat → Prop} {W W2 : World} {gF N x q b : Nat} {cs : Array Value} {vc : Value} {fs : List S111} {okF : Nat → Prop} (h : W.heap[x]? = some (.cells cs q (0, 0))) (hx : N ≤ x) (hok : ∀ k_, ok k_ → k_ < N) (bF : W.heap[gF]? = some (.cells #[vc] 47 (0, 0))) (hF : Kd.R k111 111 W b okF vc fs) (hK : Kp W W2 (Tk ok gF vc)) (h1 : q ≠ 47) (h2 : q ≠ 111) : W2.heap[x]? = some (.cells cs q (0, 0)) :=
 blk_kp h hK (fun hk => by
  rcases hk with hk | hk | hk
  ·have := hok _ hk
   omega
  ·subst hk; have e := h.symm.trans bF
   injection e with e
   injection e with _ e
   exact h1 e
  ·obtain ⟨cells, hc⟩ := Kd.R_typed hF x hk.symm; have e := h.symm.trans hc
   injection e with e
   injection e with _ e
   exact h2 e)
theorem list_tk {ok okL : Nat → Prop} {W W2 : World} {gF N B b : Nat} {vc vL : Value} {fs : List S111} {es : List S87} {okF : Nat → Prop} (hL : Kd.R k87 87 W B okL vL es) (hB : N ≤ B) (hok : ∀ k_, ok k_ → k_ < N) (bF : W.heap[gF]? = some (.cells #[vc] 47 (0, 0))) (hF : Kd.R k111 111 W b okF vc fs) (hK : Kp W W2 (Tk ok gF vc)) : Kd.R k87 87 W2 B okL vL es := by
 refine Kd.R_mono (ok := fun k_ => some k_ = vL.ownBlock) (Kd.R_step (Kd.R_tight rfl hL) (fun k_ hk hlt => ?_)) (fun k_ hk => hL.1 k_ hk.symm); obtain ⟨cells, hc⟩ := Kd.R_typed hL k_ hk.symm; exact (blk_tk hc (Nat.le_trans hB (Kd.R_base hL k_ hk.symm)) hok bF hF hK (by decide) (by decide)).trans hc.symm
set_option maxHeartbeats 4000000 in
theorem impl_Fs_take.calls (k : Nat) : ∀ (gG gF g n c : Nat) (ns : List S62) (room u gi dir : Int) (na path : ByteArray) (t : Int) (fs : List S111) (vF : Value) (r : Bool × List S62 × List S111) (base N : Nat) (ok : Nat → Prop) (w : World) (hG : w.heap[gG]? = some (.cells #[.slice (some ⟨g, 0, none⟩) n c, .int .i64 room] 32 (0, 0))) (hF : w.heap[gF]? = some (.cells #[vF] 47 (0, 0))) (hS : Kd.S k62 62 w base ok (.slice (some ⟨g, 0, none⟩) n c) ns) (hok : ∀ k_, ok k_ → k_ < N) (hN : N ≤ w.heap.size) (hGN : N ≤ gG ∧ N ≤ gF) (hfs : Kd.R k111 111 w N (fun k_ => k_ ≠ gF ∧ k_ ≠ gG) vF fs) (h : impl_Fs_take.f k ns room u gi dir na path t fs = some r),
  Calls Tryz.prog 42 #[.pointer (some ⟨gG, 0, none⟩), .agg #[.int .i64 u, .int .i64 gi], .int .i64 dir, .string na, .string path, .int .i64 t, .pointer (some ⟨gF, 0, none⟩)] w fun e w' => e = .returned (.bool r.1) ∧ w'.heap[gG]? = some (.cells #[.slice (some ⟨g, 0, none⟩) n c, .int .i64 room] 32 (0, 0)) ∧ ∃ v' : Value, w'.heap[gF]? = some (.cells #[v'] 47 (0, 0)) ∧ Kd.S k62 62 w' base ok (.slice (some ⟨g, 0, none⟩) n c) r.2.1 ∧ Kd.R k111 111 w' N (fun k_ => k_ ≠ gF ∧ k_ ≠ gG) v' r.2.2 ∧ Kp w w' (Tk ok gF vF) ∧ ∀ k_, some k_ = v'.ownBlock → some k_ = vF.ownBlock ∨ w.heap.size ≤ k_ := by
 induction k using Nat.strongRecOn with
 | _ k ih =>
 intro gG gF g n c ns room u gi dir na path t fs vF r base N ok w hG hF hS hok hN hGN hfs h; cases k with
 | zero => exact absurd h (by simp [impl_Fs_take.f])
 | succ k =>
 simp only [impl_Fs_take.f] at h; obtain ⟨node, A1, h⟩ := bS h; obtain ⟨hb0, h⟩ := iN h; have BG := aM hG; have BF := aM hF; have HS := aM hS; have HOK := aM hok; have HN := aM hN; have HGN := aM hGN; have HF := aM hfs; have HK := aM (Kp.refl w (Tk ok gF vF)); have HAT := aM (show ∀ k_, some k_ = vF.ownBlock → some k_ = vF.ownBlock ∨ w.heap.size ≤ k_ from fun _ h => .inl h); have NGF : Aside0 (gG ≠ gF) := ⟨fun e => by subst e; have := hG.symm.trans hF; injection this with this; injection this with _ t; cases t⟩; have hn := (Kd.S_reads' hS).1; subst hn; have HI := aM hb0; have p1 := eq_true hb0.1; have q1 := eq_true hb0.2.1; obtain ⟨oki, ce, hcel, hM, hcc, hfr, hoki, hH⟩ := Kd.S_elem hS z62 node hb0.1 hb0.2.1; rw [show ns.getD node.toNat z62 = r62 ns node from rfl] at hM; obtain ⟨v6, rfl, hR⟩ := k62_openM hM; obtain ⟨A6, c6, e6⟩ := Kd.R_slice hR; subst e6; have hx6 := hcc 6 _ rfl; change w.cell? ⟨g, node.toNat * 7 + 6, none⟩ = _ at hx6
 have hrd6 := Kd.R_reads' hR; have HR6 := aM hrd6; have HC6 : Aside0 (Kd.C k87 w A6 (r62 ns node).f6.length (r62 ns node).f6) := ⟨hrd6.2.2⟩; generalize hnd : r62 ns node = nd at *; have HB := b0 w; have hu32 := Tryz.underlying32; have hu62 := Tryz.underlying62; have hu30 := Tryz.underlying30; have hu34 := Tryz.underlying34; have hu87 := Tryz.underlying87; have hcG := cb2 BG; have hcF := cb1 BF; clear hG hF hS hok hN hGN hfs hb0 hcel hM hcc hfr hoki hH hR hrd6; by_cases hlen : 0 < nd.f6.length
 ·rw [if_pos hlen] at h; have hgt : (nd.f6.length : Int) > 0 := by omega
  have hgt2 : decide ((nd.f6.length : Int) > 0) = true := decide_eq_true hgt; have hgt3 : ((0 : Int) < (nd.f6.length : Int)) = True := eq_true hgt; obtain ⟨b, A2, h⟩ := bS h; clear hgt; cases b with
  | false =>
   rw [if_neg (by simp)] at h; unfold faultO at h; obtain ⟨hlim, h⟩ := iN h; have HLim := aM hlim; clear hlim; obtain rfl := Option.some.inj h; clear h; go_enter Tryz.func42, Tryz.ntmps42
   go_wp2_with (first
    | ((with_reducible refine gd 8 rfl ?_); go_loud (refine bxE 8 #[.int .i64 u, .int .i64 gi] 34 ?_; intro gQ hg w1 hbox hb; have BC := aM hbox; have GQ := nGB hg; replace HB := nSB hb; replace BG := nK BG hb; replace BF := nK BF hb; replace HS := nS HS hb; replace HF := nR HF hb; replace HK := aM (Kp.below HK.out hb); clear hb hbox hg; have hcG := cb2 BG; have hcF := cb1 BF; have hcC := cb2 BC))
    | (go_at_call 67; go_loud (refine (entry_n (rS HS) A1.out).mono ?_; rintro e w2 ⟨rfl, hb⟩; replace HB := nSB hb; replace BG := nK BG hb; replace BF := nK BF hb; replace BC := nK BC hb; replace HS := nS HS hb; replace HF := nR HF hb; replace HK := aM (Kp.below HK.out hb); clear hb; have hcG := cb2 BG; have hcF := cb1 BF; have hcC := cb2 BC; replace hx6 := hB HB hx6))
    | (go_at_call 66; go_loud (refine (slices_Clone_E.calls A6 c6 nd.f6 _ (by repeat (first | exact (Kd.C_below HC6.out HB.out) | (with_reducible refine Kd.C_drewN ?_ _) | (with_reducible refine Kd.C_drew ?_))) HR6.out.2.1 HI.out.2.2).mono ?_; rintro e w3 ⟨v3, rfl, hR3, hb⟩; have HLst := aM (Kd.R_lower hR3 (Nat.le_trans HN.out (HK.out.1 : w.heap.size ≤ _))); replace HB := nSB hb; replace BG := nK BG hb; replace BF := nK BF hb; replace BC := nK BC hb; replace HS := nS HS hb; replace HF := nR HF hb; replace HK := aM (Kp.below HK.out hb); obtain ⟨A3, c3, e3⟩ := Kd.R_slice hR3; subst e3; clear hb hR3; have hcG := cb2 BG; have hcF := cb1 BF; have hcC := cb2 BC)))
   try go_wp2
   refine st4 7 [] hcG.1 hcG.2.1 hcC.1 hcC.2.1 (fun hHeld => ?_); have BG8 := aM (blk_drew BG.out); have BF8 := aM (blk_drew BF.out); have BC8 := aM (blk_drew BC.out); have HS8 := aM (Kd.S_drew HS.out); have HF8 := aM (Kd.R_drew HF.out); have HK8 := aM (Kp.drew HK.out); clear BG BF BC HS HF HK hcG hcC hcF; generalize World.drew _ = w8 at *; refine pu 0 38 ?_; refine pu 1 39 ?_; refine tk4 2 40 ?_; refine tk4 3 41 ?_; refine pu 4 42 ?_; refine on 5 43 (fun K hK => ?_); refine gC Tryz.func68 #[.agg #[.slice (some ⟨g, 0, none⟩) ns.length c, .int .i64 room], .agg #[.int .i64 u, .int .i64 gi], .int .i64 node] ?_; refine (look_n HS8.out A2.out).mono ?_; rintro e w9 ⟨rfl, hb⟩; refine ⟨_, rfl, ?_⟩; refine hK.out _ _ ⟨(hb.cell (World.block_lt_of_cell? w8 _ hHeld.1)).trans hHeld.1, (hb.cell (World.block_lt_of_cell? w8 _ hHeld.2.1)).trans hHeld.2.1, (hb.cell (World.block_lt_of_cell? w8 _ hHeld.2.2.1)).trans hHeld.2.2.1, (hb.cell (World.block_lt_of_cell? w8 _ hHeld.2.2.2)).trans hHeld.2.2.2⟩ (fun hHeld => ?_); clear hK K hHeld; have BG := nK BG8 hb; have BF := nK BF8 hb; have BC := nK BC8 hb; have HS := nS HS8 hb; have HF := nR HF8 hb; have HK := aM (Kp.below HK8.out hb); clear BG8 BF8 BC8 HS8 HF8 HK8 hb; have hcG := cb2 BG; have hcF := cb1 BF; have hcC := cb2 BC; refine nm ?_; refine pu 6 44 ?_; refine dn ?_
   go_wp2_with (first
    | ((with_reducible refine gate_builtin (b := .append) (xs := #[.tmp 48, .tmp 51]) rfl ?_); at_builtin; go_loud (refine Kd.R_append k111 N rfl (.tmp 48) (.tmp 51) 47 111 (.agg #[(.string ⟨#[]⟩), (.int .i64 0)]) 24 rfl Tryz.underlying47 info111 rfl (by decide) (by omega) vF fs ⟨path, 4⟩ [.string path, .int .i64 4] (fun k_ => k_ ≠ gF ∧ k_ ≠ gG) (fun _ => False) rfl rfl ?aP (fun _ hk => hk.elim) ?aF ?aO (Below.refl _ _) ?aS ?aL ?_; (case aP => exact k111_mkM _ _ _ ⟨path, 4⟩); (case aF => exact (fun k_ hk => ⟨fun e => absurd (Nat.lt_of_lt_of_le (blk_lt (sK BF)) (e ▸ hk)) (Nat.lt_irrefl _), fun e => absurd (Nat.lt_of_lt_of_le (blk_lt (sK BG)) (e ▸ hk)) (Nat.lt_irrefl _)⟩)); (case aO => exact rR HF); (case aS => exact Nat.le_trans HN.out HK.out.1); (case aL => have := HLim.out; omega); intro v1 w3 ho hb hg hat; have HS3 := aM (Kd.S_grown (rS HS) hg (fun k_ hk e => absurd (Nat.lt_of_lt_of_le (HOK.out k_ hk) ((Kd.R_base HF.out) k_ e.symm)) (Nat.lt_irrefl _))); have BG3 := aM (blk_grown (sK BG) hg (fun e_ => (HF.out.1 gG e_.symm).2 rfl)); have BF3 := aM (blk_grown (sK BF) hg (fun e_ => (HF.out.1 gF e_.symm).1 rfl)); have HAT3 := aM (show ∀ k_, some k_ = v1.ownBlock → some k_ = vF.ownBlock ∨ w.heap.size ≤ k_ from fun k_ hk => by (rcases hat with h | ⟨b, h, h2⟩; (· exact HAT.out k_ (hk.trans h)); (· exact .inr (by rw [h] at hk; injection hk with hk; rw [hk]; exact Nat.le_trans HK.out.1 h2)))); have HK3 := aM (Kp.of_grown hg HK.out (fun k_ hk => (HAT.out k_ hk.symm).elim (fun h => .inl (.inr (.inr h))) .inr)); have HF3 := aM ho; clear ho hb hg hat; obtain ⟨A1, c1_, e1_⟩ := Kd.R_slice HF3.out; rw [List.length_append, List.length_singleton] at e1_; subst e1_; have hcF := cb1 BF3)))
   go_ret
   exact ⟨rfl, sX BG3, _, sX BF3, Kd.S_far (p := ⟨gF, 0, none⟩) (rS HS3) (fun k_ hk e => absurd (Nat.lt_of_lt_of_le (HOK.out k_ hk) (e ▸ HGN.out.2)) (Nat.lt_irrefl _)) _, Kd.R_far (p := ⟨gF, 0, none⟩) (rR HF3) (fun k_ hk => hk.1) _, Kp.setCell (p := ⟨gF, 0, none⟩) HK3.out (.inl (.inr (.inl rfl))) _, HAT3.out⟩
  | true =>
   rw [if_pos rfl] at h; obtain ⟨x, A3_, h⟩ := bS h; go_enter Tryz.func42, Tryz.ntmps42
   go_wp2_with (first
    | ((with_reducible refine gd 8 rfl ?_); go_loud (refine bxE 8 #[.int .i64 u, .int .i64 gi] 34 ?_; intro gQ hg w1 hbox hb; have BC := aM hbox; have GQ := nGB hg; replace HB := nSB hb; replace BG := nK BG hb; replace BF := nK BF hb; replace HS := nS HS hb; replace HF := nR HF hb; replace HK := aM (Kp.below HK.out hb); clear hb hbox hg; have hcG := cb2 BG; have hcF := cb1 BF; have hcC := cb2 BC))
    | (go_at_call 67; go_loud (refine (entry_n (rS HS) A1.out).mono ?_; rintro e w2 ⟨rfl, hb⟩; replace HB := nSB hb; replace BG := nK BG hb; replace BF := nK BF hb; replace BC := nK BC hb; replace HS := nS HS hb; replace HF := nR HF hb; replace HK := aM (Kp.below HK.out hb); clear hb; have hcG := cb2 BG; have hcF := cb1 BF; have hcC := cb2 BC; replace hx6 := hB HB hx6))
    | (go_at_call 66; go_loud (refine (slices_Clone_E.calls A6 c6 nd.f6 _ (by repeat (first | exact (Kd.C_below HC6.out HB.out) | (with_reducible refine Kd.C_drewN ?_ _) | (with_reducible refine Kd.C_drew ?_))) HR6.out.2.1 HI.out.2.2).mono ?_; rintro e w3 ⟨v3, rfl, hR3, hb⟩; have HLst := aM (Kd.R_lower hR3 (Nat.le_trans HN.out (HK.out.1 : w.heap.size ≤ _))); replace HB := nSB hb; replace BG := nK BG hb; replace BF := nK BF hb; replace BC := nK BC hb; replace HS := nS HS hb; replace HF := nR HF hb; replace HK := aM (Kp.below HK.out hb); obtain ⟨A3, c3, e3⟩ := Kd.R_slice hR3; subst e3; clear hb hR3; have hcG := cb2 BG; have hcF := cb1 BF; have hcC := cb2 BC)))
   try go_wp2
   refine st4 7 [] hcG.1 hcG.2.1 hcC.1 hcC.2.1 (fun hHeld => ?_); have BG8 := aM (blk_drew BG.out); have BF8 := aM (blk_drew BF.out); have BC8 := aM (blk_drew BC.out); have HS8 := aM (Kd.S_drew HS.out); have HF8 := aM (Kd.R_drew HF.out); have HK8 := aM (Kp.drew HK.out); have HLst8 := aM (Kd.R_drew HLst.out); clear BG BF BC HS HF HK hcG hcC hcF HLst; generalize World.drew _ = w8 at *; refine pu 0 38 ?_; refine pu 1 39 ?_; refine tk4 2 40 ?_; refine tk4 3 41 ?_; refine pu 4 42 ?_; refine on 5 43 (fun K hK => ?_); refine gC Tryz.func68 #[.agg #[.slice (some ⟨g, 0, none⟩) ns.length c, .int .i64 room], .agg #[.int .i64 u, .int .i64 gi], .int .i64 node] ?_; refine (look_n HS8.out A2.out).mono ?_; rintro e w9 ⟨rfl, hb⟩; refine ⟨_, rfl, ?_⟩; refine hK.out _ _ ⟨(hb.cell (World.block_lt_of_cell? w8 _ hHeld.1)).trans hHeld.1, (hb.cell (World.block_lt_of_cell? w8 _ hHeld.2.1)).trans hHeld.2.1, (hb.cell (World.block_lt_of_cell? w8 _ hHeld.2.2.1)).trans hHeld.2.2.1, (hb.cell (World.block_lt_of_cell? w8 _ hHeld.2.2.2)).trans hHeld.2.2.2⟩ (fun hHeld => ?_); clear hK K hHeld; have BG := nK BG8 hb; have BF := nK BF8 hb; have BC := nK BC8 hb; have HS := nS HS8 hb; have HF := nR HF8 hb; have HK := aM (Kp.below HK8.out hb); have HLst := nR HLst8 hb; clear BG8 BF8 BC8 HS8 HF8 HK8 hb; have hcG := cb2 BG; have hcF := cb1 BF; have hcC := cb2 BC; refine nm ?_; refine pu 6 44 ?_; refine dn ?_; go_wp2
   go_loopg [17, 56] k (fun kq v17 v56 w' => ∃ (all : Bool) (j : Int) (ns1 : List S62) (fs1 : List S111) (vc : Value), v17 = .bool all ∧ v56 = .int .i64 j ∧ Aside0 (impl_Fs_take.l0 kq ns1 room u gi node path t fs1 nd.f6 j all = some x) ∧ Aside0 (kq ≤ k) ∧ Aside0 (w'.heap[gG]? = some (.cells #[.slice (some ⟨g, 0, none⟩) ns.length c, .int .i64 room] 32 (0, 0))) ∧ Aside0 (w'.heap[gF]? = some (.cells #[vc] 47 (0, 0))) ∧ Aside0 (w'.heap[gQ]? = some (.cells #[.int .i64 u, .int .i64 gi] 34 (0, 0))) ∧ Aside0 (Kd.S k62 62 w' base ok (.slice (some ⟨g, 0, none⟩) ns.length c) ns1) ∧ Aside0 (Kd.R k111 111 w' N (fun k_ => k_ ≠ gF ∧ k_ ≠ gG) vc fs1) ∧ Aside0 (Kp w w' (Tk ok gF vF)) ∧ Aside0 (∀ k_, some k_ = vc.ownBlock → some k_ = vF.ownBlock ∨ w.heap.size ≤ k_) ∧ Aside0 (Kd.R k87 87 w' N (fun _ => True) (.slice A3 nd.f6.length c3) nd.f6))
   case atStart => exact ⟨true, 0, ns, fs, vF, sR, sR, A3_, ⟨Nat.le_refl _⟩, ⟨sK BG⟩, ⟨sK BF⟩, ⟨sK BC⟩, ⟨rS HS⟩, ⟨rR HF⟩, ⟨by repeat (first | exact HK.out | apply Kp.drewN | apply Kp.drew)⟩, HAT, ⟨rR HLst⟩⟩
   case round =>
    clear BG BF BC HS HF HK HAT HLst A3_ hcG hcF hcC HB; obtain ⟨all, j, ns1, fs1, vc, rfl, rfl, HA, HK1, BG, BF, BC, HS, HF, HK, HAT, HLst⟩ := hrel; cases gk with
    | zero => exact absurd HA.out (by simp [impl_Fs_take.l0])
    | succ k1 =>
    have H := HA.out; clear HA; simp only [impl_Fs_take.l0] at H; have hcG := cb2 BG; have hcF := cb1 BF; have hcC := cb2 BC; by_cases c4 : j < (nd.f6.length : Int)
    ·rw [if_pos c4] at H; obtain ⟨c5, H0⟩ := iN H; clear H; obtain ⟨q, A7, H1⟩ := bS H0; clear H0; obtain ⟨x1, A8, H⟩ := bS H1; clear H1; have c4b : decide (j < (nd.f6.length : Int)) = true := decide_eq_true c4; obtain ⟨ad, ead, hy0, hy1⟩ := at_T87 (Kd.R_reads' HLst.out).2.2 j c5 c4; subst ead; have p4 := eq_true c5; have q4 := eq_true c4; generalize hee : r87 nd.f6 j = ee at *; clear c4 c5
     go_wp2_with (first
      | ((with_reducible refine gd 19 rfl ?_); go_loud (refine bxE 19 #[.string (⟨#[]⟩ : ByteArray), .int .i64 0] 87 ?_; intro gV hg w6 hbox hb; have BV := aM hbox; have HB6 := aM hb; have GV := aM (show wr.heap.size ≤ gV by rw [hg]; exact Nat.le_refl _); clear hb hbox hg; have hcV := cb2 BV)))
     have BV7 : Aside0 (((w6.setCell ⟨gV, 0, none⟩ (.string ee.f0)).setCell ⟨gV, 1, none⟩ (.int .i64 ee.f1)).heap[gV]? = some (.cells #[.string ee.f0, .int .i64 ee.f1] 87 (0, 0))) := ⟨sX BV⟩; have hb7 : Below wr.heap.size wr ((w6.setCell ⟨gV, 0, none⟩ (.string ee.f0)).setCell ⟨gV, 1, none⟩ (.int .i64 ee.f1)) := below_set (below_set HB6.out GV.out) GV.out; have BG7 := nK BG hb7; have BF7 := nK BF hb7; have BC7 := nK BC hb7; have HS7 := nS HS hb7; have HF7 := nR HF hb7; have HL7 := nR HLst hb7; have HK7 := aM (Kp.below HK.out hb7); have GV7 := aM (show N ≤ gV from Nat.le_trans HN.out (Nat.le_trans HK.out.1 GV.out)); have GQ7 := aM (show N ≤ gQ from Nat.le_trans HN.out GQ.out); clear BV hb7 HB6 BG BF BC HS HF HLst HK GV hcG hcF hcC hcV hy0 hy1; generalize (w6.setCell ⟨gV, 0, none⟩ (.string ee.f0)).setCell ⟨gV, 1, none⟩ (.int .i64 ee.f1) = w7 at *; refine st3 16 [] (cz0 BC7) (cz1 BC7) (cz0 BV7) (fun hHeld => ?_); have BG8 := aM (blk_drew BG7.out); have BF8 := aM (blk_drew BF7.out); have BC8 := aM (blk_drew BC7.out); have BV8 := aM (blk_drew BV7.out); have HS8 := aM (Kd.S_drew HS7.out); have HF8 := aM (Kd.R_drew HF7.out); have HL8 := aM (Kd.R_drew HL7.out); have HK8 := aM (Kp.drew HK7.out); clear BG7 BF7 BC7 BV7 HS7 HF7 HL7 HK7; generalize w7.drew = w8 at *; refine pu 0 60 ?_; refine tk3 1 61 ?_; refine pu 2 62 ?_; refine pu 3 63 ?_; refine tk3 4 64 ?_; refine pu 5 65 ?_; refine pu 6 66 ?_; refine tk3 7 67 ?_; refine pu 9 69 ?_; refine pu 10 70 ?_; refine on 8 68 (fun K hK => ?_); refine gC Tryz.func69 #[.string path, .string ee.f0] ?_; refine (impl_slash.calls path ee.f0 q _ A7.out).mono ?_; rintro e w' ⟨rfl, ⟨nd_, rfl⟩⟩; refine ⟨_, rfl, ?_⟩; refine hK.out _ _ hHeld (fun hHeld => ?_); clear hK K; refine nm ?_; refine on 11 71 (fun K hK => ?_); refine gC Tryz.func42 #[.pointer (some ⟨gG, 0, none⟩), .agg #[.int .i64 u, .int .i64 gi], .int .i64 node, .string ee.f0, .string q, .int .i64 t, .pointer (some ⟨gF, 0, none⟩)] ?_; refine (ih k1 (by have := HK1.out; omega) gG gF g ns.length c ns1 room u gi node ee.f0 q t fs1 vc x1 base N ok (w8.drewN nd_) (blk_drewN BG8.out _) (blk_drewN BF8.out _) (Kd.S_drewN HS8.out _) HOK.out (Nat.le_trans HN.out HK8.out.1) HGN.out (Kd.R_drewN HF8.out _) A8.out).mono ?_; rintro e w9 ⟨rfl, hG9, v9, hF9, hS9, hR9, hK9, hAT9⟩; refine ⟨_, rfl, ?_⟩; have BC9 := aM (blk_tk (blk_drewN BC8.out nd_) GQ7.out HOK.out (blk_drewN BF8.out nd_) (Kd.R_drewN HF8.out nd_) hK9 (by decide) (by decide)); have BV9 := aM (blk_tk (blk_drewN BV8.out nd_) GV7.out HOK.out (blk_drewN BF8.out nd_) (Kd.R_drewN HF8.out nd_) hK9 (by decide) (by decide)); have HL9 := aM (list_tk (Kd.R_drewN HL8.out nd_) (Nat.le_refl N) HOK.out (blk_drewN BF8.out nd_) (Kd.R_drewN HF8.out nd_) hK9); have HK9 := aM (Tk.then_ (Kp.drewN HK8.out nd_) HAT.out hK9); have HAT9 := aM (show ∀ k_, some k_ = v9.ownBlock → some k_ = vF.ownBlock ∨ w.heap.size ≤ k_ from fun k_ hk => (hAT9 k_ hk).elim (fun h => HAT.out k_ h) (fun h => .inr (Nat.le_trans HK8.out.1 h))); have BG9 := aM hG9; have BF9 := aM hF9; have HS9 := aM hS9; have HF9 := aM hR9; clear hG9 hF9 hS9 hR9 hAT9 hK9 BG8 BF8 BC8 BV8 HS8 HF8 HL8 HK8 HAT hHeld; refine hK.out _ _ ⟨cz0 BC9, cz1 BC9, cz0 BV9⟩ (fun hHeld => ?_); clear hK K; have H' := aM H; clear H; cases hb1 : x1.1 with
     | true =>
      rw [hb1] at H'; refine nm ?_; refine pu 12 72 ?_; refine pu 13 73 ?_; refine pu 14 74 ?_; refine pu 15 17 ?_; refine dn ?_; clear hHeld; go_wp2; go_roundg k1
      case measure => have := HK1.out; omega
      case rel => exact ⟨all, wrap64 (j + 1), x1.2.1, x1.2.2, v9, sR, sR, by simpa using H', ⟨by have := HK1.out; omega⟩, BG9, BF9, BC9, HS9, HF9, HK9, HAT9, HL9⟩
     | false =>
      rw [hb1] at H'; refine nm ?_; refine pu 12 72 ?_; refine pz 13 73 ?_; refine pu 14 74 ?_; refine pu 15 17 ?_; refine dn ?_; clear hHeld; go_wp2; go_roundg k1
      case measure => have := HK1.out; omega
      case rel => exact ⟨false, wrap64 (j + 1), x1.2.1, x1.2.2, v9, sR, sR, by simpa using H', ⟨by have := HK1.out; omega⟩, BG9, BF9, BC9, HS9, HF9, HK9, HAT9, HL9⟩
    ·rw [if_neg c4] at H; obtain rfl := sI H; have c4b : decide (j < (nd.f6.length : Int)) = false := decide_eq_false c4; clear H c4; cases all with
     | false =>
      have hr := Option.some.inj h; subst hr; go_wp2; go_ret
      exact ⟨rfl, sK BG, _, sK BF, rS HS, rR HF, by repeat (first | exact HK.out | apply Kp.drewN | apply Kp.drew), HAT.out⟩
     | true =>
      have H := h; rw [if_pos rfl] at H; clear h
      dsimp only at H
      unfold impl_Fs_take.t at H; obtain ⟨b2, A5, H⟩ := bS H; cases b2 with
      | true =>
       rw [if_pos rfl] at H; obtain ⟨ns', A6_, H⟩ := bS H; obtain rfl := sI H; clear H
       try go_wp2
       refine st4 7 [] hcG.1 hcG.2.1 hcC.1 hcC.2.1 (fun hHeld => ?_); have BG8 := aM (blk_drew BG.out); have BF8 := aM (blk_drew BF.out); have BC8 := aM (blk_drew BC.out); have HS8 := aM (Kd.S_drew HS.out); have HF8 := aM (Kd.R_drew HF.out); have HK8 := aM (Kp.drew HK.out); clear BG BF BC HS HF HK hcG hcC hcF; generalize World.drew _ = w8 at *; refine pu 0 78 ?_; refine pu 1 79 ?_; refine tk4 2 80 ?_; refine tk4 3 81 ?_; refine pu 4 82 ?_; refine on 5 83 (fun K hK => ?_); refine gC Tryz.func70 #[.agg #[.slice (some ⟨g, 0, none⟩) ns.length c, .int .i64 room], .agg #[.int .i64 u, .int .i64 gi], .int .i64 dir] ?_; refine (change_n HS8.out A5.out).mono ?_; rintro e w9 ⟨rfl, hb⟩; refine ⟨_, rfl, ?_⟩; refine hK.out _ _ ⟨(hb.cell (World.block_lt_of_cell? w8 _ hHeld.1)).trans hHeld.1, (hb.cell (World.block_lt_of_cell? w8 _ hHeld.2.1)).trans hHeld.2.1, (hb.cell (World.block_lt_of_cell? w8 _ hHeld.2.2.1)).trans hHeld.2.2.1, (hb.cell (World.block_lt_of_cell? w8 _ hHeld.2.2.2)).trans hHeld.2.2.2⟩ (fun hHeld => ?_); clear hK K hHeld; have BG := nK BG8 hb; have BF := nK BF8 hb; have BC := nK BC8 hb; have HS := nS HS8 hb; have HF := nR HF8 hb; have HK := aM (Kp.below HK8.out hb); clear BG8 BF8 BC8 HS8 HF8 HK8 hb; have hcG := cb2 BG; have hcF := cb1 BF; have hcC := cb2 BC; refine nm ?_; refine pu 6 84 ?_; refine dn ?_
       go_wp2_with (first
        | (go_at_call 71; go_loud (refine (unlink_n (rS HS) (fun k_ hk => Nat.lt_of_lt_of_le (HOK.out k_ hk) (Nat.le_trans HN.out HK.out.1)) A6_.out).mono ?_; rintro e w5 ⟨rfl, hS5, hK5⟩; have BG5 := aM (blk_kp BG.out hK5 (fun hk => absurd (Nat.lt_of_lt_of_le (HOK.out _ hk) HGN.out.1) (Nat.lt_irrefl _))); have BF5 := aM (blk_kp BF.out hK5 (fun hk => absurd (Nat.lt_of_lt_of_le (HOK.out _ hk) HGN.out.2) (Nat.lt_irrefl _))); have HF5 := aM (Kd.R_step (Kd.R_bound HF.out) (fun k_ hk hlt => hK5.2 k_ hlt (fun h => absurd (Nat.lt_of_lt_of_le (HOK.out _ h) hk.2.1) (Nat.lt_irrefl _)))); have HK5 := aM (Kp.then_ HK.out hK5 (fun k_ hk => .inl (.inl hk))); have HS5 := aM hS5; clear hS5 hK5)))
       go_ret
       exact ⟨rfl, sK BG5, _, sK BF5, rS HS5, Kd.R_mono (ok := fun k_ => (k_ ≠ gF ∧ k_ ≠ gG) ∧ N ≤ k_ ∧ _) HF5.out (fun _ hk => hk.1), HK5.out, HAT.out⟩
      | false =>
       rw [if_neg (by simp)] at H; unfold faultO at H; obtain ⟨hlim, H⟩ := iN H; have HLim := aM hlim; clear hlim; obtain rfl := sI H; clear H
       try go_wp2
       refine st4 7 [] hcG.1 hcG.2.1 hcC.1 hcC.2.1 (fun hHeld => ?_); have BG8 := aM (blk_drew BG.out); have BF8 := aM (blk_drew BF.out); have BC8 := aM (blk_drew BC.out); have HS8 := aM (Kd.S_drew HS.out); have HF8 := aM (Kd.R_drew HF.out); have HK8 := aM (Kp.drew HK.out); clear BG BF BC HS HF HK hcG hcC hcF; generalize World.drew _ = w8 at *; refine pu 0 78 ?_; refine pu 1 79 ?_; refine tk4 2 80 ?_; refine tk4 3 81 ?_; refine pu 4 82 ?_; refine on 5 83 (fun K hK => ?_); refine gC Tryz.func70 #[.agg #[.slice (some ⟨g, 0, none⟩) ns.length c, .int .i64 room], .agg #[.int .i64 u, .int .i64 gi], .int .i64 dir] ?_; refine (change_n HS8.out A5.out).mono ?_; rintro e w9 ⟨rfl, hb⟩; refine ⟨_, rfl, ?_⟩; refine hK.out _ _ ⟨(hb.cell (World.block_lt_of_cell? w8 _ hHeld.1)).trans hHeld.1, (hb.cell (World.block_lt_of_cell? w8 _ hHeld.2.1)).trans hHeld.2.1, (hb.cell (World.block_lt_of_cell? w8 _ hHeld.2.2.1)).trans hHeld.2.2.1, (hb.cell (World.block_lt_of_cell? w8 _ hHeld.2.2.2)).trans hHeld.2.2.2⟩ (fun hHeld => ?_); clear hK K hHeld; have BG := nK BG8 hb; have BF := nK BF8 hb; have BC := nK BC8 hb; have HS := nS HS8 hb; have HF := nR HF8 hb; have HK := aM (Kp.below HK8.out hb); clear BG8 BF8 BC8 HS8 HF8 HK8 hb; have hcG := cb2 BG; have hcF := cb1 BF; have hcC := cb2 BC; refine nm ?_; refine pu 6 84 ?_; refine dn ?_
       go_wp2_with (first
        | ((with_reducible refine gate_builtin (b := .append) (xs := #[.tmp 88, .tmp 91]) rfl ?_); at_builtin; go_loud (refine Kd.R_append k111 N rfl (.tmp 88) (.tmp 91) 47 111 (.agg #[(.string ⟨#[]⟩), (.int .i64 0)]) 24 rfl Tryz.underlying47 info111 rfl (by decide) (by omega) vc fs1 ⟨path, 4⟩ [.string path, .int .i64 4] (fun k_ => k_ ≠ gF ∧ k_ ≠ gG) (fun _ => False) rfl rfl ?aP (fun _ hk => hk.elim) ?aF ?aO (Below.refl _ _) ?aS ?aL ?_; (case aP => exact k111_mkM _ _ _ ⟨path, 4⟩); (case aF => exact (fun k_ hk => ⟨fun e => absurd (Nat.lt_of_lt_of_le (blk_lt (sK BF)) (e ▸ hk)) (Nat.lt_irrefl _), fun e => absurd (Nat.lt_of_lt_of_le (blk_lt (sK BG)) (e ▸ hk)) (Nat.lt_irrefl _)⟩)); (case aO => exact rR HF); (case aS => exact Nat.le_trans HN.out HK.out.1); (case aL => have := HLim.out; omega); intro v1 w3 ho hb hg hat; have HS3 := aM (Kd.S_grown (rS HS) hg (fun k_ hk e => absurd (Nat.lt_of_lt_of_le (HOK.out k_ hk) ((Kd.R_base HF.out) k_ e.symm)) (Nat.lt_irrefl _))); have BG3 := aM (blk_grown (sK BG) hg (fun e_ => (HF.out.1 gG e_.symm).2 rfl)); have BF3 := aM (blk_grown (sK BF) hg (fun e_ => (HF.out.1 gF e_.symm).1 rfl)); have HAT3 := aM (show ∀ k_, some k_ = v1.ownBlock → some k_ = vF.ownBlock ∨ w.heap.size ≤ k_ from fun k_ hk => by (rcases hat with h | ⟨b, h, h2⟩; (· exact HAT.out k_ (hk.trans h)); (· exact .inr (by rw [h] at hk; injection hk with hk; rw [hk]; exact Nat.le_trans HK.out.1 h2)))); have HK3 := aM (Kp.of_grown hg HK.out (fun k_ hk => (HAT.out k_ hk.symm).elim (fun h => .inl (.inr (.inr h))) .inr)); have HF3 := aM ho; clear ho hb hg hat; obtain ⟨A1, c1_, e1_⟩ := Kd.R_slice HF3.out; rw [List.length_append, List.length_singleton] at e1_; subst e1_; have hcF := cb1 BF3)))
       go_ret
       exact ⟨rfl, sX BG3, _, sX BF3, Kd.S_far (p := ⟨gF, 0, none⟩) (rS HS3) (fun k_ hk e => absurd (Nat.lt_of_lt_of_le (HOK.out k_ hk) (e ▸ HGN.out.2)) (Nat.lt_irrefl _)) _, Kd.R_far (p := ⟨gF, 0, none⟩) (rR HF3) (fun k_ hk => hk.1) _, Kp.setCell (p := ⟨gF, 0, none⟩) HK3.out (.inl (.inr (.inl rfl))) _, HAT3.out⟩
 ·rw [if_neg hlen] at h; have hz : ((nd.f6.length : Nat) : Int) = 0 := by omega
  have hz2 : nd.f6.length = 0 := by omega
  have H := h; clear h; rw [hz2] at hx6; have hgt : ¬ (0 < nd.f6.length) := hlen; clear hlen hz; go_enter Tryz.func42, Tryz.ntmps42
  go_wp2_with (first
   | ((with_reducible refine gd 8 rfl ?_); go_loud (refine bxE 8 #[.int .i64 u, .int .i64 gi] 34 ?_; intro gQ hg w1 hbox hb; have BC := aM hbox; have GC := nGB hg; replace HB := nSB hb; replace BG := nK BG hb; replace BF := nK BF hb; replace HS := nS HS hb; replace HF := nR HF hb; replace HK := aM (Kp.below HK.out hb); clear hb hbox hg; have hcG := cb2 BG; have hcF := cb1 BF; have hcC := cb2 BC))
   | (go_at_call 67; go_loud (refine (entry_n (rS HS) A1.out).mono ?_; rintro e w2 ⟨rfl, hb⟩; replace HB := nSB hb; replace BG := nK BG hb; replace BF := nK BF hb; replace BC := nK BC hb; replace HS := nS HS hb; replace HF := nR HF hb; replace HK := aM (Kp.below HK.out hb); clear hb; have hcG := cb2 BG; have hcF := cb1 BF; have hcC := cb2 BC; replace hx6 := hB HB hx6))
   | (go_at_call 66; go_loud (rw [← hz2]; refine (slices_Clone_E.calls A6 c6 nd.f6 _ (by repeat (first | exact (Kd.C_below HC6.out HB.out) | (with_reducible refine Kd.C_drewN ?_ _) | (with_reducible refine Kd.C_drew ?_))) HR6.out.2.1 HI.out.2.2).mono ?_; rintro e w3 ⟨v3, rfl, hR3, hb⟩; replace HB := nSB hb; replace BG := nK BG hb; replace BF := nK BF hb; replace BC := nK BC hb; replace HS := nS HS hb; replace HF := nR HF hb; replace HK := aM (Kp.below HK.out hb); obtain ⟨A3, c3, e3⟩ := Kd.R_slice hR3; subst e3; rw [hz2]; clear hb hR3; have hcG := cb2 BG; have hcF := cb1 BF; have hcC := cb2 BC)))
  unfold impl_Fs_take.t at H; obtain ⟨b2, A5, H⟩ := bS H; cases b2 with
  | true =>
   rw [if_pos rfl] at H; obtain ⟨ns', A6_, H⟩ := bS H; obtain rfl := sI H; clear H
   try go_wp2
   refine st4 7 [] hcG.1 hcG.2.1 hcC.1 hcC.2.1 (fun hHeld => ?_); have BG8 := aM (blk_drew BG.out); have BF8 := aM (blk_drew BF.out); have BC8 := aM (blk_drew BC.out); have HS8 := aM (Kd.S_drew HS.out); have HF8 := aM (Kd.R_drew HF.out); have HK8 := aM (Kp.drew HK.out); clear BG BF BC HS HF HK hcG hcC hcF; generalize World.drew _ = w8 at *; refine pu 0 78 ?_; refine pu 1 79 ?_; refine tk4 2 80 ?_; refine tk4 3 81 ?_; refine pu 4 82 ?_; refine on 5 83 (fun K hK => ?_); refine gC Tryz.func70 #[.agg #[.slice (some ⟨g, 0, none⟩) ns.length c, .int .i64 room], .agg #[.int .i64 u, .int .i64 gi], .int .i64 dir] ?_; refine (change_n HS8.out A5.out).mono ?_; rintro e w9 ⟨rfl, hb⟩; refine ⟨_, rfl, ?_⟩; refine hK.out _ _ ⟨(hb.cell (World.block_lt_of_cell? w8 _ hHeld.1)).trans hHeld.1, (hb.cell (World.block_lt_of_cell? w8 _ hHeld.2.1)).trans hHeld.2.1, (hb.cell (World.block_lt_of_cell? w8 _ hHeld.2.2.1)).trans hHeld.2.2.1, (hb.cell (World.block_lt_of_cell? w8 _ hHeld.2.2.2)).trans hHeld.2.2.2⟩ (fun hHeld => ?_); clear hK K hHeld; have BG := nK BG8 hb; have BF := nK BF8 hb; have BC := nK BC8 hb; have HS := nS HS8 hb; have HF := nR HF8 hb; have HK := aM (Kp.below HK8.out hb); clear BG8 BF8 BC8 HS8 HF8 HK8 hb; have hcG := cb2 BG; have hcF := cb1 BF; have hcC := cb2 BC; refine nm ?_; refine pu 6 84 ?_; refine dn ?_
   go_wp2_with (first
    | (go_at_call 71; go_loud (refine (unlink_n (rS HS) (fun k_ hk => Nat.lt_of_lt_of_le (HOK.out k_ hk) (Nat.le_trans HN.out HK.out.1)) A6_.out).mono ?_; rintro e w5 ⟨rfl, hS5, hK5⟩; have BG5 := aM (blk_kp BG.out hK5 (fun hk => absurd (Nat.lt_of_lt_of_le (HOK.out _ hk) HGN.out.1) (Nat.lt_irrefl _))); have BF5 := aM (blk_kp BF.out hK5 (fun hk => absurd (Nat.lt_of_lt_of_le (HOK.out _ hk) HGN.out.2) (Nat.lt_irrefl _))); have HF5 := aM (Kd.R_step (Kd.R_bound HF.out) (fun k_ hk hlt => hK5.2 k_ hlt (fun h => absurd (Nat.lt_of_lt_of_le (HOK.out _ h) hk.2.1) (Nat.lt_irrefl _)))); have HK5 := aM (Kp.then_ HK.out hK5 (fun k_ hk => .inl (.inl hk))); have HS5 := aM hS5; clear hS5 hK5)))
   go_ret
   exact ⟨rfl, sK BG5, _, sK BF5, rS HS5, Kd.R_mono (ok := fun k_ => (k_ ≠ gF ∧ k_ ≠ gG) ∧ N ≤ k_ ∧ _) HF5.out (fun _ hk => hk.1), HK5.out, HAT.out⟩
  | false =>
   rw [if_neg (by simp)] at H; unfold faultO at H; obtain ⟨hlim, H⟩ := iN H; have HLim := aM hlim; clear hlim; obtain rfl := sI H; clear H
   try go_wp2
   refine st4 7 [] hcG.1 hcG.2.1 hcC.1 hcC.2.1 (fun hHeld => ?_); have BG8 := aM (blk_drew BG.out); have BF8 := aM (blk_drew BF.out); have BC8 := aM (blk_drew BC.out); have HS8 := aM (Kd.S_drew HS.out); have HF8 := aM (Kd.R_drew HF.out); have HK8 := aM (Kp.drew HK.out); clear BG BF BC HS HF HK hcG hcC hcF; generalize World.drew _ = w8 at *; refine pu 0 78 ?_; refine pu 1 79 ?_; refine tk4 2 80 ?_; refine tk4 3 81 ?_; refine pu 4 82 ?_; refine on 5 83 (fun K hK => ?_); refine gC Tryz.func70 #[.agg #[.slice (some ⟨g, 0, none⟩) ns.length c, .int .i64 room], .agg #[.int .i64 u, .int .i64 gi], .int .i64 dir] ?_; refine (change_n HS8.out A5.out).mono ?_; rintro e w9 ⟨rfl, hb⟩; refine ⟨_, rfl, ?_⟩; refine hK.out _ _ ⟨(hb.cell (World.block_lt_of_cell? w8 _ hHeld.1)).trans hHeld.1, (hb.cell (World.block_lt_of_cell? w8 _ hHeld.2.1)).trans hHeld.2.1, (hb.cell (World.block_lt_of_cell? w8 _ hHeld.2.2.1)).trans hHeld.2.2.1, (hb.cell (World.block_lt_of_cell? w8 _ hHeld.2.2.2)).trans hHeld.2.2.2⟩ (fun hHeld => ?_); clear hK K hHeld; have BG := nK BG8 hb; have BF := nK BF8 hb; have BC := nK BC8 hb; have HS := nS HS8 hb; have HF := nR HF8 hb; have HK := aM (Kp.below HK8.out hb); clear BG8 BF8 BC8 HS8 HF8 HK8 hb; have hcG := cb2 BG; have hcF := cb1 BF; have hcC := cb2 BC; refine nm ?_; refine pu 6 84 ?_; refine dn ?_
   go_wp2_with (first
    | ((with_reducible refine gate_builtin (b := .append) (xs := #[.tmp 88, .tmp 91]) rfl ?_); at_builtin; go_loud (refine Kd.R_append k111 N rfl (.tmp 88) (.tmp 91) 47 111 (.agg #[(.string ⟨#[]⟩), (.int .i64 0)]) 24 rfl Tryz.underlying47 info111 rfl (by decide) (by omega) vF fs ⟨path, 4⟩ [.string path, .int .i64 4] (fun k_ => k_ ≠ gF ∧ k_ ≠ gG) (fun _ => False) rfl rfl ?aP (fun _ hk => hk.elim) ?aF ?aO (Below.refl _ _) ?aS ?aL ?_; (case aP => exact k111_mkM _ _ _ ⟨path, 4⟩); (case aF => exact (fun k_ hk => ⟨fun e => absurd (Nat.lt_of_lt_of_le (blk_lt (sK BF)) (e ▸ hk)) (Nat.lt_irrefl _), fun e => absurd (Nat.lt_of_lt_of_le (blk_lt (sK BG)) (e ▸ hk)) (Nat.lt_irrefl _)⟩)); (case aO => exact rR HF); (case aS => exact Nat.le_trans HN.out HK.out.1); (case aL => have := HLim.out; omega); intro v1 w3 ho hb hg hat; have HS3 := aM (Kd.S_grown (rS HS) hg (fun k_ hk e => absurd (Nat.lt_of_lt_of_le (HOK.out k_ hk) ((Kd.R_base HF.out) k_ e.symm)) (Nat.lt_irrefl _))); have BG3 := aM (blk_grown (sK BG) hg (fun e_ => (HF.out.1 gG e_.symm).2 rfl)); have BF3 := aM (blk_grown (sK BF) hg (fun e_ => (HF.out.1 gF e_.symm).1 rfl)); have HAT3 := aM (show ∀ k_, some k_ = v1.ownBlock → some k_ = vF.ownBlock ∨ w.heap.size ≤ k_ from fun k_ hk => by (rcases hat with h | ⟨b, h, h2⟩; (· exact HAT.out k_ (hk.trans h)); (· exact .inr (by rw [h] at hk; injection hk with hk; rw [hk]; exact Nat.le_trans HK.out.1 h2)))); have HK3 := aM (Kp.of_grown hg HK.out (fun k_ hk => (HAT.out k_ hk.symm).elim (fun h => .inl (.inr (.inr h))) .inr)); have HF3 := aM ho; clear ho hb hg hat; obtain ⟨A1, c1_, e1_⟩ := Kd.R_slice HF3.out; rw [List.length_append, List.length_singleton] at e1_; subst e1_; have hcF := cb1 BF3)))
   go_ret
   exact ⟨rfl, sX BG3, _, sX BF3, Kd.S_far (p := ⟨gF, 0, none⟩) (rS HS3) (fun k_ hk e => absurd (Nat.lt_of_lt_of_le (HOK.out k_ hk) (e ▸ HGN.out.2)) (Nat.lt_irrefl _)) _, Kd.R_far (p := ⟨gF, 0, none⟩) (rR HF3) (fun k_ hk => hk.1) _, Kp.setCell (p := ⟨gF, 0, none⟩) HK3.out (.inl (.inr (.inl rfl))) _, HAT3.out⟩
def impl_Fs_taken.f (k : Nat) (ns : List S62) (room u gi node : Int) : Option (List S62 × Int × Bool × Bool) :=
 (impl_Fs_own.f ns room).bind fun o => if 0 < o.1.length then ((impl_Fs_firstName.f k o.1 o.2 0 node).bind fun d => (impl_Fs_take.f k o.1 o.2 u gi d.1 d.2.1 (⟨#[47]⟩ : ByteArray) 0 []).bind fun x => some (x.2.1, o.2, x.1, ((x.2.2.length : Int) == 0))) else none
theorem first_n {k : Nat} {W : World} {base g n c : Nat} {ok : Nat → Prop} {ns : List S62} {room dir node : Int} {d : Int × ByteArray × Bool} (hS : Kd.S k62 62 W base ok (.slice (some ⟨g, 0, none⟩) n c) ns) (h : impl_Fs_firstName.f k ns room dir node = some d) : Calls Tryz.prog 41 #[.agg #[.slice (some ⟨g, 0, none⟩) n c, .int .i64 room], .int .i64 dir, .int .i64 node] W fun e w' => e = .returned (.tuple #[.int .i64 d.1, .string d.2.1, .bool d.2.2]) ∧ Below W.heap.size W w' := by
 obtain ⟨rfl, hc, hC⟩ := Kd.S_reads' hS; exact impl_Fs_firstName.calls k _ c ns room dir node d.1 d.2.1 d.2.2 W hC hc h
set_option maxHeartbeats 4000000 in
theorem impl_Fs_taken.calls (k : Nat) (A0 : Option Addr) (c0 : Nat) (ns : List S62) (room u gi node : Int) (r : List S62) (r2 : Int) (r3 r4 : Bool) (w : World) (hr0 : Kd.C k62 w A0 ns.length ns) (hc0 : ns.length ≤ c0) (h : impl_Fs_taken.f k ns room u gi node = some (r, r2, r3, r4)) :
  Calls Tryz.prog 23 #[.agg #[.slice A0 ns.length c0, .int .i64 room], .agg #[.int .i64 u, .int .i64 gi], .int .i64 node] w fun e w' => ∃ v0_ : Value, e = .returned (.tuple #[.agg #[v0_, .int .i64 r2], .bool r3, .bool r4]) ∧ Kd.S k62 62 w' w.heap.size (fun _ => True) v0_ r ∧ Below w.heap.size w w' := by
 unfold impl_Fs_taken.f at h; obtain ⟨o, A1, h1⟩ := bS h; obtain ⟨hpos, h2⟩ := iN h1; obtain ⟨d, A2, h3⟩ := bS h2; obtain ⟨x, A3, h4⟩ := bS h3; obtain ⟨rfl, rfl, rfl, rfl⟩ : x.2.1 = r ∧ o.2 = r2 ∧ x.1 = r3 ∧ ((x.2.2.length : Int) == 0) = r4 := by simpa using h4
 clear h h1 h2 h3 h4; have hu32 := Tryz.underlying32; have hu34 := Tryz.underlying34; have HB := b0 w; have HR := aM hr0; have HC := aM hc0; clear hr0 hc0; go_enter Tryz.func23, Tryz.ntmps23
 go_wp2_with (first
  | ((with_reducible refine gd 3 rfl ?_); go_loud (refine bxE 3 #[.slice A0 ns.length c0, .int .i64 room] 32 ?_; intro gA hg w1 hbox hb; have BA := aM hbox; replace HB := nSB hb; clear hb hbox hg; have hcA := cb2 BA))
  | ((with_reducible refine gd 4 rfl ?_); go_loud (refine bxE 4 #[.int .i64 u, .int .i64 gi] 34 ?_; intro gQ hg w2 hbox hb; have BC := aM hbox; have NAQ := nL BA hg; replace BA := nK BA hb; replace HB := nSB hb; clear hb hbox hg; have hcA := cb2 BA; have hcC := cb2 BC))
  | ((with_reducible refine gd 6 rfl ?_); go_loud (refine bxE 6 #[.slice none 0 0, .int .i64 0] 32 ?_; intro gR hg w3 hbox hb; have BR := aM hbox; have GR := nGB hg; replace BA := nK BA hb; replace BC := nK BC hb; replace HB := nSB hb; clear hb hbox hg; have hcA := cb2 BA; have hcC := cb2 BC; have hcR := cb2 BR))
  | (go_at_call 40; go_loud (refine (impl_Fs_own.calls A0 c0 ns room o.1 o.2 _ (by repeat (first | exact (Kd.C_below HR.out HB.out) | (with_reducible refine Kd.C_drewN ?_ _) | (with_reducible refine Kd.C_drew ?_))) HC.out A1.out).mono ?_; rintro e w4 ⟨v, rfl, hS4, hb⟩; obtain ⟨g, c, eg, hg1, hg2, cells, hgc⟩ := Kd.S_form hS4 hpos; subst eg; have HB3 := HB; have HS := aM (Kd.S_mono (ok' := fun k_ => w3.heap.size ≤ k_ ∧ k_ < w4.heap.size) (Kd.S_bound hS4) (fun k_ hk => ⟨hk.2.1, hk.2.2.1⟩)); have GRL : Aside0 (gR < w3.heap.size) := ⟨blk_lt BR.out⟩; have HN4 : Aside0 (w3.heap.size ≤ w4.heap.size) := ⟨hb.size⟩; replace BA := nK BA hb; replace BC := nK BC hb; replace BR := nK BR hb; replace HB := nSB hb; clear hb hS4 hgc hg1 hg2; have hcA := cb2 BA; have hcC := cb2 BC; have hcR := cb2 BR))
  | ((with_reducible refine gate_dst (N := 17) rfl ?_); go_loud (refine Kd.R_lit k111 _ 111 ?hg (N := 17) ?hd (xs := ([] : List S111)) (inner := []) (ok := fun _ => True) (okp := fun _ => True) ?hr ?hp (fun _ hk => hk) trivial (Below.refl _ _) (Nat.le_refl _) (by simp) ?_; (case hd => rfl); (case hg => rfl); (case hr => first | (go_simp; done) | (go_simp; rfl)); (case hp => exact (Reps.none _ _)); intro v5 w5 ho hb hg_ hnew_; clear hg_ hnew_; have HF : Aside0 (Kd.R k111 111 w5 w4.heap.size (fun k_ => k_ < w5.heap.size) v5 []) := ⟨Kd.R_mono (Kd.R_bound (Kd.R_lower ho (show w4.heap.size ≤ _ from Nat.le_refl _))) (fun k_ hk => hk.2.2.1)⟩; replace HS := nS HS hb; have HN5 := aM (show w4.heap.size ≤ w5.heap.size from hb.size); replace BA := nK BA hb; replace BC := nK BC hb; replace BR := nK BR hb; replace HB := nSB hb; clear hb ho; have hcA := cb2 BA; have hcC := cb2 BC; have hcR := cb2 BR))
  | ((with_reducible refine gd 9 rfl ?_); go_loud (refine bxE 9 #[.slice none 0 0, .int .i64 0] 32 ?_; intro gG hg w6 hbox hb; have BG := aM hbox; have HX6 : Aside0 (Below w5.heap.size w5 w6) := ⟨hb⟩; have GG : Aside0 (w5.heap.size ≤ gG) := ⟨by rw [hg]; exact Nat.le_refl _⟩; clear hb hbox hg; have hcG := cb2 BG))
  | ((with_reducible refine gd 10 rfl ?_); go_loud (refine bxE 10 #[.slice none 0 0] 47 ?_; intro gF hg w7 hbox hb; have BF := aM hbox; have HX7 : Aside0 (Below w5.heap.size w5 w7) := ⟨below_then HX6.out HX6.out.size hb⟩; have GF : Aside0 (w5.heap.size ≤ gF) := ⟨by rw [hg]; exact HX6.out.size⟩; have NGF := nL BG hg; have NFG := nH BG hg; replace BG := nK BG hb; clear hb hbox hg; have hcG := cb2 BG; have hcF := cb1 BF; obtain ⟨A5, c5, e5⟩ := Kd.R_slice HF.out; subst e5; have hn1 := NGF.out; have hn2 := NFG.out))
  | (go_at_call 41; go_loud (have HXW := below_set (below_set (below_set HX7.out GG.out (j := 0) (v := .slice (some ⟨g, 0, none⟩) o.1.length c)) GG.out (j := 1) (v := .int .i64 o.2)) GF.out (j := 0) (v := .slice A5 ([] : List S111).length c5); refine (first_n (Kd.S_below (rS HS) HXW) A2.out).mono ?_; rintro e w8 ⟨rfl, hb⟩; have HX8 := below_then HXW HXW.size hb; replace BG := nX #[.slice (some ⟨g, 0, none⟩) o.1.length c, .int .i64 o.2] BG hb; replace BF := nX #[.slice A5 ([] : List S111).length c5] BF hb; replace BA := nK BA HX8; replace BC := nK BC HX8; replace BR := nK BR HX8; replace HS := nS HS HX8; replace HF := nR HF HX8; replace HB := aM (below_then HB.out HB.out.size HX8); have HN8 := aM HX8.size; clear hb HXW HX8 HX6 HX7; have hcG := cb2 BG; have hcF := cb1 BF; have hcC := cb2 BC; have hcR := cb2 BR))
  | (go_at_call 42; go_loud (refine (impl_Fs_take.calls k gG gF g o.1.length c o.1 o.2 u gi d.1 d.2.1 (⟨#[47]⟩ : ByteArray) 0 [] (.slice A5 ([] : List S111).length c5) x w3.heap.size w4.heap.size (fun k_ => w3.heap.size ≤ k_ ∧ k_ < w4.heap.size) _ (sK BG) (sK BF) (rS HS) (fun k_ hk => hk.2) (Nat.le_trans HN5.out HN8.out) ⟨Nat.le_trans HN5.out GG.out, Nat.le_trans HN5.out GF.out⟩ (Kd.R_mono (ok := fun k_ => k_ < w5.heap.size) (rR HF) (fun k_ hk => ⟨fun e => absurd (Nat.lt_of_lt_of_le hk (e ▸ GF.out)) (Nat.lt_irrefl _), fun e => absurd (Nat.lt_of_lt_of_le hk (e ▸ GG.out)) (Nat.lt_irrefl _)⟩)) A3.out).mono ?_; rintro e w9 ⟨rfl, hG9, v9, hF9, hS9, hR9, hK9, hAT9⟩; have NTk := aM (show ∀ k_, k_ < w3.heap.size → ¬ Tk (fun k_ => w3.heap.size ≤ k_ ∧ k_ < w4.heap.size) gF (.slice A5 ([] : List S111).length c5) k_ from fun k_ hlt hk => by (rcases hk with hk | hk | hk; (· exact absurd (Nat.lt_of_lt_of_le hlt hk.1) (Nat.lt_irrefl _)); (· subst hk; exact absurd (Nat.lt_of_lt_of_le hlt (Nat.le_trans HN4.out (Nat.le_trans HN5.out GF.out))) (Nat.lt_irrefl _)); (· exact absurd (Nat.lt_of_lt_of_le hlt (Nat.le_trans HN4.out (Kd.R_base HF.out k_ hk.symm))) (Nat.lt_irrefl _)))); have BR9 := aM (blk_kp BR.out hK9 (NTk.out gR GRL.out)); have BG9 := aM hG9; have BF9 := aM hF9; have HS9 := aM hS9; have HF9 := aM hR9; have HK9 := aM hK9; obtain ⟨A9, c9, e9⟩ := Kd.R_slice HF9.out; subst e9; clear hG9 hF9 hS9 hR9 hK9 hAT9; have hcG := cb2 BG9; have hcF := cb1 BF9; have hcR := cb2 BR9)))
 refine st3 8 [] hcG.1 hcG.2.1 hcF.1 (fun hHeld => ?_); have BR8 := aM (blk_drew BR9.out); have HS8 := aM (Kd.S_drew HS9.out); have HK8 := aM (Kp.drew HK9.out); clear hcG hcF hcR BR9 BG9 BF9 HS9 HF9 HK9; have HWB := HB; generalize w9.drew = w10 at *; have hcR := cb2 BR8; refine pu 1 30 ?_; refine tk3 0 29 ?_; refine tk3 2 31 ?_; refine pu 3 32 ?_; refine pu 4 33 ?_; refine one_ (i := 5) (N := none) #[true, true, true, true, true, true, false, false] rfl rfl (by kernel_rfl) (by decide) (fun K hK => ?_); refine skip_ (w1 := (w10.setCell ⟨gR, 0, none⟩ (.slice (some ⟨g, 0, none⟩) o.1.length c)).setCell ⟨gR, 1, none⟩ (.int .i64 o.2)) rfl rfl (by first | (go_simp; done) | (go_simp; rfl)) ?_; have hn3 : gG ≠ gR := fun e => absurd (Nat.lt_of_lt_of_le GRL.out (Nat.le_trans HN4.out (Nat.le_trans HN5.out (e ▸ GG.out)))) (Nat.lt_irrefl _)
 have hn4 : gF ≠ gR := fun e => absurd (Nat.lt_of_lt_of_le GRL.out (Nat.le_trans HN4.out (Nat.le_trans HN5.out (e ▸ GF.out)))) (Nat.lt_irrefl _)
 refine hK.out _ _ ⟨by have := hHeld.1; go_simp, by have := hHeld.2.1; go_simp, by have := hHeld.2.2; go_simp⟩ (fun _ => ?_); clear hK K hHeld; refine pu 6 7 ?_; refine pu 7 8 ?_; refine dn ?_; go_wp2; refine bodyPost_ret (results_ctt rfl _ _ gR 32 #[.slice (some ⟨g, 0, none⟩) o.1.length c, .int .i64 o.2] (0, 0) _ rfl (sX BR8) Tryz.underlying32 rfl (by kernel_rfl)) rfl ?_; refine ⟨_, sE, ?_, ?_⟩
 ·exact Kd.S_mono (Kd.S_far (p := ⟨gR, 1, none⟩) (Kd.S_far (p := ⟨gR, 0, none⟩) (Kd.S_lower HS8.out HB3.out.size) (fun k_ hk e => absurd (Nat.lt_of_lt_of_le (e ▸ GRL.out) hk.1) (Nat.lt_irrefl _)) _) (fun k_ hk e => absurd (Nat.lt_of_lt_of_le (e ▸ GRL.out) hk.1) (Nat.lt_irrefl _)) _) (fun _ _ => trivial)
 ·have hw4 : w.heap.size ≤ w4.heap.size := Nat.le_trans HB3.out.size HN4.out; refine below_set (below_set (Below.trans HB.out (Kp.to_below HK8.out HB.out.size (fun k_ hk => ?_))) GR.out) GR.out
  rcases hk with hk | hk | hk
  ·exact Nat.le_trans HB3.out.size hk.1
  ·rw [hk]; exact Nat.le_trans hw4 (Nat.le_trans HN5.out GF.out)
  ·exact Nat.le_trans hw4 (Kd.R_base HF.out k_ hk.symm)
end Go.Proofs.YtmhjmicplaolmaaGreatDoor.PRm
