-- Written by a program of this session (wip/print2) out of the translation. Lean checks it.
import Derived.Test.YtnmiglfmainhiaaGreatDoorPNbx0
import Derived.Test.YtnmiglfmainhiaaGreatDoorPNbx17
namespace Go.Proofs.YtnmiglfmainhiaaGreatDoor.PNb
open Go.RowKit Go.Proofs.YtnmiglfmainhiaaGreatDoorW.PrintWords Go.Proofs.YtnmiglfmainhiaaGreatDoorW.PrintLast Go.Proofs.YtnmiglfmainhiaaGreatDoorW.PrintMore
attribute [local go_sem] max2_int min2_int max_two min_two max_three min_three max_four min_four   -- for this text's walks alone
set_option linter.unusedVariables false
set_option linter.unusedSimpArgs false
set_option maxHeartbeats 8000000
set_option maxRecDepth 100000

/-! ### laws_markFs: function 16 -/
/-- What the marks turn: blocks of the nodes and of their entries, made since base; a node's List stays. -/
structure Marked (base : Nat) (w w' : World) : Prop where
 below : Below base w w'
 block : ∀ i, i < w.heap.size → w'.heap[i]? = w.heap[i]? ∨ ∃ q cs cs', (q = 74 ∨ q = 105) ∧ w.heap[i]? = some (.cells cs q (0, 0)) ∧ w'.heap[i]? = some (.cells cs' q (0, 0)) ∧ cs'.size = cs.size ∧ (q = 74 → ∀ j, cs'[j * 7 + 6]? = cs[j * 7 + 6]?)
theorem Marked.refl {base : Nat} (w : World) : Marked base w w := ⟨Below.refl _ _, fun _ _ => .inl rfl⟩
theorem Marked.then_ {base : Nat} {w w1 w2 : World} (h : Marked base w w1) (hb : Below w1.heap.size w1 w2) (hz : base ≤ w.heap.size) : Marked base w w2 :=
 ⟨below_then h.below (Nat.le_trans hz h.below.size) hb, fun i hi => by rw [hb.block i (Nat.lt_of_lt_of_le hi h.below.size)]; exact h.block i hi⟩
theorem Marked.trans {base : Nat} {w w1 w2 : World} (h : Marked base w w1) (k : Marked base w1 w2) : Marked base w w2 :=
 ⟨h.below.trans k.below, fun i hi => by
  rcases k.block i (Nat.lt_of_lt_of_le hi h.below.size) with e | ⟨q, cs, cs', hq, h1, h2, h3, h4⟩
  ·rw [e]; exact h.block i hi
  ·rcases h.block i hi with e | ⟨q0, cs0, cs0', hq0, k1, k2, k3, k4⟩
   ·exact .inr ⟨q, cs, cs', hq, by rw [← e]; exact h1, h2, h3, h4⟩
   ·have e := k2.symm.trans h1
    injection e with e
    injection e with e1 e2
    subst e1 e2
    exact .inr ⟨q0, cs0, cs', hq0, k1, h2, h3.trans k3, fun hv j => (h4 hv j).trans (k4 hv j)⟩⟩
theorem Marked.store {base : Nat} {w w1 : World} {g q : Nat} {cs : Array Value} (h : Marked base w w1) (hg : w1.heap[g]? = some (.cells cs q (0, 0))) (hb : base ≤ g) (hq : q = 74 ∨ q = 105) (j : Nat) (u : Value) (h6 : q = 74 → ∀ i, j ≠ i * 7 + 6) : Marked base w (w1.setCell ⟨g, j, none⟩ u) :=
 h.trans ⟨(Below.refl base w1).setCell hb _, fun i hi => by
  by_cases e : i = g
  ·subst e
   exact .inr ⟨q, cs, cs.setIfInBounds j u, hq, hg, blk_set hg j u, Array.size_setIfInBounds, fun hv i => Array.getElem?_setIfInBounds_ne (h6 hv i)⟩
  ·exact .inl (Below.heap_setCell w1 ⟨g, j, none⟩ u i e)⟩
/-- Another block, a row of other types: they live on. -/
theorem Marked.blk {base g t : Nat} {w w' : World} {cs : Array Value} (hm : Marked base w w') (h : w.heap[g]? = some (.cells cs t (0, 0))) (h1 : t ≠ 74 := by decide) (h2 : t ≠ 105 := by decide) : w'.heap[g]? = some (.cells cs t (0, 0)) := by
 rcases hm.block g (blk_lt h) with e | ⟨q, cs0, _, hq, k1, _⟩
 ·exact e.trans h
 ·have e := h.symm.trans k1
  injection e with e
  injection e with e1 e2
  exact absurd e2 (fun e2 => by subst e2; rcases hq with hq | hq <;> contradiction)
theorem Marked.R {α : Type} {d : Kd α} {e base b : Nat} {ok : Nat → Prop} {v : Value} {xs : List α} {w w' : World} (hm : Marked b w w') (h : Kd.R d e w base ok v xs) (hq : ∀ q, q ∈ e :: d.E → q ≠ 74 ∧ q ≠ 105 := by decide) : Kd.R d e w' base ok v xs :=
 Kd.R_mono (Kd.R_move (Kd.R_bound h) (fun k hk => by
  obtain ⟨_, _, hlt, q, hmem, cells, hc⟩ := hk
  have := hq q hmem
  rw [hm.blk hc this.1 this.2, hc])) (fun _ hk => hk.1)
/-- A row of entries, of n. -/
def Ent (base : Nat) (w : World) (A : Option Addr) (n : Nat) : Prop := 0 < n → ∃ g cs, A = some ⟨g, 0, none⟩ ∧ base ≤ g ∧ w.heap[g]? = some (.cells cs 105 (0, 0)) ∧ n * 2 ≤ cs.size
theorem Ent.marked {base : Nat} {w w' : World} {A : Option Addr} {n : Nat} (h : Ent base w A n) (hm : Marked base w w') : Ent base w' A n := fun hn => by
 obtain ⟨g, cs, e, hb, hc, hs⟩ := h hn
 rcases hm.block g (blk_lt hc) with e1 | ⟨q, cs0, cs', hq, h1, h2, h3, _⟩
 ·exact ⟨g, cs, e, hb, e1.trans hc, hs⟩
 ·have e2 := hc.symm.trans h1
  injection e2 with e2
  injection e2 with e3 e4
  subst e3 e4
  exact ⟨g, cs', e, hb, h2, by omega⟩
theorem cell_size {w : World} {g t j : Nat} {cs : Array Value} {u : Value} (h : w.heap[g]? = some (.cells cs t (0, 0))) (hc : w.cell? ⟨g, j, none⟩ = some u) : j < cs.size := by
 rw [blk_cell h] at hc
 exact (Array.getElem?_eq_some_iff.1 hc).1
theorem Ent.of_R {base : Nat} {ok : Nat → Prop} {w : World} {v : Value} {l : List S105} (h : k105.R 105 w base ok v l) : ∃ A c, v = .slice A l.length c ∧ Ent base w A l.length := by
 obtain ⟨A, c, rfl⟩ := Kd.R_slice h
 refine ⟨A, c, rfl, fun hn => ?_⟩
 obtain ⟨g, cap, e, hb, _, cells, hc⟩ := Kd.R_form h hn
 injection e with e1 _ e3
 subst e1 e3
 obtain ⟨cs, hl, _, hcc, _⟩ := Kd.R_elem h z105 ((l.length - 1 : Nat) : Int) (by omega) (by omega)
 have hl2 : cs.length = 2 := hl
 have := cell_size hc (hcc 1 cs[1] (List.getElem?_eq_getElem (by omega)))
 have hz : (k105).sz = 2 := rfl
 rw [hz] at this
 exact ⟨g, cells, rfl, hb, hc, by omega⟩
/-- A row of nodes: each one's List is a row of entries. -/
def Nod (base : Nat) (w : World) (A : Option Addr) (l : List S74) : Prop := 0 < l.length → ∃ g cs, A = some ⟨g, 0, none⟩ ∧ base ≤ g ∧ w.heap[g]? = some (.cells cs 74 (0, 0)) ∧ l.length * 7 ≤ cs.size ∧ ∀ i, i < l.length → ∃ A6 c6, cs[i * 7 + 6]? = some (.slice A6 (l.getD i z74).f6.length c6) ∧ Ent base w A6 (l.getD i z74).f6.length
theorem Nod.marked {base : Nat} {w w' : World} {A : Option Addr} {l : List S74} (h : Nod base w A l) (hm : Marked base w w') : Nod base w' A l := fun hn => by
 obtain ⟨g, cs, e, hb, hc, hs, hi⟩ := h hn
 rcases hm.block g (blk_lt hc) with e1 | ⟨q, cs0, cs', hq, h1, h2, h3, h4⟩
 ·exact ⟨g, cs, e, hb, e1.trans hc, hs, fun i hl => by obtain ⟨A6, c6, a, b⟩ := hi i hl; exact ⟨A6, c6, a, b.marked hm⟩⟩
 ·have e2 := hc.symm.trans h1
  injection e2 with e2
  injection e2 with e3 e4
  subst e3 e4
  exact ⟨g, cs', e, hb, h2, by omega, fun i hl => by obtain ⟨A6, c6, a, b⟩ := hi i hl; exact ⟨A6, c6, (h4 rfl i).trans a, b.marked hm⟩⟩
theorem Nod.of_S {base : Nat} {ok : Nat → Prop} {w : World} {A : Option Addr} {n c : Nat} {l : List S74} (h : Kd.S k74 74 w base ok (.slice A n c) l) : Nod base w A l := fun hn => by
 obtain ⟨g, cap, e, hb, _, cells, hc⟩ := Kd.S_form h hn
 injection e with e1 e2 e3
 subst e1 e2 e3
 have hz : (k74).sz = 7 := rfl
 refine ⟨g, cells, rfl, hb, hc, ?_, fun i hi => ?_⟩
 ·obtain ⟨_, cs, hl, _, hcc, _⟩ := Kd.S_elem h z74 ((l.length - 1 : Nat) : Int) (by omega) (by omega)
  rw [hz] at hl
  have := cell_size hc (hcc 6 cs[6] (List.getElem?_eq_getElem (by omega)))
  rw [hz] at this
  omega
 ·obtain ⟨_, cs, hl, hM, hcc, _⟩ := Kd.S_elem h z74 (i : Int) (by omega) (by omega)
  obtain ⟨v6, rfl, hR⟩ := k74_openM hM
  obtain ⟨A6, c6, rfl, he⟩ := Ent.of_R hR
  have h6 := hcc 6 _ rfl
  rw [hz, blk_cell hc] at h6
  exact ⟨A6, c6, h6, he⟩
/-- A block of a type, with room for so many cells. -/
def BS (w : World) (g t m : Nat) : Prop := ∃ cs, w.heap[g]? = some (.cells cs t (0, 0)) ∧ m ≤ cs.size
theorem BS.cell {w : World} {g t m : Nat} (h : BS w g t m) (j : Nat) (hj : j < m) : ∃ u, w.cell? ⟨g, j, none⟩ = some u := by
 obtain ⟨cs, h1, h2⟩ := h
 exact ⟨cs[j], (blk_cell h1 j).trans (Array.getElem?_eq_getElem (by omega))⟩
theorem BS.frozen {w : World} {g t m : Nat} (h : BS w g t m) (j : Nat) : w.frozen? ⟨g, j, none⟩ = false := by
 obtain ⟨cs, h1, _⟩ := h
 exact blk_frozen h1 j
theorem BS.put {w : World} {g t m : Nat} (h : BS w g t m) (j : Nat) (v : Value) : BS (w.setCell ⟨g, j, none⟩ v) g t m := by
 obtain ⟨cs, h1, h2⟩ := h
 exact ⟨_, blk_set h1 j v, by rw [Array.size_setIfInBounds]; exact h2⟩
theorem BS.below {w w' : World} {g t m : Nat} (h : BS w g t m) (hb : Below w.heap.size w w') : BS w' g t m := by
 obtain ⟨cs, h1, h2⟩ := h
 exact ⟨_, blk_below h1 hb, h2⟩
theorem Marked.putB {base : Nat} {w w1 : World} {g q m : Nat} (h : Marked base w w1) (hg : BS w1 g q m) (hb : base ≤ g) (hq : q = 74 ∨ q = 105) (j : Nat) (u : Value) (h6 : q = 74 → ∀ i, j ≠ i * 7 + 6) : Marked base w (w1.setCell ⟨g, j, none⟩ u) := by
 obtain ⟨cs, h1, _⟩ := hg
 exact h.store h1 hb hq j u h6
def laws_markEntryS.l0 : Nat → Nat → Int → Int → Option Int
 | 0, _, _, _ => none
 | k + 1, n, a, i => if i < (n : Int) then (if 0 ≤ i then ((laws_markText.f k a).bind fun _ => laws_markEntryS.l0 k n (wrap64 (wrap64 (a + 1) + 1)) (wrap64 (i + 1))) else none) else some a
theorem laws_markEntryS.marks (k : Nat) (A : Option Addr) (n c : Nat) (a1 r : Int) (base : Nat) (w0 w : World) (hM : Marked base w0 w) (hz : base ≤ w0.heap.size) (hE : Ent base w A n) (h : laws_markEntryS.l0 k n a1 0 = some r) :
  Calls Tryz.prog 79 #[.slice A n c, .int .i64 a1] w fun e w' => e = .returned (.int .i64 r) ∧ Marked base w0 w' := by
 have HM := Aside0.mk hM
 have HE := Aside0.mk hE
 have HZ := Aside0.mk hz
 have H' := Aside0.mk h
 clear hM hE h hz
 go_enter Tryz.func79, Tryz.ntmps79
 go_wp2
 go_loopg [1, 5] k (fun kq v1 v5 w' => ∃ (a i : Int), v1 = .int .i64 a ∧ v5 = .int .i64 i ∧ Aside0 (laws_markEntryS.l0 kq n a i = some r) ∧ Aside0 (kq ≤ k) ∧ Aside0 (Marked base w0 w') ∧ Aside0 (Ent base w' A n))
 case atStart => exact ⟨a1, 0, sR, sR, H', ⟨Nat.le_refl _⟩, ⟨by repeat (first | exact HM.out | apply Marked.drew | apply Marked.drewN)⟩, ⟨by exact HE.out⟩⟩
 case round =>
  clear H' HM HE
  obtain ⟨a, i, rfl, rfl, HA, HK1, HM, HE⟩ := hrel
  cases gk with
  | zero => exact absurd HA.out (by simp [laws_markEntryS.l0])
  | succ k1 =>
  have H := HA.out
  clear HA
  simp only [laws_markEntryS.l0] at H
  by_cases c3 : i < (n : Int)
  rotate_left
  ·rw [if_neg c3] at H
   have c3b := decide_eq_false c3
   obtain rfl := Option.some.inj H
   go_wp2
   go_ret
   exact ⟨rfl, by repeat (first | exact HM.out | apply Marked.drew | apply Marked.drewN)⟩
  rw [if_pos c3] at H
  by_cases c4 : 0 ≤ i
  rotate_left
  ·rw [if_neg c4] at H; cases H
  rw [if_pos c4] at H
  obtain ⟨t1, A4, H⟩ := Option.bind_eq_some_iff.mp H
  replace A4 := Aside0.mk A4
  have H' := Aside0.mk H
  clear H
  obtain ⟨g, cs, eA, hgb, hgc, hgs⟩ := HE.out (by omega)
  subst eA
  have GB := Aside0.mk hgb
  have BK := Aside0.mk (show BS _ g 105 (n * 2) from ⟨cs, hgc, hgs⟩)
  clear hgb hgc hgs HE
  have c3b := decide_eq_true c3
  have c4b := decide_eq_true c4
  have p3 := eq_true c4
  have q3 := eq_true c3
  have C3 := Aside0.mk c3
  have C4 := Aside0.mk c4
  clear c3 c4
  go_wp2_with (first | ((with_reducible refine gt 69 rfl ?_); refine gL 69 15 Tryz.func69 #[.int .i64 a] ?_; (with_reducible refine (laws_markText.calls k1 a t1 _ A4.out).mono ?_); rintro e w8 ⟨rfl, hb⟩; refine ⟨_, rfl, ?_⟩; replace HM := Aside0.mk (Marked.then_ HM.out hb HZ.out); replace BK := Aside0.mk (BK.out.below hb); clear hb; obtain ⟨u1, hx1⟩ := BK.out.cell (i.toNat * 2) (by have := C3.out; have := C4.out; omega); have hf1 := BK.out.frozen (i.toNat * 2)) | ((with_reducible refine gate_store (t := 9) (p := 17) rfl ?_); refine store_event (t := 9) (p := 17) (v := ?vo_w9) (w1 := (w8.setCell ⟨g, i.toNat * 2, none⟩ (.string t1))) ?hg ?ho ?hn ?hr ?_; (case ho => rfl); (case hg => rfl); (case hn => rfl); (case hr => first | (go_simp; done) | (go_simp; rfl)); intro w9 hw; replace HM := Aside0.mk (show Marked base w0 w9 from by rw [hw]; exact HM.out.putB BK.out GB.out (.inr rfl) _ _ (fun h => by cases h)); replace BK := Aside0.mk (show BS w9 g 105 (n * 2) from by rw [hw]; exact BK.out.put _ _); clear hw hx1 hf1; obtain ⟨u2, hx2⟩ := BK.out.cell (i.toNat * 2 + 1) (by have := C3.out; have := C4.out; omega); have hf2 := BK.out.frozen (i.toNat * 2 + 1)) | ((with_reducible refine gate_store (t := 3) (p := 24) rfl ?_); refine store_event (t := 3) (p := 24) (v := ?vo_w10) (w1 := (w9.setCell ⟨g, i.toNat * 2 + 1, none⟩ (.int .i64 (wrap64 (a + 1))))) ?hg ?ho ?hn ?hr ?_; (case ho => rfl); (case hg => rfl); (case hn => rfl); (case hr => first | (go_simp; done) | (go_simp; rfl)); intro w10 hw; replace HM := Aside0.mk (show Marked base w0 w10 from by rw [hw]; exact HM.out.putB BK.out GB.out (.inr rfl) _ _ (fun h => by cases h)); replace BK := Aside0.mk (show BS w10 g 105 (n * 2) from by rw [hw]; exact BK.out.put _ _); clear hw hx2 hf2))
  go_roundg k1
  case measure => have := HK1.out; omega
  case rel => exact ⟨(wrap64 (wrap64 (a + 1) + 1)), (wrap64 (i + 1)), sR, sR, H', ⟨by have := HK1.out; omega⟩, ⟨by repeat (first | exact HM.out | apply Marked.drew | apply Marked.drewN)⟩, ⟨fun _ => by obtain ⟨cs', h1, h2⟩ := BK.out; exact ⟨g, cs', rfl, GB.out, h1, h2⟩⟩⟩
def laws_markNodeS.l0 : Nat → List S74 → Int → Int → Option Int
 | 0, _, _, _ => none
 | k + 1, ns, a, i => if i < (ns.length : Int) then (if 0 ≤ i then ((laws_markText.f k (wrap64 (wrap64 (wrap64 (wrap64 (wrap64 (a + 1) + 1) + 1) + 1) + 1))).bind fun _ => ((laws_markEntryS.l0 k (rd_T74 ns i).f6.length (wrap64 (wrap64 (wrap64 (wrap64 (wrap64 (wrap64 (a + 1) + 1) + 1) + 1) + 1) + 1)) 0).bind fun b => laws_markNodeS.l0 k ns b (wrap64 (i + 1)))) else none) else some a
theorem laws_markNodeS.marks (k : Nat) (A : Option Addr) (c : Nat) (ns : List S74) (a1 r : Int) (base : Nat) (w0 w : World) (hM : Marked base w0 w) (hz : base ≤ w0.heap.size) (hN : Nod base w A ns) (h : laws_markNodeS.l0 k ns a1 0 = some r) :
  Calls Tryz.prog 43 #[.slice A ns.length c, .int .i64 a1] w fun e w' => e = .returned (.int .i64 r) ∧ Marked base w0 w' := by
 have HM := Aside0.mk hM
 have HN := Aside0.mk hN
 have HZ := Aside0.mk hz
 have H' := Aside0.mk h
 clear hM hN h hz
 go_enter Tryz.func43, Tryz.ntmps43
 go_wp2
 go_loopg [1, 5] k (fun kq v1 v5 w' => ∃ (a i : Int), v1 = .int .i64 a ∧ v5 = .int .i64 i ∧ Aside0 (laws_markNodeS.l0 kq ns a i = some r) ∧ Aside0 (kq ≤ k) ∧ Aside0 (Marked base w0 w') ∧ Aside0 (Nod base w' A ns))
 case atStart => exact ⟨a1, 0, sR, sR, H', ⟨Nat.le_refl _⟩, ⟨by repeat (first | exact HM.out | apply Marked.drew | apply Marked.drewN)⟩, ⟨by exact HN.out⟩⟩
 case round =>
  clear H' HM HN
  obtain ⟨a, i, rfl, rfl, HA, HK1, HM, HN⟩ := hrel
  cases gk with
  | zero => exact absurd HA.out (by simp [laws_markNodeS.l0])
  | succ k1 =>
  have H := HA.out
  clear HA
  simp only [laws_markNodeS.l0] at H
  by_cases c3 : i < (ns.length : Int)
  rotate_left
  ·rw [if_neg c3] at H
   have c3b := decide_eq_false c3
   obtain rfl := Option.some.inj H
   go_wp2
   go_ret
   exact ⟨rfl, by repeat (first | exact HM.out | apply Marked.drew | apply Marked.drewN)⟩
  rw [if_pos c3] at H
  by_cases c4 : 0 ≤ i
  rotate_left
  ·rw [if_neg c4] at H; cases H
  rw [if_pos c4] at H
  obtain ⟨t1, A4, H⟩ := Option.bind_eq_some_iff.mp H
  obtain ⟨b1, A5, H⟩ := Option.bind_eq_some_iff.mp H
  replace A4 := Aside0.mk A4
  replace A5 := Aside0.mk A5
  have H' := Aside0.mk H
  clear H
  obtain ⟨g, cs, eA, hgb, hgc, hgs, hgi⟩ := HN.out (by omega)
  subst eA
  have GB := Aside0.mk hgb
  have BK := Aside0.mk (show BS _ g 74 (ns.length * 7) from ⟨cs, hgc, hgs⟩)
  have HR := Aside0.mk (Marked.refl (base := base) wr)
  have HS := Aside0.mk (show base ≤ wr.heap.size from Nat.le_trans HZ.out HM.out.below.size)
  clear hgb hgc hgs hgi
  have c3b := decide_eq_true c3
  have c4b := decide_eq_true c4
  have p3 := eq_true c4
  have q3 := eq_true c3
  have C3 := Aside0.mk c3
  have C4 := Aside0.mk c4
  clear c3 c4
  obtain ⟨u0, hx0⟩ := BK.out.cell (i.toNat * 7) (by have := C3.out; have := C4.out; omega)
  have hf0 := BK.out.frozen (i.toNat * 7)
  go_wp2_with (first | ((with_reducible refine gate_store (t := 3) (p := 16) rfl ?_); refine store_event (t := 3) (p := 16) (v := ?vo_w11) (w1 := (wr.setCell ⟨g, i.toNat * 7, none⟩ (.int .i64 (a)))) ?hg ?ho ?hn ?hr ?_; (case ho => rfl); (case hg => rfl); (case hn => rfl); (case hr => first | (go_simp; done) | (go_simp; rfl)); intro w11 hw; replace HR := Aside0.mk (show Marked base wr w11 from by rw [hw]; exact HR.out.putB BK.out GB.out (.inl rfl) _ _ (fun _ _ => by omega)); replace BK := Aside0.mk (show BS w11 g 74 (ns.length * 7) from by rw [hw]; exact BK.out.put _ _); clear hw hx0 hf0; obtain ⟨u1, hx1⟩ := BK.out.cell (i.toNat * 7 + 1) (by have := C3.out; have := C4.out; omega); have hf1 := BK.out.frozen (i.toNat * 7 + 1)) | ((with_reducible refine gate_store (t := 3) (p := 23) rfl ?_); refine store_event (t := 3) (p := 23) (v := ?vo_w12) (w1 := (w11.setCell ⟨g, i.toNat * 7 + 1, none⟩ (.int .i64 (wrap64 (a + 1))))) ?hg ?ho ?hn ?hr ?_; (case ho => rfl); (case hg => rfl); (case hn => rfl); (case hr => first | (go_simp; done) | (go_simp; rfl)); intro w12 hw; replace HR := Aside0.mk (show Marked base wr w12 from by rw [hw]; exact HR.out.putB BK.out GB.out (.inl rfl) _ _ (fun _ _ => by omega)); replace BK := Aside0.mk (show BS w12 g 74 (ns.length * 7) from by rw [hw]; exact BK.out.put _ _); clear hw hx1 hf1; obtain ⟨u2, hx2⟩ := BK.out.cell (i.toNat * 7 + 2) (by have := C3.out; have := C4.out; omega); have hf2 := BK.out.frozen (i.toNat * 7 + 2)) | ((with_reducible refine gate_store (t := 3) (p := 30) rfl ?_); refine store_event (t := 3) (p := 30) (v := ?vo_w13) (w1 := (w12.setCell ⟨g, i.toNat * 7 + 2, none⟩ (.int .i64 (wrap64 (wrap64 (a + 1) + 1))))) ?hg ?ho ?hn ?hr ?_; (case ho => rfl); (case hg => rfl); (case hn => rfl); (case hr => first | (go_simp; done) | (go_simp; rfl)); intro w13 hw; replace HR := Aside0.mk (show Marked base wr w13 from by rw [hw]; exact HR.out.putB BK.out GB.out (.inl rfl) _ _ (fun _ _ => by omega)); replace BK := Aside0.mk (show BS w13 g 74 (ns.length * 7) from by rw [hw]; exact BK.out.put _ _); clear hw hx2 hf2; obtain ⟨u3, hx3⟩ := BK.out.cell (i.toNat * 7 + 3) (by have := C3.out; have := C4.out; omega); have hf3 := BK.out.frozen (i.toNat * 7 + 3)) | ((with_reducible refine gate_store (t := 3) (p := 37) rfl ?_); refine store_event (t := 3) (p := 37) (v := ?vo_w14) (w1 := (w13.setCell ⟨g, i.toNat * 7 + 3, none⟩ (.int .i64 (wrap64 (wrap64 (wrap64 (a + 1) + 1) + 1))))) ?hg ?ho ?hn ?hr ?_; (case ho => rfl); (case hg => rfl); (case hn => rfl); (case hr => first | (go_simp; done) | (go_simp; rfl)); intro w14 hw; replace HR := Aside0.mk (show Marked base wr w14 from by rw [hw]; exact HR.out.putB BK.out GB.out (.inl rfl) _ _ (fun _ _ => by omega)); replace BK := Aside0.mk (show BS w14 g 74 (ns.length * 7) from by rw [hw]; exact BK.out.put _ _); clear hw hx3 hf3; obtain ⟨u4, hx4⟩ := BK.out.cell (i.toNat * 7 + 4) (by have := C3.out; have := C4.out; omega); have hf4 := BK.out.frozen (i.toNat * 7 + 4)) | ((with_reducible refine gate_store (t := 3) (p := 44) rfl ?_); refine store_event (t := 3) (p := 44) (v := ?vo_w15) (w1 := (w14.setCell ⟨g, i.toNat * 7 + 4, none⟩ (.int .i64 (wrap64 (wrap64 (wrap64 (wrap64 (a + 1) + 1) + 1) + 1))))) ?hg ?ho ?hn ?hr ?_; (case ho => rfl); (case hg => rfl); (case hn => rfl); (case hr => first | (go_simp; done) | (go_simp; rfl)); intro w15 hw; replace HR := Aside0.mk (show Marked base wr w15 from by rw [hw]; exact HR.out.putB BK.out GB.out (.inl rfl) _ _ (fun _ _ => by omega)); replace BK := Aside0.mk (show BS w15 g 74 (ns.length * 7) from by rw [hw]; exact BK.out.put _ _); clear hw hx4 hf4; obtain ⟨u5, hx5⟩ := BK.out.cell (i.toNat * 7 + 5) (by have := C3.out; have := C4.out; omega); have hf5 := BK.out.frozen (i.toNat * 7 + 5)) | ((with_reducible refine gt 69 rfl ?_); refine gL 69 50 Tryz.func69 #[.int .i64 (wrap64 (wrap64 (wrap64 (wrap64 (wrap64 (a + 1) + 1) + 1) + 1) + 1))] ?_; (with_reducible refine (laws_markText.calls k1 (wrap64 (wrap64 (wrap64 (wrap64 (wrap64 (a + 1) + 1) + 1) + 1) + 1)) t1 _ A4.out).mono ?_); rintro e w16 ⟨rfl, hb⟩; refine ⟨_, rfl, ?_⟩; replace HR := Aside0.mk (Marked.then_ HR.out hb HS.out); replace BK := Aside0.mk (BK.out.below hb); clear hb hx5 hf5; obtain ⟨u6, hx6⟩ := BK.out.cell (i.toNat * 7 + 5) (by have := C3.out; have := C4.out; omega); have hf6 := BK.out.frozen (i.toNat * 7 + 5)) | ((with_reducible refine gate_store (t := 9) (p := 52) rfl ?_); refine store_event (t := 9) (p := 52) (v := ?vo_w17) (w1 := (w16.setCell ⟨g, i.toNat * 7 + 5, none⟩ (.string t1))) ?hg ?ho ?hn ?hr ?_; (case ho => rfl); (case hg => rfl); (case hn => rfl); (case hr => first | (go_simp; done) | (go_simp; rfl)); intro w17 hw; replace HR := Aside0.mk (show Marked base wr w17 from by rw [hw]; exact HR.out.putB BK.out GB.out (.inl rfl) _ _ (fun _ _ => by omega)); clear BK hw hx6 hf6; obtain ⟨g2, cs2, e2, _, h2, _, hi2⟩ := (HN.out.marked HR.out) (by have := C3.out; have := C4.out; omega); injection e2 with e2; injection e2 with e2; subst e2; obtain ⟨A6, c6, h6, hE6⟩ := hi2 i.toNat (by have := C3.out; have := C4.out; omega); have hx7 : w17.cell? ⟨g, i.toNat * 7 + 6, none⟩ = some (.slice A6 (rd_T74 ns i).f6.length c6) := (blk_cell h2 (i.toNat * 7 + 6)).trans h6; have HE := Aside0.mk (show Ent base w17 A6 (rd_T74 ns i).f6.length from hE6); clear h2 hi2 h6 hE6) | ((with_reducible refine gt 79 rfl ?_); refine gL 79 61 Tryz.func79 #[.slice A6 (rd_T74 ns i).f6.length c6, .int .i64 (wrap64 (wrap64 (wrap64 (wrap64 (wrap64 (wrap64 (a + 1) + 1) + 1) + 1) + 1) + 1))] ?_; (with_reducible refine (laws_markEntryS.marks k1 A6 (rd_T74 ns i).f6.length c6 (wrap64 (wrap64 (wrap64 (wrap64 (wrap64 (wrap64 (a + 1) + 1) + 1) + 1) + 1) + 1)) b1 base wr _ ?s1 ?s2 ?s3 A5.out).mono ?_); (case s1 => repeat (first | exact HR.out | apply Marked.drew | apply Marked.drewN)); (case s2 => exact HS.out); (case s3 => exact HE.out); rintro e w18 ⟨rfl, hm⟩; refine ⟨_, rfl, ?_⟩; clear HR HE hx7; have HR := Aside0.mk hm; clear hm))
  go_roundg k1
  case measure => have := HK1.out; omega
  case rel => exact ⟨b1, (wrap64 (i + 1)), sR, sR, H', ⟨by have := HK1.out; omega⟩, ⟨by repeat (first | exact HM.out.trans HR.out | apply Marked.drew | apply Marked.drewN)⟩, ⟨by exact HN.out.marked HR.out⟩⟩
def laws_markFs.f (k : Nat) (l0 : List S74) (x a1 : Int) : Option Int := laws_markNodeS.l0 k l0 a1 0
theorem laws_markFs.marks (k : Nat) (A : Option Addr) (c : Nat) (l0 : List S74) (x a1 r : Int) (base : Nat) (w : World) (hz : base ≤ w.heap.size) (hN : Nod base w A l0) (h : laws_markFs.f k l0 x a1 = some r) :
  Calls Tryz.prog 16 #[.agg #[.slice A l0.length c, .int .i64 x], .int .i64 a1] w fun e w' => e = .returned (.int .i64 r) ∧ Marked base w w' := by
 have hu := Tryz.underlying31
 have HN := Aside0.mk hN
 have HZ := Aside0.mk hz
 have HH := Aside0.mk (show laws_markNodeS.l0 k l0 a1 0 = some r from h)
 have HB := Aside0.mk (Below.refl w.heap.size w)
 clear hN hz h
 go_enter Tryz.func16, Tryz.ntmps16
 go_wp2_with (first | ((with_reducible refine gd 2 rfl ?_); refine bxE 2 #[.slice A l0.length c, .int .i64 x] 31 ?_; intro gb hg w5 hbox hb; replace HB := nSB hb; have BK := Aside0.mk hbox; clear hb hbox hg; have hcz := cb2 BK) | ((with_reducible refine gt 43 rfl ?_); refine gL 43 8 Tryz.func43 #[.slice A l0.length c, .int .i64 a1] ?_; have HM := Aside0.mk (show Marked base w _ from (Marked.refl w).then_ (show Below w.heap.size w _ from sB) HZ.out); (with_reducible refine (laws_markNodeS.marks k A c l0 a1 r base w _ HM.out HZ.out ?s1 HH.out).mono ?_); (case s1 => exact HN.out.marked HM.out); rintro e w6 ⟨rfl, hm⟩; refine ⟨_, rfl, ?_⟩; have HR := Aside0.mk hm; clear hm HM HB))
 go_ret
 exact ⟨rfl, by repeat (first | exact HR.out | apply Marked.drew | apply Marked.drewN)⟩

/-! ### laws_markIntS: function 17 -/
def laws_markIntS.l0 : Nat → List Int → Int → Int → Option (Int × List Int)
 | 0, _, _, _ => none
 | k + 1, x0, x1, x5 => if x5 < (x0.length : Int) then (if 0 ≤ x5 then (laws_markIntS.l0 k (x0.set (x5 : Int).toNat x1) (wrap64 (x1 + 1)) (wrap64 (x5 + 1))) else (none)) else (some (x1, x0))
def laws_markIntS.f (k : Nat) (l0 : List Int) (a1 : Int) : Option (Int × List Int) := laws_markIntS.l0 k l0 a1 0
theorem laws_markIntS.calls (k : Nat) (P0_ : Nat → Prop) (u9000_ : Value) (l0 : List Int) (a1 : Int) (r1 : Int) (r2 : List Int) (w0 w : World) (hB : Below w0.heap.size w0 w) (ho0 : Kd.R (Kd.int .i64) 3 w w0.heap.size P0_ u9000_ l0) (h : laws_markIntS.f k l0 a1 = some (r1, r2)) :
  Calls Tryz.prog 17 #[u9000_, .int .i64 a1] w fun e w' => e = .returned (.int .i64 r1) ∧ Kd.R (Kd.int .i64) 3 w' w0.heap.size (fun k_ => (P0_ k_ ∨ w.heap.size ≤ k_)) u9000_ r2 ∧ Below w0.heap.size w0 w' ∧ Kept w w' (fun k_ => P0_ k_) := by
 have HO0 := Aside0.mk (show Kd.R (Kd.int .i64) 3 w w0.heap.size (fun k_ => (P0_ k_ ∨ w.heap.size ≤ k_)) u9000_ l0 from Kd.R_mono ho0 (fun k_ hk => (.inl hk)))
 have HK := Aside0.mk (Kept.refl w (fun k_ => P0_ k_))
 have HW0 := Aside0.mk hB.size
 have HB := Aside0.mk hB
 clear hB
 have H : (laws_markIntS.l0 k l0 a1 0) = some (r1, r2) := h
 clear h
 have H' := Aside0.mk H
 clear H
 go_enter Tryz.func17, Tryz.ntmps17
 go_wp2
 go_loopg [1, 5] k (fun kq v1 v5 w' => ∃ (x0_1 : List Int) (x1_1 : Int) (x5_1 : Int), v1 = .int .i64 x1_1 ∧ v5 = .int .i64 x5_1 ∧ Aside0 (laws_markIntS.l0 kq x0_1 x1_1 x5_1 = some (r1, r2)) ∧ Aside0 (kq ≤ k) ∧ Aside0 (Kd.R (Kd.int .i64) 3 w' w0.heap.size (fun k_ => (P0_ k_ ∨ w.heap.size ≤ k_)) u9000_ x0_1) ∧ Aside0 (Kept w w' (fun k_ => P0_ k_)) ∧ Aside0 (Below w0.heap.size w0 w'))
 case atStart => exact ⟨(l0), (a1), (0), sR, sR, H', ⟨Nat.le_refl _⟩, ⟨rR HO0⟩, ⟨by repeat (first | (with_reducible first | exact HK.out | apply Kept.alloc | apply Kept.drewN | apply Kept.drew) | exact HK.out)⟩, ⟨sB⟩⟩
 case round =>
  clear H'
  try clear c1
  try clear p2
  obtain ⟨x0_1, x1_1, x5_1, rfl, rfl, HA, HK1, HO_0, HK, HB⟩ := hrel
  cases gk with
  | zero => exact absurd HA.out (by simp [laws_markIntS.l0])
  | succ k1 =>
   have H := HA.out
   clear HA
   simp only [laws_markIntS.l0] at H
   by_cases c3 : x5_1 < (x0_1.length : Int)
   ·rw [if_pos c3] at H
    have c3b0 := decide_eq_true c3
    clear c3
    obtain ⟨c4, H⟩ := iN H
    have c4b0 := decide_eq_true c4
    clear c4
    obtain ⟨y489, hy489⟩ : ∃ y_ : List Int, y_ = (x0_1.set (x5_1 : Int).toNat x1_1) := ⟨_, rfl⟩
    replace H : (laws_markIntS.l0 k1 y489 (wrap64 (x1_1 + 1)) (wrap64 (x5_1 + 1))) = some (r1, r2) := by first | (rw [hy489]; with_reducible exact H) | (have H2_ := (Option.bind_some _ _).symm.trans H; rw [hy489]; with_reducible exact H2_) | (have H2_ := (Option.bind_some _ _).symm.trans H; with_reducible exact H2_) | with_reducible exact H | (rw [hy489]; exact H) | exact H
    have Ny489 := Aside0.mk hy489
    clear hy489
    have H' := Aside0.mk H
    clear H
    obtain ⟨Ao6, co6, eo6⟩ := Kd.R_slice HO_0.out
    subst eo6
    have p5 : 0 ≤ (x5_1 : Int) := sO
    have q5 : (x5_1 : Int) < ((x0_1.length : Int) : Int) := sO
    obtain ⟨go5, co5, eo5, gb5, gl5, cl5, HG5⟩ := Kd.R_form HO_0.out (by omega)
    (first | cases eo5 | (injection eo5 with ea_ en_ ec_; (first | subst ea_ | (injection ea_ with ea_; subst ea_)); subst ec_; clear en_))
    have GB5 := Aside0.mk gb5
    have GG5 := Aside0.mk HG5
    clear gb5 gl5 HG5
    have HMgo5 := Aside0.mk (show (P0_ go5 ∨ w.heap.size ≤ go5) from (HO_0.out.1 _ rfl))
    obtain ⟨hx5_0, hf5_0⟩ := Kd.R_celln 0 HO_0.out (x5_1 : Int) p5 q5
    replace p5 := eq_true p5
    replace q5 := eq_true q5
    have HP7 := Kd.R_putg HO_0.out (x5_1 : Int) x1_1
    go_wp2_with (first | ((with_reducible refine gate_store (t := 3) (p := 15) rfl ?_); refine store_event (t := 3) (p := 15) (v := ?vo_w8) (w1 := (wr.setCell ⟨go5, (x5_1 : Int).toNat, none⟩ (.int .i64 x1_1))) ?hg ?ho ?hn ?hr ?_; (case ho => rfl); (case hg => rfl); (case hn => rfl); (case hr => first | (go_simp; done) | (go_simp; rfl)); intro w8 hw; have hg : wr.grownBy w8 (some go5) := (by rw [hw]; exact HP7.2); have hp_ : Kd.R (Kd.int .i64) 3 w8 w0.heap.size (fun k_ => (P0_ k_ ∨ w.heap.size ≤ k_)) (.slice (some ⟨go5, 0, none⟩) x0_1.length co6) y489 := (by rw [hw, Ny489.out]; exact HP7.1); clear HP7; replace HB := Aside0.mk ((by rw [hw]; exact below_set (HB.out) GB5.out : Below w0.heap.size w0 w8)); replace HK := Aside0.mk (Kept.of_grown (S := (fun k_ => P0_ k_)) hg (by repeat (first | (with_reducible first | exact HK.out | apply Kept.alloc | apply Kept.drewN | apply Kept.drew) | exact HK.out)) (fun k_ e_ => (HO_0.out.1 k_ e_))); replace HO_0 := Aside0.mk (hp_); clear hg hw hp_))
    go_roundg k1
    case measure => have := HK1.out; omega
    case rel => exact ⟨(y489), (wrap64 (x1_1 + 1)), (wrap64 (x5_1 + 1)), sR, sR, H', ⟨by have := HK1.out; omega⟩, ⟨rR HO_0⟩, ⟨by repeat (first | (with_reducible first | exact HK.out | apply Kept.alloc | apply Kept.drewN | apply Kept.drew) | exact HK.out)⟩, ⟨sB⟩⟩
   ·rw [if_neg c3] at H
    have c3b0 := decide_eq_false c3
    clear c3
    simp only [Option.some.injEq, Prod.mk.injEq] at H
    obtain ⟨rfl, rfl⟩ := H
    obtain ⟨Ao9, co9, eo9⟩ := Kd.R_slice HO_0.out
    subst eo9
    go_wp2
    go_ret
    exact ⟨sE, by (with_reducible repeat (first | apply Kd.R_alloc | apply Kd.R_drewN | apply Kd.R_drew)); exact HO_0.out, by repeat (first | (with_reducible first | exact HB.out | apply below_alloc | apply pw_below_drewN | apply below_drew1) | exact HB.out), by repeat (first | (with_reducible first | exact HK.out | apply Kept.alloc | apply Kept.drewN | apply Kept.drew) | exact HK.out)⟩

/-! ### laws_heldIntS: function 18 -/
def laws_heldIntS.l0 : Nat → List Int → Int → Int → Option (Int)
 | 0, _, _, _ => none
 | k + 1, x0, x1, x5 => if x5 < (x0.length : Int) then (if 0 ≤ x5 then (if (rd x0 x5) = x1 then (laws_heldIntS.l0 k x0 (wrap64 (x1 + 1)) (wrap64 (x5 + 1))) else (some (-1))) else (none)) else (some x1)
def laws_heldIntS.f (k : Nat) (l0 : List Int) (a1 : Int) : Option (Int) := laws_heldIntS.l0 k l0 a1 0
theorem laws_heldIntS.calls (k : Nat) (A0 : Option Addr) (c0 : Nat) (l0 : List Int) (a1 : Int) (r : Int) (w : World) (hr0 : Kd.C (Kd.int .i64) w A0 l0.length l0) (hc0 : l0.length ≤ c0) (h : laws_heldIntS.f k l0 a1 = some r) :
  Calls Tryz.prog 18 #[.slice A0 l0.length c0, .int .i64 a1] w fun e w' => e = .returned (.int .i64 r) ∧ Drawn0 w w' := by
 have HR0 := Aside0.mk hr0
 have HC0 := Aside0.mk hc0
 clear hr0 hc0
 have H : (laws_heldIntS.l0 k l0 a1 0) = some r := h
 clear h
 have H' := Aside0.mk H
 clear H
 go_enter Tryz.func18, Tryz.ntmps18
 go_wp2
 go_loopg [1, 5] k (fun kq v1 v5 w' => ∃ (x1_1 : Int) (x5_1 : Int), v1 = .int .i64 x1_1 ∧ v5 = .int .i64 x5_1 ∧ Aside0 (laws_heldIntS.l0 kq l0 x1_1 x5_1 = some r) ∧ Aside0 (kq ≤ k) ∧ Drawn0 w w')
 case atStart => exact ⟨(a1), (0), sR, sR, H', ⟨Nat.le_refl _⟩, by repeat (first | exact Drawn0.refl _ | apply Drawn0.step)⟩
 case round =>
  clear H'
  try clear c1
  try clear p2
  obtain ⟨x1_1, x5_1, rfl, rfl, HA, HK1, ⟨m1, rfl⟩⟩ := hrel
  cases gk with
  | zero => exact absurd HA.out (by simp [laws_heldIntS.l0])
  | succ k1 =>
   have H := HA.out
   clear HA
   simp only [laws_heldIntS.l0] at H
   by_cases c3 : x5_1 < (l0.length : Int)
   ·rw [if_pos c3] at H
    have c3b0 := decide_eq_true c3
    clear c3
    obtain ⟨c4, H⟩ := iN H
    have c4b0 := decide_eq_true c4
    clear c4
    by_cases c5 : (rd l0 x5_1) = x1_1
    ·rw [if_pos c5] at H
     have c5b0 := beq_iff_eq.mpr c5
     have c5b1 := bne_eq_false_iff_eq.mpr c5
     clear c5
     have H' := Aside0.mk H
     clear H
     have p490 : 0 ≤ (x5_1 : Int) := sO
     have q490 : x5_1 < (l0.length : Int) := sO
     obtain ⟨ad490, e490, hx490_0⟩ := Kd.at_int HR0.out x5_1 p490 q490
     cases e490
     replace p490 := eq_true p490
     replace q490 := eq_true q490
     go_wp2
     go_roundg k1
     case measure => have := HK1.out; omega
     case rel => exact ⟨(wrap64 (x1_1 + 1)), (wrap64 (x5_1 + 1)), sR, sR, H', ⟨by have := HK1.out; omega⟩, by repeat (first | exact Drawn0.refl _ | apply Drawn0.step)⟩
    ·rw [if_neg c5] at H
     have c5b0 := beq_eq_false_iff_ne.mpr c5
     have c5b1 := bne_iff_ne.mpr c5
     obtain rfl := Option.some.inj H
     have p490 : 0 ≤ (x5_1 : Int) := sO
     have q490 : x5_1 < (l0.length : Int) := sO
     obtain ⟨ad490, e490, hx490_0⟩ := Kd.at_int HR0.out x5_1 p490 q490
     cases e490
     replace p490 := eq_true p490
     replace q490 := eq_true q490
     go_wp2
     go_ret
     exact ⟨by first | rfl | (simp; done) | (simp [*]; done), by repeat (first | exact Drawn0.refl _ | apply Drawn0.step)⟩
   ·rw [if_neg c3] at H
    have c3b0 := decide_eq_false c3
    clear c3
    obtain rfl := Option.some.inj H
    go_wp2
    go_ret
    exact ⟨by first | rfl | (simp; done) | (simp [*]; done), by repeat (first | exact Drawn0.refl _ | apply Drawn0.step)⟩

end Go.Proofs.YtnmiglfmainhiaaGreatDoor.PNb
