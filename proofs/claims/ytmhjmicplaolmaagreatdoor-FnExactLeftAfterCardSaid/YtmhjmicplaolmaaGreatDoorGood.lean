/- Bytes, links and what is met from a node, for the program and for the reference. No condition. -/
import Derived.Test.YtmhjmicplaolmaaGreatDoorGoodA
namespace Go.Proofs.YtmhjmicplaolmaaGreatDoor.PRm
open Go.RowKit Go.Proofs.YtmhjmicplaolmaaGreatDoorW.PrintWords Go.Proofs.YtmhjmicplaolmaaGreatDoorW.PrintLast Go.Proofs.YtmhjmicplaolmaaGreatDoorW.PrintMore Go.Proofs.YtmhjmicplaolmaaGreatDoor.Aid Go.Proofs.YtmhjmicplaolmaaGreatDoor.AllLoop Go.Proofs.YtmhjmicplaolmaaGreatDoor.Loops Go.Proofs.YtmhjmicplaolmaaGreatDoor.Put Go.Proofs.YtmhjmicplaolmaaGreatDoor.Graph
set_option linter.unusedSimpArgs false
set_option linter.unusedVariables false
def sN (ns : List S62) : Int := ns.foldl (fun s v => wrap64 (s + (v.f5.size : Int))) 0
theorem qo {L : Nat → Int → Int → Option Int} (ns : List S62) (hM : ns.length ≤ 1048576)
    (h1 : ∀ k s i, 0 ≤ i → i < (ns.length : Int) → L (k + 1) s i = L k (wrap64 (s + ((r62 ns i).f5.size : Int))) (wrap64 (i + 1)))
    (h2 : ∀ k s i, ¬ i < (ns.length : Int) → L (k + 1) s i = some s) (d : Nat) : ∀ (s i : Int), 0 ≤ i → i ≤ ns.length → (ns.length : Int) - i = d →
    Ev (fun k => L k s i) ((ns.drop i.toNat).foldl (fun s v => wrap64 (s + (v.f5.size : Int))) s) := by
  induction d with
  | zero =>
    intro s i h0 hi hd
    refine Ev.step (fun k => h2 k s i (by omega)) (dE ?_)
    rw [List.drop_eq_nil_iff.mpr (by omega)]; rfl
  | succ d ih =>
    intro s i h0 hi hd
    have hlt : i < (ns.length : Int) := by omega
    refine Ev.step (fun k => h1 k s i h0 hlt) ?_
    rw [ic ns z62 i h0 hlt, bg (x := i + 1) (by omega) (by omega)]
    exact ih _ (i + 1) (by omega) (by omega) (by omega)
theorem dm.is (ns : List S62) (room : Int) (hM : ns.length ≤ 1048576) : Ev (fun k => dm.f k ns room) (sN ns) := by
  have h := qo (L := fun k s i => dm.l0 k s ns (ns.length : Int) i) ns hM (fun k s i h0 h1 => by show dm.l0 (k + 1) s ns (ns.length : Int) i = _; rw [dm.l0, if_pos h1, if_pos h0, if_pos h1])
    (fun k s i h => by show dm.l0 (k + 1) s ns (ns.length : Int) i = _; rw [dm.l0, if_neg h]) ns.length 0 0 (by omega) (by omega) (by omega)
  exact h
theorem bM.is (ns : List S62) (room : Int) (hM : ns.length ≤ 1048576) : Ev (fun k => bM.f k ns room) (sN ns) := by
  have h := qo (L := fun k s i => bM.l0 k s ns (ns.length : Int) i) ns hM (fun k s i h0 h1 => by show bM.l0 (k + 1) s ns (ns.length : Int) i = _; rw [bM.l0, if_pos h1, if_pos h0, if_pos h1])
    (fun k s i h => by show bM.l0 (k + 1) s ns (ns.length : Int) i = _; rw [bM.l0, if_neg h]) ns.length 0 0 (by omega) (by omega) (by omega)
  exact h
def row (l : List S87) : List Int := l.map fun e => e.f1
def rowsOf (ns : List S62) : List (List Int) := ns.map fun v => row v.f6
theorem iY (l : List S87) : (row l).length = l.length := List.length_map _
theorem iD (ns : List S62) : (rowsOf ns).length = ns.length := List.length_map _
theorem nk (l : List S87) (j : Int) (h0 : 0 ≤ j) (h1 : j < (l.length : Int)) : (row l).drop j.toNat = (r87 l j).f1 :: (row l).drop (j + 1).toNat := by
  unfold row
  rw [← List.map_drop, ic l z87 j h0 h1, List.map_cons, List.map_drop]; rfl
theorem lW (ns : List S62) (i : Int) (h0 : 0 ≤ i) (h1 : i < (ns.length : Int)) : (rowsOf ns).drop i.toNat = row (r62 ns i).f6 :: (rowsOf ns).drop (i + 1).toNat := by
  unfold rowsOf
  rw [← List.map_drop, ic ns z62 i h0 h1, List.map_cons, List.map_drop]; rfl
theorem gz (ns : List S62) (a : Int) (h0 : 0 ≤ a) (h1 : a < (ns.length : Int)) : bX (rowsOf ns) a = row (r62 ns a).f6 := by
  have hl : a.toNat < ns.length := by omega
  unfold bX rowsOf
  rw [List.getD_eq_getElem?_getD, List.getElem?_map, List.getElem?_eq_getElem hl]
  show row (ns[a.toNat]).f6 = row (ns.getD a.toNat z62).f6
  rw [List.getD_eq_getElem?_getD, List.getElem?_eq_getElem hl]; rfl
theorem il (ns : List S62) (i : Int) (h0 : 0 ≤ i) (h1 : i < (ns.length : Int)) : r62 ns i ∈ ns := je ns z62 i h0 h1
theorem nE : ∀ (ns : List S62), (∀ v ∈ ns, v.f6.length ≤ 1048576) → (rowsOf ns).flatten.length ≤ ns.length * 1048576
  | [], _ => by simp [rowsOf]
  | v :: t, h => by
    have h1 := nE t (fun x hx => h x (List.mem_cons_of_mem _ hx))
    have h2 := h v List.mem_cons_self
    show ((row v.f6) ++ (rowsOf t).flatten).length ≤ _
    rw [List.length_append, iY, List.length_cons, Nat.add_mul]; omega
theorem wD (ns : List S62) (x i : Int) (l : List S87) (hl : l.length ≤ 1048576) (d : Nat) : ∀ (j c : Int), 0 ≤ j → j ≤ l.length → (l.length : Int) - j = d → 0 ≤ c → c + ((l.length : Int) - j) ≤ 1125899906842624 → ∀ r,
    Ev (fun k => aQ.l0 k x (c + (((row l).drop j.toNat).count x : Int)) ns (ns.length : Int) (wrap64 (i + 1))) r → Ev (fun k => aQ.l1 k x c ns (ns.length : Int) i l (l.length : Int) j) r := by
  induction d with
  | zero =>
    intro j c h0 hj hd hc0 hc r hr
    rw [List.drop_eq_nil_iff.mpr (by rw [iY]; omega)] at hr
    exact Ev.step (fun k => by rw [aQ.l1, if_neg (by omega)]) (by simpa using hr)
  | succ d ih =>
    intro j c h0 hj hd hc0 hc r hr
    have hlt : j < (l.length : Int) := by omega
    rw [nk l j h0 hlt] at hr
    by_cases h : (r87 l j).f1 = x
    · refine Ev.step (fun k => by rw [aQ.l1, if_pos hlt, if_pos h0, if_pos hlt, if_pos h, bg (by omega) (by omega), bg (by omega) (by omega)]) (ih (j + 1) (c + 1) (by omega) (by omega) (by omega) (by omega) ?_ r ?_)
      · omega
      · rw [h, List.count_cons_self] at hr
        have e : c + 1 + (((row l).drop (j + 1).toNat).count x : Int) = c + ((((row l).drop (j + 1).toNat).count x + 1 : Nat) : Int) := by omega
        rw [e]; exact hr
    · refine Ev.step (fun k => by rw [aQ.l1, if_pos hlt, if_pos h0, if_pos hlt, if_neg h, bg (by omega) (by omega)]) (ih (j + 1) c (by omega) (by omega) (by omega) hc0 (by omega) r ?_)
      rw [List.count_cons_of_ne h] at hr; exact hr
theorem wG (ns : List S62) (x : Int) (hn : ns.length ≤ 1048576) (hs : ∀ v ∈ ns, v.f6.length ≤ 1048576) (d : Nat) : ∀ (i c : Int), 0 ≤ i → i ≤ ns.length → (ns.length : Int) - i = d → 0 ≤ c → c + ((((rowsOf ns).drop i.toNat).flatten.length : Nat) : Int) ≤ 1125899906842624 →
    Ev (fun k => aQ.l0 k x c ns (ns.length : Int) i) (c + (((rowsOf ns).drop i.toNat).flatten.count x : Int)) := by
  induction d with
  | zero =>
    intro i c h0 hi hd hc0 hc
    rw [List.drop_eq_nil_iff.mpr (by rw [iD]; omega)]
    exact Ev.step (fun k => by rw [aQ.l0, if_neg (by omega)]) (dE (by simp))
  | succ d ih =>
    intro i c h0 hi hd hc0 hc
    have hlt : i < (ns.length : Int) := by omega
    rw [lW ns i h0 hlt, List.flatten_cons, List.length_append, iY] at hc
    have hl := hs _ (il ns i h0 hlt)
    have hct : (row (r62 ns i).f6).count x ≤ (r62 ns i).f6.length := Nat.le_trans List.count_le_length (by rw [iY]; exact Nat.le_refl _)
    refine Ev.step (fun k => by rw [aQ.l0, if_pos hlt, if_pos h0, if_pos hlt]) ?_
    refine wD ns x i (r62 ns i).f6 hl (r62 ns i).f6.length 0 c (by omega) (by omega) (by omega) hc0 (by omega) _ ?_
    rw [bg (x := i + 1) (by omega) (by omega)]
    refine jC (ih (i + 1) _ (by omega) (by omega) (by omega) (by omega) ?_) ?_
    · simp only [Int.toNat_zero, List.drop_zero]; omega
    · rw [lW ns i h0 hlt, List.flatten_cons, List.count_append]
      simp only [Int.toNat_zero, List.drop_zero]; omega
theorem aQ.is (ns : List S62) (room x : Int) (hn : ns.length ≤ 1048576) (hs : ∀ v ∈ ns, v.f6.length ≤ 1048576) : Ev (fun k => aQ.f k ns room x) ((links (rowsOf ns) x : Nat) : Int) := by
  have hf := nE ns hs
  have h := wG ns x hn hs ns.length 0 0 (by omega) (by omega) (by omega) (by omega) (by simp only [Int.toNat_zero, List.drop_zero]; omega)
  exact jC h (by unfold links; simp)
def mW (n : Nat) (out S : List Int) : Prop := out.length = n ∧ ∀ y, 0 ≤ y → y < (n : Int) → rd out y = (S.count y : Int)
theorem mW.step {n : Nat} {out S : List Int} (h : mW n out S) (x : Int) (h0 : 0 ≤ x) (h1 : x < (n : Int)) : mW n (out.set x.toNat (rd out x + 1)) (S ++ [x]) := by
  refine ⟨by rw [List.length_set]; exact h.1, fun y hy0 hy1 => ?_⟩
  have hy := h.2 y hy0 hy1
  have hl := h.1
  unfold rd at hy ⊢
  rw [List.count_append, List.getD_eq_getElem?_getD]
  by_cases e : x = y
  · subst e
    rw [List.getElem?_set_self (by omega), Option.getD_some, hy]
    simp [List.count_cons, List.count_nil]
  · rw [List.getElem?_set_ne (by omega), ← List.getD_eq_getElem?_getD, hy, List.count_cons_of_ne e]; simp
theorem yL (ns : List S62) (i : Int) (l : List S87) (hl : l.length ≤ 1048576) (hr : ∀ e ∈ l, 0 ≤ e.f1 ∧ e.f1 < (ns.length : Int)) (d : Nat) : ∀ (j : Int) (out S : List Int), 0 ≤ j → j ≤ l.length → (l.length : Int) - j = d → mW ns.length out S → (S.length : Int) + ((l.length : Int) - j) ≤ 1125899906842624 →
    ∃ out', mW ns.length out' (S ++ (row l).drop j.toNat) ∧ ∀ r, Ev (fun k => aX.l0 k out' ns (ns.length : Int) (wrap64 (i + 1))) r → Ev (fun k => aX.l1 k out ns (ns.length : Int) i l (l.length : Int) j) r := by
  induction d with
  | zero =>
    intro j out S h0 hj hd hc hS
    rw [List.drop_eq_nil_iff.mpr (by rw [iY]; omega)]
    exact ⟨out, by simpa using hc, fun r hr => Ev.step (fun k => by rw [aX.l1, if_neg (by omega)]) hr⟩
  | succ d ih =>
    intro j out S h0 hj hd hc hS
    have hlt : j < (l.length : Int) := by omega
    have hx := hr _ (je l z87 j h0 hlt)
    have hx0 : 0 ≤ (r87 l j).f1 := hx.1
    have hx1 : (r87 l j).f1 < (ns.length : Int) := hx.2
    have ho : (r87 l j).f1 < (out.length : Int) := by rw [hc.1]; exact hx1
    have hv := hc.2 _ hx0 hx1
    have hcl : S.count (r87 l j).f1 ≤ S.length := List.count_le_length
    obtain ⟨out', h1, h2⟩ := ih (j + 1) _ _ (by omega) (by omega) (by omega) (hc.step _ hx0 hx1) (by rw [List.length_append]; simp; omega)
    refine ⟨out', ?_, fun r hr' => Ev.step (fun k => by rw [aX.l1, if_pos hlt, if_pos h0, if_pos hlt, if_pos hx0, if_pos ho, bg (x := rd out _ + 1) (by omega) (by omega), bg (x := j + 1) (by omega) (by omega)]) (h2 r hr')⟩
    rw [nk l j h0 hlt]
    simpa using h1
theorem yM (ns : List S62) (hn : ns.length ≤ 1048576) (hs : ∀ v ∈ ns, v.f6.length ≤ 1048576) (hr : ∀ v ∈ ns, ∀ e ∈ v.f6, 0 ≤ e.f1 ∧ e.f1 < (ns.length : Int)) (d : Nat) : ∀ (i : Int) (out S : List Int), 0 ≤ i → i ≤ ns.length → (ns.length : Int) - i = d → mW ns.length out S → (S.length : Int) + ((((rowsOf ns).drop i.toNat).flatten.length : Nat) : Int) ≤ 1125899906842624 →
    ∃ out', mW ns.length out' (S ++ ((rowsOf ns).drop i.toNat).flatten) ∧ Ev (fun k => aX.l0 k out ns (ns.length : Int) i) out' := by
  induction d with
  | zero =>
    intro i out S h0 hi hd hc hS
    rw [List.drop_eq_nil_iff.mpr (by rw [iD]; omega)]
    exact ⟨out, by simpa using hc, Ev.step (fun k => by rw [aX.l0, if_neg (by omega)]) (Ev.now _)⟩
  | succ d ih =>
    intro i out S h0 hi hd hc hS
    have hlt : i < (ns.length : Int) := by omega
    rw [lW ns i h0 hlt, List.flatten_cons, List.length_append, iY] at hS
    have hm := il ns i h0 hlt
    obtain ⟨o1, c1, e1⟩ := yL ns i (r62 ns i).f6 (hs _ hm) (hr _ hm) (r62 ns i).f6.length 0 out S (by omega) (by omega) (by omega) hc (by omega)
    obtain ⟨o2, c2, e2⟩ := ih (i + 1) o1 _ (by omega) (by omega) (by omega) c1 (by simp only [Int.toNat_zero, List.drop_zero, List.length_append, iY]; omega)
    refine ⟨o2, ?_, Ev.step (fun k => by rw [aX.l0, if_pos hlt, if_pos h0, if_pos hlt]) (e1 _ ?_)⟩
    · rw [lW ns i h0 hlt, List.flatten_cons]
      simpa using c2
    · rw [bg (x := i + 1) (by omega) (by omega)]; exact e2
theorem aX.is (ns : List S62) (room : Int) (hn : ns.length ≤ 1048576) (hs : ∀ v ∈ ns, v.f6.length ≤ 1048576) (hr : ∀ v ∈ ns, ∀ e ∈ v.f6, 0 ≤ e.f1 ∧ e.f1 < (ns.length : Int)) :
    ∃ out : List Int, Ev (fun k => aX.f k ns room) out ∧ out.length = ns.length ∧ ∀ y, 0 ≤ y → y < (ns.length : Int) → rd out y = ((links (rowsOf ns) y : Nat) : Int) := by
  have hf := nE ns hs
  obtain ⟨out, hc, he⟩ := yM ns hn hs hr ns.length 0 (List.replicate ((ns.length : Int) : Int).toNat 0) [] (by omega) (by omega) (by omega)
    ⟨by simp, fun y h0 h1 => by unfold rd; rw [List.getD_eq_getElem?_getD, List.getElem?_replicate, if_pos (by omega)]; simp⟩ (by simp only [Int.toNat_zero, List.drop_zero, List.length_nil]; omega)
  unfold aX.f
  refine ⟨out, af (by omega) (af (by omega) he), hc.1, fun y h0 h1 => ?_⟩
  rw [hc.2 y h0 h1]; unfold links; simp
theorem xD (ns : List S62) (room : Int) (l : List S87) (d' : Nat) (hl : l.length ≤ 1048576)
    (ih : ∀ (met : List Int) (a : Int), jh met → (∀ x ∈ met, 0 ≤ x ∧ x < (ns.length : Int)) → a ∈ row l → ns.length ≤ d' + met.length → ∃ r, Ev (fun k => cZ.f k ns room a met) r ∧ Graph.Met (bX (rowsOf ns)) ns.length [a] met r) (d : Nat) :
    ∀ (j : Int) (met : List Int), 0 ≤ j → j ≤ l.length → (l.length : Int) - j = d → jh met → (∀ x ∈ met, 0 ≤ x ∧ x < (ns.length : Int)) → ns.length ≤ d' + met.length →
    ∃ r, Ev (fun k => cZ.l0 k met l (l.length : Int) j ns room) r ∧ Graph.Met (bX (rowsOf ns)) ns.length ((row l).drop j.toNat) met r := by
  induction d with
  | zero =>
    intro j met h0 hj hd hm hb hn
    rw [List.drop_eq_nil_iff.mpr (by rw [iY]; omega)]
    exact ⟨met, Ev.step (fun k => by rw [cZ.l0, if_neg (by omega)]) (Ev.now _), Graph.Met.nil hm hb⟩
  | succ d ihd =>
    intro j met h0 hj hd hm hb hn
    have hlt : j < (l.length : Int) := by omega
    obtain ⟨r1, e1, m1⟩ := ih met (r87 l j).f1 hm hb (List.mem_map.2 ⟨_, je l z87 j h0 hlt, rfl⟩) hn
    obtain ⟨r2, e2, m2⟩ := ihd (j + 1) r1 (by omega) (by omega) (by omega) m1.rising m1.bound (by have := m1.len; omega)
    refine ⟨r2, Ev.step (fun k => by rw [cZ.l0, if_pos hlt, if_pos h0, if_pos hlt]) (aj e1 ?_), ?_⟩
    · rw [bg (x := j + 1) (by omega) (by omega)]; exact e2
    · rw [nk l j h0 hlt]; exact m1.cons m2
theorem cZ.is (ns : List S62) (room : Int) (hn : ns.length ≤ 1048576) (hs : ∀ v ∈ ns, v.f6.length ≤ 1048576) (hr : ∀ v ∈ ns, ∀ x ∈ row v.f6, 0 ≤ x ∧ x < (ns.length : Int)) (d : Nat) :
    ∀ (met : List Int) (a : Int), jh met → (∀ x ∈ met, 0 ≤ x ∧ x < (ns.length : Int)) → 0 ≤ a → a < (ns.length : Int) → ns.length ≤ d + met.length → ∃ r, Ev (fun k => cZ.f k ns room a met) r ∧ Graph.Met (bX (rowsOf ns)) ns.length [a] met r := by
  induction d with
  | zero =>
    intro met a hm hb h0 h1 hd
    have hml := jX hm hb (by omega)
    obtain ⟨t, ht, e⟩ := bC.is met a (by omega)
    by_cases ha : a ∈ met
    · exact ⟨met, Ev.step (fun k => by rw [cZ.f]) (aj ht (af (e.2 ha) (Ev.now _))), Graph.Met.has hm hb ha⟩
    · have hp := jX (a := 0) (n := (ns.length : Int)) (kG (n := a) hm) (fun x hx => by
        rcases jH.1 hx with rfl | hx
        · exact ⟨h0, h1⟩
        · exact hb x hx) (by omega)
      rw [o7 ha] at hp
      omega
  | succ d ih =>
    intro met a hm hb h0 h1 hd
    have hml := jX hm hb (by omega)
    obtain ⟨t, ht, e⟩ := bC.is met a (by omega)
    by_cases ha : a ∈ met
    · exact ⟨met, Ev.step (fun k => by rw [cZ.f]) (aj ht (af (e.2 ha) (Ev.now _))), Graph.Met.has hm hb ha⟩
    · have hm' := il ns a h0 h1
      obtain ⟨r, e2, m2⟩ := xD ns room (r62 ns a).f6 d (hs _ hm') (fun met' a' hm1 hb1 ha1 hd1 => ih met' a' hm1 hb1 (hr _ hm' _ ha1).1 (hr _ hm' _ ha1).2 hd1) (r62 ns a).f6.length 0 (put met a) (by omega) (by omega) (by omega) (kG hm) (fun x hx => by
        rcases jH.1 hx with rfl | hx
        · exact ⟨h0, h1⟩
        · exact hb x hx) (by rw [o7 ha]; omega)
      refine ⟨r, Ev.step (fun k => by rw [cZ.f]) (aj ht (aH (fun h => ha (e.1 h)) (aj (dM.is met a (by omega)) (af h0 (af h1 e2))))), ?_⟩
      refine Graph.Met.step ha ?_
      rw [gz ns a h0 h1]
      simpa using m2
def Ac (ns : List S62) (room : Int) : Prop := (1 ≤ ns.length ∧ ns.length ≤ 40) ∧ (0 ≤ room ∧ room ≤ 1000) ∧ sN ns ≤ room ∧ (r62 ns 0).f0 = 2
def oW (lo : Int) (ns : List S62) : Prop := ∀ i, 0 ≤ i → i < (ns.length : Int) → ko lo ns (r62 ns i)
def qy (ns : List S62) (met : List Int) (x : Int) : Prop :=
  (x = 0 → links (rowsOf ns) 0 = 0) ∧ (0 < x → (r62 ns x).f0 = 2 → links (rowsOf ns) x = 1) ∧ ((r62 ns x).f0 ≠ 0 → x ∈ met)
theorem jo {ns : List S62} (hs : ∀ v ∈ ns, eG v) : ∀ v ∈ ns, v.f6.length ≤ 1048576 := fun v hv => (hs v hv).2.1
theorem uu (ns : List S62) (room : Int) (hn : ns.length ≤ 1048576) (hs : ∀ v ∈ ns, eG v) (met : List Int) (hm : met.length ≤ 8796093022208) :
    ∃ r, Ev (fun k => ag.l1 k met ns (ns.length : Int) 0 ns room) r ∧ (r = true ↔ ∀ i, 0 ≤ i → i < (ns.length : Int) → qy ns met i) := by
  have hround : ∀ i, 0 ≤ i → i < (ns.length : Int) → (∀ j, 0 ≤ j → j < i → qy ns met j) → nU (fun k i => ag.l1 k met ns (ns.length : Int) i ns room) (qy ns met) i := fun i h0 h1 _ => by
    have hl := aQ.is ns room i hn (jo hs)
    obtain ⟨t, ht, et⟩ := bC.is met i hm
    have hw1 : wrap64 (i + 1) = i + 1 := bg (by omega) (by omega)
    have hz : i = 0 ↔ ¬ i > 0 := by omega
    have last : ∀ r, Ev (fun k => ag.l1 k met ns (ns.length : Int) (i + 1) ns room) r → ((r62 ns i).f0 ≠ 0 → i ∈ met) → Ev (fun k => if (r62 ns i).f0 = 0 then ag.l1 k met ns (ns.length : Int) (wrap64 (i + 1)) ns room else ((bC.f k met i).bind fun t => if t = true then ag.l1 k met ns (ns.length : Int) (wrap64 (i + 1)) ns room else some false)) r := fun r hr hi => by
      rw [hw1]
      exact ja (fun _ => hr) (fun h => aj ht (af (et.2 (hi h)) hr))
    have lastF : ¬ ((r62 ns i).f0 ≠ 0 → i ∈ met) → Ev (fun k => if (r62 ns i).f0 = 0 then ag.l1 k met ns (ns.length : Int) (wrap64 (i + 1)) ns room else ((bC.f k met i).bind fun t => if t = true then ag.l1 k met ns (ns.length : Int) (wrap64 (i + 1)) ns room else some false)) false := fun hi =>
      ja (fun h => absurd (fun h' => absurd h h') hi) (fun h => aj ht (aH (fun e => hi (fun _ => et.1 e)) (Ev.now _)))
    by_cases hi : i = 0
    · by_cases hc : links (rowsOf ns) 0 = 0
      · have hstep : ∀ {r : Bool}, Ev (fun k => if (r62 ns i).f0 = 0 then ag.l1 k met ns (ns.length : Int) (wrap64 (i + 1)) ns room else ((bC.f k met i).bind fun t => if t = true then ag.l1 k met ns (ns.length : Int) (wrap64 (i + 1)) ns room else some false)) r → Ev (fun k => ag.l1 k met ns (ns.length : Int) i ns room) r := fun h =>
          Ev.step (fun k => by show ag.l1 (k + 1) met ns (ns.length : Int) i ns room = _; rw [ag.l1, if_pos h1, if_pos h0, if_pos h1]) (aj hl (af hi (aH (show ¬ (((links (rowsOf ns) i : Nat) : Int) > 0) by rw [hi]; omega) (aH (show ¬ (i > 0) by omega) h))))
        by_cases hm2 : (r62 ns i).f0 ≠ 0 → i ∈ met
        · exact Or.inl ⟨⟨fun _ => hc, fun h => by omega, hm2⟩, fun r hr => hstep (last r hr hm2)⟩
        · exact Or.inr ⟨fun h => hm2 h.2.2, hstep (lastF hm2)⟩
      · refine Or.inr ⟨fun h => hc (h.1 hi), Ev.step (fun k => by show ag.l1 (k + 1) met ns (ns.length : Int) i ns room = _; rw [ag.l1, if_pos h1, if_pos h0, if_pos h1]) (aj hl (af hi (af (show ((links (rowsOf ns) i : Nat) : Int) > 0 by rw [hi]; omega) (Ev.now _))))⟩
    · have hp : i > 0 := by omega
      by_cases hd : (r62 ns i).f0 = 2
      · by_cases hc : links (rowsOf ns) i = 1
        · have hstep : ∀ {r : Bool}, Ev (fun k => if (r62 ns i).f0 = 0 then ag.l1 k met ns (ns.length : Int) (wrap64 (i + 1)) ns room else ((bC.f k met i).bind fun t => if t = true then ag.l1 k met ns (ns.length : Int) (wrap64 (i + 1)) ns room else some false)) r → Ev (fun k => ag.l1 k met ns (ns.length : Int) i ns room) r := fun h =>
            Ev.step (fun k => by show ag.l1 (k + 1) met ns (ns.length : Int) i ns room = _; rw [ag.l1, if_pos h1, if_pos h0, if_pos h1]) (aj hl (aH hi (af hp (af hd (af (show ((links (rowsOf ns) i : Nat) : Int) = 1 by omega) h)))))
          by_cases hm2 : (r62 ns i).f0 ≠ 0 → i ∈ met
          · exact Or.inl ⟨⟨fun h => absurd h hi, fun _ _ => hc, hm2⟩, fun r hr => hstep (last r hr hm2)⟩
          · exact Or.inr ⟨fun h => hm2 h.2.2, hstep (lastF hm2)⟩
        · refine Or.inr ⟨fun h => hc (h.2.1 hp hd), Ev.step (fun k => by show ag.l1 (k + 1) met ns (ns.length : Int) i ns room = _; rw [ag.l1, if_pos h1, if_pos h0, if_pos h1]) (aj hl (aH hi (af hp (af hd (aH (show ¬ (((links (rowsOf ns) i : Nat) : Int) = 1) by omega) (Ev.now _))))))⟩
      · have hstep : ∀ {r : Bool}, Ev (fun k => if (r62 ns i).f0 = 0 then ag.l1 k met ns (ns.length : Int) (wrap64 (i + 1)) ns room else ((bC.f k met i).bind fun t => if t = true then ag.l1 k met ns (ns.length : Int) (wrap64 (i + 1)) ns room else some false)) r → Ev (fun k => ag.l1 k met ns (ns.length : Int) i ns room) r := fun h =>
          Ev.step (fun k => by show ag.l1 (k + 1) met ns (ns.length : Int) i ns room = _; rw [ag.l1, if_pos h1, if_pos h0, if_pos h1]) (aj hl (aH hi (af hp (aH hd h))))
        by_cases hm2 : (r62 ns i).f0 ≠ 0 → i ∈ met
        · exact Or.inl ⟨⟨fun h => absurd h hi, fun _ h => absurd h hd, hm2⟩, fun r hr => hstep (last r hr hm2)⟩
        · exact Or.inr ⟨fun h => hm2 h.2.2, hstep (lastF hm2)⟩
  obtain ⟨r, hr, e⟩ := mR (L := fun k i => ag.l1 k met ns (ns.length : Int) i ns room) (P := qy ns met) (Q := True) (N := ns.length) (by omega) hround
    (fun _ => ⟨true, Ev.step (fun k => by show ag.l1 (k + 1) met ns (ns.length : Int) (ns.length : Int) ns room = _; rw [ag.l1, if_neg (by omega)]) (Ev.now _), by simp⟩)
  exact ⟨r, hr, by simpa using e⟩
theorem good_row {lo : Int} {ns : List S62} {v : S62} (h : ko lo ns v) : ∀ x ∈ row v.f6, v.f0 = 2 ∧ To lo ns x := by
  intro x hx
  obtain ⟨e, he, rfl⟩ := List.mem_map.1 hx
  obtain ⟨i, hi, ei⟩ := List.mem_iff_getElem.1 he
  by_cases h0 : v.f0 = 0
  · have := (h.1 h0).2.2.2.2.2; omega
  · rcases (h.2 h0).2.2.2.2 with h' | h' | h'
    · omega
    · refine ⟨h'.1, ?_⟩
      have := (h'.2.2 i (by omega) (by omega)).2.2
      have e' : r87 v.f6 (i : Int) = e := by
        show v.f6.getD (i : Int).toNat z87 = e
        rw [List.getD_eq_getElem?_getD, show (i : Int).toNat = i by omega, List.getElem?_eq_getElem hi]; exact ei
      rw [e'] at this; exact this
    · omega
theorem kR {lo : Int} {ns : List S62} (h : oW lo ns) : ∀ v ∈ ns, ko lo ns v := by
  intro v hv
  obtain ⟨i, hi, e⟩ := List.mem_iff_getElem.1 hv
  have := h i (by omega) (by omega)
  have e' : r62 ns (i : Int) = v := by
    show ns.getD (i : Int).toNat z62 = v
    rw [List.getD_eq_getElem?_getD, show (i : Int).toNat = i by omega, List.getElem?_eq_getElem hi]; exact e
  rw [e'] at this; exact this
def eH (ns : List S62) (room : Int) : Prop := Ac ns room ∧ oW 1 ns ∧ ∀ met, Graph.Met (bX (rowsOf ns)) ns.length [0] [] met → ∀ i, 0 ≤ i → i < (ns.length : Int) → qy ns met i
theorem uw (ns : List S62) (room : Int) (hn : 1 ≤ ns.length) (hn' : ns.length ≤ 1048576) (hs : ∀ v ∈ ns, eG v) :
    ∃ r, Ev (fun k => ag.l0 k ns (ns.length : Int) 0 ns room) r ∧ (r = true ↔ oW 1 ns ∧ ∀ met, Graph.Met (bX (rowsOf ns)) ns.length [0] [] met → ∀ i, 0 ≤ i → i < (ns.length : Int) → qy ns met i) := by
  have hround : ∀ i, 0 ≤ i → i < (ns.length : Int) → (∀ j, 0 ≤ j → j < i → ko 1 ns (r62 ns j)) → nU (fun k i => ag.l0 k ns (ns.length : Int) i ns room) (fun i => ko 1 ns (r62 ns i)) i := fun i h0 h1 _ => by
    obtain ⟨t, ht, et⟩ := bT.is ns room (r62 ns i) hn hn' (hs _ (il ns i h0 h1))
    have hw1 : wrap64 (i + 1) = i + 1 := bg (by omega) (by omega)
    by_cases h : ko 1 ns (r62 ns i)
    · exact Or.inl ⟨h, fun r hr => Ev.step (fun k => by show ag.l0 (k + 1) ns (ns.length : Int) i ns room = _; rw [ag.l0, if_pos h1, if_pos h0, if_pos h1, hw1]) (aj ht (af (et.2 h) hr))⟩
    · exact Or.inr ⟨h, Ev.step (fun k => by show ag.l0 (k + 1) ns (ns.length : Int) i ns room = _; rw [ag.l0, if_pos h1, if_pos h0, if_pos h1, hw1]) (aj ht (aH (fun e => h (et.1 e)) (Ev.now _)))⟩
  refine mR (L := fun k i => ag.l0 k ns (ns.length : Int) i ns room) (P := fun i => ko 1 ns (r62 ns i)) (N := ns.length) (by omega) hround (fun hall => ?_)
  have hrow : ∀ v ∈ ns, ∀ x ∈ row v.f6, 0 ≤ x ∧ x < (ns.length : Int) := fun v hv x hx => by
    have := (good_row (kR hall v hv) x hx).2
    exact ⟨by have := this.1; omega, this.2.1⟩
  obtain ⟨met, hm, em⟩ := cZ.is ns room hn' (jo hs) hrow ns.length [] 0 (List.Pairwise.nil) (fun x hx => by cases hx) (by omega) (by omega) (by simp)
  have hml := jX em.rising em.bound (by omega)
  obtain ⟨r, hr, er⟩ := uu ns room hn' hs met (by omega)
  refine ⟨r, Ev.step (fun k => by show ag.l0 (k + 1) ns (ns.length : Int) (ns.length : Int) ns room = _; rw [ag.l0, if_neg (by omega)]) (aj hm hr), ?_⟩
  rw [er]
  refine ⟨fun h met' em' => ?_, fun h => h met em⟩
  have : met' = met := mE em'.rising em.rising (fun x => by rw [em'.reach, em.reach])
  rw [this]; exact h
theorem ag.is (ns : List S62) (room : Int) (hn' : ns.length ≤ 1048576) (hs : ∀ v ∈ ns, eG v) : ∃ r, Ev (fun k => ag.f k ns room) r ∧ (r = true ↔ eH ns room) := by
  have hj : Ev (fun k => ag.j0 k true ns room) false := Ev.step (fun k => by rw [ag.j0, if_pos rfl]) (Ev.now _)
  unfold ag.f
  by_cases c1 : 1 ≤ (ns.length : Int) ∧ (ns.length : Int) ≤ 40
  rotate_left
  · exact ⟨false, aD (ay.is _ _ _) (aH (by simpa using c1) hj), fun h => (by cases h), fun h => absurd h.1.1 (by omega)⟩
  by_cases c2 : 0 ≤ room ∧ room ≤ 1000
  rotate_left
  · exact ⟨false, aD (ay.is _ _ _) (af (decide_eq_true c1) (aD (ay.is _ _ _) (aH (by simpa using c2) hj))), fun h => (by cases h), fun h => absurd h.1.2.1 c2⟩
  have hb := dm.is ns room hn'
  by_cases c3 : sN ns > room
  · exact ⟨false, aD (ay.is _ _ _) (af (decide_eq_true c1) (aD (ay.is _ _ _) (af (decide_eq_true c2) (aj hb (af c3 hj))))), fun h => (by cases h), fun h => absurd h.1.2.2.1 (by omega)⟩
  by_cases c4 : (r62 ns 0).f0 = 2
  rotate_left
  · exact ⟨false, aD (ay.is _ _ _) (af (decide_eq_true c1) (aD (ay.is _ _ _) (af (decide_eq_true c2) (aj hb (aH c3 (af (by omega) (by rw [bne_iff_ne.mpr c4]; exact hj))))))), fun h => (by cases h), fun h => absurd h.1.2.2.2 c4⟩
  obtain ⟨r, hr, e⟩ := uw ns room (by omega) hn' hs
  refine ⟨r, aD (ay.is _ _ _) (af (decide_eq_true c1) (aD (ay.is _ _ _) (af (decide_eq_true c2) (aj hb (aH c3 (af (by omega) (by rw [bne_eq_false_iff_eq.mpr c4]; exact Ev.step (fun k => by rw [ag.j0, if_neg (by decide)]) hr))))))), ?_⟩
  rw [e]
  exact ⟨fun h => ⟨⟨by omega, c2, by omega, c4⟩, h⟩, fun h => h.2⟩
def dir (ns : List S62) (x : Int) : Prop := (r62 ns x).f0 = 2
def pI (ns : List S62) : Prop := Graph.Tree (bX (rowsOf ns)) (dir ns) ns.length
def mV (ns : List S62) (x : Int) : Prop := (r62 ns x).f0 ≠ 0 → (x = 0 → links (rowsOf ns) 0 = 0) ∧ (0 < x → 1 ≤ links (rowsOf ns) x ∧ (dir ns x → links (rowsOf ns) x = 1))
def Seen (n : Nat) (met : List Bool) (S : List Int) : Prop := met.length = n ∧ ∀ y, 0 ≤ y → y < (n : Int) → (dx false met y = true ↔ y ∈ S)
theorem Seen.step {n : Nat} {met : List Bool} {S : List Int} (h : Seen n met S) (x : Int) (h0 : 0 ≤ x) (h1 : x < (n : Int)) : Seen n (met.set x.toNat true) (S ++ [x]) := by
  refine ⟨by rw [List.length_set]; exact h.1, fun y hy0 hy1 => ?_⟩
  have hy := h.2 y hy0 hy1
  have hl := h.1
  unfold dx at hy ⊢
  rw [List.mem_append, List.mem_singleton, ← hy, List.getD_eq_getElem?_getD]
  by_cases e : x = y
  · subst e
    rw [List.getElem?_set_self (by omega), Option.getD_some]; simp
  · rw [List.getElem?_set_ne (by omega), ← List.getD_eq_getElem?_getD]
    exact ⟨Or.inl, fun h => h.resolve_right (fun h' => e h'.symm)⟩
theorem qg (ns : List S62) (hn : ns.length ≤ 1048576) {met : List Bool} {q : List Int} (hm : Seen ns.length met q) :
    ∃ r, Ev (fun k => ae.l4 k met ns (ns.length : Int) 0) r ∧ (r = true ↔ ∀ x, 0 ≤ x → x < (ns.length : Int) → dir ns x → x ∈ q) := by
  have hround : ∀ i, 0 ≤ i → i < (ns.length : Int) → (∀ j, 0 ≤ j → j < i → (dir ns j → j ∈ q)) → nU (fun k i => ae.l4 k met ns (ns.length : Int) i) (fun i => dir ns i → i ∈ q) i := fun i h0 h1 _ => by
    have hw1 : wrap64 (i + 1) = i + 1 := bg (by omega) (by omega)
    have hl : i < (met.length : Int) := by rw [hm.1]; exact h1
    have hmi := hm.2 i h0 h1
    by_cases hd : (r62 ns i).f0 = 2
    · by_cases hq : dx false met i = true
      · exact Or.inl ⟨fun _ => hmi.1 hq, fun r hr => Ev.step (fun k => by show ae.l4 (k + 1) met ns (ns.length : Int) i = _; rw [ae.l4, if_pos h1, if_pos h0, if_pos h1, if_pos hd, if_pos hl, if_pos hq, hw1]) hr⟩
      · exact Or.inr ⟨fun h => hq (hmi.2 (h hd)), Ev.step (fun k => by show ae.l4 (k + 1) met ns (ns.length : Int) i = _; rw [ae.l4, if_pos h1, if_pos h0, if_pos h1, if_pos hd, if_pos hl, if_neg hq]) (Ev.now _)⟩
    · exact Or.inl ⟨fun h => absurd h hd, fun r hr => Ev.step (fun k => by show ae.l4 (k + 1) met ns (ns.length : Int) i = _; rw [ae.l4, if_pos h1, if_pos h0, if_pos h1, if_neg hd, hw1]) hr⟩
  obtain ⟨r, hr, e⟩ := mR (L := fun k i => ae.l4 k met ns (ns.length : Int) i) (P := fun i => dir ns i → i ∈ q) (Q := True) (N := ns.length) (by omega) hround
    (fun _ => ⟨true, Ev.step (fun k => by show ae.l4 (k + 1) met ns (ns.length : Int) (ns.length : Int) = _; rw [ae.l4, if_neg (by omega)]) (Ev.now _), by simp⟩)
  exact ⟨r, hr, by simpa using e⟩
theorem uJ (ns : List S62) (room : Int) (hn : ns.length ≤ 1048576) (T : pI ns) {met : List Bool} {i : Nat} {c : Int} {l : List S87} (hl : l.length ≤ 1048576) (hadj : bX (rowsOf ns) c = row l) (d : Nat) :
    ∀ (j : Int) (q : List Int), 0 ≤ j → j ≤ l.length → (l.length : Int) - j = d → Graph.iw (bX (rowsOf ns)) (dir ns) ns.length q i ((row l).take j.toNat) → q[i]? = some c → Seen ns.length met (q.take (i + 1)) →
    ∃ q' : List Int, Graph.iw (bX (rowsOf ns)) (dir ns) ns.length q' i (row l) ∧ q'[i]? = some c ∧ Seen ns.length met (q'.take (i + 1)) ∧ ∀ r, Ev (fun k => ae.l2 k met q' (wrap64 ((i : Int) + 1)) ns room) r → Ev (fun k => ae.l3 k met q (i : Int) l (l.length : Int) j ns room) r := by
  induction d with
  | zero =>
    intro j q h0 hj hd hq hc hm
    rw [List.take_of_length_le (by rw [iY]; omega)] at hq
    exact ⟨q, hq, hc, hm, fun r hr => Ev.step (fun k => by rw [ae.l3, if_neg (by omega)]) hr⟩
  | succ d ih =>
    intro j q h0 hj hd hq hc hm
    have hlt : j < (l.length : Int) := by omega
    have hcb := hq.bound c (List.mem_of_getElem? hc)
    have hs : row l = (row l).take j.toNat ++ (r87 l j).f1 :: (row l).drop (j + 1).toNat := by rw [← nk l j h0 hlt, List.take_append_drop]
    have hea : (r87 l j).f1 ∈ bX (rowsOf ns) c := by rw [hadj, hs]; simp
    have heb := T.range c hcb.1 hcb.2.1 _ hea
    have htk : (row l).take (j + 1).toNat = (row l).take j.toNat ++ [(r87 l j).f1] := by
      have h1 : (row l).take (j + 1).toNat = ((row l).take j.toNat ++ (r87 l j).f1 :: (row l).drop (j + 1).toNat).take (j + 1).toNat := by rw [← hs]
      rw [h1, List.take_append, List.take_of_length_le (by rw [List.length_take, iY]; omega)]
      congr 1
      rw [List.length_take, iY, show (j + 1).toNat - min j.toNat l.length = 1 by omega]; rfl
    have hw : wrap64 (j + 1) = j + 1 := bg (by omega) (by omega)
    have hml : (r87 l j).f1 < (met.length : Int) := by rw [hm.1]; exact heb.2
    by_cases hdr : (r62 ns (r87 l j).f1).f0 = 2
    · have hfr := hq.fresh T hc (by rw [hadj]; exact hs) hdr
      have hq2 := hq.push T hc (by rw [hadj]; exact hs) hdr
      have hil : i < q.length := (List.getElem?_eq_some_iff.1 hc).1
      have hnm : ¬ dx false met (r87 l j).f1 = true := fun h => hfr (List.mem_of_mem_take ((hm.2 _ heb.1 heb.2).1 h))
      have hql := hq.len (by omega)
      rw [← htk] at hq2
      obtain ⟨q', a1, a2, a3, a4⟩ := ih (j + 1) (q ++ [(r87 l j).f1]) (by omega) (by omega) (by omega) hq2 (by rw [List.getElem?_append_left hil]; exact hc) (by rw [List.take_append_of_le_length (by omega)]; exact hm)
      refine ⟨q', a1, a2, a3, fun r hr => Ev.step (fun k => by rw [ae.l3, if_pos hlt, if_pos h0, if_pos hlt, if_pos heb.1, if_pos heb.2, if_pos hdr, if_pos hml, if_neg hnm, if_pos (by omega), hw]) (a4 r hr)⟩
    · have hq2 := hq.skip (e := (r87 l j).f1) hdr
      rw [← htk] at hq2
      obtain ⟨q', a1, a2, a3, a4⟩ := ih (j + 1) q (by omega) (by omega) (by omega) hq2 hc hm
      refine ⟨q', a1, a2, a3, fun r hr => Ev.step (fun k => by rw [ae.l3, if_pos hlt, if_pos h0, if_pos hlt, if_pos heb.1, if_pos heb.2, if_neg hdr, hw]) (a4 r hr)⟩
theorem uK (ns : List S62) (room : Int) (hn : ns.length ≤ 1048576) (hs : ∀ v ∈ ns, eG v) (T : pI ns) (d : Nat) : ∀ (i : Nat) (met : List Bool) (q : List Int), ns.length ≤ d + i → Graph.iw (bX (rowsOf ns)) (dir ns) ns.length q i [] → i ≤ q.length → Seen ns.length met (q.take i) →
    ∃ q' : List Int, Graph.iw (bX (rowsOf ns)) (dir ns) ns.length q' q'.length [] ∧ ∃ r, Ev (fun k => ae.l2 k met q (i : Int) ns room) r ∧ (r = true ↔ ∀ x, 0 ≤ x → x < (ns.length : Int) → dir ns x → x ∈ q') := by
  induction d with
  | zero =>
    intro i met q hd hq hi hm
    have hql := hq.len (by omega)
    have e : i = q.length := by omega
    subst e
    rw [List.take_of_length_le (Nat.le_refl _)] at hm
    obtain ⟨r, hr, er⟩ := qg ns hn hm
    exact ⟨q, hq, r, Ev.step (fun k => by rw [ae.l2, if_neg (by omega)]) hr, er⟩
  | succ d ih =>
    intro i met q hd hq hi hm
    by_cases hlt : i < q.length
    · have hc : q[i]? = some (rd q (i : Int)) := by
        unfold rd; rw [List.getD_eq_getElem?_getD, show (i : Int).toNat = i by omega, List.getElem?_eq_getElem hlt]; rfl
      have hcb := hq.bound _ (List.mem_of_getElem? hc)
      have hml : rd q (i : Int) < (met.length : Int) := by rw [hm.1]; exact hcb.2.1
      have hnm := il ns _ hcb.1 hcb.2.1
      have hm1 : Seen ns.length (met.set (rd q (i : Int)).toNat true) (q.take (i + 1)) := by
        have h := hm.step _ hcb.1 hcb.2.1
        have e : q.take (i + 1) = q.take i ++ [rd q (i : Int)] := by rw [List.take_add_one, hc]; rfl
        rw [e]; exact h
      obtain ⟨q1, a1, a2, a3, a4⟩ := uJ ns room hn T (hs _ hnm).2.1 (gz ns _ hcb.1 hcb.2.1) (r62 ns (rd q (i : Int))).f6.length 0 q (by omega) (by omega) (by omega) (by simpa using hq) hc hm1
      have hil : i < q1.length := (List.getElem?_eq_some_iff.1 a2).1
      have hq1 := a1.len (by omega)
      have a1' : Graph.iw (bX (rowsOf ns)) (dir ns) ns.length q1 i (bX (rowsOf ns) (rd q (i : Int))) := by rw [gz ns _ hcb.1 hcb.2.1]; exact a1
      have a5 := Graph.iw.next a1' a2
      obtain ⟨q2, b1, r, b2, b3⟩ := ih (i + 1) _ q1 (by omega) a5 (by omega) a3
      refine ⟨q2, b1, r, Ev.step (fun k => by rw [ae.l2, if_pos (by omega), if_pos (by omega), if_pos hcb.1, if_pos hml, if_pos hcb.2.1]) (a4 r ?_), b3⟩
      rw [bg (by omega) (by omega)]; exact b2
    · have e : i = q.length := by omega
      subst e
      rw [List.take_of_length_le (Nat.le_refl _)] at hm
      obtain ⟨r, hr, er⟩ := qg ns hn hm
      exact ⟨q, hq, r, Ev.step (fun k => by rw [ae.l2, if_neg (by omega)]) hr, er⟩
def Reached (ns : List S62) : Prop := ∀ q, Graph.iw (bX (rowsOf ns)) (dir ns) ns.length q q.length [] → ∀ x, 0 ≤ x → x < (ns.length : Int) → dir ns x → x ∈ q
def uj (ns : List S62) (room : Int) : Prop := Ac ns room ∧ oW 0 ns ∧ (∀ i, 0 ≤ i → i < (ns.length : Int) → mV ns i) ∧ Reached ns
theorem xJ (ns : List S62) (hn : ns.length ≤ 1048576) (hs : ∀ v ∈ ns, eG v) (x : Int) : links (rowsOf ns) x ≤ 1099511627776 := by
  have h := nE ns (jo hs)
  have h2 : links (rowsOf ns) x ≤ (rowsOf ns).flatten.length := List.count_le_length
  omega
theorem rf (ns : List S62) (h1 : oW 0 ns) (hz : links (rowsOf ns) 0 = 0) (hd : ∀ x, 0 < x → x < (ns.length : Int) → dir ns x → links (rowsOf ns) x ≤ 1) : pI ns := by
  have hrow : ∀ x, 0 ≤ x → x < (ns.length : Int) → ∀ y ∈ bX (rowsOf ns) x, dir ns x ∧ To 0 ns y := fun x h0 hx y hy => by
    rw [gz ns x h0 hx] at hy
    exact good_row (h1 x h0 hx) y hy
  have hle : ∀ x, dir ns x → 0 ≤ x → x < (ns.length : Int) → links (rowsOf ns) x ≤ 1 := fun x hdx h0 hx => by
    by_cases e : x = 0
    · rw [e, hz]; exact Nat.zero_le _
    · exact hd x (by omega) hx hdx
  refine ⟨fun x h0 hx y hy => ⟨(hrow x h0 hx y hy).2.1, (hrow x h0 hx y hy).2.2.1⟩, fun x h0 hx hy => ?_, fun x hdx p q hp0 hp hq0 hq hxp hxq => ?_, fun x hdx p a b hp0 hp e => ?_, fun x h0 hx y hy => (hrow x h0 hx y hy).1⟩
  · have : 0 < links (rowsOf ns) 0 := kX.2 ⟨x, h0, by rw [iD]; exact hx, hy⟩
    omega
  · have hb := (hrow p hp0 hp x hxp).2
    exact wF (hle x hdx hb.1 hb.2.1) hp0 hq0 (by rw [iD]; exact hp) (by rw [iD]; exact hq) hxp hxq
  · have hb := (hrow p hp0 hp x (by rw [e]; simp)).2
    exact tu (hle x hdx hb.1 hb.2.1) hp0 (by rw [iD]; exact hp) e
theorem pY (ns : List S62) (room : Int) (hn : 1 ≤ ns.length) (hn' : ns.length ≤ 1048576) (hs : ∀ v ∈ ns, eG v) (h0 : (r62 ns 0).f0 = 2) (T : pI ns) :
    ∃ q' : List Int, Graph.iw (bX (rowsOf ns)) (dir ns) ns.length q' q'.length [] ∧ ∃ r, Ev (fun k => ae.l2 k (List.replicate ((ns.length : Int) : Int).toNat false) [0] 0 ns room) r ∧ (r = true ↔ ∀ x, 0 ≤ x → x < (ns.length : Int) → dir ns x → x ∈ q') :=
  uK ns room hn' hs T ns.length 0 (List.replicate ((ns.length : Int) : Int).toNat false) [0] (by omega) (Graph.iw.start (by omega) h0) (by simp)
    ⟨by simp, fun y hy0 hy1 => by unfold dx; rw [List.getD_eq_getElem?_getD, List.getElem?_replicate, if_pos (by omega)]; simp⟩
theorem qI (ns : List S62) (room : Int) (hn' : ns.length ≤ 1048576) (hs : ∀ v ∈ ns, eG v) : eH ns room ↔ uj ns room := by
  have hA : ∀ {ns : List S62}, oW 1 ns → oW 0 ns := fun h i h0 h1 => by
    have := h i h0 h1
    refine ⟨this.1, fun hz => ?_⟩
    obtain ⟨a, b, c, d, e⟩ := this.2 hz
    refine ⟨a, b, c, d, e.imp id (Or.imp (fun h => ⟨h.1, h.2.1, fun j hj0 hj1 => ?_⟩) id)⟩
    obtain ⟨x, y, z⟩ := h.2.2 j hj0 hj1
    exact ⟨x, y, by have := z.1; omega, z.2⟩
  have key : ∀ (hh : Ac ns room) (h1 : oW 0 ns) (hz : links (rowsOf ns) 0 = 0) (hd : ∀ x, 0 < x → x < (ns.length : Int) → dir ns x → links (rowsOf ns) x ≤ 1),
      (∀ met, Graph.Met (bX (rowsOf ns)) ns.length [0] [] met → ∀ i, 0 ≤ i → i < (ns.length : Int) → qy ns met i) ↔ (∀ i, 0 ≤ i → i < (ns.length : Int) → mV ns i) ∧ Reached ns := fun hh h1 hz hd => by
    have T := rf ns h1 hz hd
    have hn : 0 < (ns.length : Int) := by have := hh.1.1; omega
    obtain ⟨q, hq, _⟩ := pY ns room hh.1.1 hn' hs hh.2.2.2 T
    have hrow : ∀ v ∈ ns, ∀ x ∈ row v.f6, 0 ≤ x ∧ x < (ns.length : Int) := fun v hv x hx => by
      have := (good_row (kR h1 v hv) x hx).2
      exact ⟨this.1, this.2.1⟩
    obtain ⟨met, _, em⟩ := cZ.is ns room hn' (jo hs) hrow ns.length [] 0 (List.Pairwise.nil) (fun x hx => by cases hx) (by omega) (by omega) (by simp)
    have hb := Graph.both (there := fun x => (r62 ns x).f0 ≠ 0) T hn hq em (fun x hx => by have : (r62 ns x).f0 = 2 := hx; omega)
    have hpos : ∀ x, (∃ p, 0 ≤ p ∧ p < (ns.length : Int) ∧ x ∈ bX (rowsOf ns) p) ↔ 0 < links (rowsOf ns) x := fun x => by rw [kX, iD]
    constructor
    · intro H
      have H' := H met em
      have hb' := hb.1 (fun x h0 hx ht => (H' x h0 hx).2.2 ht)
      refine ⟨fun i h0 hi ht => ⟨fun e => hz, fun hp => ⟨(hpos i).1 (hb'.2 i hp hi ht), fun hdi => (H' i h0 hi).2.1 hp hdi⟩⟩, fun q' hq' x h0 hx hdx => ?_⟩
      exact (hq'.allIn T hn (hq.reach x (hb'.1 x h0 hx hdx))).2 hdx
    · rintro ⟨HL, HR⟩ met' em'
      have hm : met' = met := mE em'.rising em.rising (fun x => by rw [em'.reach, em.reach])
      subst hm
      have hb' := hb.2 ⟨HR q hq, fun x h0 hx ht => (hpos x).2 (by have := ((HL x (by omega) hx ht).2 h0).1; omega)⟩
      exact fun i h0 hi => ⟨fun _ => hz, fun hp hdi => ((HL i h0 hi (by omega)).2 hp).2 hdi, fun ht => hb' i h0 hi ht⟩
  constructor
  · rintro ⟨hh, h1, hE⟩
    have h10 := hA h1
    have hrow : ∀ v ∈ ns, ∀ x ∈ row v.f6, 0 ≤ x ∧ x < (ns.length : Int) := fun v hv x hx => by
      have := (good_row (kR h10 v hv) x hx).2
      exact ⟨this.1, this.2.1⟩
    have hn := hh.1.1
    obtain ⟨met, _, em⟩ := cZ.is ns room hn' (jo hs) hrow ns.length [] 0 (List.Pairwise.nil) (fun x hx => by cases hx) (by omega) (by omega) (by simp)
    have hz := (hE met em 0 (by omega) (by omega)).1 rfl
    have k := key hh h10 hz (fun x h0 hx hdx => by rw [(hE met em x (by omega) hx).2.1 h0 hdx]; exact Nat.le_refl _)
    exact ⟨hh, h10, k.1 hE⟩
  · rintro ⟨hh, h1, hL, hR⟩
    have hn := hh.1.1
    have hz := (hL 0 (by omega) (by omega) (by rw [hh.2.2.2]; omega)).1 rfl
    have k := key hh h1 hz (fun x h0 hx hdx => by
      have : (r62 ns x).f0 = 2 := hdx
      rw [((hL x (by omega) hx (by omega)).2 h0).2 hdx]; exact Nat.le_refl _)
    refine ⟨hh, fun i h0 hi => ?_, k.2 ⟨hL, hR⟩⟩
    have hg := h1 i h0 hi
    refine ⟨hg.1, fun hne => ?_⟩
    obtain ⟨a, b, c, d, e⟩ := hg.2 hne
    refine ⟨a, b, c, d, e.imp id (Or.imp (fun h => ⟨h.1, h.2.1, fun j hj0 hj1 => ?_⟩) id)⟩
    obtain ⟨x, y, z⟩ := h.2.2 j hj0 hj1
    refine ⟨x, y, ?_, z.2⟩
    have hne0 : (r87 (r62 ns i).f6 j).f1 ≠ 0 := fun e0 => by
      have hmem : (0 : Int) ∈ bX (rowsOf ns) i := by
        rw [gz ns i h0 hi, ← e0]
        exact List.mem_map.2 ⟨_, qj _ j hj0 hj1, rfl⟩
      have : 0 < links (rowsOf ns) 0 := kX.2 ⟨i, h0, by rw [iD]; exact hi, hmem⟩
      omega
    have := z.1; omega
theorem rE {x : Int} (h : 0 < x) : mn x 1 = 1 := by unfold mn; split <;> omega
theorem yO : mn 0 1 = 0 := by unfold mn; split <;> omega
theorem uL (ns : List S62) (room : Int) (hn : 1 ≤ ns.length) (hn' : ns.length ≤ 1048576) (hs : ∀ v ∈ ns, eG v) (h0d : (r62 ns 0).f0 = 2) (hA : oW 0 ns) {out : List Int} (ho : out.length = ns.length) (hv : ∀ y, 0 ≤ y → y < (ns.length : Int) → rd out y = ((links (rowsOf ns) y : Nat) : Int)) :
    ∃ r, Ev (fun k => ae.l1 k out ns (ns.length : Int) 0 ns room) r ∧ (r = true ↔ (∀ i, 0 ≤ i → i < (ns.length : Int) → mV ns i) ∧ Reached ns) := by
  have hround : ∀ i, 0 ≤ i → i < (ns.length : Int) → (∀ j, 0 ≤ j → j < i → mV ns j) → nU (fun k i => ae.l1 k out ns (ns.length : Int) i ns room) (mV ns) i := fun i h0 h1 _ => by
    have hw1 : wrap64 (i + 1) = i + 1 := bg (by omega) (by omega)
    have hl : i < (out.length : Int) := by rw [ho]; exact h1
    have hvi := hv i h0 h1
    have hle := xJ ns hn' hs i
    by_cases hk : (r62 ns i).f0 = 0
    · refine Or.inl ⟨fun h => absurd hk h, fun r hr => Ev.step (fun k => by show ae.l1 (k + 1) out ns (ns.length : Int) i ns room = _; rw [ae.l1, if_pos h1, if_pos h0, if_pos h1, hw1]) ?_⟩
      exact ja (fun _ => af hk hr) (fun _ => ja (fun _ => af hk hr) (fun _ => af hk hr))
    · by_cases hi : i = 0
      · by_cases hc : links (rowsOf ns) 0 = 0
        · refine Or.inl ⟨fun _ => ⟨fun _ => hc, fun h => by omega⟩, fun r hr => Ev.step (fun k => by show ae.l1 (k + 1) out ns (ns.length : Int) i ns room = _; rw [ae.l1, if_pos h1, if_pos h0, if_pos h1, hw1, if_pos hi, if_neg hk, if_pos hl]) (aD (aG.is _ _ _) (af (decide_eq_true ?_) hr))⟩
          rw [hvi, hi, hc, yO]; omega
        · refine Or.inr ⟨fun h => hc ((h hk).1 hi), Ev.step (fun k => by show ae.l1 (k + 1) out ns (ns.length : Int) i ns room = _; rw [ae.l1, if_pos h1, if_pos h0, if_pos h1, hw1, if_pos hi, if_neg hk, if_pos hl]) (aD (aG.is _ _ _) (aH ?_ (Ev.now _)))⟩
          rw [hvi, hi, decide_eq_true_iff]; omega
      · have hp : 0 < i := by omega
        by_cases hd : (r62 ns i).f0 = 2
        · by_cases hc : links (rowsOf ns) i = 1
          · refine Or.inl ⟨fun _ => ⟨fun h => absurd h hi, fun _ => ⟨by omega, fun _ => hc⟩⟩, fun r hr => Ev.step (fun k => by show ae.l1 (k + 1) out ns (ns.length : Int) i ns room = _; rw [ae.l1, if_pos h1, if_pos h0, if_pos h1, hw1, if_neg hi, if_pos hd, if_neg hk, if_pos hl]) (aD (aG.is _ _ _) (af (decide_eq_true ?_) hr))⟩
            rw [hvi, rE hp]; omega
          · refine Or.inr ⟨fun h => hc (((h hk).2 hp).2 hd), Ev.step (fun k => by show ae.l1 (k + 1) out ns (ns.length : Int) i ns room = _; rw [ae.l1, if_pos h1, if_pos h0, if_pos h1, hw1, if_neg hi, if_pos hd, if_neg hk, if_pos hl]) (aD (aG.is _ _ _) (aH ?_ (Ev.now _)))⟩
            rw [hvi, rE hp, decide_eq_true_iff]; omega
        · by_cases hc : 1 ≤ links (rowsOf ns) i
          · refine Or.inl ⟨fun _ => ⟨fun h => absurd h hi, fun _ => ⟨hc, fun h => absurd h hd⟩⟩, fun r hr => Ev.step (fun k => by show ae.l1 (k + 1) out ns (ns.length : Int) i ns room = _; rw [ae.l1, if_pos h1, if_pos h0, if_pos h1, hw1, if_neg hi, if_neg hd, if_neg hk, if_pos hl]) (aD (aG.is _ _ _) (af (decide_eq_true ?_) hr))⟩
            rw [hvi, rE hp]; omega
          · refine Or.inr ⟨fun h => hc ((h hk).2 hp).1, Ev.step (fun k => by show ae.l1 (k + 1) out ns (ns.length : Int) i ns room = _; rw [ae.l1, if_pos h1, if_pos h0, if_pos h1, hw1, if_neg hi, if_neg hd, if_neg hk, if_pos hl]) (aD (aG.is _ _ _) (aH ?_ (Ev.now _)))⟩
            rw [hvi, rE hp, decide_eq_true_iff]; omega
  refine mR (L := fun k i => ae.l1 k out ns (ns.length : Int) i ns room) (P := mV ns) (N := ns.length) (by omega) hround (fun hall => ?_)
  have hz := (hall 0 (by omega) (by omega) (by rw [h0d]; omega)).1 rfl
  have T := rf ns hA hz (fun x h0 hx hdx => by
    have : (r62 ns x).f0 = 2 := hdx
    rw [((hall x (by omega) hx (by omega)).2 h0).2 hdx]; exact Nat.le_refl _)
  obtain ⟨q, hq, r, hr, er⟩ := pY ns room hn hn' hs h0d T
  refine ⟨r, Ev.step (fun k => by show ae.l1 (k + 1) out ns (ns.length : Int) (ns.length : Int) ns room = _; rw [ae.l1, if_neg (by omega), if_pos (by omega), if_pos (by omega)]) hr, ?_⟩
  rw [er]
  refine ⟨fun h q' hq' x h0 hx hdx => (hq'.allIn T (by omega) (hq.reach x (h x h0 hx hdx))).2 hdx, fun h => h q hq⟩
theorem ae.is (ns : List S62) (room : Int) (hn' : ns.length ≤ 1048576) (hs : ∀ v ∈ ns, eG v) : ∃ r, Ev (fun k => ae.f k ns room) r ∧ (r = true ↔ uj ns room) := by
  have hj : Ev (fun k => ae.j0 k true ns room) false := Ev.step (fun k => by rw [ae.j0, if_pos rfl]) (Ev.now _)
  have hroom : iU.f room = some (decide (0 ≤ room ∧ room ≤ 1000)) := by unfold iU.f; rw [aG.is]; rfl
  unfold ae.f
  by_cases c1 : 1 ≤ (ns.length : Int) ∧ (ns.length : Int) ≤ 40
  rotate_left
  · exact ⟨false, aD (aG.is _ _ _) (aH (by simpa using c1) hj), fun h => (by cases h), fun h => absurd h.1.1 (by omega)⟩
  by_cases c2 : 0 ≤ room ∧ room ≤ 1000
  rotate_left
  · exact ⟨false, aD (aG.is _ _ _) (af (decide_eq_true c1) (aD hroom (aH (by simpa using c2) hj))), fun h => (by cases h), fun h => absurd h.1.2.1 c2⟩
  by_cases c4 : (r62 ns 0).f0 = 2
  rotate_left
  · exact ⟨false, aD (aG.is _ _ _) (af (decide_eq_true c1) (aD hroom (af (decide_eq_true c2) (af (by omega) (by rw [bne_iff_ne.mpr c4]; exact hj))))), fun h => (by cases h), fun h => absurd h.1.2.2.2 c4⟩
  have hround : ∀ i, 0 ≤ i → i < (ns.length : Int) → (∀ j, 0 ≤ j → j < i → ko 0 ns (r62 ns j)) → nU (fun k i => ae.l0 k ns (ns.length : Int) i ns room) (fun i => ko 0 ns (r62 ns i)) i := fun i h0 h1 _ => by
    obtain ⟨t, ht, et⟩ := kg.is ns room (r62 ns i) (by omega) hn' (hs _ (il ns i h0 h1))
    have hw1 : wrap64 (i + 1) = i + 1 := bg (by omega) (by omega)
    by_cases h : ko 0 ns (r62 ns i)
    · exact Or.inl ⟨h, fun r hr => Ev.step (fun k => by show ae.l0 (k + 1) ns (ns.length : Int) i ns room = _; rw [ae.l0, if_pos h1, if_pos h0, if_pos h1, hw1]) (aj ht (af (et.2 h) hr))⟩
    · exact Or.inr ⟨h, Ev.step (fun k => by show ae.l0 (k + 1) ns (ns.length : Int) i ns room = _; rw [ae.l0, if_pos h1, if_pos h0, if_pos h1, hw1]) (aj ht (aH (fun e => h (et.1 e)) (Ev.now _)))⟩
  obtain ⟨r, hr, e⟩ := mR (L := fun k i => ae.l0 k ns (ns.length : Int) i ns room) (P := fun i => ko 0 ns (r62 ns i)) (Q := sN ns ≤ room ∧ (∀ i, 0 ≤ i → i < (ns.length : Int) → mV ns i) ∧ Reached ns) (N := ns.length) (by omega) hround (fun hall => by
    have hb := bM.is ns room hn'
    by_cases c3 : sN ns > room
    · exact ⟨false, Ev.step (fun k => by show ae.l0 (k + 1) ns (ns.length : Int) (ns.length : Int) ns room = _; rw [ae.l0, if_neg (by omega)]) (aj hb (af c3 (Ev.now _))), fun h => (by cases h), fun h => absurd h.1 (by omega)⟩
    · obtain ⟨out, ho, hol, hov⟩ := aX.is ns room hn' (jo hs) (fun v hv e he => by
        have := (good_row (kR hall v hv) e.f1 (List.mem_map.2 ⟨e, he, rfl⟩)).2
        exact ⟨this.1, this.2.1⟩)
      obtain ⟨r, hr, er⟩ := uL ns room (by omega) hn' hs c4 hall hol hov
      refine ⟨r, Ev.step (fun k => by show ae.l0 (k + 1) ns (ns.length : Int) (ns.length : Int) ns room = _; rw [ae.l0, if_neg (by omega)]) (aj hb (aH c3 (aj ho hr))), ?_⟩
      rw [er]; exact ⟨fun h => ⟨by omega, h⟩, fun h => h.2⟩)
  refine ⟨r, aD (aG.is _ _ _) (af (decide_eq_true c1) (aD hroom (af (decide_eq_true c2) (af (by omega) (by rw [bne_eq_false_iff_eq.mpr c4]; exact Ev.step (fun k => by rw [ae.j0, if_neg (by decide)]) hr))))), ?_⟩
  rw [e]
  exact ⟨fun h => ⟨⟨by omega, c2, h.2.1, c4⟩, h.1, h.2.2⟩, fun h => ⟨h.2.1, h.1.2.2.1, h.2.2⟩⟩
theorem Af.same (ns : List S62) (room : Int) (hn' : ns.length ≤ 1048576) (hs : ∀ v ∈ ns, eG v) : ∃ r, Ev (fun k => ag.f k ns room) r ∧ Ev (fun k => ae.f k ns room) r ∧ (r = true ↔ eH ns room) := by
  obtain ⟨r, hr, er⟩ := ag.is ns room hn' hs
  obtain ⟨s, hs', es⟩ := ae.is ns room hn' hs
  have e := vX er es (qI ns room hn' hs)
  subst e
  exact ⟨r, hr, hs', er⟩
def oh (x : S62) : Prop := x.f6.length ≤ 1048576
theorem fZ.is (x y : S87) : ∃ r, Ev (fun _ => fZ.f x.f0 x.f1 y.f0 y.f1) r ∧ (r = true ↔ x = y) := by
  cases x with | mk a b => cases y with | mk c d =>
  unfold fZ.f
  by_cases h : a.toList = c.toList
  · by_cases h2 : b = d
    · exact ⟨true, af h (af h2 (Ev.now _)), by simp [h2, eq_of_toList h]⟩
    · exact ⟨false, af h (aH h2 (Ev.now _)), by simp [h2]⟩
  · exact ⟨false, aH h (Ev.now _), by simp; intro e; exact absurd (by rw [e]) h⟩
theorem bn.is (a b : List S87) (hM : a.length ≤ 9223372036854775806) : ∃ r, Ev (fun k => bn.f k a b) r ∧ (r = true ↔ a = b) :=
  xR z87 a b hM _ (fun k i => bn.l0 k a b i) (fun _ x y => fZ.f x.f0 x.f1 y.f0 y.f1) (fun k => rfl)
    (fun hl k i h0 h1 => by show bn.l0 (k + 1) a b i = _; rw [bn.l0, if_pos h1, if_pos h0, if_pos (by omega)]; rfl)
    (fun k i h => by show bn.l0 (k + 1) a b i = _; rw [bn.l0, if_neg h]) (fun x _ y _ => fZ.is x y)
theorem gU.is (x y : S62) (hx : oh x) : ∃ r, Ev (fun k => gU.f k x.f0 x.f1 x.f2 x.f3 x.f4 x.f5 x.f6 y.f0 y.f1 y.f2 y.f3 y.f4 y.f5 y.f6) r ∧ (r = true ↔ x = y) := by
  cases x with | mk a0 a1 a2 a3 a4 a5 a6 => cases y with | mk b0 b1 b2 b3 b4 b5 b6 =>
  unfold oh at hx
  simp only at hx
  unfold gU.f
  by_cases h0 : a0 = b0
  rotate_left
  · exact ⟨false, aH h0 (Ev.now _), by simp [h0]⟩
  by_cases h1 : a1 = b1
  rotate_left
  · exact ⟨false, af h0 (aH h1 (Ev.now _)), by simp [h1]⟩
  by_cases h2 : a2 = b2
  rotate_left
  · exact ⟨false, af h0 (af h1 (aH h2 (Ev.now _))), by simp [h2]⟩
  by_cases h3 : a3 = b3
  rotate_left
  · exact ⟨false, af h0 (af h1 (af h2 (aH h3 (Ev.now _)))), by simp [h3]⟩
  by_cases h4 : a4 = b4
  rotate_left
  · exact ⟨false, af h0 (af h1 (af h2 (af h3 (aH h4 (Ev.now _))))), by simp [h4]⟩
  by_cases h5 : a5.toList = b5.toList
  rotate_left
  · exact ⟨false, af h0 (af h1 (af h2 (af h3 (af h4 (aH h5 (Ev.now _)))))), by simp; intro _ _ _ _ _ e; exact absurd (by rw [e]) h5⟩
  obtain ⟨r, hr, e⟩ := bn.is a6 b6 (by omega)
  have h5' := eq_of_toList h5
  refine ⟨r, af h0 (af h1 (af h2 (af h3 (af h4 (af h5 (aj hr ?_)))))), by rw [e]; simp [h0, h1, h2, h3, h4, h5']⟩
  cases r with
  | true => exact af rfl (Ev.now _)
  | false => exact aH (by simp) (Ev.now _)
theorem bA.is (a b : List S62) (hM : a.length ≤ 9223372036854775806) (ha : ∀ x ∈ a, oh x) : ∃ r, Ev (fun k => bA.f k a b) r ∧ (r = true ↔ a = b) :=
  xR z62 a b hM _ (fun k i => bA.l0 k a b i) (fun k x y => gU.f k x.f0 x.f1 x.f2 x.f3 x.f4 x.f5 x.f6 y.f0 y.f1 y.f2 y.f3 y.f4 y.f5 y.f6) (fun k => rfl)
    (fun hl k i h0 h1 => by show bA.l0 (k + 1) a b i = _; rw [bA.l0, if_pos h1, if_pos h0, if_pos (by omega)]; rfl)
    (fun k i h => by show bA.l0 (k + 1) a b i = _; rw [bA.l0, if_neg h]) (fun x hx y _ => gU.is x y (ha x hx))
theorem ib.is (a b : List S62) (n m : Int) (hM : a.length ≤ 9223372036854775806) (ha : ∀ x ∈ a, oh x) : ∃ r, Ev (fun k => ib.f k a n b m) r ∧ (r = true ↔ a = b ∧ n = m) := by
  obtain ⟨r, hr, e⟩ := bA.is a b hM ha
  unfold ib.f
  cases r with
  | false => exact ⟨false, aj hr (aH (by simp) (Ev.now _)), fun h => (by cases h), fun h => e.2 h.1⟩
  | true =>
    by_cases h : n = m
    · exact ⟨true, aj hr (af rfl (af h (Ev.now _))), fun _ => ⟨e.1 rfl, h⟩, fun _ => rfl⟩
    · exact ⟨false, aj hr (af rfl (aH h (Ev.now _))), fun h => (by cases h), fun h' => absurd h'.2 h⟩
theorem ib.same (a : List S62) (n : Int) (hM : a.length ≤ 9223372036854775806) (ha : ∀ x ∈ a, oh x) : Ev (fun k => ib.f k a n a n) true := by
  obtain ⟨r, hr, e⟩ := ib.is a a n n hM ha
  rwa [e.2 ⟨rfl, rfl⟩] at hr
def pg (e : S119) : Prop := e.f0.size ≤ 9223372036854775807
def rC (x : S70) : Prop := x.f5.size ≤ 9223372036854775807 ∧ x.f6.length ≤ 9223372036854775807 ∧ ∀ e ∈ x.f6, pg e
def lK (e : S119) : Prop := e.f0.size ≤ 1048576
def jQ (x : S70) : Prop := x.f5.size ≤ 1048576 ∧ x.f6.length ≤ 1048576 ∧ ∀ e ∈ x.f6, lK e
theorem fG.is (e : S119) (he : pg e) (x : Int) (h0 : 0 ≤ x) (h1 : x ≤ 1048576) : ∃ r, Ev (fun _ => fG.f e.f0 e.f1 x) r ∧ (r < 0 ∨ (0 ≤ r ∧ r ≤ x ∧ lK e)) := by
  unfold pg at he
  have hw : wrap64 (x - (e.f0.size : Int)) = x - (e.f0.size : Int) := bg (by omega) (by omega)
  unfold fG.f
  rw [hw]
  by_cases h : x - (e.f0.size : Int) < 0
  · exact ⟨-1, af h (Ev.now _), .inl (by omega)⟩
  · exact ⟨_, aH h (Ev.now _), .inr ⟨by omega, by omega, by unfold lK; omega⟩⟩
theorem bY.is (l : List S119) (hl : l.length ≤ 9223372036854775807) (hg : ∀ e ∈ l, pg e) (x : Int) (h0 : 0 ≤ x) (h1 : x ≤ 1048576) : ∃ r, Ev (fun k => bY.f k l x) r ∧ (r < 0 ∨ (0 ≤ r ∧ r ≤ x ∧ l.length ≤ 1048576 ∧ ∀ e ∈ l, lK e)) := by
  have hw : wrap64 (x - (l.length : Int)) = x - (l.length : Int) := bg (by omega) (by omega)
  unfold bY.f
  rw [hw]
  by_cases h : x - (l.length : Int) < 0
  · exact ⟨-1, af h (Ev.now _), .inl (by omega)⟩
  · obtain ⟨r, hr, e⟩ := vE z119 l (by omega) (fun k x i => bY.l0 k l x i) (fun _ e x => fG.f e.f0 e.f1 x) lK 1048576
      (fun k x i h0 h1 => by show bY.l0 (k + 1) l x i = _; rw [bY.l0, if_pos h1, if_pos h0]; rfl)
      (fun k x i h => by show bY.l0 (k + 1) l x i = _; rw [bY.l0, if_neg h]) (fun e he x h0 h1 => fG.is e (hg e he) x h0 h1)
      l.length (x - (l.length : Int)) 0 (by omega) (by omega) (by omega) (by omega) (by omega)
    refine ⟨r, aH h hr, ?_⟩
    rcases e with e | ⟨e1, e2, e3⟩
    · exact .inl e
    · exact .inr ⟨e1, by omega, by omega, by simpa using e3⟩
theorem gT.is (n : S70) (hn : rC n) (x : Int) (h0 : 0 ≤ x) (h1 : x ≤ 1048576) : ∃ r, Ev (fun k => gT.f k n.f0 n.f1 n.f2 n.f3 n.f4 n.f5 n.f6 x) r ∧ (r < 0 ∨ (0 ≤ r ∧ r ≤ x ∧ jQ n)) := by
  obtain ⟨g1, g2, g3⟩ := hn
  have hw : wrap64 (x - (n.f5.size : Int)) = x - (n.f5.size : Int) := bg (by omega) (by omega)
  unfold gT.f
  rw [hw]
  by_cases h : x - (n.f5.size : Int) < 0
  · exact ⟨-1, af h (Ev.now _), .inl (by omega)⟩
  · obtain ⟨r, hr, e⟩ := bY.is n.f6 g2 g3 (x - (n.f5.size : Int)) (by omega) (by omega)
    rcases e with e | ⟨e1, e2, e3, e4⟩
    · exact ⟨-1, aH h (aj hr (af e (Ev.now _))), .inl (by omega)⟩
    · exact ⟨r, aH h (aj hr (aH (by omega) (Ev.now _))), .inr ⟨e1, by omega, by omega, e3, e4⟩⟩
theorem dw.is (l : List S70) (hl : l.length ≤ 9223372036854775807) (hg : ∀ n ∈ l, rC n) (x : Int) (h0 : 0 ≤ x) (h1 : x ≤ 1048576) : ∃ r, Ev (fun k => dw.f k l x) r ∧ (r < 0 ∨ (0 ≤ r ∧ r ≤ x ∧ l.length ≤ 1048576 ∧ ∀ n ∈ l, jQ n)) := by
  have hw : wrap64 (x - (l.length : Int)) = x - (l.length : Int) := bg (by omega) (by omega)
  unfold dw.f
  rw [hw]
  by_cases h : x - (l.length : Int) < 0
  · exact ⟨-1, af h (Ev.now _), .inl (by omega)⟩
  · obtain ⟨r, hr, e⟩ := vE z70 l (by omega) (fun k x i => dw.l0 k l x i) (fun k n x => gT.f k n.f0 n.f1 n.f2 n.f3 n.f4 n.f5 n.f6 x) jQ 1048576
      (fun k x i h0 h1 => by show dw.l0 (k + 1) l x i = _; rw [dw.l0, if_pos h1, if_pos h0]; rfl)
      (fun k x i h => by show dw.l0 (k + 1) l x i = _; rw [dw.l0, if_neg h]) (fun n hn x h0 h1 => gT.is n (hg n hn) x h0 h1)
      l.length (x - (l.length : Int)) 0 (by omega) (by omega) (by omega) (by omega) (by omega)
    refine ⟨r, aH h hr, ?_⟩
    rcases e with e | ⟨e1, e2, e3⟩
    · exact .inl e
    · exact .inr ⟨e1, by omega, by omega, by simpa using e3⟩
theorem iO.is (l : List S70) (m : Int) (hl : l.length ≤ 9223372036854775807) (hg : ∀ n ∈ l, rC n) (x : Int) (h0 : 0 ≤ x) (h1 : x ≤ 1048576) : ∃ r, Ev (fun k => iO.f k l m x) r ∧ (r < 0 ∨ (0 ≤ r ∧ r ≤ x ∧ l.length ≤ 1048576 ∧ ∀ n ∈ l, jQ n)) := by
  obtain ⟨r, hr, e⟩ := dw.is l hl hg x h0 h1
  unfold iO.f
  rcases e with e | e
  · exact ⟨-1, aj hr (af e (Ev.now _)), .inl (by omega)⟩
  · exact ⟨r, aj hr (aH (by omega) (Ev.now _)), .inr e⟩
def wK (e : S119) : S87 := ⟨e.f0, e.f1⟩
def wy (n : S70) : S62 := ⟨n.f0, n.f1, n.f2, n.f3, n.f4, n.f5, n.f6.map wK⟩
theorem bU.is (l : List S119) (hl : l.length ≤ 1048576) : Ev (fun k => bU.f k l) (l.map wK) := by
  unfold bU.f
  refine af (by omega) (af (by omega) ?_)
  have h := vD z119 l (by omega) (fun k acc i => bU.l0 k l acc i) (fun _ e => jR.f e.f0 e.f1) (fun y => (⟨y.1, y.2⟩ : S87)) (fun e => (e.f0, e.f1))
    (fun k acc i h0 h1 hz => by
      show bU.l0 (k + 1) l acc i = _
      rw [bU.l0, if_pos h1, if_pos h0]
      have hz' : i < (acc.length : Int) := by omega
      simp only [if_pos hz']; rfl)
    (fun k acc i h => by show bU.l0 (k + 1) l acc i = _; rw [bU.l0, if_neg h]) (fun e _ => Ev.now _) l.length (List.replicate ((l.length : Int) : Int).toNat z87) 0 (by simp) (by omega) (by omega) (by simp) (by omega)
  exact h
theorem iT.is (n : S70) (hn : jQ n) : Ev (fun k => iT.f k n.f0 n.f1 n.f2 n.f3 n.f4 n.f5 n.f6) (n.f0, n.f1, n.f2, n.f3, n.f4, n.f5, n.f6.map wK) := aj (bU.is n.f6 hn.2.1) (Ev.now _)
theorem bZ.is (l : List S70) (hl : l.length ≤ 1048576) (hs : ∀ n ∈ l, jQ n) : Ev (fun k => bZ.f k l) (l.map wy) := by
  unfold bZ.f
  refine af (by omega) (af (by omega) ?_)
  have h := vD z70 l (by omega) (fun k acc i => bZ.l0 k l acc i) (fun k n => iT.f k n.f0 n.f1 n.f2 n.f3 n.f4 n.f5 n.f6) (fun y => (⟨y.1, y.2.1, y.2.2.1, y.2.2.2.1, y.2.2.2.2.1, y.2.2.2.2.2.1, y.2.2.2.2.2.2⟩ : S62)) (fun n => (n.f0, n.f1, n.f2, n.f3, n.f4, n.f5, n.f6.map wK))
    (fun k acc i h0 h1 hz => by
      show bZ.l0 (k + 1) l acc i = _
      rw [bZ.l0, if_pos h1, if_pos h0]
      have hz' : i < (acc.length : Int) := by omega
      simp only [if_pos hz']; rfl)
    (fun k acc i h => by show bZ.l0 (k + 1) l acc i = _; rw [bZ.l0, if_neg h]) (fun n hn => iT.is n (hs n hn)) l.length (List.replicate ((l.length : Int) : Int).toNat z62) 0 (by simp) (by omega) (by omega) (by simp) (by omega)
  exact h
theorem fo.is (l : List S70) (m : Int) (hl : l.length ≤ 1048576) (hs : ∀ n ∈ l, jQ n) : Ev (fun k => fo.f k l m) (l.map wy, m) := aj (bZ.is l hl hs) (Ev.now _)
theorem yN {l : List S70} (hs : ∀ n ∈ l, jQ n) : ∀ x ∈ l.map wy, oh x := by
  intro x hx
  obtain ⟨n, hn, rfl⟩ := List.mem_map.1 hx
  show (n.f6.map wK).length ≤ 1048576
  rw [List.length_map]; exact (hs n hn).2.1
theorem qQ (ns : List S62) (room : Int) (hn' : ns.length ≤ 1048576) (hs : ∀ v ∈ ns, eG v) : ∃ r, Ev (fun k => ag.f k ns room) r ∧ Ev (fun k => ae.f k ns room) r ∧ (r = true ↔ eH ns room) := by
  obtain ⟨r, hr, hi, e⟩ := Af.same ns room hn' hs
  exact ⟨r, hr, hi, e⟩
theorem pQ {ns : List S62} {a : Int} (hn : 1 ≤ ns.length) (hn' : ns.length ≤ 1048576) : ∃ r : Bool, ((ay.f a 0 (wrap64 ((ns.length : Int) - 1))).bind fun t => (if t = true then (if 0 ≤ a then (if a < (ns.length : Int) then (some (((r62 ns a).f0) != 0)) else (none)) else (none)) else (some false))) = some r ∧ (r = true ↔ To 0 ns a) := by
  have hw2 : wrap64 ((ns.length : Int) - 1) = (ns.length : Int) - 1 := bg (by omega) (by omega)
  rw [ay.is, Option.bind_some, hw2]
  by_cases h : 0 ≤ a ∧ a ≤ (ns.length : Int) - 1
  · rw [decide_eq_true h, if_pos rfl, if_pos h.1, if_pos (by omega)]
    refine ⟨_, rfl, ?_⟩
    rw [bne_iff_ne]
    exact ⟨fun h' => ⟨h.1, by omega, h'⟩, fun h' => h'.2.2⟩
  · rw [decide_eq_false h, if_neg (by simp)]
    exact ⟨_, rfl, fun h' => (by cases h'), fun h' => absurd ⟨h'.1, by have := h'.2.1; omega⟩ h⟩
theorem xg {l : List S70} (h : ∀ n ∈ l, jQ n) : ∀ v ∈ l.map wy, eG v := by
  intro v hv
  obtain ⟨n, hn, rfl⟩ := List.mem_map.1 hv
  obtain ⟨a, b, c⟩ := h n hn
  refine ⟨a, by show (n.f6.map wK).length ≤ _; rw [List.length_map]; exact b, fun e he => ?_⟩
  obtain ⟨e', he', rfl⟩ := List.mem_map.1 he
  exact c e' he'
theorem lV {ns : List S62} {room : Int} (h : eH ns room) : ∀ v ∈ ns, ∀ e ∈ v.f6, 0 ≤ e.f1 ∧ e.f1 < (ns.length : Int) := fun v hv e he => by
  have := (good_row (kR h.2.1 v hv) e.f1 (List.mem_map.2 ⟨e, he, rfl⟩)).2
  exact ⟨by have := this.1; omega, this.2.1⟩
end Go.Proofs.YtmhjmicplaolmaaGreatDoor.PRm
