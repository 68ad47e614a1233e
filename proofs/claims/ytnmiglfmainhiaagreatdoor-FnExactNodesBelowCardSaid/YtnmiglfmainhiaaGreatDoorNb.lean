/- The nodes below a node, in order, each once: what the reference meets. No condition. -/
import Derived.Test.YtnmiglfmainhiaaGreatDoorWalks
namespace Go.Proofs.YtnmiglfmainhiaaGreatDoor.PNb
open Go.RowKit Go.Proofs.YtnmiglfmainhiaaGreatDoorW.PrintWords Go.Proofs.YtnmiglfmainhiaaGreatDoorW.PrintLast Go.Proofs.YtnmiglfmainhiaaGreatDoorW.PrintMore Go.Proofs.YtnmiglfmainhiaaGreatDoor.Aid Go.Proofs.YtnmiglfmainhiaaGreatDoor.AllLoop Go.Proofs.YtnmiglfmainhiaaGreatDoor.Loops Go.Proofs.YtnmiglfmainhiaaGreatDoor.Put Go.Proofs.YtnmiglfmainhiaaGreatDoor.Graph
set_option linter.unusedSimpArgs false
set_option linter.unusedVariables false
theorem compact_upTo (zs : List Int) (h : zs.Pairwise (· ≤ ·)) : ∀ m, m ≤ zs.length → Rising (Lib.compactUpTo zs.toArray m) ∧ ∀ x, x ∈ Lib.compactUpTo zs.toArray m ↔ ∃ j, j < m ∧ zs[j]? = some x
  | 0, _ => ⟨by simp [Lib.compactUpTo, Rising], fun x => by simp [Lib.compactUpTo]⟩
  | m + 1, hm => by
    obtain ⟨h1, h2⟩ := compact_upTo zs h m (by omega)
    have hget : ∀ j, (hj : j < zs.length) → zs.toArray[j]! = zs[j] := fun j hj => by
      rw [getElem!_pos zs.toArray j (by simpa using hj)]; simp
    have hmono := List.pairwise_iff_getElem.1 h
    have hle : ∀ i j, (hi : i < zs.length) → (hj : j < zs.length) → i ≤ j → zs[i] ≤ zs[j] := fun i j hi hj hij => by
      rcases Nat.lt_or_ge i j with hl | hl
      · exact hmono i j hi hj hl
      · obtain rfl : i = j := by omega
        exact Int.le_refl _
    rw [Lib.compactUpTo_succ]
    by_cases hk : Lib.keeps zs.toArray m = true
    · rw [if_pos hk, hget m (by omega)]
      have hk' : m = 0 ∨ zs.toArray[m]! ≠ zs.toArray[m - 1]! := of_decide_eq_true hk
      refine ⟨List.pairwise_append.2 ⟨h1, by simp, fun x hx y hy => ?_⟩, fun x => ?_⟩
      · rw [List.mem_singleton] at hy
        subst hy
        obtain ⟨j, hj, ej⟩ := (h2 x).1 hx
        obtain ⟨hjl, ej⟩ := List.getElem?_eq_some_iff.1 ej
        rcases hk' with hk' | hk'
        · omega
        · rw [hget m (by omega), hget (m - 1) (by omega)] at hk'
          have a1 := hle j (m - 1) hjl (by omega) (by omega)
          have a2 := hle (m - 1) m (by omega) (by omega) (by omega)
          show x < zs[m]
          omega
      · rw [List.mem_append, List.mem_singleton, h2]
        constructor
        · rintro (⟨j, hj, ej⟩ | rfl)
          · exact ⟨j, by omega, ej⟩
          · exact ⟨m, by omega, List.getElem?_eq_getElem (by omega)⟩
        · rintro ⟨j, hj, ej⟩
          rcases Nat.lt_or_ge j m with hl | hl
          · exact .inl ⟨j, hl, ej⟩
          · obtain rfl : j = m := by omega
            obtain ⟨_, ej⟩ := List.getElem?_eq_some_iff.1 ej
            exact .inr ej.symm
    · rw [if_neg hk, List.append_nil]
      have hk' : ¬ (m = 0 ∨ zs.toArray[m]! ≠ zs.toArray[m - 1]!) := fun hh => hk (decide_eq_true hh)
      have hm0 : m ≠ 0 := fun e => hk' (.inl e)
      have he : zs.toArray[m]! = zs.toArray[m - 1]! := Classical.byContradiction fun hh => hk' (.inr hh)
      rw [hget m (by omega), hget (m - 1) (by omega)] at he
      refine ⟨h1, fun x => ?_⟩
      rw [h2]
      constructor
      · rintro ⟨j, hj, ej⟩; exact ⟨j, by omega, ej⟩
      · rintro ⟨j, hj, ej⟩
        rcases Nat.lt_or_ge j m with hl | hl
        · exact ⟨j, hl, ej⟩
        · obtain rfl : j = m := by omega
          refine ⟨j - 1, by omega, ?_⟩
          rw [← ej, List.getElem?_eq_getElem (by omega), List.getElem?_eq_getElem (by omega), he]
theorem compact_is {zs : List Int} (h : zs.Pairwise (· ≤ ·)) : Rising (Lib.compact zs) ∧ ∀ x, x ∈ Lib.compact zs ↔ x ∈ zs := by
  obtain ⟨h1, h2⟩ := compact_upTo zs h zs.length (Nat.le_refl _)
  refine ⟨h1, fun x => (h2 x).trans ⟨fun ⟨j, _, ej⟩ => List.mem_of_getElem? ej, fun hx => ?_⟩⟩
  obtain ⟨j, hj, ej⟩ := List.mem_iff_getElem.1 hx
  exact ⟨j, hj, (List.getElem?_eq_getElem hj).trans (congrArg some ej)⟩
/-- Sorted, each once. -/
def sorted1 (zs : List Int) : List Int := Lib.compact (zs.mergeSort fun x y => decide (x ≤ y))
theorem sorted1_is (zs : List Int) : Rising (sorted1 zs) ∧ ∀ x, x ∈ sorted1 zs ↔ x ∈ zs := by
  have hs : (zs.mergeSort fun x y => decide (x ≤ y)).Pairwise (· ≤ ·) := by
    have := List.pairwise_mergeSort (le := fun x y : Int => decide (x ≤ y)) (fun a b c h1 h2 => by simp only [decide_eq_true_eq] at *; omega) (fun a b => by simp only [Bool.or_eq_true, decide_eq_true_eq]; omega) zs
    exact this.imp (fun h => of_decide_eq_true h)
  obtain ⟨h1, h2⟩ := compact_is hs
  exact ⟨h1, fun x => (h2 x).trans (List.mergeSort_perm zs _).mem_iff⟩
theorem dfs_mem {adj : Int → List Int} {d : Nat} {a x : Int} (h : Deep adj d a) : x ∈ dfs adj d a ↔ Go.Proofs.YtnmiglfmainhiaaGreatDoor.Graph.Reach adj a x := by
  refine ⟨dfs_reach, fun hr => Go.Proofs.YtnmiglfmainhiaaGreatDoor.Graph.Reach.closed (by cases d <;> simp [dfs]) (fun y hy z hz => ?_) hr⟩
  exact (dfs_perm h).mem_iff.2 (List.mem_cons_of_mem _ (List.mem_flatMap.2 ⟨y, hy, hz⟩))
theorem wl_nodes (ns : List S74) : ∀ (d : Nat) (p : ByteArray) (a : Int), (∀ v ∈ ns, ∀ e ∈ v.f6, 0 ≤ e.f1 ∧ e.f1 < (ns.length : Int)) → 0 ≤ a → a < (ns.length : Int) → (wl ns false d p a).map (·.f1) = dfs (adjOf (rowsOf ns)) d a
  | 0, p, a, _, _, _ => rfl
  | d + 1, p, a, hr, h0, h1 => by
    show a :: ((rd_T74 ns a).f6.flatMap fun e => wl ns false d (belowT p e.f0) e.f1).map (·.f1) = a :: (adjOf (rowsOf ns) a).flatMap (dfs (adjOf (rowsOf ns)) d)
    rw [adj_is ns a h0 h1, List.map_flatMap]
    unfold row
    rw [List.flatMap_map]
    congr 1
    rw [List.flatMap_def, List.flatMap_def]
    congr 1
    exact List.map_congr_left fun e he => wl_nodes ns d _ _ hr (hr _ (nd_mem ns a h0 h1) e he).1 (hr _ (nd_mem ns a h0 h1) e he).2
/-- Both tell the same nodes. -/
theorem nodes_same (ns : List S74) (room a : Int) (hn' : ns.length ≤ 1048576) (hs : ∀ v ∈ ns, Small1 v) (hr : ∀ v ∈ ns, ∀ e ∈ v.f6, 0 ≤ e.f1 ∧ e.f1 < (ns.length : Int)) (h0 : 0 ≤ a) (h1 : a < (ns.length : Int)) {d : Nat} (hD : Deep (adjOf (rowsOf ns)) d a) (p : ByteArray) :
    Ev (fun k => spec_l3Met.f k ns room a []) (sorted1 ((wl ns false d p a).map (·.f1))) ∧ (sorted1 ((wl ns false d p a).map (·.f1))).length ≤ ns.length ∧ ∀ x ∈ sorted1 ((wl ns false d p a).map (·.f1)), 0 ≤ x ∧ x < (ns.length : Int) := by
  obtain ⟨r, hev, hm⟩ := spec_l3Met.is ns room hn' (fun v hv => (hs v hv).2.1) (fun v hv x hx => by obtain ⟨e, he, rfl⟩ := List.mem_map.1 hx; exact hr v hv e he) ns.length [] a List.Pairwise.nil (fun x hx => by cases hx) h0 h1 (by simp)
  have e : r = sorted1 ((wl ns false d p a).map (·.f1)) := by
    obtain ⟨s1, s2⟩ := sorted1_is ((wl ns false d p a).map (·.f1))
    refine rising_ext hm.rising s1 (fun x => ?_)
    rw [s2, wl_nodes ns d p a hr h0 h1, dfs_mem hD]
    exact hm.reach
  have hl := rising_len (a := 0) (n := (ns.length : Int)) hm.rising hm.bound (by omega)
  rw [← e]
  exact ⟨hev, by omega, hm.bound⟩
theorem nb_loop (l : List S111) (hl : l.length ≤ 1000000000) (d : Nat) : ∀ (j : Int) (acc : List Int), 0 ≤ j → j ≤ l.length → (l.length : Int) - j = d → (acc.length : Int) ≤ j → Ev (fun k => impl_Fs_nodesBelow.l0 k acc l (l.length : Int) j) (sorted1 (acc ++ (l.drop j.toNat).map (·.f1))) := by
  induction d with
  | zero =>
    intro j acc h0 hj hd ha
    rw [List.drop_eq_nil_iff.mpr (by omega), List.map_nil, List.append_nil]
    refine Ev.step (fun k => by rw [impl_Fs_nodesBelow.l0, if_neg (by omega)]) ?_
    have hs : (acc.mergeSort fun x y => decide (x ≤ y)).length = acc.length := List.length_mergeSort acc
    exact ev_bind0 (a := acc.mergeSort fun x y => decide (x ≤ y)) (if_pos (by omega)) (ev_bind0 (a := sorted1 acc) (if_pos (by omega)) (Ev.now _))
  | succ d ih =>
    intro j acc h0 hj hd ha
    have hlt : j < (l.length : Int) := by omega
    rw [drop_list l z111 j h0 hlt]
    refine Ev.step (fun k => by rw [impl_Fs_nodesBelow.l0, if_pos hlt, if_pos h0, if_pos hlt, if_pos (by omega), wrap_id (x := j + 1) (by omega) (by omega)]) ?_
    refine ev_eq (ih (j + 1) _ (by omega) (by omega) (by omega) (by rw [List.length_append]; simp; omega)) ?_
    rw [List.map_cons, List.append_assoc]; rfl
/-- What both ask first, and the nodes. -/
theorem nodes_at (ns : List S74) (room a : Int) (hn' : ns.length ≤ 1048576) (hs : ∀ v ∈ ns, Small1 v) :
    (Ev (fun k => spec_l7Asked.f k ns room a) false ∧ Ev (fun k => impl_isGoodAt.f k ns room a) false) ∨
    (Ev (fun k => spec_l7Asked.f k ns room a) true ∧ Ev (fun k => impl_isGoodAt.f k ns room a) true ∧ ∃ l : List Int, Ev (fun k => spec_l3Met.f k ns room a []) l ∧ Ev (fun k => impl_Fs_nodesBelow.f k ns room a) l ∧ l.length ≤ ns.length ∧ ∀ x ∈ l, 0 ≤ x ∧ x < (ns.length : Int)) := by
  rcases ways_at ns room a hn' hs with h | ⟨h1, h2, _, h0, hlt, _, hrn, d, _, hD, h⟩
  · exact .inl h
  · obtain ⟨h4, hl, _⟩ := h false
    obtain ⟨n1, n2, n3⟩ := nodes_same ns room a hn' hs (fun v hv e he => (hrn v hv e he).1) h0 hlt hD (⟨#[46]⟩ : ByteArray)
    refine .inr ⟨h1, h2, _, n1, ev_bind h4 ?_, n2, n3⟩
    have := nb_loop (wl ns false d (⟨#[46]⟩ : ByteArray) a) (by omega) (wl ns false d (⟨#[46]⟩ : ByteArray) a).length 0 [] (by omega) (by omega) (by omega) (by simp)
    rwa [show (0 : Int).toNat = 0 from rfl, List.drop_zero, List.nil_append] at this
/- sizes -/
def szL (ns : List S74) (c : Int) : List Int → Int
  | [] => 0
  | x :: l => (c + ((rd_T74 ns x).f5.size : Int)) + szL ns c l
theorem szL_le {ns : List S74} (hs : ∀ v ∈ ns, Small1 v) {c : Int} (c0 : 0 ≤ c) (c1 : c ≤ 1) : ∀ {l : List Int}, (∀ x ∈ l, 0 ≤ x ∧ x < (ns.length : Int)) → 0 ≤ szL ns c l ∧ szL ns c l ≤ 1048577 * (l.length : Int)
  | [], _ => ⟨Int.le_refl _, by simp [szL]⟩
  | x :: l, h => by
    have hx := h x List.mem_cons_self
    have := szL_le hs c0 c1 (l := l) (fun y hy => h y (List.mem_cons_of_mem _ hy))
    have hz := (hs _ (nd_mem ns x hx.1 hx.2)).1
    rw [szL, List.length_cons]
    omega
theorem rdI_drop (l : List Int) (i : Int) (h0 : 0 ≤ i) (h1 : i < (l.length : Int)) : l.drop i.toNat = rd l i :: l.drop (i + 1).toNat := drop_list l 0 i h0 h1
theorem rdI_mem (l : List Int) (i : Int) (h0 : 0 ≤ i) (h1 : i < (l.length : Int)) : rd l i ∈ l := getD_mem l 0 i h0 h1
end Go.Proofs.YtnmiglfmainhiaaGreatDoor.PNb

