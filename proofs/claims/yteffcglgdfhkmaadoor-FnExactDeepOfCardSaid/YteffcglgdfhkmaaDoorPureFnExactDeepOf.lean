/- All that is gone through from a directory: each directory once, so that it isn't much. No condition. -/
import Derived.Test.YteffcglgdfhkmaaDoorGood
import Derived.Test.YteffcglgdfhkmaaDoorPFsx15
import Derived.Test.YteffcglgdfhkmaaDoorPFsx16
import Derived.Test.YteffcglgdfhkmaaDoorPFsx17
namespace Go.Proofs.YteffcglgdfhkmaaDoor.Graph
open Go.Proofs.YteffcglgdfhkmaaDoor.Put
set_option linter.unusedSimpArgs false
set_option linter.unusedVariables false
/-- What is gone through from a on, d deep. -/
def dfs (adj : Int → List Int) : Nat → Int → List Int
  | 0, a => [a]
  | d + 1, a => a :: (adj a).flatMap (dfs adj d)
theorem dfs_perm {adj : Int → List Int} : ∀ {d : Nat} {a : Int}, Deep adj d a → List.Perm (dfs adj d a) (a :: (dfs adj d a).flatMap adj)
  | 0, a, h => by
    have h' : adj a = [] := h
    simp [dfs, h']
  | d + 1, a, h => by
    have key : ∀ l : List Int, (∀ x ∈ l, Deep adj d x) → List.Perm (l.flatMap (dfs adj d)) (l ++ (l.flatMap (dfs adj d)).flatMap adj) := by
      intro l
      induction l with
      | nil => intro _; simp
      | cons x l ih =>
        intro hl
        have h1 := dfs_perm (hl x List.mem_cons_self)
        have h2 := ih (fun y hy => hl y (List.mem_cons_of_mem _ hy))
        simp only [List.flatMap_cons, List.flatMap_append]
        refine (h1.append h2).trans ?_
        simp only [List.cons_append]
        refine List.Perm.cons _ ?_
        rw [← List.append_assoc, ← List.append_assoc]
        exact List.Perm.append_right _ List.perm_append_comm
    show List.Perm (a :: (adj a).flatMap (dfs adj d)) (a :: (a :: (adj a).flatMap (dfs adj d)).flatMap adj)
    refine List.Perm.cons _ ?_
    rw [List.flatMap_cons]
    exact key (adj a) h
theorem dfs_reach {adj : Int → List Int} : ∀ {d : Nat} {a y : Int}, y ∈ dfs adj d a → Reach adj a y
  | 0, a, y, h => by
    simp only [dfs, List.mem_singleton] at h
    rw [h]; exact Reach.here
  | d + 1, a, y, h => by
    simp only [dfs, List.mem_cons, List.mem_flatMap] at h
    rcases h with rfl | ⟨x, hx, hy⟩
    · exact Reach.here
    · exact Reach.trans (Reach.next Reach.here hx) (dfs_reach hy)
theorem count_flat {adj : Int → List Int} {x p : Int} : ∀ {l : List Int}, (∀ d ∈ l, x ∈ adj d → d = p) → (l.flatMap adj).count x = l.count p * (adj p).count x
  | [], _ => by simp
  | d :: l, h => by
    rw [List.flatMap_cons, List.count_append, count_flat (fun e he => h e (List.mem_cons_of_mem _ he))]
    by_cases e : d = p
    · subst e
      rw [List.count_cons_self, Nat.add_mul, Nat.one_mul, Nat.add_comm]
    · rw [List.count_cons_of_ne e, List.count_eq_zero.2 (fun hx => e (h d List.mem_cons_self hx)), Nat.zero_add]
theorem once_count {adj : Int → List Int} {dir : Int → Prop} {n : Int} (T : Tree adj dir n) {x p : Int} (hd : dir x) (h0 : 0 ≤ p) (h1 : p < n) : (adj p).count x ≤ 1 := by
  by_cases hx : x ∈ adj p
  · obtain ⟨a, b, e⟩ := List.append_of_mem hx
    have ha := T.once x hd p a b h0 h1 e
    by_cases hb : x ∈ b
    · obtain ⟨b1, b2, eb⟩ := List.append_of_mem hb
      have := T.once x hd p (a ++ x :: b1) b2 h0 h1 (by rw [e, eb]; simp)
      exact absurd (by simp) this
    · rw [e, List.count_append, List.count_cons_self, List.count_eq_zero.2 ha, List.count_eq_zero.2 hb]; exact Nat.le_refl _
  · rw [List.count_eq_zero.2 hx]; exact Nat.zero_le _
/-- Each directory is gone through once at most. -/
theorem dfs_once {adj : Int → List Int} {dir : Int → Prop} {n : Int} (T : Tree adj dir n) (hn : 0 < n) {q : List Int} (h : Queue adj dir n q q.length []) {d i : Nat} {a : Int} (hi : q[i]? = some a) (hD : Deep adj d a) (j : Nat) : ∀ x, q[j]? = some x → (dfs adj d a).count x ≤ 1 ∧ (j < i → (dfs adj d a).count x = 0) := by
  have hra : Reach adj 0 a := h.reach a (List.mem_of_getElem? hi)
  have hin : ∀ y ∈ dfs adj d a, 0 ≤ y ∧ y < n := fun y hy => (h.allIn T hn (Reach.trans hra (dfs_reach hy))).1
  have hidx : ∀ {i j : Nat} {x : Int}, q[i]? = some x → q[j]? = some x → i = j := fun {i j x} h1 h2 => by
    obtain ⟨l1, e1⟩ := List.getElem?_eq_some_iff.1 h1
    obtain ⟨l2, e2⟩ := List.getElem?_eq_some_iff.1 h2
    have hnd := List.pairwise_iff_getElem.1 h.nodup
    rcases Nat.lt_trichotomy i j with hl | he | hl
    · exact absurd (e1.trans e2.symm) (hnd i j l1 l2 hl)
    · exact he
    · exact absurd (e2.trans e1.symm) (hnd j i l2 l1 hl)
  induction j using Nat.strongRecOn with
  | _ j ih =>
  intro x hx
  have hp := (dfs_perm hD).count_eq x
  have hxb := h.bound x (List.mem_of_getElem? hx)
  have hflat : ((dfs adj d a).flatMap adj).count x ≤ 1 ∧ ((j < i ∨ x = a) → ((dfs adj d a).flatMap adj).count x = 0) := by
    by_cases h0 : x = 0
    · have hz : ((dfs adj d a).flatMap adj).count x = 0 := List.count_eq_zero.2 (fun hm => by
        obtain ⟨y, hy, hxy⟩ := List.mem_flatMap.1 hm
        exact T.zero y (hin y hy).1 (hin y hy).2 (h0 ▸ hxy))
      exact ⟨by omega, fun _ => hz⟩
    · obtain ⟨i', p, hlt, hp', hxp⟩ := h.order j x hx h0
      have hpb := h.bound p (List.mem_of_getElem? hp')
      have hone := ih i' hlt p hp'
      have hc := count_flat (adj := adj) (x := x) (p := p) (l := dfs adj d a) (fun y hy hxy => T.one x hxb.2.2 y p (hin y hy).1 (hin y hy).2 hpb.1 hpb.2.1 hxy hxp)
      have h1 := once_count T hxb.2.2 hpb.1 hpb.2.1 (p := p)
      rw [hc]
      refine ⟨Nat.le_trans (Nat.mul_le_mul hone.1 h1) (by omega), fun hji => ?_⟩
      have : i' < i := by
        rcases hji with hji | e
        · omega
        · subst e; have := hidx hi hx; omega
      rw [hone.2 this, Nat.zero_mul]
  rw [List.count_cons] at hp
  constructor
  · by_cases e : x = a
    · rw [hp, hflat.2 (.inr e)]; split <;> omega
    · rw [hp, if_neg (by simpa using fun h' => e h'.symm)]; omega
  · intro hji
    have e : x ≠ a := fun e => by subst e; have := hidx hi hx; omega
    rw [hp, hflat.2 (.inl hji), if_neg (by simpa using fun h' => e h'.symm)]
theorem flat_le {adj : Int → List Int} {m : Nat} : ∀ {l : List Int}, (∀ d ∈ l, (adj d).length ≤ m) → (l.flatMap adj).length ≤ (l.filter fun d => !(adj d).isEmpty).length * m
  | [], _ => by simp
  | d :: l, h => by
    have ih := flat_le (fun e he => h e (List.mem_cons_of_mem _ he))
    have hd := h d List.mem_cons_self
    rw [List.flatMap_cons, List.length_append, List.filter_cons]
    by_cases e : adj d = []
    · rw [e]; simpa using ih
    · rw [if_pos (by simpa using e), List.length_cons, Nat.add_mul]; omega
/-- What is gone through is no more than n rows and one. -/
theorem dfs_len {adj : Int → List Int} {dir : Int → Prop} {n : Int} (T : Tree adj dir n) (hn : 0 < n) {q : List Int} (h : Queue adj dir n q q.length []) {d i : Nat} {a : Int} (hi : q[i]? = some a) (hD : Deep adj d a) {m : Nat} (hm : ∀ x, 0 ≤ x → x < n → (adj x).length ≤ m) : ((dfs adj d a).length : Int) ≤ 1 + n * m := by
  have hra : Reach adj 0 a := h.reach a (List.mem_of_getElem? hi)
  have hin := fun y (hy : y ∈ dfs adj d a) => h.allIn T hn (Reach.trans hra (dfs_reach hy))
  have hl := (dfs_perm hD).length_eq
  have hf := flat_le (adj := adj) (m := m) (l := dfs adj d a) (fun x hx => hm x (hin x hx).1.1 (hin x hx).1.2)
  have hnd : ((dfs adj d a).filter fun d => !(adj d).isEmpty).Nodup := by
    rw [List.nodup_iff_count]
    intro x
    by_cases hx : x ∈ (dfs adj d a).filter fun d => !(adj d).isEmpty
    · have hx' := List.mem_filter.1 hx
      have hxi := hin x hx'.1
      have hne : adj x ≠ [] := by simpa using hx'.2
      obtain ⟨y, hy⟩ := List.exists_mem_of_ne_nil _ hne
      have hdx := T.only x hxi.1.1 hxi.1.2 y hy
      obtain ⟨j, hj, ej⟩ := List.mem_iff_getElem.1 (hxi.2 hdx)
      have := (dfs_once T hn h hi hD j x (by rw [List.getElem?_eq_getElem hj, ej])).1
      exact Nat.le_trans (List.Sublist.count_le x List.filter_sublist) this
    · rw [List.count_eq_zero.2 hx]; exact Nat.zero_le _
  have hk := nodup_len hnd (fun x hx => (hin x (List.mem_filter.1 hx).1).1) (by omega)
  rw [List.length_cons] at hl
  have : ((((dfs adj d a).filter fun d => !(adj d).isEmpty).length * m : Nat) : Int) ≤ n * m := by
    rw [Int.natCast_mul]; exact Int.mul_le_mul_of_nonneg_right hk (by omega)
  omega
end Go.Proofs.YteffcglgdfhkmaaDoor.Graph

/- DeepOf of the program and of the reference agree at every file system: no condition. -/
namespace Go.Proofs.YteffcglgdfhkmaaDoor.PFs
open Go.RowKit Go.Proofs.YteffcglgdfhkmaaDoorW.PrintWords Go.Proofs.YteffcglgdfhkmaaDoorW.PrintLast Go.Proofs.YteffcglgdfhkmaaDoorW.PrintMore Go.Proofs.YteffcglgdfhkmaaDoor.Aid Go.Proofs.YteffcglgdfhkmaaDoor.AllLoop Go.Proofs.YteffcglgdfhkmaaDoor.Loops Go.Proofs.YteffcglgdfhkmaaDoor.Put Go.Proofs.YteffcglgdfhkmaaDoor.Graph
set_option linter.unusedSimpArgs false
set_option linter.unusedVariables false
theorem impl_isGoodAt_is (ns : List S53) (room a : Int) (hn' : ns.length ≤ 1048576) {r : Bool} (hi : Ev (fun k => impl_GoodFs.f k ns room) r) (e : r = true ↔ SpecGood ns room) {q : Bool} (hq : r = true → impl_Fs_isThere.f ns room a = some q) : Ev (fun k => impl_isGoodAt.f k ns room a) (r && q) := by
  unfold impl_isGoodAt.f
  cases r with
  | true => exact ev_bind hi (ev_pos rfl (ev_bind0 (hq rfl) (Ev.now _)))
  | false => exact ev_bind hi (ev_neg (by simp) (Ev.now _))
theorem nameB_size {s : ByteArray} (h : nameB s = true) : s.size ≤ 8 := by
  unfold nameB partB at h
  rw [Bool.and_eq_true, Bool.and_eq_true, decide_eq_true_iff] at h
  exact h.1.1.2
/-- The longest chain. -/
def dp (adj : Int → List Int) : Nat → Int → Int
  | 0, _ => 0
  | d + 1, a => (adj a).foldl (fun s y => mx s (1 + dp adj d y)) 0
theorem mx_def (a b : Int) : mx a b = if a < b then b else a := rfl
theorem fold_bound {f : Int → Int} {B : Int} : ∀ (l : List Int) (s : Int), 0 ≤ s → s ≤ B → (∀ y ∈ l, 0 ≤ f y ∧ f y ≤ B) → 0 ≤ l.foldl (fun s y => mx s (f y)) s ∧ l.foldl (fun s y => mx s (f y)) s ≤ B
  | [], s, h0, h1, _ => ⟨h0, h1⟩
  | y :: l, s, h0, h1, h => by
    have hy := h y List.mem_cons_self
    exact fold_bound l _ (by show 0 ≤ mx s (f y); rw [mx_def]; split <;> omega) (by show mx s (f y) ≤ B; rw [mx_def]; split <;> omega) (fun z hz => h z (List.mem_cons_of_mem _ hz))
theorem dp_bound {adj : Int → List Int} : ∀ (d : Nat) (a : Int), 0 ≤ dp adj d a ∧ dp adj d a ≤ d
  | 0, _ => ⟨Int.le_refl _, by simp [dp]⟩
  | d + 1, a => fold_bound _ 0 (by omega) (by omega) (fun y _ => by have := dp_bound (adj := adj) d y; omega)
theorem deep_loop (ns : List S53) (room : Int) (l : List S60) (hl : l.length ≤ 1048576) (dd : Nat) (hd : dd ≤ 1048576) (ih : ∀ y ∈ row l, Ev (fun k => spec_l7Deep.f k ns room y) (dp (adjOf (rowsOf ns)) dd y)) (d : Nat) : ∀ (j s : Int), 0 ≤ j → j ≤ l.length → (l.length : Int) - j = d →
    Ev (fun k => spec_l7Deep.l0 k s l (l.length : Int) j ns room) (((row l).drop j.toNat).foldl (fun s y => mx s (1 + dp (adjOf (rowsOf ns)) dd y)) s) := by
  induction d with
  | zero =>
    intro j s h0 hj hd'
    rw [List.drop_eq_nil_iff.mpr (by rw [row_len]; omega), List.foldl_nil]
    exact Ev.step (fun k => by rw [spec_l7Deep.l0, if_neg (by omega)]) (Ev.now _)
  | succ d ihd =>
    intro j s h0 hj hd'
    have hlt : j < (l.length : Int) := by omega
    have hb := dp_bound (adj := adjOf (rowsOf ns)) dd (rd_T60 l j).f1
    have hm : (rd_T60 l j).f1 ∈ row l := List.mem_map.2 ⟨_, getD_mem l z60 j h0 hlt, rfl⟩
    have hmost : spec_l1Most.f s (wrap64 (1 + dp (adjOf (rowsOf ns)) dd (rd_T60 l j).f1)) = some (mx s (1 + dp (adjOf (rowsOf ns)) dd (rd_T60 l j).f1)) := by
      rw [wrap_id (by omega) (by omega), mx_def]; unfold spec_l1Most.f
      by_cases h : s > 1 + dp (adjOf (rowsOf ns)) dd (rd_T60 l j).f1
      · rw [if_pos h, if_neg (by omega)]
      · rw [if_neg h]; by_cases h2 : s < 1 + dp (adjOf (rowsOf ns)) dd (rd_T60 l j).f1
        · rw [if_pos h2]
        · rw [if_neg h2]; congr 1; omega
    rw [row_drop l j h0 hlt]
    refine Ev.step (fun k => by rw [spec_l7Deep.l0, if_pos hlt, if_pos h0, if_pos hlt]) (ev_bind (ih _ hm) (ev_bind0 hmost ?_))
    rw [wrap_id (x := j + 1) (by omega) (by omega)]
    exact ihd (j + 1) _ (by omega) (by omega) (by omega)
theorem spec_l7Deep.is (ns : List S53) (room : Int) (hn' : ns.length ≤ 1048576) (hs : ∀ v ∈ ns, Small1 v) (hr : ∀ v ∈ ns, ∀ e ∈ v.f6, 0 ≤ e.f1 ∧ e.f1 < (ns.length : Int)) : ∀ (d : Nat) (a : Int), d ≤ 1048576 → 0 ≤ a → a < (ns.length : Int) → Deep (adjOf (rowsOf ns)) d a → Ev (fun k => spec_l7Deep.f k ns room a) (dp (adjOf (rowsOf ns)) d a)
  | 0, a, _, h0, h1, h => by
    have he : row (rd_T53 ns a).f6 = [] := by rw [← adj_is ns a h0 h1]; exact h
    have hz : (rd_T53 ns a).f6.length = 0 := by rw [← row_len, he]; rfl
    show Ev _ 0
    refine Ev.step (fun k => by rw [spec_l7Deep.f, if_pos h0, if_pos h1]) (Ev.step (fun k => by rw [spec_l7Deep.l0, if_neg (by omega)]) (Ev.now _))
  | d + 1, a, hd, h0, h1, h => by
    have hm := nd_mem ns a h0 h1
    have h' : ∀ y ∈ row (rd_T53 ns a).f6, Deep (adjOf (rowsOf ns)) d y := fun y hy => h y (by rw [adj_is ns a h0 h1]; exact hy)
    have hin : ∀ y ∈ row (rd_T53 ns a).f6, 0 ≤ y ∧ y < (ns.length : Int) := fun y hy => by
      obtain ⟨e, he, rfl⟩ := List.mem_map.1 hy
      exact hr _ hm e he
    have := deep_loop ns room (rd_T53 ns a).f6 (hs _ hm).2.1 d (by omega) (fun y hy => spec_l7Deep.is ns room hn' hs hr d y (by omega) (hin y hy).1 (hin y hy).2 (h' y hy)) (rd_T53 ns a).f6.length 0 0 (by omega) (by omega) (by omega)
    refine Ev.step (fun k => by rw [spec_l7Deep.f, if_pos h0, if_pos h1]) ?_
    show Ev _ ((adjOf (rowsOf ns) a).foldl (fun s y => mx s (1 + dp (adjOf (rowsOf ns)) d y)) 0)
    rw [adj_is ns a h0 h1]
    simpa using this
/- the ways -/
def belowT (p nm : ByteArray) : ByteArray := if p.toList = [46] then nm else (p ++ (⟨#[47]⟩ : ByteArray)) ++ nm
def wl (ns : List S53) : Nat → ByteArray → Int → List S78
  | 0, p, a => [⟨p, a⟩]
  | d + 1, p, a => ⟨p, a⟩ :: (rd_T53 ns a).f6.flatMap fun e => wl ns d (belowT p e.f0) e.f1
theorem below_is {p nm : ByteArray} (h1 : p.size ≤ 1000000000000) (h2 : nm.size ≤ 8) : impl_below.f p nm = some (belowT p nm) := by
  unfold impl_below.f belowT
  by_cases h : p.toList = [46]
  · rw [if_pos h, if_pos h]
  · rw [if_neg h, if_neg h, if_pos (by omega), if_pos (by omega)]
theorem below_size' {p nm : ByteArray} (h2 : nm.size ≤ 8) : (belowT p nm).size ≤ p.size + 9 := by
  unfold belowT
  by_cases h : p.toList = [46]
  · rw [if_pos h]; omega
  · rw [if_neg h, size_eq, toList_append, toList_append, List.length_append, List.length_append, show (⟨#[47]⟩ : ByteArray).toList = [47] from toList_mk [47], ← size_eq, ← size_eq, List.length_singleton]; omega
theorem walk_loop (ns : List S53) (room : Int) (p : ByteArray) (dd : Nat) (l : List S60) (hl : l.length ≤ 1048576) (hp : p.size ≤ 1000000000000) (hnm : ∀ e ∈ l, e.f0.size ≤ 8) (ih : ∀ e ∈ l, Ev (fun k => impl_walk.f k ns room (belowT p e.f0) e.f1 false) (wl ns dd (belowT p e.f0) e.f1)) (d : Nat) : ∀ j : Int, 0 ≤ j → j ≤ l.length → (l.length : Int) - j = d →
    Ev (fun k => impl_walk.l0 k ns room p false l j) ((l.drop j.toNat).flatMap fun e => wl ns dd (belowT p e.f0) e.f1) := by
  induction d with
  | zero =>
    intro j h0 hj hd
    rw [List.drop_eq_nil_iff.mpr (by omega), List.flatMap_nil]
    exact Ev.step (fun k => by rw [impl_walk.l0, if_neg (by omega)]) (Ev.now _)
  | succ d ihd =>
    intro j h0 hj hd
    have hlt : j < (l.length : Int) := by omega
    have hm : rd_T60 l j ∈ l := getD_mem l z60 j h0 hlt
    rw [drop_list l z60 j h0 hlt, List.flatMap_cons]
    refine Ev.step (fun k => by rw [impl_walk.l0, if_pos hlt, if_pos h0, wrap_id (x := j + 1) (by omega) (by omega)]) ?_
    exact ev_bind0 (below_is hp (hnm _ hm)) (ev_bind (ih _ hm) (ev_bind (ihd (j + 1) (by omega) (by omega) (by omega)) (ev_some rfl)))
theorem walk_is (ns : List S53) (room : Int) (hs : ∀ v ∈ ns, Small1 v) (hr : ∀ v ∈ ns, ∀ e ∈ v.f6, (0 ≤ e.f1 ∧ e.f1 < (ns.length : Int)) ∧ e.f0.size ≤ 8) : ∀ (d : Nat) (p : ByteArray) (a : Int), p.size + 9 * d ≤ 1000000000 → 0 ≤ a → a < (ns.length : Int) → Deep (adjOf (rowsOf ns)) d a → Ev (fun k => impl_walk.f k ns room p a false) (wl ns d p a)
  | 0, p, a, _, h0, h1, h => by
    have he : row (rd_T53 ns a).f6 = [] := by rw [← adj_is ns a h0 h1]; exact h
    have hz : (rd_T53 ns a).f6.length = 0 := by rw [← row_len, he]; rfl
    refine Ev.step (fun k => by rw [impl_walk.f, if_pos h0, if_pos h1]) ?_
    exact ev_bind (Ev.step (fun k => by rw [impl_walk.l0, if_neg (by omega)]) (Ev.now ([] : List S78))) (ev_some rfl)
  | d + 1, p, a, hp, h0, h1, h => by
    have hm := nd_mem ns a h0 h1
    have := walk_loop ns room p d (rd_T53 ns a).f6 (hs _ hm).2.1 (by omega) (fun e he => (hr _ hm e he).2) (fun e he => walk_is ns room hs hr d (belowT p e.f0) e.f1 (by have := below_size' (p := p) (hr _ hm e he).2; omega) (hr _ hm e he).1.1 (hr _ hm e he).1.2 (h e.f1 (by rw [adj_is ns a h0 h1]; exact List.mem_map.2 ⟨e, he, rfl⟩))) (rd_T53 ns a).f6.length 0 (by omega) (by omega) (by omega)
    rw [show (0 : Int).toNat = 0 from rfl, List.drop_zero] at this
    refine Ev.step (fun k => by rw [impl_walk.f, if_pos h0, if_pos h1]) ?_
    exact ev_bind this (ev_some rfl)
/- slashes -/
def cnt (w : ByteArray) : Int := ((w.toList.count 47 : Nat) : Int)
def cp (p : ByteArray) : Int := if p.toList = [46] then 0 else 1 + cnt p
theorem count_is (w : ByteArray) : strings_Count.f w (⟨#[47]⟩ : ByteArray) = some (cnt w) := by
  unfold strings_Count.f
  rw [if_pos (show (⟨#[47]⟩ : ByteArray).toList = [47] from toList_mk [47])]
  unfold cnt
  rw [ByteArray.toList_eq]; rfl
theorem cnt_le (w : ByteArray) : 0 ≤ cnt w ∧ cnt w ≤ w.size := by
  unfold cnt
  have h : w.toList.count 47 ≤ w.toList.length := List.count_le_length
  rw [size_eq]; omega
theorem name_plain {s : ByteArray} (h : nameB s = true) : s.toList.count 47 = 0 ∧ s.toList ≠ [46] := by
  unfold nameB partB dotsB at h
  rw [Bool.and_eq_true, Bool.and_eq_true] at h
  obtain ⟨⟨_, h2⟩, h3⟩ := h
  refine ⟨List.count_eq_zero.2 (fun hm => ?_), fun e => ?_⟩
  · rw [bytesOf_eq, nb_all, List.all_eq_true] at h2
    have := h2 47 hm
    revert this; decide
  · rw [e] at h3; revert h3; decide
theorem cp_below {p nm : ByteArray} (h : nameB nm = true) : cp (belowT p nm) = cp p + 1 ∧ (belowT p nm).toList ≠ [46] := by
  obtain ⟨h1, h2⟩ := name_plain h
  unfold belowT
  by_cases hp : p.toList = [46]
  · rw [if_pos hp]
    refine ⟨?_, h2⟩
    unfold cp cnt
    rw [if_neg h2, if_pos hp, h1]; rfl
  · rw [if_neg hp]
    have e : ((p ++ (⟨#[47]⟩ : ByteArray)) ++ nm).toList = p.toList ++ 47 :: nm.toList := by rw [toList_append, toList_append, show (⟨#[47]⟩ : ByteArray).toList = [47] from toList_mk [47]]; simp
    have hne : p.toList ++ 47 :: nm.toList ≠ [46] := fun e' => by
      have hm : (47 : UInt8) ∈ [46] := by rw [← e']; simp
      revert hm; decide
    refine ⟨?_, by rw [e]; exact hne⟩
    unfold cp cnt
    rw [if_neg (by rw [e]; exact hne), if_neg hp, e, List.count_append, List.count_cons_self, h1]; omega
theorem wl_plain (ns : List S53) (hr : ∀ v ∈ ns, ∀ e ∈ v.f6, (0 ≤ e.f1 ∧ e.f1 < (ns.length : Int)) ∧ nameB e.f0 = true) : ∀ (d : Nat) (p : ByteArray) (a : Int), 0 ≤ a → a < (ns.length : Int) → p.toList ≠ [46] → ∀ w ∈ wl ns d p a, w.f0.toList ≠ [46]
  | 0, p, a, _, _, hp, w, hw => by
    rw [wl, List.mem_singleton] at hw; rw [hw]; exact hp
  | d + 1, p, a, h0, h1, hp, w, hw => by
    rw [wl, List.mem_cons, List.mem_flatMap] at hw
    rcases hw with rfl | ⟨e, he, hw⟩
    · exact hp
    · have h := hr _ (nd_mem ns a h0 h1) e he
      exact wl_plain ns hr d _ _ h.1.1 h.1.2 (cp_below h.2).2 w hw
theorem wl_size (ns : List S53) (hr : ∀ v ∈ ns, ∀ e ∈ v.f6, (0 ≤ e.f1 ∧ e.f1 < (ns.length : Int)) ∧ e.f0.size ≤ 8) : ∀ (d : Nat) (p : ByteArray) (a : Int), 0 ≤ a → a < (ns.length : Int) → ∀ w ∈ wl ns d p a, w.f0.size ≤ p.size + 9 * d
  | 0, p, a, _, _, w, hw => by
    rw [wl, List.mem_singleton] at hw; rw [hw]; exact Nat.le_add_right _ _
  | d + 1, p, a, h0, h1, w, hw => by
    rw [wl, List.mem_cons, List.mem_flatMap] at hw
    rcases hw with rfl | ⟨e, he, hw⟩
    · exact Nat.le_add_right _ _
    · have h := hr _ (nd_mem ns a h0 h1) e he
      have := wl_size ns hr d _ _ h.1.1 h.1.2 w hw
      have h2 := below_size' (p := p) h.2
      omega
theorem wl_nodes (ns : List S53) : ∀ (d : Nat) (p : ByteArray) (a : Int), (∀ v ∈ ns, ∀ e ∈ v.f6, 0 ≤ e.f1 ∧ e.f1 < (ns.length : Int)) → 0 ≤ a → a < (ns.length : Int) → (wl ns d p a).length = (dfs (adjOf (rowsOf ns)) d a).length
  | 0, p, a, _, _, _ => rfl
  | d + 1, p, a, hr, h0, h1 => by
    rw [wl, dfs, List.length_cons, List.length_cons, adj_is ns a h0 h1, List.length_flatMap, List.length_flatMap]
    unfold row
    rw [List.map_map]
    congr 2
    refine List.map_congr_left (fun e he => ?_)
    have h := hr _ (nd_mem ns a h0 h1) e he
    exact wl_nodes ns d _ _ hr h.1 h.2
theorem mx_fold {α : Type} {g : α → Int} {c s : Int} : ∀ (l : List α) (t : Int), l.foldl (fun s y => mx s (c + g y)) (mx s (c + t)) = mx s (c + l.foldl (fun s y => mx s (g y)) t)
  | [], _ => rfl
  | y :: l, t => by
    rw [List.foldl_cons, List.foldl_cons, ← mx_fold l]
    congr 1
    simp only [mx_def]; split <;> split <;> split <;> (try split) <;> omega
theorem wl_fold (ns : List S53) (hr : ∀ v ∈ ns, ∀ e ∈ v.f6, (0 ≤ e.f1 ∧ e.f1 < (ns.length : Int)) ∧ nameB e.f0 = true) : ∀ (d : Nat) (p : ByteArray) (a s : Int), 0 ≤ a → a < (ns.length : Int) → (wl ns d p a).foldl (fun s w => mx s (cp w.f0)) s = mx s (cp p + dp (adjOf (rowsOf ns)) d a)
  | 0, p, a, s, _, _ => by simp [wl, dp]
  | d + 1, p, a, s, h0, h1 => by
    have hm := nd_mem ns a h0 h1
    have key : ∀ (l : List S60) (t : Int), (∀ e ∈ l, (0 ≤ e.f1 ∧ e.f1 < (ns.length : Int)) ∧ nameB e.f0 = true) → (l.flatMap fun e => wl ns d (belowT p e.f0) e.f1).foldl (fun s w => mx s (cp w.f0)) t = l.foldl (fun s e => mx s (cp p + (1 + dp (adjOf (rowsOf ns)) d e.f1))) t := by
      intro l
      induction l with
      | nil => intro t _; rfl
      | cons e l ih =>
        intro t hl
        have he := hl e List.mem_cons_self
        rw [List.flatMap_cons, List.foldl_append, wl_fold ns hr d _ _ t he.1.1 he.1.2, ih _ (fun x hx => hl x (List.mem_cons_of_mem _ hx)), List.foldl_cons, (cp_below he.2).1, Int.add_assoc]
    rw [wl, List.foldl_cons, key _ _ (hr _ hm), dp, adj_is ns a h0 h1]
    have h2 := mx_fold (g := fun e : S60 => 1 + dp (adjOf (rowsOf ns)) d e.f1) (c := cp p) (s := s) (rd_T53 ns a).f6 0
    rw [Int.add_zero] at h2
    unfold row
    rw [List.foldl_map]
    exact h2
theorem walked_loop (l : List S78) (hl : l.length ≤ 1000000000) (d : Nat) : ∀ (j : Int) (acc : List ByteArray), 0 ≤ j → j ≤ l.length → (l.length : Int) - j = d → (acc.length : Int) ≤ j → Ev (fun k => impl_walked.l0 k acc l (l.length : Int) j) (acc ++ (l.drop j.toNat).map (fun w => w.f0), true) := by
  induction d with
  | zero =>
    intro j acc h0 hj hd ha
    rw [List.drop_eq_nil_iff.mpr (by omega)]
    exact Ev.step (fun k => by rw [impl_walked.l0, if_neg (by omega)]) (ev_some (by simp))
  | succ d ih =>
    intro j acc h0 hj hd ha
    have hlt : j < (l.length : Int) := by omega
    rw [drop_list l z78 j h0 hlt]
    refine Ev.step (fun k => by rw [impl_walked.l0, if_pos hlt, if_pos h0, if_pos hlt, if_pos (by omega), wrap_id (x := j + 1) (by omega) (by omega)]) ?_
    refine ev_eq (ih (j + 1) _ (by omega) (by omega) (by omega) (by rw [List.length_append]; simp; omega)) ?_
    rw [List.map_cons, List.append_assoc]; rfl
theorem count_loop (l : List ByteArray) (hl : l.length ≤ 1000000000) (hz : ∀ w ∈ l, w.size ≤ 2000000000) (d : Nat) : ∀ (j s : Int), 0 ≤ j → j ≤ l.length → (l.length : Int) - j = d → Ev (fun k => impl_DeepOf.l0 k s l (l.length : Int) j) ((l.drop j.toNat).foldl (fun s w => mx s (1 + cnt w)) s, true) := by
  induction d with
  | zero =>
    intro j s h0 hj hd
    rw [List.drop_eq_nil_iff.mpr (by omega), List.foldl_nil]
    exact Ev.step (fun k => by rw [impl_DeepOf.l0, if_neg (by omega)]) (Ev.now _)
  | succ d ih =>
    intro j s h0 hj hd
    have hlt : j < (l.length : Int) := by omega
    have hm : rdOf ByteArray.empty l j ∈ l := rdOf_mem l j h0 hlt
    have hc := cnt_le (rdOf ByteArray.empty l j)
    have hzz := hz _ hm
    rw [rdOf_drop l j h0 hlt]
    refine Ev.step (fun k => by rw [impl_DeepOf.l0, if_pos hlt, if_pos h0, if_pos hlt]) (ev_bind0 (count_is _) ?_)
    rw [wrap_id (x := 1 + cnt _) (by omega) (by omega), wrap_id (x := j + 1) (by omega) (by omega)]
    exact ih (j + 1) _ (by omega) (by omega) (by omega)
theorem names_in {ns : List S53} {lo : Int} (h1 : All1 lo ns) : ∀ v ∈ ns, ∀ e ∈ v.f6, nameB e.f0 = true := fun v hv e he => by
  obtain ⟨i, hi, ei⟩ := List.mem_iff_getElem.1 he
  have hg := all_mem h1 v hv
  by_cases h0 : v.f0 = 0
  · have := (hg.1 h0).2.2.2.2.2; omega
  · rcases (hg.2 h0).2.2.2.2 with h' | h' | h'
    · omega
    · have := (h'.2.2 i (by omega) (by omega)).1
      have e' : rd_T60 v.f6 (i : Int) = e := by
        show v.f6.getD (i : Int).toNat z60 = e
        rw [List.getD_eq_getElem?_getD, show (i : Int).toNat = i by omega, List.getElem?_eq_getElem hi]; exact ei
      rw [e'] at this; exact this
    · omega
/-- How deep it is, and that it isn't much. -/
theorem deep_of {ns : List S53} {room : Int} (hn' : ns.length ≤ 1048576) (hs : ∀ v ∈ ns, Small1 v) (hg : SpecGood ns room) {a : Int} (h0 : 0 ≤ a) (h1 : a < (ns.length : Int)) : ∃ d, d ≤ 40 ∧ Deep (adjOf (rowsOf ns)) d a ∧ (dfs (adjOf (rowsOf ns)) d a).length ≤ 41943041 := by
  have hgi := (same_good ns room hn' hs).1 hg
  have h40 := hgi.1.1
  by_cases hd : (rd_T53 ns a).f0 = 2
  · have hz := (hgi.2.2.1 0 (by omega) (by omega) (by rw [hgi.1.2.2.2]; omega)).1 rfl
    have T := tree_of ns hgi.2.1 hz (fun x h0 hx hdx => by
      have : (rd_T53 ns x).f0 = 2 := hdx
      rw [((hgi.2.2.1 x (by omega) hx (by omega)).2 h0).2 hdx]; exact Nat.le_refl _)
    obtain ⟨qq, hqq, _⟩ := queue_is ns room h40.1 hn' hs hgi.1.2.2.2 T
    have hm := hgi.2.2.2 qq hqq a h0 h1 hd
    obtain ⟨i, hi', ei⟩ := List.mem_iff_getElem.1 hm
    have hql := hqq.len (by omega)
    have ha := (List.getElem?_eq_getElem hi').trans (congrArg some ei)
    have hD := hqq.deep T (qq.length - i) i a ha rfl
    refine ⟨_, by omega, hD, ?_⟩
    have := dfs_len T (by omega) hqq ha hD (m := 1048576) (fun x hx0 hx1 => by rw [adj_is ns x hx0 hx1, row_len]; exact (hs _ (nd_mem ns x hx0 hx1)).2.1)
    omega
  · have he : adjOf (rowsOf ns) a = [] := by
      rw [adj_is ns a h0 h1]
      exact List.eq_nil_iff_forall_not_mem.2 (fun x hx => hd (good_row (hgi.2.1 a h0 h1) x hx).1)
    exact ⟨0, by omega, he, by simp [dfs]⟩
theorem wl_cons (ns : List S53) (hr : ∀ v ∈ ns, ∀ e ∈ v.f6, (0 ≤ e.f1 ∧ e.f1 < (ns.length : Int)) ∧ nameB e.f0 = true) (d : Nat) (p : ByteArray) (a : Int) (h0 : 0 ≤ a) (h1 : a < (ns.length : Int)) : ∃ tl, wl ns d p a = ⟨p, a⟩ :: tl ∧ ∀ w ∈ tl, w.f0.toList ≠ [46] := by
  cases d with
  | zero => exact ⟨[], rfl, fun w hw => (by cases hw)⟩
  | succ d =>
    refine ⟨_, rfl, fun w hw => ?_⟩
    obtain ⟨e, he, hw⟩ := List.mem_flatMap.1 hw
    have h := hr _ (nd_mem ns a h0 h1) e he
    exact wl_plain ns hr d _ _ h.1.1 h.1.2 (cp_below h.2).2 w hw
theorem fold_same {α : Type} {f g : α → Int} : ∀ (l : List α) (s : Int), (∀ y ∈ l, f y = g y) → l.foldl (fun s y => mx s (f y)) s = l.foldl (fun s y => mx s (g y)) s
  | [], _, _ => rfl
  | y :: l, s, h => by
    rw [List.foldl_cons, List.foldl_cons, h y List.mem_cons_self]
    exact fold_same l _ (fun z hz => h z (List.mem_cons_of_mem _ hz))
theorem wl_deep (ns : List S53) (hr : ∀ v ∈ ns, ∀ e ∈ v.f6, (0 ≤ e.f1 ∧ e.f1 < (ns.length : Int)) ∧ nameB e.f0 = true) (d : Nat) (a : Int) (h0 : 0 ≤ a) (h1 : a < (ns.length : Int)) : (((wl ns d (⟨#[46]⟩ : ByteArray) a).map (fun w => w.f0)).drop 1).foldl (fun s w => mx s (1 + cnt w)) 0 = dp (adjOf (rowsOf ns)) d a := by
  obtain ⟨tl, e, ht⟩ := wl_cons ns hr d (⟨#[46]⟩ : ByteArray) a h0 h1
  have h := wl_fold ns hr d (⟨#[46]⟩ : ByteArray) a 0 h0 h1
  have hb := dp_bound (adj := adjOf (rowsOf ns)) d a
  have hc : cp (⟨#[46]⟩ : ByteArray) = 0 := if_pos (show (⟨#[46]⟩ : ByteArray).toList = [46] from toList_mk [46])
  have hm : mx 0 (dp (adjOf (rowsOf ns)) d a) = dp (adjOf (rowsOf ns)) d a := by rw [mx_def]; split <;> omega
  rw [hc, Int.zero_add, hm, e, List.foldl_cons] at h
  have h' : tl.foldl (fun s w => mx s (cp w.f0)) 0 = dp (adjOf (rowsOf ns)) d a := by
    have h2 : mx 0 (cp (⟨#[46]⟩ : ByteArray)) = 0 := by rw [hc]; rfl
    rw [← h]; show _ = tl.foldl _ (mx 0 (cp (⟨#[46]⟩ : ByteArray))); rw [h2]
  rw [← h', e, List.map_cons, List.drop_succ_cons, List.drop_zero, List.foldl_map]
  exact fold_same tl 0 (fun w hw => by unfold cp; rw [if_neg (ht w hw)])
theorem DeepOf.same (ns : List S53) (room a : Int) (hn' : ns.length ≤ 1048576) (hs : ∀ v ∈ ns, Small1 v) : ∃ v b, Ev (fun k => spec_DeepOf.f k ns room a) (v, b) ∧ Ev (fun k => impl_DeepOf.f k ns room a) (v, b) := by
  obtain ⟨r, hr, hi, e⟩ := good_both ns room hn' hs
  have no : Ev (fun k => impl_isGoodAt.f k ns room a) false → Ev (fun k => impl_DeepOf.f k ns room a) (0, false) := fun h2 => by
    have hw : Ev (fun k => impl_walked.f k ns room a false) ([], false) := ev_bind h2 (ev_neg (by simp) (Ev.now _))
    exact ev_bind (g := fun k => impl_WalkPre.f k ns room a) (ev_bind hw (ev_some rfl)) (ev_neg (by simp) (Ev.now _))
  cases r with
  | false =>
    have h2 := impl_isGoodAt_is ns room a hn' (q := false) hi e (fun h => by cases h)
    exact ⟨0, false, ev_bind (g := fun k => spec_l7Asked.f k ns room a) (ev_bind hr (ev_neg (by simp) (Ev.now false))) (ev_neg (by simp) (Ev.now _)), no h2⟩
  | true =>
    have hg := e.1 rfl
    have hn := hg.1.1.1
    obtain ⟨q, hq, eq⟩ := spec_l3Is_same (a := a) hn hn'
    obtain ⟨q', hq', eq'⟩ := impl_Fs_isThere.is ns room a hn hn'
    have e2 : q' = q := by rw [Bool.eq_iff_iff, eq, eq']
    subst e2
    have h2 := impl_isGoodAt_is ns room a hn' hi e (fun _ => hq')
    have h1 : spec_l3Is.f ns room a = some q' := hq
    have h3 : Ev (fun k => spec_l7Asked.f k ns room a) q' := ev_bind hr (ev_pos rfl (ev_bind0 h1 (Ev.now _)))
    cases q' with
    | false => exact ⟨0, false, ev_bind h3 (ev_neg (by simp) (Ev.now _)), no h2⟩
    | true =>
      have ha := eq.1 rfl
      obtain ⟨d, hd, hD, hL⟩ := deep_of hn' hs hg ha.1 ha.2.1
      have hri := rows_in hg
      have hrn : ∀ v ∈ ns, ∀ e ∈ v.f6, (0 ≤ e.f1 ∧ e.f1 < (ns.length : Int)) ∧ nameB e.f0 = true := fun v hv e he => ⟨hri v hv e he, names_in hg.2.1 v hv e he⟩
      have hr8 : ∀ v ∈ ns, ∀ e ∈ v.f6, (0 ≤ e.f1 ∧ e.f1 < (ns.length : Int)) ∧ e.f0.size ≤ 8 := fun v hv e he => ⟨hri v hv e he, nameB_size (hrn v hv e he).2⟩
      have h46 : (⟨#[46]⟩ : ByteArray).size = 1 := rfl
      have hW := walk_is ns room hs hr8 d (⟨#[46]⟩ : ByteArray) a (by omega) ha.1 ha.2.1 hD
      have hlen := wl_nodes ns d (⟨#[46]⟩ : ByteArray) a hri ha.1 ha.2.1
      have hsz := wl_size ns hr8 d (⟨#[46]⟩ : ByteArray) a ha.1 ha.2.1
      have hdeep := wl_deep ns hrn d a ha.1 ha.2.1
      obtain ⟨tl, etl, _⟩ := wl_cons ns hrn d (⟨#[46]⟩ : ByteArray) a ha.1 ha.2.1
      have h1l : 1 ≤ (wl ns d (⟨#[46]⟩ : ByteArray) a).length := by rw [etl]; exact Nat.le_add_left _ _
      generalize wl ns d (⟨#[46]⟩ : ByteArray) a = L at hW hlen hsz hdeep h1l
      have hways : Ev (fun k => impl_Fs_ways.f k ns room a false) L := ev_bind hW (ev_pos (by omega) (Ev.now _))
      have hwd := walked_loop L (by omega) L.length 0 [] (by omega) (by omega) (by omega) (by simp)
      rw [show (0 : Int).toNat = 0 from rfl, List.drop_zero, List.nil_append] at hwd
      have hwalked : Ev (fun k => impl_walked.f k ns room a false) (L.map (fun w => w.f0), true) := ev_bind h2 (ev_pos rfl (ev_bind hways hwd))
      have hcl := count_loop ((L.map (fun w => w.f0)).drop 1) (by rw [List.length_drop, List.length_map]; omega) (fun w hw => by
        obtain ⟨x, hx, rfl⟩ := List.mem_map.1 (List.mem_of_mem_drop hw)
        have := hsz x hx; omega) ((L.map (fun w => w.f0)).drop 1).length 0 0 (by omega) (by omega) (by omega)
      rw [show (0 : Int).toNat = 0 from rfl, List.drop_zero, hdeep] at hcl
      refine ⟨_, true, ev_bind h3 (ev_pos rfl (ev_bind (spec_l7Deep.is ns room hn' hs hri d a (by omega) ha.1 ha.2.1 hD) (Ev.now _))), ev_bind (g := fun k => impl_WalkPre.f k ns room a) (ev_bind hwalked (ev_some rfl)) (ev_pos rfl (ev_pos ?_ (ev_bind0 rfl hcl)))⟩
      show (1 : Int) ≤ ((L.map (fun w => w.f0)).length : Int)
      rw [List.length_map]; omega
end Go.Proofs.YteffcglgdfhkmaaDoor.PFs
namespace Go.Proofs.YteffcglgdfhkmaaDoor.Pure
open Go.RowKit Go.Proofs.YteffcglgdfhkmaaDoor.PFs Go.Proofs.YteffcglgdfhkmaaDoorW.PrintWords Go.Proofs.YteffcglgdfhkmaaDoor.Aid
theorem FnExactDeepOf : laws_FnExactDeepOf.Pure := by
  intro a n x ha hn hx
  refine Ev.rounds (r := true) ?_
  unfold laws_FnExactDeepOf.f
  obtain ⟨r, hr, e⟩ := laws_szFs.is a n ha.1 (fun x hx => ⟨(ha.2 x hx).2.2.2.2.2.1, (ha.2 x hx).2.2.2.2.2.2.1, fun y hy => ((ha.2 x hx).2.2.2.2.2.2.2 y hy).1⟩) 1048576 (by omega) (by omega)
  rcases e with e | ⟨e1, e2, e3, e4⟩
  · exact ev_bind hr (ev_pos e (Ev.now _))
  refine ev_bind hr (ev_neg (by omega) ?_)
  have ta := laws_toFs.is a n e3 e4
  have oa := nodC_ok e4
  have sa := small_of e4
  have la : (a.map nodC).length ≤ 1048576 := by rw [List.length_map]; omega
  generalize a.map nodC = A at ta oa sa la
  obtain ⟨v, b, hs, ht⟩ := DeepOf.same A n x la sa
  refine ev_bind ta (ev_bind hs (ev_bind ta (ev_bind ht (ev_pos rfl ?_))))
  show Ev (fun k => laws_FnExactDeepOf.j0 k (b != b) a n A n) true
  rw [bne_self_eq_false]
  exact Ev.step (fun k => by rw [laws_FnExactDeepOf.j0, if_neg (by decide)]) (ev_bind ta (ev_bind (laws_eqFs.same A n (by omega) oa) (ev_pos rfl (Ev.now _))))
end Go.Proofs.YteffcglgdfhkmaaDoor.Pure

