/- All that is gone through from a directory: each directory once, so that it isn't much. No condition. -/
import Derived.Test.YtmhjmicplaolmaaGreatDoorGood
namespace Go.Proofs.YtmhjmicplaolmaaGreatDoor.Graph
open Go.Proofs.YtmhjmicplaolmaaGreatDoor.Put
set_option linter.unusedSimpArgs false
set_option linter.unusedVariables false
def dfs (adj : Int → List Int) : Nat → Int → List Int
  | 0, a => [a]
  | d + 1, a => a :: (adj a).flatMap (dfs adj d)
theorem lM {adj : Int → List Int} : ∀ {d : Nat} {a : Int}, Deep adj d a → List.Perm (dfs adj d a) (a :: (dfs adj d a).flatMap adj)
  | 0, a, h => by
    have h' : adj a = [] := h
    simp [dfs, h']
  | d + 1, a, h => by
    have key : ∀ l : List Int, (∀ x ∈ l, Deep adj d x) → List.Perm (l.flatMap (dfs adj d)) (l ++ (l.flatMap (dfs adj d)).flatMap adj) := by
      intro l
      induction l with
      | nil => intro _; simp
      | cons x l ih =>
        intro hl
        have h1 := lM (hl x List.mem_cons_self)
        have h2 := ih (fun y hy => hl y (List.mem_cons_of_mem _ hy))
        simp only [List.flatMap_cons, List.flatMap_append]
        refine (h1.append h2).trans ?_
        simp only [List.cons_append]
        refine List.Perm.cons _ ?_
        rw [← List.append_assoc, ← List.append_assoc]
        exact List.Perm.append_right _ List.perm_append_comm
    show List.Perm (a :: (adj a).flatMap (dfs adj d)) (a :: (a :: (adj a).flatMap (dfs adj d)).flatMap adj)
    refine List.Perm.cons _ ?_
    rw [List.flatMap_cons]
    exact key (adj a) h
theorem oq {adj : Int → List Int} : ∀ {d : Nat} {a y : Int}, y ∈ dfs adj d a → Reach adj a y
  | 0, a, y, h => by
    simp only [dfs, List.mem_singleton] at h
    rw [h]; exact Reach.here
  | d + 1, a, y, h => by
    simp only [dfs, List.mem_cons, List.mem_flatMap] at h
    rcases h with rfl | ⟨x, hx, hy⟩
    · exact Reach.here
    · exact Reach.trans (Reach.next Reach.here hx) (oq hy)
theorem ql {adj : Int → List Int} {x p : Int} : ∀ {l : List Int}, (∀ d ∈ l, x ∈ adj d → d = p) → (l.flatMap adj).count x = l.count p * (adj p).count x
  | [], _ => by simp
  | d :: l, h => by
    rw [List.flatMap_cons, List.count_append, ql (fun e he => h e (List.mem_cons_of_mem _ he))]
    by_cases e : d = p
    · subst e
      rw [List.count_cons_self, Nat.add_mul, Nat.one_mul, Nat.add_comm]
    · rw [List.count_cons_of_ne e, List.count_eq_zero.2 (fun hx => e (h d List.mem_cons_self hx)), Nat.zero_add]
theorem uG {adj : Int → List Int} {dir : Int → Prop} {n : Int} (T : Tree adj dir n) {x p : Int} (hd : dir x) (h0 : 0 ≤ p) (h1 : p < n) : (adj p).count x ≤ 1 := by
  by_cases hx : x ∈ adj p
  · obtain ⟨a, b, e⟩ := List.append_of_mem hx
    have ha := T.once x hd p a b h0 h1 e
    by_cases hb : x ∈ b
    · obtain ⟨b1, b2, eb⟩ := List.append_of_mem hb
      have := T.once x hd p (a ++ x :: b1) b2 h0 h1 (by rw [e, eb]; simp)
      exact absurd (by simp) this
    · rw [e, List.count_append, List.count_cons_self, List.count_eq_zero.2 ha, List.count_eq_zero.2 hb]; exact Nat.le_refl _
  · rw [List.count_eq_zero.2 hx]; exact Nat.zero_le _
theorem xX {adj : Int → List Int} {dir : Int → Prop} {n : Int} (T : Tree adj dir n) (hn : 0 < n) {q : List Int} (h : iw adj dir n q q.length []) {d i : Nat} {a : Int} (hi : q[i]? = some a) (hD : Deep adj d a) (j : Nat) : ∀ x, q[j]? = some x → (dfs adj d a).count x ≤ 1 ∧ (j < i → (dfs adj d a).count x = 0) := by
  have hra : Reach adj 0 a := h.reach a (List.mem_of_getElem? hi)
  have hin : ∀ y ∈ dfs adj d a, 0 ≤ y ∧ y < n := fun y hy => (h.allIn T hn (Reach.trans hra (oq hy))).1
  have hidx : ∀ {i j : Nat} {x : Int}, q[i]? = some x → q[j]? = some x → i = j := fun {i j x} h1 h2 => by
    obtain ⟨l1, e1⟩ := List.getElem?_eq_some_iff.1 h1
    obtain ⟨l2, e2⟩ := List.getElem?_eq_some_iff.1 h2
    have hnd := List.pairwise_iff_getElem.1 h.nodup
    rcases Nat.lt_trichotomy i j with hl | he | hl
    · exact absurd (e1.trans e2.symm) (hnd i j l1 l2 hl)
    · exact he
    · exact absurd (e2.trans e1.symm) (hnd j i l2 l1 hl)
  induction j using Nat.strongRecOn with
  | _ j ih =>
  intro x hx
  have hp := (lM hD).count_eq x
  have hxb := h.bound x (List.mem_of_getElem? hx)
  have hflat : ((dfs adj d a).flatMap adj).count x ≤ 1 ∧ ((j < i ∨ x = a) → ((dfs adj d a).flatMap adj).count x = 0) := by
    by_cases h0 : x = 0
    · have hz : ((dfs adj d a).flatMap adj).count x = 0 := List.count_eq_zero.2 (fun hm => by
        obtain ⟨y, hy, hxy⟩ := List.mem_flatMap.1 hm
        exact T.zero y (hin y hy).1 (hin y hy).2 (h0 ▸ hxy))
      exact ⟨by omega, fun _ => hz⟩
    · obtain ⟨i', p, hlt, hp', hxp⟩ := h.order j x hx h0
      have hpb := h.bound p (List.mem_of_getElem? hp')
      have hone := ih i' hlt p hp'
      have hc := ql (adj := adj) (x := x) (p := p) (l := dfs adj d a) (fun y hy hxy => T.one x hxb.2.2 y p (hin y hy).1 (hin y hy).2 hpb.1 hpb.2.1 hxy hxp)
      have h1 := uG T hxb.2.2 hpb.1 hpb.2.1 (p := p)
      rw [hc]
      refine ⟨Nat.le_trans (Nat.mul_le_mul hone.1 h1) (by omega), fun hji => ?_⟩
      have : i' < i := by
        rcases hji with hji | e
        · omega
        · subst e; have := hidx hi hx; omega
      rw [hone.2 this, Nat.zero_mul]
  rw [List.count_cons] at hp
  constructor
  · by_cases e : x = a
    · rw [hp, hflat.2 (.inr e)]; split <;> omega
    · rw [hp, if_neg (by simpa using fun h' => e h'.symm)]; omega
  · intro hji
    have e : x ≠ a := fun e => by subst e; have := hidx hi hx; omega
    rw [hp, hflat.2 (.inl hji), if_neg (by simpa using fun h' => e h'.symm)]
theorem vJ {adj : Int → List Int} {m : Nat} : ∀ {l : List Int}, (∀ d ∈ l, (adj d).length ≤ m) → (l.flatMap adj).length ≤ (l.filter fun d => !(adj d).isEmpty).length * m
  | [], _ => by simp
  | d :: l, h => by
    have ih := vJ (fun e he => h e (List.mem_cons_of_mem _ he))
    have hd := h d List.mem_cons_self
    rw [List.flatMap_cons, List.length_append, List.filter_cons]
    by_cases e : adj d = []
    · rw [e]; simpa using ih
    · rw [if_pos (by simpa using e), List.length_cons, Nat.add_mul]; omega
theorem zf {adj : Int → List Int} {dir : Int → Prop} {n : Int} (T : Tree adj dir n) (hn : 0 < n) {q : List Int} (h : iw adj dir n q q.length []) {d i : Nat} {a : Int} (hi : q[i]? = some a) (hD : Deep adj d a) {m : Nat} (hm : ∀ x, 0 ≤ x → x < n → (adj x).length ≤ m) : ((dfs adj d a).length : Int) ≤ 1 + n * m := by
  have hra : Reach adj 0 a := h.reach a (List.mem_of_getElem? hi)
  have hin := fun y (hy : y ∈ dfs adj d a) => h.allIn T hn (Reach.trans hra (oq hy))
  have hl := (lM hD).length_eq
  have hf := vJ (adj := adj) (m := m) (l := dfs adj d a) (fun x hx => hm x (hin x hx).1.1 (hin x hx).1.2)
  have hnd : ((dfs adj d a).filter fun d => !(adj d).isEmpty).Nodup := by
    rw [List.nodup_iff_count]
    intro x
    by_cases hx : x ∈ (dfs adj d a).filter fun d => !(adj d).isEmpty
    · have hx' := List.mem_filter.1 hx
      have hxi := hin x hx'.1
      have hne : adj x ≠ [] := by simpa using hx'.2
      obtain ⟨y, hy⟩ := List.exists_mem_of_ne_nil _ hne
      have hdx := T.only x hxi.1.1 hxi.1.2 y hy
      obtain ⟨j, hj, ej⟩ := List.mem_iff_getElem.1 (hxi.2 hdx)
      have := (xX T hn h hi hD j x (by rw [List.getElem?_eq_getElem hj, ej])).1
      exact Nat.le_trans (List.Sublist.count_le x List.filter_sublist) this
    · rw [List.count_eq_zero.2 hx]; exact Nat.zero_le _
  have hk := qM hnd (fun x hx => (hin x (List.mem_filter.1 hx).1).1) (by omega)
  rw [List.length_cons] at hl
  have : ((((dfs adj d a).filter fun d => !(adj d).isEmpty).length * m : Nat) : Int) ≤ n * m := by
    rw [Int.natCast_mul]; exact Int.mul_le_mul_of_nonneg_right hk (by omega)
  omega
end Go.Proofs.YtmhjmicplaolmaaGreatDoor.Graph
namespace Go.Proofs.YtmhjmicplaolmaaGreatDoor.PRm
open Go.RowKit Go.Proofs.YtmhjmicplaolmaaGreatDoorW.PrintWords Go.Proofs.YtmhjmicplaolmaaGreatDoorW.PrintLast Go.Proofs.YtmhjmicplaolmaaGreatDoorW.PrintMore Go.Proofs.YtmhjmicplaolmaaGreatDoor.Aid Go.Proofs.YtmhjmicplaolmaaGreatDoor.AllLoop Go.Proofs.YtmhjmicplaolmaaGreatDoor.Loops Go.Proofs.YtmhjmicplaolmaaGreatDoor.Put Go.Proofs.YtmhjmicplaolmaaGreatDoor.Graph
set_option linter.unusedSimpArgs false
set_option linter.unusedVariables false
theorem oo (ns : List S62) (room a : Int) (hn' : ns.length ≤ 1048576) {r : Bool} (hi : Ev (fun k => ae.f k ns room) r) (e : r = true ↔ eH ns room) {q : Bool} (hq : r = true → bE.f ns room a = some q) : Ev (fun k => gY.f k ns room a) (r && q) := by
  unfold gY.f
  cases r with
  | true => exact aj hi (af rfl (aD (hq rfl) (Ev.now _)))
  | false => exact aj hi (aH (by simp) (Ev.now _))
theorem jY {s : ByteArray} (h : gM s = true) : s.size ≤ 8 := by
  unfold gM kH at h
  rw [Bool.and_eq_true, Bool.and_eq_true, decide_eq_true_iff] at h
  exact h.1.1.2
theorem qc {ns : List S62} {lo : Int} (h1 : oW lo ns) : ∀ v ∈ ns, ∀ e ∈ v.f6, gM e.f0 = true := fun v hv e he => by
  obtain ⟨i, hi, ei⟩ := List.mem_iff_getElem.1 he
  have hg := kR h1 v hv
  by_cases h0 : v.f0 = 0
  · have := (hg.1 h0).2.2.2.2.2; omega
  · rcases (hg.2 h0).2.2.2.2 with h' | h' | h'
    · omega
    · have := (h'.2.2 i (by omega) (by omega)).1
      have e' : r87 v.f6 (i : Int) = e := by
        show v.f6.getD (i : Int).toNat z87 = e
        rw [List.getD_eq_getElem?_getD, show (i : Int).toNat = i by omega, List.getElem?_eq_getElem hi]; exact ei
      rw [e'] at this; exact this
    · omega
theorem rO {ns : List S62} {room : Int} (hn' : ns.length ≤ 1048576) (hs : ∀ v ∈ ns, eG v) (hg : eH ns room) {a : Int} (h0 : 0 ≤ a) (h1 : a < (ns.length : Int)) : ∃ d, d ≤ 40 ∧ Deep (bX (rowsOf ns)) d a ∧ (dfs (bX (rowsOf ns)) d a).length ≤ 41943041 := by
  have hgi := (qI ns room hn' hs).1 hg
  have h40 := hgi.1.1
  by_cases hd : (r62 ns a).f0 = 2
  · have hz := (hgi.2.2.1 0 (by omega) (by omega) (by rw [hgi.1.2.2.2]; omega)).1 rfl
    have T := rf ns hgi.2.1 hz (fun x h0 hx hdx => by
      have : (r62 ns x).f0 = 2 := hdx
      rw [((hgi.2.2.1 x (by omega) hx (by omega)).2 h0).2 hdx]; exact Nat.le_refl _)
    obtain ⟨qq, hqq, _⟩ := pY ns room h40.1 hn' hs hgi.1.2.2.2 T
    have hm := hgi.2.2.2 qq hqq a h0 h1 hd
    obtain ⟨i, hi', ei⟩ := List.mem_iff_getElem.1 hm
    have hql := hqq.len (by omega)
    have ha := (List.getElem?_eq_getElem hi').trans (congrArg some ei)
    have hD := hqq.deep T (qq.length - i) i a ha rfl
    refine ⟨_, by omega, hD, ?_⟩
    have := zf T (by omega) hqq ha hD (m := 1048576) (fun x hx0 hx1 => by rw [gz ns x hx0 hx1, iY]; exact (hs _ (il ns x hx0 hx1)).2.1)
    omega
  · have he : bX (rowsOf ns) a = [] := by
      rw [gz ns a h0 h1]
      exact List.eq_nil_iff_forall_not_mem.2 (fun x hx => hd (good_row (hgi.2.1 a h0 h1) x hx).1)
    exact ⟨0, by omega, he, by simp [dfs]⟩
def dL (p nm : ByteArray) : ByteArray := if p.toList = [46] then nm else (p ++ (⟨#[47]⟩ : ByteArray)) ++ nm
def wk (b : Bool) (x : S91) (mid : List S91) : List S91 := if b = true then mid ++ [x] else x :: mid
def wl (ns : List S62) (b : Bool) : Nat → ByteArray → Int → List S91
  | 0, p, a => [⟨p, a⟩]
  | d + 1, p, a => wk b ⟨p, a⟩ ((r62 ns a).f6.flatMap fun e => wl ns b d (dL p e.f0) e.f1)
theorem wY (b : Bool) (x : S91) (mid : List S91) : (wk b x mid).length = mid.length + 1 := by cases b <;> simp [wk]
theorem yf {p nm : ByteArray} (h1 : p.size ≤ 1000000000000) (h2 : nm.size ≤ 8) : jI.f p nm = some (dL p nm) := by
  unfold jI.f dL
  by_cases h : p.toList = [46]
  · rw [if_pos h, if_pos h]
  · rw [if_neg h, if_neg h, if_pos (by omega), if_pos (by omega)]
theorem lN {p nm : ByteArray} (h2 : nm.size ≤ 8) : (dL p nm).size ≤ p.size + 9 := by
  unfold dL
  by_cases h : p.toList = [46]
  · rw [if_pos h]; omega
  · rw [if_neg h, size_eq, toList_append, toList_append, List.length_append, List.length_append, show (⟨#[47]⟩ : ByteArray).toList = [47] from toList_mk [47], ← size_eq, ← size_eq, List.length_singleton]; omega
theorem vV (ns : List S62) (room : Int) (b : Bool) (p : ByteArray) (dd : Nat) (l : List S87) (hl : l.length ≤ 1048576) (hp : p.size ≤ 1000000000000) (hnm : ∀ e ∈ l, e.f0.size ≤ 8) (ih : ∀ e ∈ l, Ev (fun k => dS.f k ns room (dL p e.f0) e.f1 b) (wl ns b dd (dL p e.f0) e.f1)) (d : Nat) : ∀ j : Int, 0 ≤ j → j ≤ l.length → (l.length : Int) - j = d →
    Ev (fun k => dS.l0 k ns room p b l j) ((l.drop j.toNat).flatMap fun e => wl ns b dd (dL p e.f0) e.f1) := by
  induction d with
  | zero =>
    intro j h0 hj hd
    rw [List.drop_eq_nil_iff.mpr (by omega), List.flatMap_nil]
    exact Ev.step (fun k => by rw [dS.l0, if_neg (by omega)]) (Ev.now _)
  | succ d ihd =>
    intro j h0 hj hd
    have hlt : j < (l.length : Int) := by omega
    have hm : r87 l j ∈ l := je l z87 j h0 hlt
    rw [ic l z87 j h0 hlt, List.flatMap_cons]
    refine Ev.step (fun k => by rw [dS.l0, if_pos hlt, if_pos h0, bg (x := j + 1) (by omega) (by omega)]) ?_
    exact aD (yf hp (hnm _ hm)) (aj (ih _ hm) (aj (ihd (j + 1) (by omega) (by omega) (by omega)) (dE rfl)))
theorem vB (ns : List S62) (room : Int) (b : Bool) (hs : ∀ v ∈ ns, eG v) (hr : ∀ v ∈ ns, ∀ e ∈ v.f6, (0 ≤ e.f1 ∧ e.f1 < (ns.length : Int)) ∧ e.f0.size ≤ 8) : ∀ (d : Nat) (p : ByteArray) (a : Int), p.size + 9 * d ≤ 1000000000 → 0 ≤ a → a < (ns.length : Int) → Deep (bX (rowsOf ns)) d a → Ev (fun k => dS.f k ns room p a b) (wl ns b d p a)
  | 0, p, a, _, h0, h1, h => by
    have he : row (r62 ns a).f6 = [] := by rw [← gz ns a h0 h1]; exact h
    have hz : (r62 ns a).f6.length = 0 := by rw [← iY, he]; rfl
    refine Ev.step (fun k => by rw [dS.f, if_pos h0, if_pos h1]) ?_
    exact aj (Ev.step (fun k => by rw [dS.l0, if_neg (by omega)]) (Ev.now ([] : List S91))) (dE (by cases b <;> rfl))
  | d + 1, p, a, hp, h0, h1, h => by
    have hm := il ns a h0 h1
    have := vV ns room b p d (r62 ns a).f6 (hs _ hm).2.1 (by omega) (fun e he => (hr _ hm e he).2) (fun e he => vB ns room b hs hr d (dL p e.f0) e.f1 (by have := lN (p := p) (hr _ hm e he).2; omega) (hr _ hm e he).1.1 (hr _ hm e he).1.2 (h e.f1 (by rw [gz ns a h0 h1]; exact List.mem_map.2 ⟨e, he, rfl⟩))) (r62 ns a).f6.length 0 (by omega) (by omega) (by omega)
    rw [show (0 : Int).toNat = 0 from rfl, List.drop_zero] at this
    refine Ev.step (fun k => by rw [dS.f, if_pos h0, if_pos h1]) ?_
    exact aj this (dE rfl)
theorem q9 (ns : List S62) (b : Bool) : ∀ (d : Nat) (p : ByteArray) (a : Int), (∀ v ∈ ns, ∀ e ∈ v.f6, 0 ≤ e.f1 ∧ e.f1 < (ns.length : Int)) → 0 ≤ a → a < (ns.length : Int) → (wl ns b d p a).length = (dfs (bX (rowsOf ns)) d a).length
  | 0, p, a, _, _, _ => rfl
  | d + 1, p, a, hr, h0, h1 => by
    rw [wl, dfs, wY, List.length_cons, gz ns a h0 h1, List.length_flatMap, List.length_flatMap]
    unfold row
    rw [List.map_map]
    congr 2
    refine List.map_congr_left (fun e he => ?_)
    have h := hr _ (il ns a h0 h1) e he
    exact q9 ns b d _ _ hr h.1 h.2
theorem yZ (ns : List S62) (room : Int) (b : Bool) (p : ByteArray) (dd : Nat) (l : List S87) (hl : l.length ≤ 1048576) (hp : p.size ≤ 1000000000000) (hnm : ∀ e ∈ l, e.f0.size ≤ 8) (ih : ∀ e ∈ l, Ev (fun k => bL.f k ns room e.f1 (dL p e.f0) b) ((wl ns b dd (dL p e.f0) e.f1).map (·.f0))) (d : Nat) : ∀ (j : Int) (acc : List ByteArray), 0 ≤ j → j ≤ l.length → (l.length : Int) - j = d → acc.length + ((l.drop j.toNat).flatMap fun e => wl ns b dd (dL p e.f0) e.f1).length ≤ 1000000000 →
    Ev (fun k => bL.l0 k p b acc l (l.length : Int) j ns room) (if b = true then (acc ++ ((l.drop j.toNat).flatMap fun e => wl ns b dd (dL p e.f0) e.f1).map (·.f0)) ++ [p] else p :: (acc ++ ((l.drop j.toNat).flatMap fun e => wl ns b dd (dL p e.f0) e.f1).map (·.f0))) := by
  induction d with
  | zero =>
    intro j acc h0 hj hd hb
    rw [List.drop_eq_nil_iff.mpr (by omega)] at hb ⊢
    rw [List.flatMap_nil] at hb ⊢
    rw [List.map_nil, List.append_nil]
    rw [List.length_nil] at hb
    refine Ev.step (fun k => by rw [bL.l0, if_neg (by omega)]) ?_
    cases b with
    | true => exact af rfl (af (by omega) (Ev.now _))
    | false => exact aH (by simp) (aD rfl (af (by rw [List.length_singleton]; omega) (Ev.now _)))
  | succ d ihd =>
    intro j acc h0 hj hd hb
    have hlt : j < (l.length : Int) := by omega
    have hm : r87 l j ∈ l := je l z87 j h0 hlt
    rw [ic l z87 j h0 hlt, List.flatMap_cons] at hb ⊢
    rw [List.length_append] at hb
    have hc := ih _ hm
    have hz := hnm _ hm
    have hb2 : acc.length + ((wl ns b dd (dL p (r87 l j).f0) (r87 l j).f1).length + ((l.drop (j + 1).toNat).flatMap fun e => wl ns b dd (dL p e.f0) e.f1).length) ≤ 1000000000 := hb
    have key := ihd (j + 1) (acc ++ (wl ns b dd (dL p (r87 l j).f0) (r87 l j).f1).map (·.f0)) (by omega) (by omega) (by omega) (by rw [List.length_append, List.length_map]; omega)
    have hlen : acc.length + ((wl ns b dd (dL p (r87 l j).f0) (r87 l j).f1).map (·.f0)).length < 8796093022208 := by rw [List.length_map]; omega
    refine Ev.step (fun k => by rw [bL.l0, if_pos hlt, if_pos h0, if_pos hlt, bg (x := j + 1) (by omega) (by omega)]) ?_
    have fin : Ev (fun k => bL.l0 k p b (acc ++ (wl ns b dd (dL p (r87 l j).f0) (r87 l j).f1).map (·.f0)) l (l.length : Int) (j + 1) ns room) (if b = true then (acc ++ (wl ns b dd (dL p (l.getD j.toNat z87).f0) (l.getD j.toNat z87).f1 ++ (l.drop (j + 1).toNat).flatMap fun e => wl ns b dd (dL p e.f0) e.f1).map (·.f0)) ++ [p] else p :: (acc ++ (wl ns b dd (dL p (l.getD j.toNat z87).f0) (l.getD j.toNat z87).f1 ++ (l.drop (j + 1).toNat).flatMap fun e => wl ns b dd (dL p e.f0) e.f1).map (·.f0))) := by
      refine jC key ?_
      rw [List.map_append, ← List.append_assoc acc]; rfl
    by_cases h : p.toList = [46]
    · refine af h ?_
      have e1 : dL p (r87 l j).f0 = (r87 l j).f0 := if_pos h
      rw [e1] at hc hlen fin
      exact aj hc (af hlen fin)
    · refine aH h (af (by omega) (af (by omega) ?_))
      have e1 : dL p (r87 l j).f0 = (p ++ (⟨#[47]⟩ : ByteArray)) ++ (r87 l j).f0 := if_neg h
      rw [e1] at hc hlen fin
      exact aj hc (af hlen fin)
theorem xK (ns : List S62) (room : Int) (b : Bool) (hs : ∀ v ∈ ns, eG v) (hr : ∀ v ∈ ns, ∀ e ∈ v.f6, (0 ≤ e.f1 ∧ e.f1 < (ns.length : Int)) ∧ e.f0.size ≤ 8) : ∀ (d : Nat) (p : ByteArray) (a : Int), p.size + 9 * d ≤ 1000000000 → 0 ≤ a → a < (ns.length : Int) → Deep (bX (rowsOf ns)) d a → (dfs (bX (rowsOf ns)) d a).length ≤ 1000000000 → Ev (fun k => bL.f k ns room a p b) ((wl ns b d p a).map (·.f0))
  | 0, p, a, _, h0, h1, h, _ => by
    have he : row (r62 ns a).f6 = [] := by rw [← gz ns a h0 h1]; exact h
    have hz : (r62 ns a).f6.length = 0 := by rw [← iY, he]; rfl
    refine Ev.step (fun k => by rw [bL.f, if_pos h0, if_pos h1]) ?_
    refine Ev.step (fun k => by rw [bL.l0, if_neg (by omega)]) ?_
    cases b with
    | true => exact af rfl (af (by decide) (Ev.now _))
    | false => exact aH (by simp) (aD rfl (af (by show 1 + 0 < _; omega) (Ev.now _)))
  | d + 1, p, a, hp, h0, h1, h, hL => by
    have hm := il ns a h0 h1
    have hlen := q9 ns b (d + 1) p a (fun v hv e he => (hr v hv e he).1) h0 h1
    rw [wl, wY] at hlen
    have hkid : ∀ e ∈ (r62 ns a).f6, (dfs (bX (rowsOf ns)) d e.f1).length ≤ 1000000000 := fun e he => by
      have h1' : (dfs (bX (rowsOf ns)) d e.f1).length ≤ ((bX (rowsOf ns) a).flatMap (dfs (bX (rowsOf ns)) d)).length := by
        have hmem : e.f1 ∈ bX (rowsOf ns) a := by rw [gz ns a h0 h1]; exact List.mem_map.2 ⟨e, he, rfl⟩
        obtain ⟨u, v, e2⟩ := List.append_of_mem hmem
        rw [e2, List.flatMap_append, List.flatMap_cons, List.length_append, List.length_append]; omega
      rw [dfs, List.length_cons] at hL
      omega
    have := yZ ns room b p d (r62 ns a).f6 (hs _ hm).2.1 (by omega) (fun e he => (hr _ hm e he).2) (fun e he => xK ns room b hs hr d (dL p e.f0) e.f1 (by have := lN (p := p) (hr _ hm e he).2; omega) (hr _ hm e he).1.1 (hr _ hm e he).1.2 (h e.f1 (by rw [gz ns a h0 h1]; exact List.mem_map.2 ⟨e, he, rfl⟩)) (hkid e he)) (r62 ns a).f6.length 0 [] (by omega) (by omega) (by omega) (by rw [show (0 : Int).toNat = 0 from rfl, List.drop_zero, List.length_nil]; omega)
    rw [show (0 : Int).toNat = 0 from rfl, List.drop_zero, List.nil_append] at this
    refine Ev.step (fun k => by rw [bL.f, if_pos h0, if_pos h1]) ?_
    refine jC this ?_
    rw [wl]
    cases b <;> simp [wk]
theorem sw (l : List S91) (hl : l.length ≤ 1000000000) (d : Nat) : ∀ (j : Int) (acc : List ByteArray), 0 ≤ j → j ≤ l.length → (l.length : Int) - j = d → (acc.length : Int) ≤ j → Ev (fun k => dZ.l0 k acc l (l.length : Int) j) (acc ++ (l.drop j.toNat).map (fun w => w.f0), true) := by
  induction d with
  | zero =>
    intro j acc h0 hj hd ha
    rw [List.drop_eq_nil_iff.mpr (by omega)]
    exact Ev.step (fun k => by rw [dZ.l0, if_neg (by omega)]) (dE (by simp))
  | succ d ih =>
    intro j acc h0 hj hd ha
    have hlt : j < (l.length : Int) := by omega
    rw [ic l z91 j h0 hlt]
    refine Ev.step (fun k => by rw [dZ.l0, if_pos hlt, if_pos h0, if_pos hlt, if_pos (by omega), bg (x := j + 1) (by omega) (by omega)]) ?_
    refine jC (ih (j + 1) _ (by omega) (by omega) (by omega) (by rw [List.length_append]; simp; omega)) ?_
    rw [List.map_cons, List.append_assoc]; rfl
end Go.Proofs.YtmhjmicplaolmaaGreatDoor.PRm
