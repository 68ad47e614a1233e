/- The node of a way, by its names: what the reference looks up is the way's own node. No condition. -/
import Derived.Test.YteffcglgdfhkmaaDoorWalks
import Derived.Test.YteffcglgdfhkmaaDoorPWkx23
namespace Go.Proofs.YteffcglgdfhkmaaDoor.PWk
open Go.RowKit Go.Proofs.YteffcglgdfhkmaaDoorW.PrintWords Go.Proofs.YteffcglgdfhkmaaDoorW.PrintLast Go.Proofs.YteffcglgdfhkmaaDoorW.PrintMore Go.Proofs.YteffcglgdfhkmaaDoor.Aid Go.Proofs.YteffcglgdfhkmaaDoor.AllLoop Go.Proofs.YteffcglgdfhkmaaDoor.Loops Go.Proofs.YteffcglgdfhkmaaDoor.Put Go.Proofs.YteffcglgdfhkmaaDoor.Graph
set_option linter.unusedSimpArgs false
set_option linter.unusedVariables false
theorem bl_irr : ∀ l : List UInt8, Op.bytesLess l l = false
  | [] => rfl
  | a :: l => by rw [Op.bytesLess, bl_irr l]; simp
theorem bl_trans : ∀ {a b c : List UInt8}, Op.bytesLess a b = true → Op.bytesLess b c = true → Op.bytesLess a c = true
  | _, _, [], _, h => by simp [Op.bytesLess] at h
  | [], _, _ :: _, _, _ => rfl
  | _ :: _, [], _ :: _, h, _ => by simp [Op.bytesLess] at h
  | x :: a, y :: b, z :: c, h, k => by
    simp only [Op.bytesLess, Bool.or_eq_true, Bool.and_eq_true, decide_eq_true_eq, beq_iff_eq] at h k ⊢
    rcases h with h | ⟨h1, h2⟩
    · rcases k with k | ⟨k1, k2⟩
      · exact .inl (UInt8.lt_trans h k)
      · exact .inl (k1 ▸ h)
    · rcases k with k | ⟨k1, k2⟩
      · exact .inl (h1 ▸ k)
      · exact .inr ⟨h1.trans k1, bl_trans h2 k2⟩
/-- Names of one directory: each once. -/
theorem less_far {l : List S60} (h : ∀ i : Int, 0 < i → i < (l.length : Int) → Less l i = true) : ∀ (d i : Nat), i + d + 1 < l.length → Op.bytesLess (rd_T60 l (i : Int)).f0.toList (rd_T60 l ((i + d + 1 : Nat) : Int)).f0.toList = true
  | 0, i, hl => by
    have := h ((i + 0 + 1 : Nat) : Int) (by omega) (by omega)
    unfold Less at this
    rwa [show ((i + 0 + 1 : Nat) : Int) - 1 = (i : Int) by omega] at this
  | d + 1, i, hl => by
    have h1 := less_far h d i (by omega)
    have := h ((i + (d + 1) + 1 : Nat) : Int) (by omega) (by omega)
    unfold Less at this
    rw [show ((i + (d + 1) + 1 : Nat) : Int) - 1 = ((i + d + 1 : Nat) : Int) by omega] at this
    exact bl_trans h1 this
def Rises (l : List S60) : Prop := ∀ i j : Nat, i < j → j < l.length → (rd_T60 l (i : Int)).f0.toList ≠ (rd_T60 l (j : Int)).f0.toList
theorem rises_of {l : List S60} (h : ∀ i : Int, 0 < i → i < (l.length : Int) → Less l i = true) : Rises l := fun i j hij hj e => by
  have := less_far h (j - i - 1) i (by omega)
  rw [show i + (j - i - 1) + 1 = j by omega, e, bl_irr] at this
  cases this
theorem rises_in {ns : List S53} {lo : Int} (h1 : All1 lo ns) : ∀ v ∈ ns, Rises v.f6 := fun v hv => by
  have hg := all_mem h1 v hv
  by_cases h0 : v.f0 = 0
  · have := (hg.1 h0).2.2.2.2.2; exact fun i j hij hj => absurd hj (by omega)
  · rcases (hg.2 h0).2.2.2.2 with h' | h' | h'
    · exact fun i j hij hj => absurd hj (by omega)
    · exact rises_of (fun i hi hl => (h'.2.2 i (by omega) hl).2.1 hi)
    · exact fun i j hij hj => absurd hj (by omega)
theorem spec_l3At.loop (l : List S60) (hl : l.length ≤ 1048576) (hu : Rises l) (n : Nat) (hn : n < l.length) (d : Nat) : ∀ i : Int, 0 ≤ i → i ≤ n → (n : Int) - i = d → Ev (fun k => spec_l3At.l0 k (rd_T60 l (n : Int)).f0 l (l.length : Int) i) (rd_T60 l (n : Int)).f1 := by
  induction d with
  | zero =>
    intro i h0 hi hd
    obtain rfl : i = (n : Int) := by omega
    exact Ev.step (fun k => by rw [spec_l3At.l0, if_pos (by omega), if_pos h0, if_pos (by omega), if_pos rfl]) (Ev.now _)
  | succ d ih =>
    intro i h0 hi hd
    have hne := hu i.toNat n (by omega) hn
    rw [show ((i.toNat : Nat) : Int) = i by omega] at hne
    refine Ev.step (fun k => by rw [spec_l3At.l0, if_pos (by omega), if_pos h0, if_pos (by omega), if_neg hne, wrap_id (x := i + 1) (by omega) (by omega)]) ?_
    exact ih (i + 1) (by omega) (by omega) (by omega)
theorem spec_l3At.is (l : List S60) (hl : l.length ≤ 1048576) (hu : Rises l) {e : S60} (he : e ∈ l) : Ev (fun k => spec_l3At.f k l e.f0) e.f1 := by
  obtain ⟨n, hn, en⟩ := List.mem_iff_getElem.1 he
  have e' : rd_T60 l (n : Int) = e := by
    show l.getD (n : Int).toNat z60 = e
    rw [List.getD_eq_getElem?_getD, show (n : Int).toNat = n by omega, List.getElem?_eq_getElem hn]; exact en
  have := spec_l3At.loop l hl hu n hn n 0 (by omega) (by omega) (by omega)
  rw [e'] at this
  exact this
/- names -/
theorem segs_apps : ∀ (a b : List UInt8), segs (a ++ 47 :: b) = segs a ++ segs b
  | [], b => by rw [List.nil_append, segs_slash]; rfl
  | c :: a, b => by
    by_cases hc : c = 47
    · subst hc; rw [List.cons_append, segs_slash, segs_slash, segs_apps a b]; rfl
    · obtain ⟨x, t, h1, h2⟩ := segs_cons c a hc
      obtain ⟨x', t', h3, h4⟩ := segs_cons c (a ++ 47 :: b) hc
      rw [segs_apps a b, h1, List.cons_append, List.cons.injEq] at h3
      rw [List.cons_append, h4, h2, ← h3.1, ← h3.2]; rfl
def names (s : ByteArray) : List ByteArray := (parts s).filter fun p => decide (p.toList ≠ [46])
theorem names_one {nm : ByteArray} (h : nameB nm = true) : names nm = [nm] ∧ nm.toList ≠ [46] := by
  unfold nameB partB dotsB at h
  rw [Bool.and_eq_true, Bool.and_eq_true, decide_eq_true_iff] at h
  obtain ⟨⟨h1, h2⟩, h3⟩ := h
  have hn : 47 ∉ nm.toList := fun hm => by
    rw [bytesOf_eq, nb_all, List.all_eq_true] at h2
    have := h2 47 hm
    revert this; decide
  have hne : nm.toList ≠ [46] := fun e => by rw [e] at h3; revert h3; decide
  have hz : nm.toList ≠ [] := fun e => by rw [size_eq, e] at h1; simp at h1
  refine ⟨?_, hne⟩
  unfold names parts pieces
  rw [segs_none _ hn, List.map_cons, List.map_nil, mk_toList, List.filter_cons, if_pos (by simpa using hz), List.filter_nil, List.filter_cons, if_pos (by simpa using hne), List.filter_nil]
theorem names_dot : names (⟨#[46]⟩ : ByteArray) = [] := by
  unfold names parts pieces
  rw [show (⟨#[46]⟩ : ByteArray).toList = [46] from toList_mk [46], segs_none [46] (by decide)]
  simp [toList_mk]
theorem names_below {p nm : ByteArray} (h : nameB nm = true) : names (belowT p nm) = names p ++ [nm] := by
  obtain ⟨h1, _⟩ := names_one h
  unfold belowT
  by_cases hp : p.toList = [46]
  · rw [if_pos hp, h1, show p = (⟨#[46]⟩ : ByteArray) from eq_of_toList (by rw [hp]; exact (toList_mk [46]).symm), names_dot]; rfl
  · rw [if_neg hp]
    have e : ((p ++ (⟨#[47]⟩ : ByteArray)) ++ nm).toList = p.toList ++ 47 :: nm.toList := by rw [toList_append, toList_append, show (⟨#[47]⟩ : ByteArray).toList = [47] from toList_mk [47]]; simp
    have e2 : pieces ((p ++ (⟨#[47]⟩ : ByteArray)) ++ nm) = pieces p ++ pieces nm := by unfold pieces; rw [e, segs_apps, List.map_append]
    rw [← h1]
    unfold names parts
    rw [e2, List.filter_append, List.filter_append]
/-- A way down, by names. -/
def Chain (ns : List S53) : Int → List ByteArray → Int → Prop
  | a, [], x => a = x
  | a, q :: qs, x => 0 ≤ a ∧ a < (ns.length : Int) ∧ ∃ e ∈ (rd_T53 ns a).f6, e.f0 = q ∧ Chain ns e.f1 qs x
theorem wl_chain (ns : List S53) (b : Bool) (hr : ∀ v ∈ ns, ∀ e ∈ v.f6, (0 ≤ e.f1 ∧ e.f1 < (ns.length : Int)) ∧ nameB e.f0 = true) : ∀ (d : Nat) (p : ByteArray) (a : Int), 0 ≤ a → a < (ns.length : Int) → ∀ w ∈ wl ns b d p a, ∃ qs, names w.f0 = names p ++ qs ∧ Chain ns a qs w.f1
  | 0, p, a, _, _, w, hw => by
    rw [wl, List.mem_singleton] at hw; rw [hw]; exact ⟨[], by simp, rfl⟩
  | d + 1, p, a, h0, h1, w, hw => by
    rw [wl, wk_mem, List.mem_flatMap] at hw
    rcases hw with rfl | ⟨e, he, hw⟩
    · exact ⟨[], by simp, rfl⟩
    · have h := hr _ (nd_mem ns a h0 h1) e he
      obtain ⟨qs, e1, e2⟩ := wl_chain ns b hr d _ _ h.1.1 h.1.2 w hw
      exact ⟨e.f0 :: qs, by rw [e1, names_below h.2, List.append_assoc]; rfl, h0, h1, e, he, rfl, e2⟩
theorem spec_l7At.loop (ns : List S53) (room : Int) (hs : ∀ v ∈ ns, v.f6.length ≤ 1048576) (hu : ∀ v ∈ ns, Rises v.f6) (l : List ByteArray) (hl : l.length ≤ 1000000) (y : Int) (d : Nat) : ∀ (j x : Int), 0 ≤ j → j ≤ l.length → (l.length : Int) - j = d → Chain ns x ((l.drop j.toNat).filter fun p => decide (p.toList ≠ [46])) y → Ev (fun k => spec_l7At.l0 k x l (l.length : Int) j ns room) y := by
  induction d with
  | zero =>
    intro j x h0 hj hd hc
    rw [List.drop_eq_nil_iff.mpr (by omega)] at hc
    obtain rfl : x = y := hc
    exact Ev.step (fun k => by rw [spec_l7At.l0, if_neg (by omega)]) (Ev.now _)
  | succ d ih =>
    intro j x h0 hj hd hc
    have hlt : j < (l.length : Int) := by omega
    rw [rdOf_drop l j h0 hlt, List.filter_cons] at hc
    refine Ev.step (fun k => by rw [spec_l7At.l0, if_pos hlt, if_pos h0, if_pos hlt, wrap_id (x := j + 1) (by omega) (by omega)]) ?_
    by_cases h : (rdOf ByteArray.empty l j).toList = [46]
    · rw [if_neg (by simpa using h)] at hc
      exact ev_pos h (ih (j + 1) x (by omega) (by omega) (by omega) hc)
    · rw [if_pos (by simpa using h)] at hc
      obtain ⟨a0, a1, e, he, e1, e2⟩ := hc
      have hm := nd_mem ns x a0 a1
      refine ev_neg h (ev_pos a0 (ev_pos a1 (ev_bind (a := e.f1) ?_ (ih (j + 1) _ (by omega) (by omega) (by omega) e2))))
      rw [← e1]
      exact spec_l3At.is _ (hs _ hm) (hu _ hm) he
/-- The reference looks a way's node up by its names: it is the way's own. -/
theorem spec_l7At.is {ns : List S53} {room a : Int} {b : Bool} {d : Nat} (hs : ∀ v ∈ ns, Small1 v) (hg : SpecGood ns room) (hr : ∀ v ∈ ns, ∀ e ∈ v.f6, (0 ≤ e.f1 ∧ e.f1 < (ns.length : Int)) ∧ nameB e.f0 = true) (h0 : 0 ≤ a) (h1 : a < (ns.length : Int)) {w : S78} (hw : w ∈ wl ns b d (⟨#[46]⟩ : ByteArray) a) (hz : w.f0.size ≤ 1000) : Ev (fun k => spec_l7At.f k ns room a w.f0) w.f1 := by
  obtain ⟨qs, e1, e2⟩ := wl_chain ns b hr d _ a h0 h1 w hw
  rw [names_dot, List.nil_append] at e1
  have hp := parts_length w.f0
  refine ev_bind (spec_l2Parts.is w.f0 (by omega)) (spec_l7At.loop ns room (fun v hv => (hs v hv).2.1) (rises_in hg.2.1) (parts w.f0) (by omega) w.f1 (parts w.f0).length 0 a (by omega) (by omega) (by omega) ?_)
  rw [show (0 : Int).toNat = 0 from rfl, List.drop_zero]
  show Chain ns a (names w.f0) w.f1
  rw [e1]; exact e2
end Go.Proofs.YteffcglgdfhkmaaDoor.PWk

/- OwnedBy of the program and of the reference agree at every file system: no condition. -/
namespace Go.Proofs.YteffcglgdfhkmaaDoor.PWk
open Go.RowKit Go.Proofs.YteffcglgdfhkmaaDoorW.PrintWords Go.Proofs.YteffcglgdfhkmaaDoorW.PrintLast Go.Proofs.YteffcglgdfhkmaaDoorW.PrintMore Go.Proofs.YteffcglgdfhkmaaDoor.Aid Go.Proofs.YteffcglgdfhkmaaDoor.Loops
set_option linter.unusedVariables false
def ownedL (ns : List S53) (u : Int) (l : List S78) : List ByteArray := (l.filter fun w => decide ((rd_T53 ns w.f1).f2 = u)).map (·.f0)
theorem impl_owned_loop (ns : List S53) (room u : Int) (l : List S78) (hl : l.length ≤ 1000000000) (hw : ∀ w ∈ l, 0 ≤ w.f1 ∧ w.f1 < (ns.length : Int)) (d : Nat) : ∀ (j : Int) (acc : List ByteArray), 0 ≤ j → j ≤ l.length → (l.length : Int) - j = d → (acc.length : Int) ≤ j → Ev (fun k => impl_OwnedBy.l0 k u acc l (l.length : Int) j ns room) (acc ++ ownedL ns u (l.drop j.toNat), true) := by
  induction d with
  | zero =>
    intro j acc h0 hj hd ha
    rw [List.drop_eq_nil_iff.mpr (by omega)]
    exact Ev.step (fun k => by rw [impl_OwnedBy.l0, if_neg (by omega)]) (ev_some (by simp [ownedL]))
  | succ d ih =>
    intro j acc h0 hj hd ha
    have hlt : j < (l.length : Int) := by omega
    have hb : 0 ≤ (rd_T78 l j).f1 ∧ (rd_T78 l j).f1 < (ns.length : Int) := hw _ (getD_mem l z78 j h0 hlt)
    rw [drop_list l z78 j h0 hlt]
    refine Ev.step (fun k => by rw [impl_OwnedBy.l0, if_pos hlt, if_pos h0, if_pos hlt, if_pos hb.1, if_pos hb.2, wrap_id (x := j + 1) (by omega) (by omega)]) ?_
    have e : ∀ b : Bool, decide ((rd_T53 ns (l.getD j.toNat z78).f1).f2 = u) = b → ownedL ns u (l.getD j.toNat z78 :: l.drop (j + 1).toNat) = (if b = true then [(rd_T78 l j).f0] else []) ++ ownedL ns u (l.drop (j + 1).toNat) := fun b hb => by
      unfold ownedL; rw [List.filter_cons, hb]; cases b <;> rfl
    by_cases h : (rd_T53 ns (rd_T78 l j).f1).f2 = u
    · rw [e true (decide_eq_true h)]
      refine ev_pos h (ev_pos (by omega) (ev_eq (ih (j + 1) _ (by omega) (by omega) (by omega) (by rw [List.length_append]; simp; omega)) ?_))
      rw [List.append_assoc]; rfl
    · rw [e false (decide_eq_false h)]
      exact ev_neg h (ev_eq (ih (j + 1) acc (by omega) (by omega) (by omega) (by omega)) (by rfl))
theorem spec_owned_loop (ns : List S53) (room a u : Int) (l : List S78) (hl : l.length ≤ 1000000000) (hw : ∀ w ∈ l, 0 ≤ w.f1 ∧ w.f1 < (ns.length : Int)) (hat : ∀ w ∈ l, Ev (fun k => spec_l7At.f k ns room a w.f0) w.f1) (d : Nat) : ∀ (j : Int) (acc : List ByteArray), 0 ≤ j → j ≤ l.length → (l.length : Int) - j = d → (acc.length : Int) ≤ j → Ev (fun k => spec_OwnedBy.l0 k a u acc (l.map (·.f0)) (l.length : Int) j ns room) (acc ++ ownedL ns u (l.drop j.toNat), true) := by
  induction d with
  | zero =>
    intro j acc h0 hj hd ha
    rw [List.drop_eq_nil_iff.mpr (by omega)]
    exact Ev.step (fun k => by rw [spec_OwnedBy.l0, if_neg (by omega)]) (ev_some (by simp [ownedL]))
  | succ d ih =>
    intro j acc h0 hj hd ha
    have hlt : j < (l.length : Int) := by omega
    have hlt' : j < ((l.map (·.f0)).length : Int) := by rw [List.length_map]; exact hlt
    have hm := getD_mem l z78 j h0 hlt
    have hb : 0 ≤ (rd_T78 l j).f1 ∧ (rd_T78 l j).f1 < (ns.length : Int) := hw _ hm
    have hrd : rdOf ByteArray.empty (l.map (·.f0)) j = (rd_T78 l j).f0 := by
      have hjl : j.toNat < l.length := by omega
      show (l.map (·.f0)).getD j.toNat ByteArray.empty = (l.getD j.toNat z78).f0
      rw [List.getD_eq_getElem?_getD, List.getD_eq_getElem?_getD, List.getElem?_map, List.getElem?_eq_getElem hjl]; rfl
    have ha' : Ev (fun k => spec_l7At.f k ns room a (rd_T78 l j).f0) (rd_T78 l j).f1 := hat _ hm
    rw [drop_list l z78 j h0 hlt]
    refine Ev.step (fun k => by rw [spec_OwnedBy.l0, if_pos hlt, if_pos h0, if_pos hlt', hrd, wrap_id (x := j + 1) (by omega) (by omega)]) (ev_bind ha' (ev_pos hb.1 (ev_pos hb.2 ?_)))
    have e : ∀ b : Bool, decide ((rd_T53 ns (l.getD j.toNat z78).f1).f2 = u) = b → ownedL ns u (l.getD j.toNat z78 :: l.drop (j + 1).toNat) = (if b = true then [(rd_T78 l j).f0] else []) ++ ownedL ns u (l.drop (j + 1).toNat) := fun b hb => by
      unfold ownedL; rw [List.filter_cons, hb]; cases b <;> rfl
    by_cases h : (rd_T53 ns (rd_T78 l j).f1).f2 = u
    · rw [e true (decide_eq_true h)]
      refine ev_pos h (ev_pos (by omega) (ev_eq (ih (j + 1) _ (by omega) (by omega) (by omega) (by rw [List.length_append]; simp; omega)) ?_))
      rw [List.append_assoc]; rfl
    · rw [e false (decide_eq_false h)]
      exact ev_neg h (ev_eq (ih (j + 1) acc (by omega) (by omega) (by omega) (by omega)) (by rfl))
theorem OwnedBy.same (ns : List S53) (room a u : Int) (hn' : ns.length ≤ 1048576) (hs : ∀ v ∈ ns, Small1 v) : ∃ (v : List ByteArray) (b : Bool), Ev (fun k => spec_OwnedBy.f k ns room a u) (v, b) ∧ Ev (fun k => impl_OwnedBy.f k ns room a u) (v, b) ∧ v.length ≤ 41943041 := by
  rcases ways_at ns room a hn' hs with ⟨h1, h2⟩ | ⟨h1, h2, hg, h0, hlt, _, hrn, d, _, _, h⟩
  · exact ⟨[], false, ev_bind h1 (ev_neg (by simp) (Ev.now _)), ev_bind h2 (ev_neg (by simp) (Ev.now _)), by simp⟩
  · obtain ⟨h3, h4, hl, hw⟩ := h false
    have hat : ∀ w ∈ wl ns false d (⟨#[46]⟩ : ByteArray) a, Ev (fun k => spec_l7At.f k ns room a w.f0) w.f1 := fun w hm => spec_l7At.is hs hg hrn h0 hlt hm (hw w hm).1
    generalize wl ns false d (⟨#[46]⟩ : ByteArray) a = L at h3 h4 hl hw hat
    have hi := impl_owned_loop ns room u L (by omega) (fun w hm => (hw w hm).2) L.length 0 [] (by omega) (by omega) (by omega) (by simp)
    have hsp := spec_owned_loop ns room a u L (by omega) (fun w hm => (hw w hm).2) hat L.length 0 [] (by omega) (by omega) (by omega) (by simp)
    rw [show (0 : Int).toNat = 0 from rfl, List.drop_zero, List.nil_append] at hi hsp
    refine ⟨ownedL ns u L, true, ev_bind h1 (ev_pos rfl (ev_bind h3 ?_)), ev_bind h2 (ev_pos rfl (ev_bind h4 hi)), ?_⟩
    · rw [List.length_map]; exact hsp
    · unfold ownedL; rw [List.length_map]; exact Nat.le_trans (List.length_filter_le _ _) hl
end Go.Proofs.YteffcglgdfhkmaaDoor.PWk
namespace Go.Proofs.YteffcglgdfhkmaaDoor.Pure
open Go.RowKit Go.Proofs.YteffcglgdfhkmaaDoor.PWk Go.Proofs.YteffcglgdfhkmaaDoorW.PrintWords Go.Proofs.YteffcglgdfhkmaaDoor.Aid
theorem FnExactOwnedBy : laws_FnExactOwnedBy.Pure := by
  intro a n x u ha hn hx hu
  refine Ev.rounds (r := true) ?_
  unfold laws_FnExactOwnedBy.f
  obtain ⟨r, hr, e⟩ := laws_szFs.is a n ha.1 (fun x hx => ⟨(ha.2 x hx).2.2.2.2.2.1, (ha.2 x hx).2.2.2.2.2.2.1, fun y hy => ((ha.2 x hx).2.2.2.2.2.2.2 y hy).1⟩) 1048576 (by omega) (by omega)
  rcases e with e | ⟨e1, e2, e3, e4⟩
  · exact ev_bind hr (ev_pos e (Ev.now _))
  refine ev_bind hr (ev_neg (by omega) ?_)
  have ta := laws_toFs.is a n e3 e4
  have oa := nodC_ok e4
  have sa := small_of e4
  have la : (a.map nodC).length ≤ 1048576 := by rw [List.length_map]; omega
  generalize a.map nodC = A at ta oa sa la
  obtain ⟨v, b, hs, ht, hl⟩ := OwnedBy.same A n x u la sa
  have hv : v.length ≤ 9223372036854775806 := by omega
  obtain ⟨km, hkm, hk0⟩ := laws_markFs.is A n la (fun v hv => (sa v hv).2.1)
  have held := laws_heldStringS.is v.length (by omega) 1 (by omega) (by omega)
  refine ev_bind ta (ev_bind hs (ev_bind ta (ev_bind ht (ev_bind (laws_eqStringS.same v hv) (ev_pos rfl ?_)))))
  show Ev (fun k => laws_FnExactOwnedBy.j0 k x u v b v b (b != b) a n A n) true
  rw [bne_self_eq_false]
  refine Ev.step (fun k => by rw [laws_FnExactOwnedBy.j0, if_neg (by decide)]) (ev_bind ta (ev_bind (laws_eqFs.same A n (by omega) oa) (ev_pos rfl (ev_bind hkm (ev_neg (show ¬ (km < 0) by omega) (ev_bind (laws_eqStringS.same v hv) (ev_pos rfl ?_)))))))
  rw [bne_self_eq_false]
  refine Ev.step (fun k => by rw [laws_FnExactOwnedBy.j1, if_neg (by decide)]) (ev_bind (laws_markStringS.is v (by omega) 1 (by omega) (by omega)) (ev_bind held (ev_neg (show ¬ ((1 : Int) + (v.length : Int) < 0) by omega) (ev_pos rfl (ev_bind ta (ev_bind ht (ev_bind (laws_eqStringS.same v hv) (ev_pos rfl ?_))))))))
  show Ev (fun k => laws_FnExactOwnedBy.j2 k (marksS v.length 1) (1 + v.length) (b != b)) true
  rw [bne_self_eq_false]
  exact Ev.step (fun k => by rw [laws_FnExactOwnedBy.j2, if_neg (by decide)]) (ev_bind held (ev_neg (show ¬ ((1 : Int) + (v.length : Int) < 0) by omega) (ev_pos rfl (Ev.now _))))
end Go.Proofs.YteffcglgdfhkmaaDoor.Pure

