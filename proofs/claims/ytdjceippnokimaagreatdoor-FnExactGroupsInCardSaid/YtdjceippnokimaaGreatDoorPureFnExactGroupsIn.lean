/- The node of a way, by its names: what the reference looks up is the way's own node. No condition. -/
import Derived.Test.YtdjceippnokimaaGreatDoorWalks
import Derived.Test.YtdjceippnokimaaGreatDoorGrpLaw
import Derived.Test.YtdjceippnokimaaGreatDoorPGrpx19
namespace Go.Proofs.YtdjceippnokimaaGreatDoor.PGrp
open Go.RowKit Go.Proofs.YtdjceippnokimaaGreatDoorW.PrintWords Go.Proofs.YtdjceippnokimaaGreatDoorW.PrintLast Go.Proofs.YtdjceippnokimaaGreatDoorW.PrintMore Go.Proofs.YtdjceippnokimaaGreatDoor.Aid Go.Proofs.YtdjceippnokimaaGreatDoor.AllLoop Go.Proofs.YtdjceippnokimaaGreatDoor.Loops Go.Proofs.YtdjceippnokimaaGreatDoor.Put Go.Proofs.YtdjceippnokimaaGreatDoor.Graph
set_option linter.unusedSimpArgs false
set_option linter.unusedVariables false
theorem bl_irr : ∀ l : List UInt8, Op.bytesLess l l = false
  | [] => rfl
  | a :: l => by rw [Op.bytesLess, bl_irr l]; simp
theorem bl_trans : ∀ {a b c : List UInt8}, Op.bytesLess a b = true → Op.bytesLess b c = true → Op.bytesLess a c = true
  | _, _, [], _, h => by simp [Op.bytesLess] at h
  | [], _, _ :: _, _, _ => rfl
  | _ :: _, [], _ :: _, h, _ => by simp [Op.bytesLess] at h
  | x :: a, y :: b, z :: c, h, k => by
    simp only [Op.bytesLess, Bool.or_eq_true, Bool.and_eq_true, decide_eq_true_eq, beq_iff_eq] at h k ⊢
    rcases h with h | ⟨h1, h2⟩
    · rcases k with k | ⟨k1, k2⟩
      · exact .inl (UInt8.lt_trans h k)
      · exact .inl (k1 ▸ h)
    · rcases k with k | ⟨k1, k2⟩
      · exact .inl (h1 ▸ k)
      · exact .inr ⟨h1.trans k1, bl_trans h2 k2⟩
theorem less_far {l : List S104} (h : ∀ i : Int, 0 < i → i < (l.length : Int) → Less l i = true) : ∀ (d i : Nat), i + d + 1 < l.length → Op.bytesLess (rd_T104 l (i : Int)).f0.toList (rd_T104 l ((i + d + 1 : Nat) : Int)).f0.toList = true
  | 0, i, hl => by
    have := h ((i + 0 + 1 : Nat) : Int) (by omega) (by omega)
    unfold Less at this
    rwa [show ((i + 0 + 1 : Nat) : Int) - 1 = (i : Int) by omega] at this
  | d + 1, i, hl => by
    have h1 := less_far h d i (by omega)
    have := h ((i + (d + 1) + 1 : Nat) : Int) (by omega) (by omega)
    unfold Less at this
    rw [show ((i + (d + 1) + 1 : Nat) : Int) - 1 = ((i + d + 1 : Nat) : Int) by omega] at this
    exact bl_trans h1 this
def Rises (l : List S104) : Prop := ∀ i j : Nat, i < j → j < l.length → (rd_T104 l (i : Int)).f0.toList ≠ (rd_T104 l (j : Int)).f0.toList
theorem rises_of {l : List S104} (h : ∀ i : Int, 0 < i → i < (l.length : Int) → Less l i = true) : Rises l := fun i j hij hj e => by
  have := less_far h (j - i - 1) i (by omega)
  rw [show i + (j - i - 1) + 1 = j by omega, e, bl_irr] at this
  cases this
theorem rises_in {ns : List S65} {lo : Int} (h1 : All1 lo ns) : ∀ v ∈ ns, Rises v.f6 := fun v hv => by
  have hg := all_mem h1 v hv
  by_cases h0 : v.f0 = 0
  · have := (hg.1 h0).2.2.2.2.2; exact fun i j hij hj => absurd hj (by omega)
  · rcases (hg.2 h0).2.2.2.2 with h' | h' | h'
    · exact fun i j hij hj => absurd hj (by omega)
    · exact rises_of (fun i hi hl => (h'.2.2 i (by omega) hl).2.1 hi)
    · exact fun i j hij hj => absurd hj (by omega)
theorem spec_l3At.loop (l : List S104) (hl : l.length ≤ 1048576) (hu : Rises l) (n : Nat) (hn : n < l.length) (d : Nat) : ∀ i : Int, 0 ≤ i → i ≤ n → (n : Int) - i = d → Ev (fun k => spec_l3At.l0 k (rd_T104 l (n : Int)).f0 l (l.length : Int) i) (rd_T104 l (n : Int)).f1 := by
  induction d with
  | zero =>
    intro i h0 hi hd
    obtain rfl : i = (n : Int) := by omega
    exact Ev.step (fun k => by rw [spec_l3At.l0, if_pos (by omega), if_pos h0, if_pos (by omega), if_pos rfl]) (Ev.now _)
  | succ d ih =>
    intro i h0 hi hd
    have hne := hu i.toNat n (by omega) hn
    rw [show ((i.toNat : Nat) : Int) = i by omega] at hne
    refine Ev.step (fun k => by rw [spec_l3At.l0, if_pos (by omega), if_pos h0, if_pos (by omega), if_neg hne, wrap_id (x := i + 1) (by omega) (by omega)]) ?_
    exact ih (i + 1) (by omega) (by omega) (by omega)
theorem spec_l3At.is (l : List S104) (hl : l.length ≤ 1048576) (hu : Rises l) {e : S104} (he : e ∈ l) : Ev (fun k => spec_l3At.f k l e.f0) e.f1 := by
  obtain ⟨n, hn, en⟩ := List.mem_iff_getElem.1 he
  have e' : rd_T104 l (n : Int) = e := by
    show l.getD (n : Int).toNat z104 = e
    rw [List.getD_eq_getElem?_getD, show (n : Int).toNat = n by omega, List.getElem?_eq_getElem hn]; exact en
  have := spec_l3At.loop l hl hu n hn n 0 (by omega) (by omega) (by omega)
  rw [e'] at this
  exact this
theorem segs_apps : ∀ (a b : List UInt8), segs (a ++ 47 :: b) = segs a ++ segs b
  | [], b => by rw [List.nil_append, segs_slash]; rfl
  | c :: a, b => by
    by_cases hc : c = 47
    · subst hc; rw [List.cons_append, segs_slash, segs_slash, segs_apps a b]; rfl
    · obtain ⟨x, t, h1, h2⟩ := segs_cons c a hc
      obtain ⟨x', t', h3, h4⟩ := segs_cons c (a ++ 47 :: b) hc
      rw [segs_apps a b, h1, List.cons_append, List.cons.injEq] at h3
      rw [List.cons_append, h4, h2, ← h3.1, ← h3.2]; rfl
def names (s : ByteArray) : List ByteArray := (parts s).filter fun p => decide (p.toList ≠ [46])
theorem names_one {nm : ByteArray} (h : nameB nm = true) : names nm = [nm] ∧ nm.toList ≠ [46] := by
  unfold nameB partB dotsB at h
  rw [Bool.and_eq_true, Bool.and_eq_true, decide_eq_true_iff] at h
  obtain ⟨⟨h1, h2⟩, h3⟩ := h
  have hn : 47 ∉ nm.toList := fun hm => by
    rw [bytesOf_eq, nb_all, List.all_eq_true] at h2
    have := h2 47 hm
    revert this; decide
  have hne : nm.toList ≠ [46] := fun e => by rw [e] at h3; revert h3; decide
  have hz : nm.toList ≠ [] := fun e => by rw [size_eq, e] at h1; simp at h1
  refine ⟨?_, hne⟩
  unfold names parts pieces
  rw [segs_none _ hn, List.map_cons, List.map_nil, mk_toList, List.filter_cons, if_pos (by simpa using hz), List.filter_nil, List.filter_cons, if_pos (by simpa using hne), List.filter_nil]
theorem names_dot : names (⟨#[46]⟩ : ByteArray) = [] := by
  unfold names parts pieces
  rw [show (⟨#[46]⟩ : ByteArray).toList = [46] from toList_mk [46], segs_none [46] (by decide)]
  simp [toList_mk]
theorem names_below {p nm : ByteArray} (h : nameB nm = true) : names (belowT p nm) = names p ++ [nm] := by
  obtain ⟨h1, _⟩ := names_one h
  unfold belowT
  by_cases hp : p.toList = [46]
  · rw [if_pos hp, h1, show p = (⟨#[46]⟩ : ByteArray) from eq_of_toList (by rw [hp]; exact (toList_mk [46]).symm), names_dot]; rfl
  · rw [if_neg hp]
    have e : ((p ++ (⟨#[47]⟩ : ByteArray)) ++ nm).toList = p.toList ++ 47 :: nm.toList := by rw [toList_append, toList_append, show (⟨#[47]⟩ : ByteArray).toList = [47] from toList_mk [47]]; simp
    have e2 : pieces ((p ++ (⟨#[47]⟩ : ByteArray)) ++ nm) = pieces p ++ pieces nm := by unfold pieces; rw [e, segs_apps, List.map_append]
    rw [← h1]
    unfold names parts
    rw [e2, List.filter_append, List.filter_append]
def Chain (ns : List S65) : Int → List ByteArray → Int → Prop
  | a, [], x => a = x
  | a, q :: qs, x => 0 ≤ a ∧ a < (ns.length : Int) ∧ ∃ e ∈ (rd_T65 ns a).f6, e.f0 = q ∧ Chain ns e.f1 qs x
theorem wl_chain (ns : List S65) (b : Bool) (hr : ∀ v ∈ ns, ∀ e ∈ v.f6, (0 ≤ e.f1 ∧ e.f1 < (ns.length : Int)) ∧ nameB e.f0 = true) : ∀ (d : Nat) (p : ByteArray) (a : Int), 0 ≤ a → a < (ns.length : Int) → ∀ w ∈ wl ns b d p a, ∃ qs, names w.f0 = names p ++ qs ∧ Chain ns a qs w.f1
  | 0, p, a, _, _, w, hw => by
    rw [wl, List.mem_singleton] at hw; rw [hw]; exact ⟨[], by simp, rfl⟩
  | d + 1, p, a, h0, h1, w, hw => by
    rw [wl, wk_mem, List.mem_flatMap] at hw
    rcases hw with rfl | ⟨e, he, hw⟩
    · exact ⟨[], by simp, rfl⟩
    · have h := hr _ (nd_mem ns a h0 h1) e he
      obtain ⟨qs, e1, e2⟩ := wl_chain ns b hr d _ _ h.1.1 h.1.2 w hw
      exact ⟨e.f0 :: qs, by rw [e1, names_below h.2, List.append_assoc]; rfl, h0, h1, e, he, rfl, e2⟩
theorem spec_l7At.loop (ns : List S65) (room : Int) (hs : ∀ v ∈ ns, v.f6.length ≤ 1048576) (hu : ∀ v ∈ ns, Rises v.f6) (l : List ByteArray) (hl : l.length ≤ 1000000) (y : Int) (d : Nat) : ∀ (j x : Int), 0 ≤ j → j ≤ l.length → (l.length : Int) - j = d → Chain ns x ((l.drop j.toNat).filter fun p => decide (p.toList ≠ [46])) y → Ev (fun k => spec_l7At.l0 k x l (l.length : Int) j ns room) y := by
  induction d with
  | zero =>
    intro j x h0 hj hd hc
    rw [List.drop_eq_nil_iff.mpr (by omega)] at hc
    obtain rfl : x = y := hc
    exact Ev.step (fun k => by rw [spec_l7At.l0, if_neg (by omega)]) (Ev.now _)
  | succ d ih =>
    intro j x h0 hj hd hc
    have hlt : j < (l.length : Int) := by omega
    rw [rdOf_drop l j h0 hlt, List.filter_cons] at hc
    refine Ev.step (fun k => by rw [spec_l7At.l0, if_pos hlt, if_pos h0, if_pos hlt, wrap_id (x := j + 1) (by omega) (by omega)]) ?_
    by_cases h : (rdOf ByteArray.empty l j).toList = [46]
    · rw [if_neg (by simpa using h)] at hc
      exact ev_pos h (ih (j + 1) x (by omega) (by omega) (by omega) hc)
    · rw [if_pos (by simpa using h)] at hc
      obtain ⟨a0, a1, e, he, e1, e2⟩ := hc
      have hm := nd_mem ns x a0 a1
      refine ev_neg h (ev_pos a0 (ev_pos a1 (ev_bind (a := e.f1) ?_ (ih (j + 1) _ (by omega) (by omega) (by omega) e2))))
      rw [← e1]
      exact spec_l3At.is _ (hs _ hm) (hu _ hm) he
theorem spec_l7At.is {ns : List S65} {room a : Int} {b : Bool} {d : Nat} (hs : ∀ v ∈ ns, Small1 v) (hg : SpecGood ns room) (hr : ∀ v ∈ ns, ∀ e ∈ v.f6, (0 ≤ e.f1 ∧ e.f1 < (ns.length : Int)) ∧ nameB e.f0 = true) (h0 : 0 ≤ a) (h1 : a < (ns.length : Int)) {w : S75} (hw : w ∈ wl ns b d (⟨#[46]⟩ : ByteArray) a) (hz : w.f0.size ≤ 1000) : Ev (fun k => spec_l7At.f k ns room a w.f0) w.f1 := by
  obtain ⟨qs, e1, e2⟩ := wl_chain ns b hr d _ a h0 h1 w hw
  rw [names_dot, List.nil_append] at e1
  have hp := parts_length w.f0
  refine ev_bind (spec_l2Parts.is w.f0 (by omega)) (spec_l7At.loop ns room (fun v hv => (hs v hv).2.1) (rises_in hg.2.1) (parts w.f0) (by omega) w.f1 (parts w.f0).length 0 a (by omega) (by omega) (by omega) ?_)
  rw [show (0 : Int).toNat = 0 from rfl, List.drop_zero]
  show Chain ns a (names w.f0) w.f1
  rw [e1]; exact e2
end Go.Proofs.YtdjceippnokimaaGreatDoor.PGrp
namespace Go.Proofs.YtdjceippnokimaaGreatDoor.PGrp
open Go.RowKit Go.Proofs.YtdjceippnokimaaGreatDoorW.PrintWords Go.Proofs.YtdjceippnokimaaGreatDoorW.PrintLast Go.Proofs.YtdjceippnokimaaGreatDoorW.PrintMore Go.Proofs.YtdjceippnokimaaGreatDoor.Aid
set_option linter.unusedSimpArgs false
set_option linter.unusedVariables false
theorem laws_eqStringS.loop (a b : List ByteArray) (hl : a.length = b.length) (hz : a.length ≤ 9223372036854775806) (d : Nat) : ∀ i : Int, 0 ≤ i → i ≤ a.length → (a.length : Int) - i = d →
    Ev (fun k => laws_eqStringS.l0 k a b i) (decide (a.drop i.toNat = b.drop i.toNat)) := by
  induction d with
  | zero =>
    intro i h0 h1 hd
    refine Ev.step (fun k => by rw [laws_eqStringS.l0, if_neg (by omega)]) (ev_some ?_)
    rw [List.drop_eq_nil_iff.mpr (show a.length ≤ i.toNat by omega), List.drop_eq_nil_iff.mpr (show b.length ≤ i.toNat by omega)]
    exact (decide_eq_true rfl).symm
  | succ d ih =>
    intro i h0 h1 hd
    have hlt : i < (a.length : Int) := by omega
    have hlt' : i < (b.length : Int) := by omega
    rw [rdOf_drop a i h0 hlt, rdOf_drop b i h0 hlt']
    refine Ev.step (fun k => by rw [laws_eqStringS.l0, if_pos hlt, if_pos h0, if_pos hlt', wrap_id (by omega) (by omega)]) ?_
    refine ev_ite (fun h => ?_) (fun h => ?_)
    · refine ev_eq (ih (i + 1) (by omega) (by omega) (by omega)) (decide_eq_decide.mpr ?_)
      rw [List.cons.injEq]
      exact ⟨fun hp => ⟨eq_of_toList h, hp⟩, fun hp => hp.2⟩
    · refine ev_some (decide_eq_false ?_).symm
      rw [List.cons.injEq]
      exact fun hp => h (by rw [hp.1])
theorem laws_eqStringS.is (a b : List ByteArray) (hz : a.length ≤ 9223372036854775806) : Ev (fun k => laws_eqStringS.f k a b) (decide (a = b)) := by
  refine ev_ite (fun h => ?_) (fun h => ?_)
  · exact laws_eqStringS.loop a b (by omega) hz a.length 0 (by omega) (by omega) (by omega)
  · exact ev_some (decide_eq_false (fun e => h (by rw [e]))).symm
theorem laws_eqStringS.same (a : List ByteArray) (hz : a.length ≤ 9223372036854775806) : Ev (fun k => laws_eqStringS.f k a a) true := ev_eq (laws_eqStringS.is a a hz) (decide_eq_true rfl)
theorem laws_markText.loop (n : Nat) : ∀ (x : Int) (acc : ByteArray), 0 ≤ x → x.toNat ≤ n → acc.size + n ≤ 9223372036854775000 → ∃ r, Ev (fun k => laws_markText.l0 k x acc) r := by
  induction n with
  | zero =>
    intro x acc h0 h1 h2
    refine ⟨_, Ev.step (fun k => by rw [laws_markText.l0, if_neg (by omega), if_pos (by omega)]) (Ev.now _)⟩
  | succ n ih =>
    intro x acc h0 h1 h2
    by_cases hx : x > 0
    · have e : Int.tdiv x 10 = x / 10 := Int.tdiv_eq_ediv_of_nonneg h0
      have hs : (strOfNums [(wrap64 (48 + (Int.tmod x 10))) % 256]).size = 1 := rfl
      have hz : ((strOfNums [(wrap64 (48 + (Int.tmod x 10))) % 256]) ++ acc).size = 1 + acc.size := by rw [ByteArray.size_append, hs]
      obtain ⟨r, hr⟩ := ih (wrap64 (Int.tdiv x 10)) ((strOfNums [(wrap64 (48 + (Int.tmod x 10))) % 256]) ++ acc) (by rw [e]; unfold wrap64; omega) (by rw [e]; unfold wrap64; omega) (by rw [hz]; omega)
      refine ⟨r, Ev.step (fun k => by rw [laws_markText.l0, if_pos hx, Option.bind_some, if_pos (by rw [hs]; omega)]) hr⟩
    · exact ⟨_, Ev.step (fun k => by rw [laws_markText.l0, if_neg hx, if_pos (by omega)]) (Ev.now _)⟩
theorem laws_markText.is (x : Int) (h0 : 0 ≤ x) (h1 : x ≤ 9223372036854770000) : ∃ r, Ev (fun k => laws_markText.f k x) r := by
  by_cases h : x ≤ 0
  · exact ⟨_, ev_pos h (Ev.now _)⟩
  · obtain ⟨r, hr⟩ := laws_markText.loop x.toNat x ⟨#[]⟩ h0 (Nat.le_refl _) (by show 0 + _ ≤ _; omega)
    exact ⟨r, ev_neg h hr⟩
noncomputable def markT (x : Int) : ByteArray := open Classical in if h : 0 ≤ x ∧ x ≤ 9223372036854770000 then Classical.choose (laws_markText.is x h.1 h.2) else ⟨#[]⟩
theorem markT_spec (x : Int) (h0 : 0 ≤ x) (h1 : x ≤ 9223372036854770000) : Ev (fun k => laws_markText.f k x) (markT x) := by
  unfold markT; rw [dif_pos ⟨h0, h1⟩]; exact Classical.choose_spec (laws_markText.is x h0 h1)
noncomputable def marksS (n : Nat) (a : Int) : List ByteArray := (List.range n).map fun j : Nat => markT (a + (j : Int))
theorem marksS_length (n : Nat) (a : Int) : (marksS n a).length = n := by simp [marksS]
theorem laws_markStringS.loop (n : Nat) (hn : n ≤ 4611686018427387904) (a : Int) (ha : 0 ≤ a) (ha2 : a ≤ 1000000000000) (d : Nat) : ∀ (l : List ByteArray) (i : Int), l.length = n → 0 ≤ i → i ≤ n → (n : Int) - i = d → l.take i.toNat = (marksS n a).take i.toNat →
    Ev (fun k => laws_markStringS.l0 k l (a + i) i) (a + n, marksS n a) := by
  induction d with
  | zero =>
    intro l i hl h0 h1 hd ht
    refine Ev.step (fun k => by rw [laws_markStringS.l0, if_neg (by omega)]) (ev_some ?_)
    have hi : i.toNat = n := by omega
    rw [hi, List.take_of_length_le (by omega), List.take_of_length_le (by rw [marksS_length]; omega)] at ht
    rw [ht, show i = (n : Int) by omega]
  | succ d ih =>
    intro l i hl h0 h1 hd ht
    refine Ev.step (fun k => by rw [laws_markStringS.l0, if_pos (by omega)]) ?_
    refine ev_bind (markT_spec (a + i) (by omega) (by omega)) (ev_pos h0 ?_)
    rw [wrap_id (x := a + i + 1) (by omega) (by omega), wrap_id (x := i + 1) (by omega) (by omega), show a + i + 1 = a + (i + 1) by omega]
    refine ih _ (i + 1) (by rw [List.length_set]; exact hl) (by omega) (by omega) (by omega) ?_
    have hil : i.toNat < l.length := by omega
    have him : i.toNat < (marksS n a).length := by rw [marksS_length]; omega
    rw [show (i + 1).toNat = i.toNat + 1 by omega, List.take_add_one, List.take_add_one, List.take_set_of_le (Nat.le_refl _), ht, List.getElem?_set_self hil, List.getElem?_eq_getElem him]
    congr 1
    simp [marksS, show (i.toNat : Int) = i by omega]
theorem laws_markStringS.is (l : List ByteArray) (hl : l.length ≤ 4611686018427387904) (a : Int) (ha : 0 ≤ a) (ha2 : a ≤ 1000000000000) : Ev (fun k => laws_markStringS.f k l a) (a + l.length, marksS l.length a) := by
  have h := laws_markStringS.loop l.length hl a ha ha2 l.length l 0 rfl (by omega) (by omega) (by omega) (by simp)
  rw [Int.add_zero] at h; exact h
theorem laws_heldStringS.loop (n : Nat) (hn : n ≤ 4611686018427387904) (a : Int) (ha : 0 ≤ a) (ha2 : a ≤ 1000000000000) (d : Nat) : ∀ i : Int, 0 ≤ i → i ≤ n → (n : Int) - i = d →
    Ev (fun k => laws_heldStringS.l0 k (marksS n a) (a + i) i) (a + n) := by
  induction d with
  | zero =>
    intro i h0 h1 hd
    exact Ev.step (fun k => by rw [laws_heldStringS.l0, marksS_length, if_neg (by omega)]) (ev_some (by omega))
  | succ d ih =>
    intro i h0 h1 hd
    refine Ev.step (fun k => by rw [laws_heldStringS.l0, marksS_length, if_pos (by omega), if_pos h0]) ?_
    refine ev_bind (markT_spec (a + i) (by omega) (by omega)) ?_
    have e : rdOf ByteArray.empty (marksS n a) i = markT (a + i) := by
      have him : i.toNat < (marksS n a).length := by rw [marksS_length]; omega
      unfold rdOf
      rw [List.getD_eq_getElem?_getD, List.getElem?_eq_getElem him]
      simp [marksS, show (i.toNat : Int) = i by omega]
    refine ev_pos (by rw [e]) ?_
    rw [wrap_id (x := a + i + 1) (by omega) (by omega), wrap_id (x := i + 1) (by omega) (by omega), show a + i + 1 = a + (i + 1) by omega]
    exact ih (i + 1) (by omega) (by omega) (by omega)
theorem laws_heldStringS.is (n : Nat) (hn : n ≤ 4611686018427387904) (a : Int) (ha : 0 ≤ a) (ha2 : a ≤ 1000000000000) : Ev (fun k => laws_heldStringS.f k (marksS n a) a) (a + n) := by
  have h := laws_heldStringS.loop n hn a ha ha2 n 0 (by omega) (by omega) (by omega)
  rw [Int.add_zero] at h; exact h
end Go.Proofs.YtdjceippnokimaaGreatDoor.PGrp
namespace Go.Proofs.YtdjceippnokimaaGreatDoor.PGrp
open Go.RowKit Go.Proofs.YtdjceippnokimaaGreatDoorW.PrintWords Go.Proofs.YtdjceippnokimaaGreatDoorW.PrintLast Go.Proofs.YtdjceippnokimaaGreatDoorW.PrintMore Go.Proofs.YtdjceippnokimaaGreatDoor.Aid Go.Proofs.YtdjceippnokimaaGreatDoor.Loops
set_option linter.unusedSimpArgs false
set_option linter.unusedVariables false
theorem laws_markEntryS.is (n : Nat) (hn : n ≤ 1048576) (d : Nat) : ∀ (a i : Int), 0 ≤ i → i ≤ n → (n : Int) - i = d → 0 ≤ a → a + 2 * d ≤ 1000000000000000 → Ev (fun k => laws_markEntryS.l0 k n a i) (a + 2 * d) := by
  induction d with
  | zero =>
    intro a i h0 hi hd ha ha2
    exact Ev.step (fun k => by rw [laws_markEntryS.l0, if_neg (by omega)]) (ev_some (by omega))
  | succ d ih =>
    intro a i h0 hi hd ha ha2
    refine Ev.step (fun k => by rw [laws_markEntryS.l0, if_pos (by omega), if_pos h0]) (ev_bind (markT_spec a ha (by omega)) ?_)
    rw [wrap_id (x := a + 1) (by omega) (by omega), wrap_id (x := a + 1 + 1) (by omega) (by omega), wrap_id (x := i + 1) (by omega) (by omega)]
    exact ev_eq (ih (a + 1 + 1) (i + 1) (by omega) (by omega) (by omega) (by omega) (by omega)) (by omega)
theorem laws_markNodeS.is (ns : List S65) (hn : ns.length ≤ 1048576) (hs : ∀ v ∈ ns, v.f6.length ≤ 1048576) (d : Nat) : ∀ (a i : Int), 0 ≤ i → i ≤ ns.length → (ns.length : Int) - i = d → 0 ≤ a → a + 3000000 * d ≤ 1000000000000000 → ∃ r, Ev (fun k => laws_markNodeS.l0 k ns a i) r ∧ 0 ≤ r := by
  induction d with
  | zero =>
    intro a i h0 hi hd ha ha2
    exact ⟨a, Ev.step (fun k => by rw [laws_markNodeS.l0, if_neg (by omega)]) (Ev.now _), ha⟩
  | succ d ih =>
    intro a i h0 hi hd ha ha2
    have hlt : i < (ns.length : Int) := by omega
    have hl := hs _ (getD_mem ns z65 i h0 hlt)
    have hl' : (rd_T65 ns i).f6.length ≤ 1048576 := hl
    have hE := laws_markEntryS.is (rd_T65 ns i).f6.length hl' (rd_T65 ns i).f6.length (a + 1 + 1 + 1 + 1 + 1 + 1) 0 (by omega) (by omega) (by omega) (by omega) (by omega)
    obtain ⟨r, hr, e⟩ := ih (a + 1 + 1 + 1 + 1 + 1 + 1 + 2 * ((rd_T65 ns i).f6.length : Int)) (i + 1) (by omega) (by omega) (by omega) (by omega) (by omega)
    refine ⟨r, Ev.step (fun k => by rw [laws_markNodeS.l0, if_pos hlt, if_pos h0]) ?_, e⟩
    rw [wrap_id (x := a + 1) (by omega) (by omega), wrap_id (x := a + 1 + 1) (by omega) (by omega), wrap_id (x := a + 1 + 1 + 1) (by omega) (by omega), wrap_id (x := a + 1 + 1 + 1 + 1) (by omega) (by omega), wrap_id (x := a + 1 + 1 + 1 + 1 + 1) (by omega) (by omega), wrap_id (x := a + 1 + 1 + 1 + 1 + 1 + 1) (by omega) (by omega), wrap_id (x := i + 1) (by omega) (by omega)]
    exact ev_bind (markT_spec _ (by omega) (by omega)) (ev_bind hE hr)
theorem laws_markFs.is (ns : List S65) (x : Int) (hn : ns.length ≤ 1048576) (hs : ∀ v ∈ ns, v.f6.length ≤ 1048576) : ∃ r, Ev (fun k => laws_markFs.f k ns x 1) r ∧ 0 ≤ r :=
  laws_markNodeS.is ns hn hs ns.length 1 0 (by omega) (by omega) (by omega) (by omega) (by omega)
end Go.Proofs.YtdjceippnokimaaGreatDoor.PGrp
namespace Go.Proofs.YtdjceippnokimaaGreatDoor.PGrp
open Go.RowKit Go.Proofs.YtdjceippnokimaaGreatDoorW.PrintWords Go.Proofs.YtdjceippnokimaaGreatDoorW.PrintLast Go.Proofs.YtdjceippnokimaaGreatDoorW.PrintMore Go.Proofs.YtdjceippnokimaaGreatDoor.Aid Go.Proofs.YtdjceippnokimaaGreatDoor.Loops Go.Proofs.YtdjceippnokimaaGreatDoor.Put
set_option linter.unusedSimpArgs false
set_option linter.unusedVariables false
def rowOf (l : List S75) (n : Int) : List ByteArray := (l.filter fun w => decide (w.f1 = n)).map (·.f0)
theorem rowOf_snoc (l : List S75) (x : S75) (n : Int) : rowOf (l ++ [x]) n = rowOf l n ++ (if x.f1 = n then [x.f0] else []) := by
  unfold rowOf
  rw [List.filter_append, List.map_append]
  congr 1
  by_cases h : x.f1 = n
  · rw [if_pos h, List.filter_cons_of_pos (by simpa using h)]; rfl
  · rw [if_neg h, List.filter_cons_of_neg (by simpa using h)]; rfl
theorem rowOf_pos (x : S75) (l : List S75) (n : Int) (h : x.f1 = n) : rowOf (x :: l) n = x.f0 :: rowOf l n := by
  unfold rowOf
  rw [List.filter_cons_of_pos (by simpa using h)]; rfl
theorem rowOf_neg (x : S75) (l : List S75) (n : Int) (h : ¬ x.f1 = n) : rowOf (x :: l) n = rowOf l n := by
  unfold rowOf
  rw [List.filter_cons_of_neg (by simpa using h)]
theorem rowOf_none (l : List S75) (n : Int) (h : ∀ w ∈ l, w.f1 ≠ n) : rowOf l n = [] := by
  unfold rowOf
  rw [List.filter_eq_nil_iff.2 (fun w hw => by simpa using h w hw)]; rfl
structure GR (ns : List S65) (l : List S75) (st : List Int × List (List ByteArray)) : Prop where
  nodup : st.1.Nodup
  mem : ∀ n, n ∈ st.1 ↔ (rd_T65 ns n).f0 ≠ 2 ∧ ∃ w ∈ l, w.f1 = n
  rows : st.2 = st.1.map (rowOf l)
theorem GR.nil (ns : List S65) : GR ns [] ([], []) := ⟨List.nodup_nil, fun n => ⟨fun h => (by cases h), fun ⟨_, w, hw, _⟩ => (by cases hw)⟩, rfl⟩
theorem GR.snoc {ns : List S65} {l : List S75} {st : List Int × List (List ByteArray)} (h : GR ns l st) (x : S75) : GR ns (l ++ [x]) (gr_step ns st x) := by
  obtain ⟨ks, rs⟩ := st
  obtain ⟨hn, hm, hr⟩ := h
  simp only at hn hm hr
  subst hr
  have hmx : ∀ n, (∃ w ∈ l ++ [x], w.f1 = n) ↔ (∃ w ∈ l, w.f1 = n) ∨ x.f1 = n := fun n => by
    constructor
    · rintro ⟨w, hw, e⟩
      rcases List.mem_append.1 hw with h1 | h1
      · exact .inl ⟨w, h1, e⟩
      · rw [List.mem_singleton.1 h1] at e; exact .inr e
    · rintro (⟨w, hw, e⟩ | e)
      · exact ⟨w, List.mem_append_left _ hw, e⟩
      · exact ⟨x, by simp, e⟩
  unfold gr_step
  by_cases hd : (rd_T65 ns x.f1).f0 = 2
  · rw [if_pos hd]
    refine ⟨hn, fun n => ?_, List.map_congr_left fun n hk => ?_⟩
    · rw [hmx, hm n]
      exact ⟨fun h => ⟨h.1, .inl h.2⟩, fun h => ⟨h.1, h.2.resolve_right (fun e => h.1 (by rw [← e]; exact hd))⟩⟩
    · rw [rowOf_snoc, if_neg (fun e => ((hm n).1 hk).1 (by rw [← e]; exact hd)), List.append_nil]
  · rw [if_neg hd]
    by_cases hin : x.f1 ∈ ks
    · rw [if_pos hin]
      refine ⟨hn, fun n => ?_, ?_⟩
      · rw [hmx]
        exact ⟨fun h => ⟨((hm n).1 h).1, .inl ((hm n).1 h).2⟩, fun h => h.2.elim (fun h2 => (hm n).2 ⟨h.1, h2⟩) (fun e => e ▸ hin)⟩
      · have hlt := List.idxOf_lt_length_iff.2 hin
        refine List.ext_getElem? fun j => ?_
        rw [List.getElem?_set, List.length_map, List.getElem?_map, List.getElem?_map]
        by_cases hj : ks.idxOf x.f1 = j
        · subst hj
          rw [if_pos rfl, if_pos hlt, List.getD_eq_getElem?_getD, List.getElem?_map, List.getElem?_eq_getElem hlt, List.getElem_idxOf hlt]
          show some (rowOf l x.f1 ++ [x.f0]) = some (rowOf (l ++ [x]) x.f1)
          rw [rowOf_snoc, if_pos rfl]
        · rw [if_neg hj]
          cases e : ks[j]? with
          | none => rfl
          | some n =>
            have hne : x.f1 ≠ n := fun e2 => hj (by
              obtain ⟨hjl, hjn⟩ := List.getElem?_eq_some_iff.1 e
              rw [e2, ← hjn]; exact List.Nodup.idxOf_getElem hn j hjl)
            show some (rowOf l n) = some (rowOf (l ++ [x]) n)
            rw [rowOf_snoc, if_neg hne, List.append_nil]
    · rw [if_neg hin]
      refine ⟨?_, fun n => ?_, ?_⟩
      · exact List.nodup_append.2 ⟨hn, by simp, fun a ha b hb => by rw [List.mem_singleton.1 hb]; exact fun e => hin (e ▸ ha)⟩
      · rw [hmx, List.mem_append, List.mem_singleton, hm n]
        constructor
        · rintro (h | h)
          · exact ⟨h.1, .inl h.2⟩
          · exact ⟨by rw [h]; exact hd, .inr h.symm⟩
        · rintro ⟨h1, h2 | h2⟩
          · exact .inl ⟨h1, h2⟩
          · exact .inr h2.symm
      · show ks.map (rowOf l) ++ [[x.f0]] = (ks ++ [x.f1]).map (rowOf (l ++ [x]))
        rw [List.map_append]
        congr 1
        · refine List.map_congr_left fun n hk => ?_
          rw [rowOf_snoc, if_neg (fun e : x.f1 = n => hin (by rw [e]; exact hk)), List.append_nil]
        · show [[x.f0]] = [rowOf (l ++ [x]) x.f1]
          rw [rowOf_snoc, if_pos rfl, rowOf_none l x.f1 (fun w hw e => hin ((hm _).2 ⟨hd, w, hw, e⟩))]; rfl
theorem GR.fold {ns : List S65} : ∀ (l r : List S75) (st : List Int × List (List ByteArray)), GR ns r st → GR ns (r ++ l) (l.foldl (gr_step ns) st)
  | [], r, st, h => by rw [List.append_nil]; exact h
  | x :: l, r, st, h => by
    have := GR.fold l (r ++ [x]) _ (h.snoc x)
    rwa [List.append_assoc] at this
theorem GR.at (ns : List S65) (l : List S75) : GR ns l (gr_at ns l) := GR.fold l [] _ (GR.nil ns)
theorem gr_flat (ns : List S65) : ∀ (l : List S75) (st : List Int × List (List ByteArray)), ((l.foldl (gr_step ns) st).2.flatten.length) ≤ st.2.flatten.length + l.length
  | [], st => by simp
  | x :: l, st => by
    rw [List.foldl_cons, List.length_cons]
    have h1 := gr_flat ns l (gr_step ns st x)
    have hset : ∀ (d : List (List ByteArray)) (n : Nat) (y : ByteArray), (d.set n (d.getD n [] ++ [y])).flatten.length ≤ d.flatten.length + 1 := by
      intro d
      induction d with
      | nil => intro n y; simp
      | cons a d ih =>
        intro n y
        cases n with
        | zero => simp; omega
        | succ n =>
          have := ih n y
          rw [List.set_cons_succ, List.flatten_cons, List.flatten_cons, List.length_append, List.length_append, List.getD_cons_succ]; omega
    have h2 : (gr_step ns st x).2.flatten.length ≤ st.2.flatten.length + 1 := by
      unfold gr_step
      split
      · omega
      · split
        · exact hset _ _ _
        · simp
    omega
theorem filter_flat (p : List ByteArray → Bool) : ∀ l : List (List ByteArray), (l.filter p).flatten.length ≤ l.flatten.length
  | [] => by simp
  | x :: l => by
    have := filter_flat p l
    rw [List.filter_cons]
    split <;> (simp only [List.flatten_cons, List.length_append]; omega)
theorem flat_row {l : List (List ByteArray)} {e : List ByteArray} (h : e ∈ l) : e.length ≤ l.flatten.length := by
  induction l with
  | nil => cases h
  | cons x l ih =>
    rw [List.flatten_cons, List.length_append]
    rcases List.mem_cons.1 h with rfl | h
    · omega
    · have := ih h; omega
def big (l : List ByteArray) : Bool := decide (2 ≤ l.length)
theorem at_map (L : List S75) (j : Int) (h0 : 0 ≤ j) (h1 : j < (L.length : Int)) : rdOf ByteArray.empty (L.map (·.f0)) j = (rd_T75 L j).f0 := by
  have hjl : j.toNat < L.length := by omega
  show (L.map (·.f0)).getD j.toNat ByteArray.empty = (L.getD j.toNat z75).f0
  rw [List.getD_eq_getElem?_getD, List.getD_eq_getElem?_getD, List.getElem?_map, List.getElem?_eq_getElem hjl]; rfl
theorem spec_row_loop (ns : List S65) (room a n : Int) (L : List S75) (hl : L.length ≤ 41943041) (hat : ∀ w ∈ L, Ev (fun k => spec_l7At.f k ns room a w.f0) w.f1) (out r : List (List ByteArray)) (D : List Int) (i : Int)
    (hc : Ev (fun k => if ((rowOf L n).length : Int) > 1 then (if out.length < 5864062014805 then spec_l7Groups.l0 k a (out ++ [rowOf L n]) D (L.map (·.f0)) (L.map (·.f0)) (L.length : Int) (wrap64 (i + 1)) ns room else none) else spec_l7Groups.l0 k a out D (L.map (·.f0)) (L.map (·.f0)) (L.length : Int) (wrap64 (i + 1)) ns room) r) (d : Nat) :
    ∀ (j : Int) (acc : List ByteArray), 0 ≤ j → j ≤ L.length → (L.length : Int) - j = d → acc ++ rowOf (L.drop j.toNat) n = rowOf L n → (acc.length : Int) ≤ j →
    Ev (fun k => spec_l7Groups.l1 k a out D (L.map (·.f0)) n acc (L.map (·.f0)) (L.length : Int) i (L.map (·.f0)) (L.length : Int) j ns room) r := by
  induction d with
  | zero =>
    intro j acc h0 hj hd ha hal
    rw [List.drop_eq_nil_iff.mpr (by omega)] at ha
    have ha : acc = rowOf L n := by rw [← ha]; simp [rowOf]
    subst ha
    exact Ev.step (fun k => by rw [spec_l7Groups.l1, if_neg (by omega)]) hc
  | succ d ih =>
    intro j acc h0 hj hd ha hal
    have hlt : j < (L.length : Int) := by omega
    have hm := getD_mem L z75 j h0 hlt
    rw [drop_list L z75 j h0 hlt] at ha
    refine Ev.step (fun k => by rw [spec_l7Groups.l1, if_pos hlt, if_pos h0, if_pos (by rw [List.length_map]; exact hlt), at_map L j h0 hlt, wrap_id (x := j + 1) (by omega) (by omega)]) (ev_bind (a := (rd_T75 L j).f1) (hat _ hm) ?_)
    by_cases h : (rd_T75 L j).f1 = n
    · refine ev_pos h (ev_pos (by omega) (ih (j + 1) _ (by omega) (by omega) (by omega) ?_ (by rw [List.length_append]; simp; omega)))
      rw [← ha, List.append_assoc]
      congr 1
      exact (rowOf_pos (L.getD j.toNat z75) _ n h).symm
    · refine ev_neg h (ih (j + 1) acc (by omega) (by omega) (by omega) ?_ (by omega))
      rw [← ha]
      congr 1
      exact (rowOf_neg (L.getD j.toNat z75) _ n h).symm
theorem spec_groups_loop (ns : List S65) (room a : Int) (L : List S75) (hl : L.length ≤ 41943041) (hw : ∀ w ∈ L, 0 ≤ w.f1 ∧ w.f1 < (ns.length : Int)) (hat : ∀ w ∈ L, Ev (fun k => spec_l7At.f k ns room a w.f0) w.f1) (d : Nat) :
    ∀ (j : Int) (D : List Int) (out : List (List ByteArray)), 0 ≤ j → j ≤ L.length → (L.length : Int) - j = d → (∀ n, n ∈ D ↔ n ∈ (gr_at ns (L.take j.toNat)).1) → (D.length : Int) ≤ j → out = ((gr_at ns (L.take j.toNat)).1.map (rowOf L)).filter big →
    Ev (fun k => spec_l7Groups.l0 k a out D (L.map (·.f0)) (L.map (·.f0)) (L.length : Int) j ns room) (((gr_at ns L).1.map (rowOf L)).filter big) := by
  induction d with
  | zero =>
    intro j D out h0 hj hd hD hDl ho
    rw [List.take_of_length_le (by omega)] at ho
    exact Ev.step (fun k => by rw [spec_l7Groups.l0, if_neg (by omega)]) (ev_some ho)
  | succ d ih =>
    intro j D out h0 hj hd hD hDl ho
    have hlt : j < (L.length : Int) := by omega
    have hjl : j.toNat < L.length := by omega
    have hm := getD_mem L z75 j h0 hlt
    have hb : 0 ≤ (rd_T75 L j).f1 ∧ (rd_T75 L j).f1 < (ns.length : Int) := hw _ hm
    have hst : gr_at ns (L.take (j + 1).toNat) = gr_step ns (gr_at ns (L.take j.toNat)) (rd_T75 L j) := by
      rw [← gr_snoc]
      congr 1
      rw [show (j + 1).toNat = j.toNat + 1 by omega, List.take_add_one, List.getElem?_eq_getElem hjl]
      show _ = L.take j.toNat ++ [L.getD j.toNat z75]
      rw [List.getD_eq_getElem?_getD, List.getElem?_eq_getElem hjl]; rfl
    have hlen := (gr_len ns (L.take j.toNat)).2
    rw [List.length_take] at hlen
    generalize gr_at ns (L.take j.toNat) = st at hD ho hst hlen
    have hol : out.length ≤ 41943041 := by
      rw [ho]
      have := List.length_filter_le big (st.1.map (rowOf L))
      rw [List.length_map] at this
      omega
    have hnext : ∀ (D' : List Int) (out' : List (List ByteArray)), (∀ n, n ∈ D' ↔ n ∈ (gr_step ns st (rd_T75 L j)).1) → (D'.length : Int) ≤ j + 1 → out' = ((gr_step ns st (rd_T75 L j)).1.map (rowOf L)).filter big →
        Ev (fun k => spec_l7Groups.l0 k a out' D' (L.map (·.f0)) (L.map (·.f0)) (L.length : Int) (j + 1) ns room) (((gr_at ns L).1.map (rowOf L)).filter big) := fun D' out' h1 h2 h3 => ih (j + 1) D' out' (by omega) (by omega) (by omega) (by rw [hst]; exact h1) h2 (by rw [hst]; exact h3)
    have hrd := at_map L j h0 hlt
    have hax : Ev (fun k => spec_l7At.f k ns room a (rd_T75 L j).f0) (rd_T75 L j).f1 := hat _ hm
    generalize rd_T75 L j = x at hb hnext hrd hax
    have hw1 : wrap64 (j + 1) = j + 1 := wrap_id (by omega) (by omega)
    refine Ev.step (fun k => by rw [spec_l7Groups.l0, if_pos hlt, if_pos h0, if_pos (by rw [List.length_map]; exact hlt), hrd]) (ev_bind hax (ev_pos hb.1 (ev_pos hb.2 ?_)))
    by_cases hdir : (rd_T65 ns x.f1).f0 = 2
    · have hs : gr_step ns st x = st := by unfold gr_step; rw [if_pos hdir]
      rw [hs] at hnext
      exact ev_pos hdir (Ev.step (fun k => by rw [spec_l7Groups.j1, if_pos rfl, hw1]) (hnext D out hD (by omega) ho))
    · obtain ⟨q, hq, eq⟩ := spec_l1Has.is D x.f1 (by omega)
      refine ev_neg hdir (ev_bind hq ?_)
      cases q with
      | true =>
        have hin := (hD _).1 (eq.1 rfl)
        have hs : (gr_step ns st x).1 = st.1 := by unfold gr_step; rw [if_neg hdir, if_pos hin]
        rw [hs] at hnext
        exact Ev.step (fun k => by rw [spec_l7Groups.j1, if_pos rfl, hw1]) (hnext D out hD (by omega) ho)
      | false =>
        have hnin : x.f1 ∉ D := fun h => by have := eq.2 h; cases this
        have hin : x.f1 ∉ st.1 := fun h => hnin ((hD _).2 h)
        have hs : (gr_step ns st x).1 = st.1 ++ [x.f1] := by unfold gr_step; rw [if_neg hdir, if_neg hin]
        rw [hs] at hnext
        have hp := @put_length_le x.f1 D
        have hpm : ∀ n, n ∈ put D x.f1 ↔ n ∈ st.1 ++ [x.f1] := fun n => by
          rw [mem_put, List.mem_append, List.mem_singleton, hD n]; exact Or.comm
        refine Ev.step (fun k => by rw [spec_l7Groups.j1, if_neg (by simp), List.length_map]) (ev_bind (spec_l1Put.is D x.f1 (by omega)) ?_)
        refine spec_row_loop ns room a x.f1 L hl hat out _ (put D x.f1) j ?_ L.length 0 [] (by omega) (by omega) (by omega) (by simp) (by simp)
        rw [hw1]
        by_cases hbig : ((rowOf L x.f1).length : Int) > 1
        · refine ev_pos hbig (ev_pos (by omega) (hnext _ _ hpm (by omega) ?_))
          rw [List.map_append, List.filter_append, ← ho]
          congr 1
          show _ = List.filter big [rowOf L x.f1]
          rw [List.filter_cons_of_pos (by unfold big; simp; omega)]; rfl
        · refine ev_neg hbig (hnext _ _ hpm (by omega) ?_)
          rw [List.map_append, List.filter_append, ← ho]
          show _ = out ++ List.filter big [rowOf L x.f1]
          rw [List.filter_cons_of_neg (by unfold big; simp; omega)]; simp
theorem GroupsIn.same (ns : List S65) (room a : Int) (hn' : ns.length ≤ 1048576) (hs : ∀ v ∈ ns, Small1 v) : ∃ (v : List (List ByteArray)) (b : Bool), Ev (fun k => spec_GroupsIn.f k ns room a) (v, b) ∧ Ev (fun k => impl_GroupsIn.f k ns room a) (v, b) ∧ v.length ≤ 41943041 ∧ v.flatten.length ≤ 41943041 := by
  rcases ways_at ns room a hn' hs with ⟨h1, h2⟩ | ⟨h1, h2, hg, h0, hlt, _, hrn, d, _, _, h⟩
  · exact ⟨[], false, ev_bind h1 (ev_neg (by simp) (Ev.now _)), ev_bind h2 (ev_neg (by simp) (Ev.now _)), by simp, by simp⟩
  · obtain ⟨h3, h4, hl, hw⟩ := h false
    have hat : ∀ w ∈ wl ns false d (⟨#[46]⟩ : ByteArray) a, Ev (fun k => spec_l7At.f k ns room a w.f0) w.f1 := fun w hm => spec_l7At.is hs hg hrn h0 hlt hm (hw w hm).1
    generalize wl ns false d (⟨#[46]⟩ : ByteArray) a = L at h3 h4 hl hw hat
    have hsp := spec_groups_loop ns room a L hl (fun w hm => (hw w hm).2) hat L.length 0 [] [] (by omega) (by omega) (by omega) (fun n => by simp [gr_at]) (by simp) (by simp [gr_at])
    have hgr := GR.at ns L
    have hgl := gr_len ns L
    have hfl := gr_flat ns L ([], [])
    have hff := filter_flat big (gr_at ns L).2
    rw [← hgr.rows] at hsp
    have hfl2 : (gr_at ns L).2.flatten.length ≤ L.length := by simpa [gr_at] using hfl
    have hl2 := List.length_filter_le big (gr_at ns L).2
    refine ⟨(gr_at ns L).2.filter big, true, ev_bind h1 (ev_pos rfl (ev_bind (ev_bind h3 ?_) (Ev.now _))), ev_bind h2 (ev_pos rfl (ev_bind (ev_bind h4 (ev_pos ⟨hl, by omega, fun w hm => (hw w hm).2⟩ (Ev.now _))) (ev_pos (show ((gr_at ns L).2.filter big).length ≤ 41943041 by omega) (Ev.now _)))), by omega, by omega⟩
    rw [List.length_map]; exact hsp
noncomputable def marksSS : List (List ByteArray) → Int → List (List ByteArray)
  | [], _ => []
  | x :: l, a => marksS x.length a :: marksSS l (a + x.length)
theorem marksSS_length : ∀ (l : List (List ByteArray)) (a : Int), (marksSS l a).length = l.length
  | [], _ => rfl
  | x :: l, a => by rw [marksSS, List.length_cons, List.length_cons, marksSS_length l]
theorem laws_markStringSS.loop : ∀ (suf pre : List (List ByteArray)) (a : Int), (pre.length + suf.length ≤ 41943041) → 0 ≤ a → a + (suf.flatten.length : Int) ≤ 100000000 →
    Ev (fun k => laws_markStringSS.l0 k (pre ++ suf) a (pre.length : Int)) (a + (suf.flatten.length : Int), pre ++ marksSS suf a)
  | [], pre, a, h1, h3, h4 => by
    refine Ev.step (fun k => by rw [laws_markStringSS.l0, if_neg (by simp)]) (ev_some (by simp [marksSS]))
  | x :: suf, pre, a, h1, h3, h4 => by
    rw [List.flatten_cons, List.length_append] at h4
    have hlen : ((pre ++ x :: suf).length : Int) = (pre.length : Int) + (suf.length : Int) + 1 := by rw [List.length_append, List.length_cons]; omega
    have hg : (pre ++ x :: suf).getD ((pre.length : Int)).toNat [] = x := by simp
    have hs : ∀ y, (pre ++ x :: suf).set ((pre.length : Int)).toNat y = (pre ++ [y]) ++ suf := fun y => by simp
    refine Ev.step (fun k => by rw [laws_markStringSS.l0, if_pos (by omega), if_pos (by omega), hg]) (ev_bind (laws_markStringS.is x (by omega) a h3 (by omega)) ?_)
    simp only []
    rw [List.length_cons] at h1
    rw [hs, wrap_id (x := (pre.length : Int) + 1) (by omega) (by omega)]
    have ih := laws_markStringSS.loop suf (pre ++ [marksS x.length a]) (a + (x.length : Int)) (by rw [List.length_append, List.length_singleton]; omega) (by omega) (by omega)
    rw [show ((pre ++ [marksS x.length a]).length : Int) = (pre.length : Int) + 1 from by simp] at ih
    refine ev_eq ih ?_
    rw [List.flatten_cons, List.length_append, marksSS]
    simp only [Prod.mk.injEq, List.append_assoc, List.singleton_append, and_true]
    omega
theorem laws_markStringSS.is (l : List (List ByteArray)) (hl : l.length ≤ 41943041) (hf : l.flatten.length ≤ 41943041) : Ev (fun k => laws_markStringSS.f k l 1) (1 + (l.flatten.length : Int), marksSS l 1) :=
  laws_markStringSS.loop l [] 1 (by simpa using hl) (by omega) (by omega)
theorem laws_heldStringSS.loop : ∀ (suf pre : List (List ByteArray)) (a : Int), (pre.length + suf.length ≤ 41943041) → 0 ≤ a → a + (suf.flatten.length : Int) ≤ 100000000 →
    Ev (fun k => laws_heldStringSS.l0 k (pre ++ marksSS suf a) a (pre.length : Int)) (a + (suf.flatten.length : Int))
  | [], pre, a, h1, h3, h4 => by
    refine Ev.step (fun k => by rw [laws_heldStringSS.l0, if_neg (by simp [marksSS])]) (ev_some (by simp))
  | x :: suf, pre, a, h1, h3, h4 => by
    rw [List.flatten_cons, List.length_append] at h4
    rw [List.length_cons] at h1
    rw [marksSS]
    have hlen : ((pre ++ marksS x.length a :: marksSS suf (a + (x.length : Int))).length : Int) = (pre.length : Int) + (suf.length : Int) + 1 := by rw [List.length_append, List.length_cons, marksSS_length]; omega
    have hg : rd_L8 (pre ++ marksS x.length a :: marksSS suf (a + (x.length : Int))) (pre.length : Int) = marksS x.length a := by unfold rd_L8; simp
    refine Ev.step (fun k => by rw [laws_heldStringSS.l0, if_pos (by omega), if_pos (by omega), hg]) (ev_bind (laws_heldStringS.is x.length (by omega) a h3 (by omega)) (ev_neg (show ¬ (a + (x.length : Int)) < 0 by omega) ?_))
    rw [wrap_id (x := (pre.length : Int) + 1) (by omega) (by omega)]
    have ih := laws_heldStringSS.loop suf (pre ++ [marksS x.length a]) (a + (x.length : Int)) (by rw [List.length_append, List.length_singleton]; omega) (by omega) (by omega)
    rw [show ((pre ++ [marksS x.length a]).length : Int) = (pre.length : Int) + 1 from by simp, List.append_assoc, List.singleton_append] at ih
    refine ev_eq ih ?_
    rw [List.flatten_cons, List.length_append]
    omega
theorem laws_heldStringSS.is (l : List (List ByteArray)) (hl : l.length ≤ 41943041) (hf : l.flatten.length ≤ 41943041) : Ev (fun k => laws_heldStringSS.f k (marksSS l 1) 1) (1 + (l.flatten.length : Int)) :=
  laws_heldStringSS.loop l [] 1 (by simpa using hl) (by omega) (by omega)
theorem laws_eqStringSS.loop (l : List (List ByteArray)) (hl : l.length ≤ 41943041) (hf : l.flatten.length ≤ 41943041) (d : Nat) : ∀ i : Int, 0 ≤ i → i ≤ l.length → (l.length : Int) - i = d → Ev (fun k => laws_eqStringSS.l0 k l l i) true := by
  induction d with
  | zero => intro i h0 h1 hd; exact Ev.step (fun k => by rw [laws_eqStringSS.l0, if_neg (by omega)]) (Ev.now _)
  | succ d ih =>
    intro i h0 h1 hd
    have hlt : i < (l.length : Int) := by omega
    have hm : rd_L8 l i ∈ l := getD_mem l [] i h0 hlt
    have := flat_row hm
    exact Ev.step (fun k => by rw [laws_eqStringSS.l0, if_pos hlt, if_pos h0, if_pos hlt, wrap_id (x := i + 1) (by omega) (by omega)]) (ev_bind (laws_eqStringS.same _ (by omega)) (ev_pos rfl (ih (i + 1) (by omega) (by omega) (by omega))))
theorem laws_eqStringSS.same (l : List (List ByteArray)) (hl : l.length ≤ 41943041) (hf : l.flatten.length ≤ 41943041) : Ev (fun k => laws_eqStringSS.f k l l) true := ev_pos rfl (laws_eqStringSS.loop l hl hf l.length 0 (by omega) (by omega) (by omega))
theorem law (A0 : Option Addr) (c0 : Nat) (l0 : List S61) (a0 a1 : Int) (w : World) (hr0 : Kd.C k61 w A0 l0.length l0) (hc0 : l0.length ≤ c0) (ha : (l0.length ≤ 9223372036854775807 ∧ ∀ e1_ ∈ l0, ((Lit.int .i64 e1_.f0).wf = true ∧ ((Lit.int .i64 e1_.f1).wf = true ∧ ((Lit.int .i64 e1_.f2).wf = true ∧ ((Lit.int .i64 e1_.f3).wf = true ∧ ((Lit.int .i64 e1_.f4).wf = true ∧ (e1_.f5.size ≤ 9223372036854775807 ∧ (e1_.f6.length ≤ 9223372036854775807 ∧ ∀ e2_ ∈ e1_.f6, (e2_.f0.size ≤ 9223372036854775807 ∧ (Lit.int .i64 e2_.f1).wf = true)))))))))) :
    Calls Tryz.prog 4 #[.agg #[.slice A0 l0.length c0, .int .i64 a0], .int .i64 a1] w fun e w' => e = .returned (.bool true) ∧ Below w.heap.size w w' := by
  obtain ⟨r, ⟨K1, hr⟩, e⟩ := laws_szFs.is l0 a0 ha.1 (fun x hx => ⟨(ha.2 x hx).2.2.2.2.2.1, (ha.2 x hx).2.2.2.2.2.2.1, fun y hy => ((ha.2 x hx).2.2.2.2.2.2.2 y hy).1⟩) 1048576 (by omega) (by omega)
  rcases e with e | ⟨e1, e2, e3, e4⟩
  · exact law_neg K1 A0 c0 l0 a0 a1 r w hr0 hc0 (hr K1 (Nat.le_refl _)) e
  obtain ⟨K2, h2⟩ := laws_toFs.is l0 a0 e3 e4
  have oa := nodC_ok e4
  have sa := small_of e4
  have la : (l0.map nodC).length ≤ 1048576 := by rw [List.length_map]; omega
  generalize l0.map nodC = A at h2 oa sa la
  obtain ⟨v, b, ⟨K3, h3⟩, ⟨K4, h4⟩, hl, hf⟩ := GroupsIn.same A a0 a1 la sa
  obtain ⟨K5, h5⟩ := laws_eqStringSS.same v hl hf
  obtain ⟨K6, h6⟩ := laws_eqFs.same A a0 (by omega) oa
  obtain ⟨km, ⟨K7, h7⟩, hk0⟩ := laws_markFs.is A a0 la (fun v hv => (sa v hv).2.1)
  obtain ⟨K8, h8⟩ := laws_markStringSS.is v hl hf
  obtain ⟨K9, h9⟩ := laws_heldStringSS.is v hl hf
  exact law_true (K1 + K2 + K3 + K4 + K5 + K6 + K7 + K8 + K9) A0 c0 l0 a0 a1 r km _ A a0 v _ b w hr0 hc0 (hr _ (by omega)) (by omega) (h2 _ (by omega)) (h3 _ (by omega)) (h4 _ (by omega)) (h5 _ (by omega)) (h6 _ (by omega)) (h7 _ (by omega)) (by omega) (h8 _ (by omega)) (h9 _ (by omega)) (by omega)
end Go.Proofs.YtdjceippnokimaaGreatDoor.PGrp
