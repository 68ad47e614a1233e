/- The node of a way, by its names: what the reference looks up is the way's own node. No condition. -/
import Derived.Test.YtdjceippnokimaaGreatDoorWalks
import Derived.Test.YtdjceippnokimaaGreatDoorPSatx25
namespace Go.Proofs.YtdjceippnokimaaGreatDoor.PSat
open Go.RowKit Go.Proofs.YtdjceippnokimaaGreatDoorW.PrintWords Go.Proofs.YtdjceippnokimaaGreatDoorW.PrintLast Go.Proofs.YtdjceippnokimaaGreatDoorW.PrintMore Go.Proofs.YtdjceippnokimaaGreatDoor.Aid Go.Proofs.YtdjceippnokimaaGreatDoor.AllLoop Go.Proofs.YtdjceippnokimaaGreatDoor.Loops Go.Proofs.YtdjceippnokimaaGreatDoor.Put Go.Proofs.YtdjceippnokimaaGreatDoor.Graph
set_option linter.unusedSimpArgs false
set_option linter.unusedVariables false
theorem bl_irr : ∀ l : List UInt8, Op.bytesLess l l = false
  | [] => rfl
  | a :: l => by rw [Op.bytesLess, bl_irr l]; simp
theorem bl_trans : ∀ {a b c : List UInt8}, Op.bytesLess a b = true → Op.bytesLess b c = true → Op.bytesLess a c = true
  | _, _, [], _, h => by simp [Op.bytesLess] at h
  | [], _, _ :: _, _, _ => rfl
  | _ :: _, [], _ :: _, h, _ => by simp [Op.bytesLess] at h
  | x :: a, y :: b, z :: c, h, k => by
    simp only [Op.bytesLess, Bool.or_eq_true, Bool.and_eq_true, decide_eq_true_eq, beq_iff_eq] at h k ⊢
    rcases h with h | ⟨h1, h2⟩
    · rcases k with k | ⟨k1, k2⟩
      · exact .inl (UInt8.lt_trans h k)
      · exact .inl (k1 ▸ h)
    · rcases k with k | ⟨k1, k2⟩
      · exact .inl (h1 ▸ k)
      · exact .inr ⟨h1.trans k1, bl_trans h2 k2⟩
theorem less_far {l : List S104} (h : ∀ i : Int, 0 < i → i < (l.length : Int) → Less l i = true) : ∀ (d i : Nat), i + d + 1 < l.length → Op.bytesLess (r104 l (i : Int)).f0.toList (r104 l ((i + d + 1 : Nat) : Int)).f0.toList = true
  | 0, i, hl => by
    have := h ((i + 0 + 1 : Nat) : Int) (by omega) (by omega)
    unfold Less at this
    rwa [show ((i + 0 + 1 : Nat) : Int) - 1 = (i : Int) by omega] at this
  | d + 1, i, hl => by
    have h1 := less_far h d i (by omega)
    have := h ((i + (d + 1) + 1 : Nat) : Int) (by omega) (by omega)
    unfold Less at this
    rw [show ((i + (d + 1) + 1 : Nat) : Int) - 1 = ((i + d + 1 : Nat) : Int) by omega] at this
    exact bl_trans h1 this
def Rises (l : List S104) : Prop := ∀ i j : Nat, i < j → j < l.length → (r104 l (i : Int)).f0.toList ≠ (r104 l (j : Int)).f0.toList
theorem rises_of {l : List S104} (h : ∀ i : Int, 0 < i → i < (l.length : Int) → Less l i = true) : Rises l := fun i j hij hj e => by
  have := less_far h (j - i - 1) i (by omega)
  rw [show i + (j - i - 1) + 1 = j by omega, e, bl_irr] at this
  cases this
theorem rises_in {ns : List S65} {lo : Int} (h1 : All1 lo ns) : ∀ v ∈ ns, Rises v.f6 := fun v hv => by
  have hg := all_mem h1 v hv
  by_cases h0 : v.f0 = 0
  · have := (hg.1 h0).2.2.2.2.2; exact fun i j hij hj => absurd hj (by omega)
  · rcases (hg.2 h0).2.2.2.2 with h' | h' | h'
    · exact fun i j hij hj => absurd hj (by omega)
    · exact rises_of (fun i hi hl => (h'.2.2 i (by omega) hl).2.1 hi)
    · exact fun i j hij hj => absurd hj (by omega)
theorem spec_l3At.loop (l : List S104) (hl : l.length ≤ 1048576) (hu : Rises l) (n : Nat) (hn : n < l.length) (d : Nat) : ∀ i : Int, 0 ≤ i → i ≤ n → (n : Int) - i = d → Ev (fun k => spec_l3At.l0 k (r104 l (n : Int)).f0 l (l.length : Int) i) (r104 l (n : Int)).f1 := by
  induction d with
  | zero =>
    intro i h0 hi hd
    obtain rfl : i = (n : Int) := by omega
    exact Ev.step (fun k => by rw [spec_l3At.l0, if_pos (by omega), if_pos h0, if_pos (by omega), if_pos rfl]) (Ev.now _)
  | succ d ih =>
    intro i h0 hi hd
    have hne := hu i.toNat n (by omega) hn
    rw [show ((i.toNat : Nat) : Int) = i by omega] at hne
    refine Ev.step (fun k => by rw [spec_l3At.l0, if_pos (by omega), if_pos h0, if_pos (by omega), if_neg hne, wrap_id (x := i + 1) (by omega) (by omega)]) ?_
    exact ih (i + 1) (by omega) (by omega) (by omega)
theorem spec_l3At.is (l : List S104) (hl : l.length ≤ 1048576) (hu : Rises l) {e : S104} (he : e ∈ l) : Ev (fun k => spec_l3At.f k l e.f0) e.f1 := by
  obtain ⟨n, hn, en⟩ := List.mem_iff_getElem.1 he
  have e' : r104 l (n : Int) = e := by
    show l.getD (n : Int).toNat z104 = e
    rw [List.getD_eq_getElem?_getD, show (n : Int).toNat = n by omega, List.getElem?_eq_getElem hn]; exact en
  have := spec_l3At.loop l hl hu n hn n 0 (by omega) (by omega) (by omega)
  rw [e'] at this
  exact this
theorem segs_apps : ∀ (a b : List UInt8), segs (a ++ 47 :: b) = segs a ++ segs b
  | [], b => by rw [List.nil_append, segs_slash]; rfl
  | c :: a, b => by
    by_cases hc : c = 47
    · subst hc; rw [List.cons_append, segs_slash, segs_slash, segs_apps a b]; rfl
    · obtain ⟨x, t, h1, h2⟩ := segs_cons c a hc
      obtain ⟨x', t', h3, h4⟩ := segs_cons c (a ++ 47 :: b) hc
      rw [segs_apps a b, h1, List.cons_append, List.cons.injEq] at h3
      rw [List.cons_append, h4, h2, ← h3.1, ← h3.2]; rfl
def names (s : ByteArray) : List ByteArray := (parts s).filter fun p => decide (p.toList ≠ [46])
theorem names_one {nm : ByteArray} (h : nameB nm = true) : names nm = [nm] ∧ nm.toList ≠ [46] := by
  unfold nameB partB dotsB at h
  rw [Bool.and_eq_true, Bool.and_eq_true, decide_eq_true_iff] at h
  obtain ⟨⟨h1, h2⟩, h3⟩ := h
  have hn : 47 ∉ nm.toList := fun hm => by
    rw [bytesOf_eq, nb_all, List.all_eq_true] at h2
    have := h2 47 hm
    revert this; decide
  have hne : nm.toList ≠ [46] := fun e => by rw [e] at h3; revert h3; decide
  have hz : nm.toList ≠ [] := fun e => by rw [size_eq, e] at h1; simp at h1
  refine ⟨?_, hne⟩
  unfold names parts pieces
  rw [segs_none _ hn, List.map_cons, List.map_nil, mk_toList, List.filter_cons, if_pos (by simpa using hz), List.filter_nil, List.filter_cons, if_pos (by simpa using hne), List.filter_nil]
theorem names_dot : names (⟨#[46]⟩ : ByteArray) = [] := by
  unfold names parts pieces
  rw [show (⟨#[46]⟩ : ByteArray).toList = [46] from toList_mk [46], segs_none [46] (by decide)]
  simp [toList_mk]
theorem names_below {p nm : ByteArray} (h : nameB nm = true) : names (belowT p nm) = names p ++ [nm] := by
  obtain ⟨h1, _⟩ := names_one h
  unfold belowT
  by_cases hp : p.toList = [46]
  · rw [if_pos hp, h1, show p = (⟨#[46]⟩ : ByteArray) from eq_of_toList (by rw [hp]; exact (toList_mk [46]).symm), names_dot]; rfl
  · rw [if_neg hp]
    have e : ((p ++ (⟨#[47]⟩ : ByteArray)) ++ nm).toList = p.toList ++ 47 :: nm.toList := by rw [toList_append, toList_append, show (⟨#[47]⟩ : ByteArray).toList = [47] from toList_mk [47]]; simp
    have e2 : pieces ((p ++ (⟨#[47]⟩ : ByteArray)) ++ nm) = pieces p ++ pieces nm := by unfold pieces; rw [e, segs_apps, List.map_append]
    rw [← h1]
    unfold names parts
    rw [e2, List.filter_append, List.filter_append]
def Chain (ns : List S65) : Int → List ByteArray → Int → Prop
  | a, [], x => a = x
  | a, q :: qs, x => 0 ≤ a ∧ a < (ns.length : Int) ∧ ∃ e ∈ (r65 ns a).f6, e.f0 = q ∧ Chain ns e.f1 qs x
theorem wl_chain (ns : List S65) (b : Bool) (hr : ∀ v ∈ ns, ∀ e ∈ v.f6, (0 ≤ e.f1 ∧ e.f1 < (ns.length : Int)) ∧ nameB e.f0 = true) : ∀ (d : Nat) (p : ByteArray) (a : Int), 0 ≤ a → a < (ns.length : Int) → ∀ w ∈ wl ns b d p a, ∃ qs, names w.f0 = names p ++ qs ∧ Chain ns a qs w.f1
  | 0, p, a, _, _, w, hw => by
    rw [wl, List.mem_singleton] at hw; rw [hw]; exact ⟨[], by simp, rfl⟩
  | d + 1, p, a, h0, h1, w, hw => by
    rw [wl, wk_mem, List.mem_flatMap] at hw
    rcases hw with rfl | ⟨e, he, hw⟩
    · exact ⟨[], by simp, rfl⟩
    · have h := hr _ (nd_mem ns a h0 h1) e he
      obtain ⟨qs, e1, e2⟩ := wl_chain ns b hr d _ _ h.1.1 h.1.2 w hw
      exact ⟨e.f0 :: qs, by rw [e1, names_below h.2, List.append_assoc]; rfl, h0, h1, e, he, rfl, e2⟩
theorem spec_l7At.loop (ns : List S65) (room : Int) (hs : ∀ v ∈ ns, v.f6.length ≤ 1048576) (hu : ∀ v ∈ ns, Rises v.f6) (l : List ByteArray) (hl : l.length ≤ 1000000) (y : Int) (d : Nat) : ∀ (j x : Int), 0 ≤ j → j ≤ l.length → (l.length : Int) - j = d → Chain ns x ((l.drop j.toNat).filter fun p => decide (p.toList ≠ [46])) y → Ev (fun k => spec_l7At.l0 k x l (l.length : Int) j ns room) y := by
  induction d with
  | zero =>
    intro j x h0 hj hd hc
    rw [List.drop_eq_nil_iff.mpr (by omega)] at hc
    obtain rfl : x = y := hc
    exact Ev.step (fun k => by rw [spec_l7At.l0, if_neg (by omega)]) (Ev.now _)
  | succ d ih =>
    intro j x h0 hj hd hc
    have hlt : j < (l.length : Int) := by omega
    rw [rdOf_drop l j h0 hlt, List.filter_cons] at hc
    refine Ev.step (fun k => by rw [spec_l7At.l0, if_pos hlt, if_pos h0, if_pos hlt, wrap_id (x := j + 1) (by omega) (by omega)]) ?_
    by_cases h : (rdOf ByteArray.empty l j).toList = [46]
    · rw [if_neg (by simpa using h)] at hc
      exact ev_pos h (ih (j + 1) x (by omega) (by omega) (by omega) hc)
    · rw [if_pos (by simpa using h)] at hc
      obtain ⟨a0, a1, e, he, e1, e2⟩ := hc
      have hm := nd_mem ns x a0 a1
      refine ev_neg h (ev_pos a0 (ev_pos a1 (ev_bind (a := e.f1) ?_ (ih (j + 1) _ (by omega) (by omega) (by omega) e2))))
      rw [← e1]
      exact spec_l3At.is _ (hs _ hm) (hu _ hm) he
theorem spec_l7At.is {ns : List S65} {room a : Int} {b : Bool} {d : Nat} (hs : ∀ v ∈ ns, Small1 v) (hg : SpecGood ns room) (hr : ∀ v ∈ ns, ∀ e ∈ v.f6, (0 ≤ e.f1 ∧ e.f1 < (ns.length : Int)) ∧ nameB e.f0 = true) (h0 : 0 ≤ a) (h1 : a < (ns.length : Int)) {w : S75} (hw : w ∈ wl ns b d (⟨#[46]⟩ : ByteArray) a) (hz : w.f0.size ≤ 1000) : Ev (fun k => spec_l7At.f k ns room a w.f0) w.f1 := by
  obtain ⟨qs, e1, e2⟩ := wl_chain ns b hr d _ a h0 h1 w hw
  rw [names_dot, List.nil_append] at e1
  have hp := parts_length w.f0
  refine ev_bind (spec_l2Parts.is w.f0 (by omega)) (spec_l7At.loop ns room (fun v hv => (hs v hv).2.1) (rises_in hg.2.1) (parts w.f0) (by omega) w.f1 (parts w.f0).length 0 a (by omega) (by omega) (by omega) ?_)
  rw [show (0 : Int).toNat = 0 from rfl, List.drop_zero]
  show Chain ns a (names w.f0) w.f1
  rw [e1]; exact e2
end Go.Proofs.YtdjceippnokimaaGreatDoor.PSat
namespace Go.Proofs.YtdjceippnokimaaGreatDoor.PSat
open Go.RowKit Go.Proofs.YtdjceippnokimaaGreatDoorW.PrintWords Go.Proofs.YtdjceippnokimaaGreatDoorW.PrintLast Go.Proofs.YtdjceippnokimaaGreatDoorW.PrintMore Go.Proofs.YtdjceippnokimaaGreatDoor.Aid
set_option linter.unusedSimpArgs false
set_option linter.unusedVariables false
def num (n : Int) : ByteArray := ⟨(Lib.itoa n).toArray⟩
theorem arr_toList (l : List UInt8) : (⟨l.toArray⟩ : ByteArray).toList = l := ByteArray.toList_mk l
theorem app_toList (a b : ByteArray) : (a ++ b).toList = a.toList ++ b.toList := by
  rw [ByteArray.toList_eq, ByteArray.toList_eq, ByteArray.toList_eq, ByteArray.data_append, Array.toList_append]
theorem dec_len : ∀ u : Nat, (Lib.decDigits u).length ≤ u + 1 := by
  intro u
  induction u using Nat.strongRecOn with
  | _ u ih =>
    rw [Lib.decDigits]
    split
    · simp
    · rw [List.length_append, List.length_singleton]
      have := ih (u / 10) (by omega)
      omega
theorem num_nonneg {n : Int} (h : 0 ≤ n) : num n = ⟨(Lib.decDigits n.toNat).toArray⟩ := by unfold num Lib.itoa; rw [if_neg (by omega)]
theorem num_size {n : Int} (h : 0 ≤ n) : ((num n).size : Int) ≤ n + 1 := by
  rw [num_nonneg h, size_eq, arr_toList]
  have := dec_len n.toNat; omega
theorem one_digit : ∀ d : Fin 10, strOfNums [((48 : Int) + (d.val : Int)) % 256] = (⟨#[UInt8.ofNat (48 + d.val)]⟩ : ByteArray) := by decide +kernel
theorem digit {d : Int} (h0 : 0 ≤ d) (h1 : d < 10) : strOfNums [(wrap64 (48 + d)) % 256] = (⟨#[UInt8.ofNat (48 + d.toNat)]⟩ : ByteArray) := by
  rw [wrap_id (by omega) (by omega)]
  obtain ⟨m, rfl⟩ := Int.eq_ofNat_of_zero_le h0
  exact one_digit ⟨m, by omega⟩
theorem spec_l1Num.is (u : Nat) : ∀ n : Int, 0 ≤ n → n ≤ 9223372036854775000 → n.toNat = u → Ev (fun k => spec_l1Num.f k n) (num n) := by
  induction u using Nat.strongRecOn with
  | _ u ih =>
    intro n h0 h1 hu
    by_cases h : n < 10
    · refine Ev.step (fun k => by rw [spec_l1Num.f, if_pos h]) (ev_some ?_)
      rw [digit h0 h, num_nonneg h0, Lib.decDigits, dif_pos (by omega)]
    · have e : Int.tdiv n 10 = n / 10 := Int.tdiv_eq_ediv_of_nonneg h0
      have em : Int.tmod n 10 = n % 10 := Int.tmod_eq_emod_of_nonneg h0
      have hq : wrap64 (Int.tdiv n 10) = n / 10 := by rw [e, wrap_id (by omega) (by omega)]
      have hd : strOfNums [(wrap64 (48 + (Int.tmod n 10))) % 256] = (⟨#[UInt8.ofNat (48 + (n % 10).toNat)]⟩ : ByteArray) := by
        rw [em]; exact digit (by omega) (by omega)
      have hz := num_size (n := n / 10) (by omega)
      have h1z : (strOfNums [(wrap64 (48 + (Int.tmod n 10))) % 256]).size = 1 := by rw [hd]; rfl
      have hc : (num (n / 10)).size + (strOfNums [(wrap64 (48 + (Int.tmod n 10))) % 256]).size ≤ 9223372036854775807 := by rw [h1z]; omega
      refine Ev.step (fun k => by rw [spec_l1Num.f, if_neg h, hq]) (ev_bind (ih (n / 10).toNat (by omega) (n / 10) (by omega) (by omega) rfl) (ev_bind0 rfl (ev_pos hc (ev_some ?_))))
      rw [hd]
      refine eq_of_toList ?_
      rw [app_toList, num_nonneg h0, num_nonneg (show 0 ≤ n / 10 by omega), arr_toList, arr_toList]
      conv => rhs; rw [Lib.decDigits]
      rw [dif_neg (by omega), show (n / 10).toNat = n.toNat / 10 by omega, show (n % 10).toNat = n.toNat % 10 by omega]
      exact (arr_toList _).symm
end Go.Proofs.YtdjceippnokimaaGreatDoor.PSat
namespace Go.Proofs.YtdjceippnokimaaGreatDoor.PSat
open Go.RowKit Go.Proofs.YtdjceippnokimaaGreatDoorW.PrintWords Go.Proofs.YtdjceippnokimaaGreatDoorW.PrintLast Go.Proofs.YtdjceippnokimaaGreatDoorW.PrintMore Go.Proofs.YtdjceippnokimaaGreatDoor.Aid Go.Proofs.YtdjceippnokimaaGreatDoor.Loops
set_option linter.unusedVariables false
set_option linter.unusedSimpArgs false
theorem signs_all : ∀ n : Fin 512, spec_l1Signs.f 10 (n.val : Int) = impl_modeText.f (n.val : Int) := by decide +kernel
theorem spec_l1Signs.is {x : Int} (h0 : 0 ≤ x) (h1 : x < 512) : Ev (fun k => spec_l1Signs.f k x) (strOfNums (impl_modeText.list x)) := by
  obtain ⟨n, rfl⟩ := Int.eq_ofNat_of_zero_le h0
  exact Ev.of (spec_l1Signs.mono _) (signs_all ⟨n, by omega⟩)
theorem signs_size (x : Int) : (strOfNums (impl_modeText.list x)).size = 9 := by
  unfold impl_modeText.list; rfl
theorem dec_le : ∀ (k u : Nat), 1 ≤ k → u < 10 ^ k → (Lib.decDigits u).length ≤ k
  | 0, _, h, _ => absurd h (by omega)
  | k + 1, u, _, h => by
    rw [Lib.decDigits]
    split
    · simp
    · rename_i h10
      rw [List.length_append, List.length_singleton]
      rcases Nat.eq_zero_or_pos k with rfl | hk
      · simp at h; omega
      · have := dec_le k (u / 10) hk (by rw [Nat.pow_succ] at h; omega)
        omega
theorem num_le {n : Int} (h : 0 ≤ n) (h1 : n ≤ 1000000) : (num n).size ≤ 7 := by
  rw [num_nonneg h, size_eq, arr_toList]
  exact dec_le 7 n.toNat (by omega) (by have : (10 : Nat) ^ 7 = 10000000 := by decide
                                        omega)
theorem sign_same : ∀ d : Fin 4, 1 ≤ d.val → (⟨#[63, 45, 100, 108]⟩ : ByteArray).extract d.val (d.val + 1) = (⟨#[32, 45, 100, 108]⟩ : ByteArray).extract d.val (d.val + 1) ∧ ((⟨#[32, 45, 100, 108]⟩ : ByteArray).extract d.val (d.val + 1)).size = 1 := by decide +kernel
def sg (a : Int) : ByteArray := (⟨#[32, 45, 100, 108]⟩ : ByteArray).extract a.toNat (wrap64 (a + 1)).toNat
theorem sign_eq {a : Int} (h : 1 ≤ a ∧ a ≤ 3) : (⟨#[63, 45, 100, 108]⟩ : ByteArray).extract a.toNat (wrap64 (a + 1)).toNat = sg a ∧ (sg a).size = 1 := by
  unfold sg
  rw [wrap_id (by omega) (by omega), show (a + 1).toNat = a.toNat + 1 by omega]
  exact sign_same ⟨a.toNat, by omega⟩ (by show 1 ≤ a.toNat; omega)
def sp : ByteArray := ⟨#[32]⟩
def nl : ByteArray := ⟨#[10]⟩
def headT (v : S65) (p : ByteArray) : ByteArray := (((((((((sg v.f0 ++ strOfNums (impl_modeText.list v.f1)) ++ sp) ++ num v.f2) ++ sp) ++ num v.f3) ++ sp) ++ num v.f4) ++ sp) ++ p)
def lineT (v : S65) (p : ByteArray) : ByteArray := if v.f0 = 2 then headT v p ++ nl else (headT v p ++ (sp ++ v.f5)) ++ nl
def Fine (v : S65) : Prop := (1 ≤ v.f0 ∧ v.f0 ≤ 3) ∧ (0 ≤ v.f1 ∧ v.f1 ≤ 511) ∧ (0 ≤ v.f2 ∧ v.f2 ≤ 99) ∧ (0 ≤ v.f3 ∧ v.f3 ≤ 99) ∧ (0 ≤ v.f4 ∧ v.f4 ≤ 1000000) ∧ v.f5.size ≤ 1048576
theorem fine_of {lo : Int} {ns : List S65} {v : S65} (h : Good1 lo ns v) (hs : Small1 v) (h0 : v.f0 ≠ 0) : Fine v := by
  obtain ⟨h1, h2, h3, h4, h5⟩ := h.2 h0
  refine ⟨?_, h1, h2, h3, h4, hs.1⟩
  rcases h5 with h5 | h5 | h5 <;> (have := h5.1; omega)
theorem line_size {v : S65} (h : Fine v) {p : ByteArray} (hp : p.size ≤ 1000) : (lineT v p).size ≤ 1060000 := by
  have h1 := (sign_eq h.1).2
  have h2 := signs_size v.f1
  have h3 := num_le h.2.2.1.1 (by have := h.2.2.1.2; omega)
  have h4 := num_le h.2.2.2.1.1 (by have := h.2.2.2.1.2; omega)
  have h5 := num_le h.2.2.2.2.1.1 h.2.2.2.2.1.2
  have h6 := h.2.2.2.2.2
  have e1 : sp.size = 1 := rfl
  have e2 : nl.size = 1 := rfl
  unfold lineT headT
  split <;> (simp only [ByteArray.size_append]; omega)
theorem itoa_num {n : Int} (h0 : 0 ≤ n) (h1 : n ≤ 1000000) : strconv_Itoa.f n = some (num n) := by
  unfold strconv_Itoa.f; rw [if_pos (by omega)]; rfl
theorem kind_is {a : Int} (h : 1 ≤ a ∧ a ≤ 3) : impl_kindSign.f a = some (sg a) := by
  have hw : wrap64 (a + 1) = a + 1 := wrap_id (by omega) (by omega)
  unfold impl_kindSign.f
  rw [if_pos (by omega), if_pos (by rw [hw]; omega), if_pos (by rw [hw]; omega)]; rfl
theorem impl_Fs_wayText.is (ns : List S65) (room n : Int) (p : ByteArray) (h0 : 0 ≤ n) (h1 : n < (ns.length : Int)) (hv : Fine (r65 ns n)) (hp : p.size ≤ 1000) : impl_Fs_wayText.f ns room p n = some (lineT (r65 ns n) p) := by
  unfold impl_Fs_wayText.f
  rw [if_pos h0, if_pos h1]
  generalize r65 ns n = v at hv
  have s1 := (sign_eq hv.1).2
  have s2 := signs_size v.f1
  have s3 := num_le hv.2.2.1.1 (by have := hv.2.2.1.2; omega)
  have s4 := num_le hv.2.2.2.1.1 (by have := hv.2.2.2.1.2; omega)
  have s5 := num_le hv.2.2.2.2.1.1 hv.2.2.2.2.1.2
  have s6 := hv.2.2.2.2.2
  rw [kind_is hv.1, Option.bind_some, show impl_modeText.f v.f1 = some (strOfNums (impl_modeText.list v.f1)) from rfl, Option.bind_some, if_pos (by omega), if_pos (by omega), itoa_num hv.2.2.1.1 (by have := hv.2.2.1.2; omega), Option.bind_some, if_pos (by omega), if_pos (by omega), itoa_num hv.2.2.2.1.1 (by have := hv.2.2.2.1.2; omega), Option.bind_some, if_pos (by omega), if_pos (by omega), itoa_num hv.2.2.2.2.1.1 hv.2.2.2.2.1.2, Option.bind_some, if_pos (by omega), if_pos (by omega), if_pos (by omega)]
  unfold lineT
  by_cases hk : v.f0 = 2
  · rw [if_pos hk, if_pos hk, if_pos (by omega)]; rfl
  · rw [if_neg hk, if_neg hk, if_pos (by omega), if_pos (by omega), if_pos (by omega)]; rfl
def textT (ns : List S65) (l : List S75) (acc : ByteArray) : ByteArray := l.foldl (fun a w => a ++ lineT (r65 ns w.f1) w.f0) acc
theorem impl_tree_go (ns : List S65) (room : Int) : ∀ (l : List S75) (acc : ByteArray) (m : Nat), (∀ w ∈ l, (0 ≤ w.f1 ∧ w.f1 < (ns.length : Int)) ∧ Fine (r65 ns w.f1) ∧ w.f0.size ≤ 1000) → m + l.length ≤ 41943041 → acc.size ≤ m * 1060000 → impl_Fs_treeText.go ns room l acc = some (textT ns l acc)
  | [], acc, m, _, _, _ => rfl
  | w :: l, acc, m, hw, hl, ha => by
    obtain ⟨⟨h0, h1⟩, h2, h3⟩ := hw w (by simp)
    rw [List.length_cons] at hl
    have hz := line_size h2 h3
    rw [impl_Fs_treeText.go, impl_Fs_wayText.is ns room w.f1 w.f0 h0 h1 h2 h3, Option.bind_some, if_pos (by omega)]
    exact impl_tree_go ns room l _ (m + 1) (fun x hx => hw x (by simp [hx])) (by omega) (by rw [ByteArray.size_append]; omega)
theorem spec_l7Text.loop (ns : List S65) (room a : Int) (l : List S75) (hl : l.length ≤ 41943041) (hw : ∀ w ∈ l, (0 ≤ w.f1 ∧ w.f1 < (ns.length : Int)) ∧ Fine (r65 ns w.f1) ∧ w.f0.size ≤ 1000) (hat : ∀ w ∈ l, Ev (fun k => spec_l7At.f k ns room a w.f0) w.f1) (d : Nat) : ∀ (j : Int) (acc : ByteArray), 0 ≤ j → j ≤ l.length → (l.length : Int) - j = d → (acc.size : Int) ≤ j * 1060000 → Ev (fun k => spec_l7Text.l0 k a acc (l.map (·.f0)) (l.length : Int) j ns room) (textT ns (l.drop j.toNat) acc) := by
  induction d with
  | zero =>
    intro j acc h0 hj hd ha
    rw [List.drop_eq_nil_iff.mpr (by omega)]
    exact Ev.step (fun k => by rw [spec_l7Text.l0, if_neg (by omega)]) (Ev.now acc)
  | succ d ih =>
    intro j acc h0 hj hd ha
    have hlt : j < (l.length : Int) := by omega
    have hm := getD_mem l z75 j h0 hlt
    have hrd : rdOf ByteArray.empty (l.map (·.f0)) j = (l.getD j.toNat z75).f0 := by
      unfold rdOf
      have hjl : j.toNat < l.length := by omega
      rw [List.getD_eq_getElem?_getD, List.getD_eq_getElem?_getD, List.getElem?_map, List.getElem?_eq_getElem hjl]; rfl
    rw [drop_list l z75 j h0 hlt]
    generalize l.getD j.toNat z75 = w at hm hrd
    obtain ⟨⟨b0, b1⟩, hv, hp⟩ := hw w hm
    refine Ev.step (fun k => by rw [spec_l7Text.l0, if_pos hlt, if_pos h0, if_pos (by rw [List.length_map]; exact hlt), hrd]) (ev_bind (hat w hm) (ev_pos b0 (ev_pos b1 ?_)))
    have hz := line_size hv hp
    have e : textT ns (w :: l.drop (j + 1).toNat) acc = textT ns (l.drop (j + 1).toNat) (acc ++ lineT (r65 ns w.f1) w.f0) := rfl
    rw [e]
    have hz2 : ((acc ++ lineT (r65 ns w.f1) w.f0).size : Int) ≤ (j + 1) * 1060000 := by rw [ByteArray.size_append]; omega
    have ihh := ih (j + 1) (acc ++ lineT (r65 ns w.f1) w.f0) (by omega) (by omega) (by omega) hz2
    clear e hz2 hz
    generalize r65 ns w.f1 = v at hv ihh ⊢
    have hwr : wrap64 (v.f0 + 1) = v.f0 + 1 := wrap_id (by have := hv.1; omega) (by have := hv.1; omega)
    have s0 := sign_eq hv.1
    have s1 := s0.2
    have s2 := signs_size v.f1
    have s3 := num_le hv.2.2.1.1 (by have := hv.2.2.1.2; omega)
    have s4 := num_le hv.2.2.2.1.1 (by have := hv.2.2.2.1.2; omega)
    have s5 := num_le hv.2.2.2.2.1.1 hv.2.2.2.2.1.2
    have s6 := hv.2.2.2.2.2
    refine ev_pos (by have := hv.1; omega) (ev_pos (by rw [hwr]; omega) (ev_pos (by rw [hwr]; have := hv.1; omega) (ev_bind (spec_l1Signs.is hv.2.1.1 (by have := hv.2.1.2; omega)) ?_)))
    rw [s0.1]
    refine ev_pos (by omega) (ev_pos (by omega) (ev_bind (spec_l1Num.is _ v.f2 hv.2.2.1.1 (by have := hv.2.2.1.2; omega) rfl) (ev_pos (by omega) (ev_pos (by omega) (ev_bind (spec_l1Num.is _ v.f3 hv.2.2.2.1.1 (by have := hv.2.2.2.1.2; omega) rfl) (ev_pos (by omega) (ev_pos (by omega) (ev_bind (spec_l1Num.is _ v.f4 hv.2.2.2.2.1.1 (by have := hv.2.2.2.2.1.2; omega) rfl) ?_))))))))
    refine ev_pos (by omega) (ev_pos (by omega) (ev_pos (by omega) (ev_pos (by omega) ?_)))
    rw [wrap_id (x := j + 1) (by omega) (by omega)]
    by_cases hk : v.f0 = 2
    · have e : acc ++ lineT v w.f0 = (acc ++ headT v w.f0) ++ nl := by unfold lineT; rw [if_pos hk, ByteArray.append_assoc]
      rw [e] at ihh ⊢
      refine ev_pos hk (ev_pos (by omega) ?_)
      exact ihh
    · have e : acc ++ lineT v w.f0 = ((acc ++ headT v w.f0) ++ (sp ++ v.f5)) ++ nl := by unfold lineT; rw [if_neg hk]; simp only [ByteArray.append_assoc]
      rw [e] at ihh ⊢
      refine ev_neg hk (ev_pos (by omega) (ev_pos (by omega) (ev_pos (by omega) ?_)))
      exact ihh
theorem there_in {ns : List S65} {lo : Int} (h1 : All1 lo ns) : ∀ v ∈ ns, ∀ e ∈ v.f6, (r65 ns e.f1).f0 ≠ 0 := fun v hv e he => by
  obtain ⟨i, hi, ei⟩ := List.mem_iff_getElem.1 he
  have hg := all_mem h1 v hv
  by_cases h0 : v.f0 = 0
  · have := (hg.1 h0).2.2.2.2.2; omega
  · rcases (hg.2 h0).2.2.2.2 with h' | h' | h'
    · omega
    · have := (h'.2.2 i (by omega) (by omega)).2.2.2.2
      have e' : r104 v.f6 (i : Int) = e := by
        show v.f6.getD (i : Int).toNat z104 = e
        rw [List.getD_eq_getElem?_getD, show (i : Int).toNat = i by omega, List.getElem?_eq_getElem hi]; exact ei
      rw [e'] at this; exact this
    · omega
theorem wl_there (ns : List S65) (b : Bool) (hr : ∀ v ∈ ns, ∀ e ∈ v.f6, (0 ≤ e.f1 ∧ e.f1 < (ns.length : Int)) ∧ (r65 ns e.f1).f0 ≠ 0) : ∀ (d : Nat) (p : ByteArray) (a : Int), 0 ≤ a → a < (ns.length : Int) → (r65 ns a).f0 ≠ 0 → ∀ w ∈ wl ns b d p a, (r65 ns w.f1).f0 ≠ 0
  | 0, p, a, h0, h1, h2, w, hw => by
    rw [wl, List.mem_singleton] at hw; rw [hw]; exact h2
  | d + 1, p, a, h0, h1, h2, w, hw => by
    rw [wl, wk_mem, List.mem_flatMap] at hw
    rcases hw with rfl | ⟨e, he, hw⟩
    · exact h2
    · have h := hr _ (nd_mem ns a h0 h1) e he
      exact wl_there ns b hr d _ _ h.1.1 h.1.2 h.2 w hw
theorem text_at (ns : List S65) (room a : Int) (hn' : ns.length ≤ 1048576) (hs : ∀ v ∈ ns, Small1 v) :
    (Ev (fun k => spec_l7Asked.f k ns room a) false ∧ Ev (fun k => impl_isGoodAt.f k ns room a) false) ∨
    (Ev (fun k => spec_l7Asked.f k ns room a) true ∧ Ev (fun k => impl_isGoodAt.f k ns room a) true ∧ ∃ t, Ev (fun k => spec_l7Text.f k ns room a) t ∧ Ev (fun k => impl_Fs_treeText.f k ns room a) t) := by
  rcases ways_at ns room a hn' hs with ⟨h1, h2⟩ | ⟨h1, h2, hg, h0, hlt, hk, hrn, d, _, _, h⟩
  · exact .inl ⟨h1, h2⟩
  · obtain ⟨h3, h4, hl, hw⟩ := h false
    have hat : ∀ w ∈ wl ns false d (⟨#[46]⟩ : ByteArray) a, Ev (fun k => spec_l7At.f k ns room a w.f0) w.f1 := fun w hm => spec_l7At.is hs hg hrn h0 hlt hm (hw w hm).1
    have ht := wl_there ns false (fun v hv e he => ⟨(hrn v hv e he).1, there_in hg.2.1 v hv e he⟩) d (⟨#[46]⟩ : ByteArray) a h0 hlt hk
    have hf : ∀ w ∈ wl ns false d (⟨#[46]⟩ : ByteArray) a, (0 ≤ w.f1 ∧ w.f1 < (ns.length : Int)) ∧ Fine (r65 ns w.f1) ∧ w.f0.size ≤ 1000 := fun w hm =>
      ⟨(hw w hm).2, fine_of (hg.2.1 w.f1 (hw w hm).2.1 (hw w hm).2.2) (hs _ (nd_mem ns w.f1 (hw w hm).2.1 (hw w hm).2.2)) (ht w hm), (hw w hm).1⟩
    generalize wl ns false d (⟨#[46]⟩ : ByteArray) a = L at h3 h4 hl hw hat hf
    have hi := impl_tree_go ns room L ⟨#[]⟩ 0 hf (by omega) (by show (⟨#[]⟩ : ByteArray).size ≤ _; exact Nat.zero_le _)
    have hsp := spec_l7Text.loop ns room a L hl hf hat L.length 0 ⟨#[]⟩ (by omega) (by omega) (by omega) (by show ((⟨#[]⟩ : ByteArray).size : Int) ≤ _; exact Int.le_refl 0)
    rw [show (0 : Int).toNat = 0 from rfl, List.drop_zero] at hsp
    refine .inr ⟨h1, h2, textT ns L ⟨#[]⟩, ev_bind h3 ?_, ev_bind h4 (ev_of hi)⟩
    rw [List.length_map]; exact hsp
end Go.Proofs.YtdjceippnokimaaGreatDoor.PSat
namespace Go.Proofs.YtdjceippnokimaaGreatDoor.PSat
open Go.RowKit Go.Proofs.YtdjceippnokimaaGreatDoorW.PrintWords Go.Proofs.YtdjceippnokimaaGreatDoorW.PrintLast Go.Proofs.YtdjceippnokimaaGreatDoorW.PrintMore Go.Proofs.YtdjceippnokimaaGreatDoor.Aid Go.Proofs.YtdjceippnokimaaGreatDoor.Loops Go.Proofs.YtdjceippnokimaaGreatDoor.Put
set_option linter.unusedSimpArgs false
set_option linter.unusedVariables false
def rowOf (l : List S75) (n : Int) : List ByteArray := (l.filter fun w => decide (w.f1 = n)).map (·.f0)
theorem rowOf_snoc (l : List S75) (x : S75) (n : Int) : rowOf (l ++ [x]) n = rowOf l n ++ (if x.f1 = n then [x.f0] else []) := by
  unfold rowOf
  rw [List.filter_append, List.map_append]
  congr 1
  by_cases h : x.f1 = n
  · rw [if_pos h, List.filter_cons_of_pos (by simpa using h)]; rfl
  · rw [if_neg h, List.filter_cons_of_neg (by simpa using h)]; rfl
theorem rowOf_pos (x : S75) (l : List S75) (n : Int) (h : x.f1 = n) : rowOf (x :: l) n = x.f0 :: rowOf l n := by
  unfold rowOf
  rw [List.filter_cons_of_pos (by simpa using h)]; rfl
theorem rowOf_neg (x : S75) (l : List S75) (n : Int) (h : ¬ x.f1 = n) : rowOf (x :: l) n = rowOf l n := by
  unfold rowOf
  rw [List.filter_cons_of_neg (by simpa using h)]
theorem rowOf_none (l : List S75) (n : Int) (h : ∀ w ∈ l, w.f1 ≠ n) : rowOf l n = [] := by
  unfold rowOf
  rw [List.filter_eq_nil_iff.2 (fun w hw => by simpa using h w hw)]; rfl
structure GR (ns : List S65) (l : List S75) (st : List Int × List (List ByteArray)) : Prop where
  nodup : st.1.Nodup
  mem : ∀ n, n ∈ st.1 ↔ (r65 ns n).f0 ≠ 2 ∧ ∃ w ∈ l, w.f1 = n
  rows : st.2 = st.1.map (rowOf l)
theorem GR.nil (ns : List S65) : GR ns [] ([], []) := ⟨List.nodup_nil, fun n => ⟨fun h => (by cases h), fun ⟨_, w, hw, _⟩ => (by cases hw)⟩, rfl⟩
theorem GR.snoc {ns : List S65} {l : List S75} {st : List Int × List (List ByteArray)} (h : GR ns l st) (x : S75) : GR ns (l ++ [x]) (gr_step ns st x) := by
  obtain ⟨ks, rs⟩ := st
  obtain ⟨hn, hm, hr⟩ := h
  simp only at hn hm hr
  subst hr
  have hmx : ∀ n, (∃ w ∈ l ++ [x], w.f1 = n) ↔ (∃ w ∈ l, w.f1 = n) ∨ x.f1 = n := fun n => by
    constructor
    · rintro ⟨w, hw, e⟩
      rcases List.mem_append.1 hw with h1 | h1
      · exact .inl ⟨w, h1, e⟩
      · rw [List.mem_singleton.1 h1] at e; exact .inr e
    · rintro (⟨w, hw, e⟩ | e)
      · exact ⟨w, List.mem_append_left _ hw, e⟩
      · exact ⟨x, by simp, e⟩
  unfold gr_step
  by_cases hd : (r65 ns x.f1).f0 = 2
  · rw [if_pos hd]
    refine ⟨hn, fun n => ?_, List.map_congr_left fun n hk => ?_⟩
    · rw [hmx, hm n]
      exact ⟨fun h => ⟨h.1, .inl h.2⟩, fun h => ⟨h.1, h.2.resolve_right (fun e => h.1 (by rw [← e]; exact hd))⟩⟩
    · rw [rowOf_snoc, if_neg (fun e => ((hm n).1 hk).1 (by rw [← e]; exact hd)), List.append_nil]
  · rw [if_neg hd]
    by_cases hin : x.f1 ∈ ks
    · rw [if_pos hin]
      refine ⟨hn, fun n => ?_, ?_⟩
      · rw [hmx]
        exact ⟨fun h => ⟨((hm n).1 h).1, .inl ((hm n).1 h).2⟩, fun h => h.2.elim (fun h2 => (hm n).2 ⟨h.1, h2⟩) (fun e => e ▸ hin)⟩
      · have hlt := List.idxOf_lt_length_iff.2 hin
        refine List.ext_getElem? fun j => ?_
        rw [List.getElem?_set, List.length_map, List.getElem?_map, List.getElem?_map]
        by_cases hj : ks.idxOf x.f1 = j
        · subst hj
          rw [if_pos rfl, if_pos hlt, List.getD_eq_getElem?_getD, List.getElem?_map, List.getElem?_eq_getElem hlt, List.getElem_idxOf hlt]
          show some (rowOf l x.f1 ++ [x.f0]) = some (rowOf (l ++ [x]) x.f1)
          rw [rowOf_snoc, if_pos rfl]
        · rw [if_neg hj]
          cases e : ks[j]? with
          | none => rfl
          | some n =>
            have hne : x.f1 ≠ n := fun e2 => hj (by
              obtain ⟨hjl, hjn⟩ := List.getElem?_eq_some_iff.1 e
              rw [e2, ← hjn]; exact List.Nodup.idxOf_getElem hn j hjl)
            show some (rowOf l n) = some (rowOf (l ++ [x]) n)
            rw [rowOf_snoc, if_neg hne, List.append_nil]
    · rw [if_neg hin]
      refine ⟨?_, fun n => ?_, ?_⟩
      · exact List.nodup_append.2 ⟨hn, by simp, fun a ha b hb => by rw [List.mem_singleton.1 hb]; exact fun e => hin (e ▸ ha)⟩
      · rw [hmx, List.mem_append, List.mem_singleton, hm n]
        constructor
        · rintro (h | h)
          · exact ⟨h.1, .inl h.2⟩
          · exact ⟨by rw [h]; exact hd, .inr h.symm⟩
        · rintro ⟨h1, h2 | h2⟩
          · exact .inl ⟨h1, h2⟩
          · exact .inr h2.symm
      · show ks.map (rowOf l) ++ [[x.f0]] = (ks ++ [x.f1]).map (rowOf (l ++ [x]))
        rw [List.map_append]
        congr 1
        · refine List.map_congr_left fun n hk => ?_
          rw [rowOf_snoc, if_neg (fun e : x.f1 = n => hin (by rw [e]; exact hk)), List.append_nil]
        · show [[x.f0]] = [rowOf (l ++ [x]) x.f1]
          rw [rowOf_snoc, if_pos rfl, rowOf_none l x.f1 (fun w hw e => hin ((hm _).2 ⟨hd, w, hw, e⟩))]; rfl
theorem GR.fold {ns : List S65} : ∀ (l r : List S75) (st : List Int × List (List ByteArray)), GR ns r st → GR ns (r ++ l) (l.foldl (gr_step ns) st)
  | [], r, st, h => by rw [List.append_nil]; exact h
  | x :: l, r, st, h => by
    have := GR.fold l (r ++ [x]) _ (h.snoc x)
    rwa [List.append_assoc] at this
theorem GR.at (ns : List S65) (l : List S75) : GR ns l (gr_at ns l) := GR.fold l [] _ (GR.nil ns)
theorem gr_flat (ns : List S65) : ∀ (l : List S75) (st : List Int × List (List ByteArray)), ((l.foldl (gr_step ns) st).2.flatten.length) ≤ st.2.flatten.length + l.length
  | [], st => by simp
  | x :: l, st => by
    rw [List.foldl_cons, List.length_cons]
    have h1 := gr_flat ns l (gr_step ns st x)
    have hset : ∀ (d : List (List ByteArray)) (n : Nat) (y : ByteArray), (d.set n (d.getD n [] ++ [y])).flatten.length ≤ d.flatten.length + 1 := by
      intro d
      induction d with
      | nil => intro n y; simp
      | cons a d ih =>
        intro n y
        cases n with
        | zero => simp; omega
        | succ n =>
          have := ih n y
          rw [List.set_cons_succ, List.flatten_cons, List.flatten_cons, List.length_append, List.length_append, List.getD_cons_succ]; omega
    have h2 : (gr_step ns st x).2.flatten.length ≤ st.2.flatten.length + 1 := by
      unfold gr_step
      split
      · omega
      · split
        · exact hset _ _ _
        · simp
    omega
theorem filter_flat (p : List ByteArray → Bool) : ∀ l : List (List ByteArray), (l.filter p).flatten.length ≤ l.flatten.length
  | [] => by simp
  | x :: l => by
    have := filter_flat p l
    rw [List.filter_cons]
    split <;> (simp only [List.flatten_cons, List.length_append]; omega)
theorem flat_row {l : List (List ByteArray)} {e : List ByteArray} (h : e ∈ l) : e.length ≤ l.flatten.length := by
  induction l with
  | nil => cases h
  | cons x l ih =>
    rw [List.flatten_cons, List.length_append]
    rcases List.mem_cons.1 h with rfl | h
    · omega
    · have := ih h; omega
def big (l : List ByteArray) : Bool := decide (2 ≤ l.length)
theorem at_map (L : List S75) (j : Int) (h0 : 0 ≤ j) (h1 : j < (L.length : Int)) : rdOf ByteArray.empty (L.map (·.f0)) j = (r75 L j).f0 := by
  have hjl : j.toNat < L.length := by omega
  show (L.map (·.f0)).getD j.toNat ByteArray.empty = (L.getD j.toNat z75).f0
  rw [List.getD_eq_getElem?_getD, List.getD_eq_getElem?_getD, List.getElem?_map, List.getElem?_eq_getElem hjl]; rfl
theorem spec_row_loop (ns : List S65) (room a n : Int) (L : List S75) (hl : L.length ≤ 41943041) (hat : ∀ w ∈ L, Ev (fun k => spec_l7At.f k ns room a w.f0) w.f1) (out r : List (List ByteArray)) (D : List Int) (i : Int)
    (hc : Ev (fun k => if ((rowOf L n).length : Int) > 1 then (if out.length < 5864062014805 then spec_l7Groups.l0 k a (out ++ [rowOf L n]) D (L.map (·.f0)) (L.map (·.f0)) (L.length : Int) (wrap64 (i + 1)) ns room else none) else spec_l7Groups.l0 k a out D (L.map (·.f0)) (L.map (·.f0)) (L.length : Int) (wrap64 (i + 1)) ns room) r) (d : Nat) :
    ∀ (j : Int) (acc : List ByteArray), 0 ≤ j → j ≤ L.length → (L.length : Int) - j = d → acc ++ rowOf (L.drop j.toNat) n = rowOf L n → (acc.length : Int) ≤ j →
    Ev (fun k => spec_l7Groups.l1 k a out D (L.map (·.f0)) n acc (L.map (·.f0)) (L.length : Int) i (L.map (·.f0)) (L.length : Int) j ns room) r := by
  induction d with
  | zero =>
    intro j acc h0 hj hd ha hal
    rw [List.drop_eq_nil_iff.mpr (by omega)] at ha
    have ha : acc = rowOf L n := by rw [← ha]; simp [rowOf]
    subst ha
    exact Ev.step (fun k => by rw [spec_l7Groups.l1, if_neg (by omega)]) hc
  | succ d ih =>
    intro j acc h0 hj hd ha hal
    have hlt : j < (L.length : Int) := by omega
    have hm := getD_mem L z75 j h0 hlt
    rw [drop_list L z75 j h0 hlt] at ha
    refine Ev.step (fun k => by rw [spec_l7Groups.l1, if_pos hlt, if_pos h0, if_pos (by rw [List.length_map]; exact hlt), at_map L j h0 hlt, wrap_id (x := j + 1) (by omega) (by omega)]) (ev_bind (a := (r75 L j).f1) (hat _ hm) ?_)
    by_cases h : (r75 L j).f1 = n
    · refine ev_pos h (ev_pos (by omega) (ih (j + 1) _ (by omega) (by omega) (by omega) ?_ (by rw [List.length_append]; simp; omega)))
      rw [← ha, List.append_assoc]
      congr 1
      exact (rowOf_pos (L.getD j.toNat z75) _ n h).symm
    · refine ev_neg h (ih (j + 1) acc (by omega) (by omega) (by omega) ?_ (by omega))
      rw [← ha]
      congr 1
      exact (rowOf_neg (L.getD j.toNat z75) _ n h).symm
theorem spec_groups_loop (ns : List S65) (room a : Int) (L : List S75) (hl : L.length ≤ 41943041) (hw : ∀ w ∈ L, 0 ≤ w.f1 ∧ w.f1 < (ns.length : Int)) (hat : ∀ w ∈ L, Ev (fun k => spec_l7At.f k ns room a w.f0) w.f1) (d : Nat) :
    ∀ (j : Int) (D : List Int) (out : List (List ByteArray)), 0 ≤ j → j ≤ L.length → (L.length : Int) - j = d → (∀ n, n ∈ D ↔ n ∈ (gr_at ns (L.take j.toNat)).1) → (D.length : Int) ≤ j → out = ((gr_at ns (L.take j.toNat)).1.map (rowOf L)).filter big →
    Ev (fun k => spec_l7Groups.l0 k a out D (L.map (·.f0)) (L.map (·.f0)) (L.length : Int) j ns room) (((gr_at ns L).1.map (rowOf L)).filter big) := by
  induction d with
  | zero =>
    intro j D out h0 hj hd hD hDl ho
    rw [List.take_of_length_le (by omega)] at ho
    exact Ev.step (fun k => by rw [spec_l7Groups.l0, if_neg (by omega)]) (ev_some ho)
  | succ d ih =>
    intro j D out h0 hj hd hD hDl ho
    have hlt : j < (L.length : Int) := by omega
    have hjl : j.toNat < L.length := by omega
    have hm := getD_mem L z75 j h0 hlt
    have hb : 0 ≤ (r75 L j).f1 ∧ (r75 L j).f1 < (ns.length : Int) := hw _ hm
    have hst : gr_at ns (L.take (j + 1).toNat) = gr_step ns (gr_at ns (L.take j.toNat)) (r75 L j) := by
      rw [← gr_snoc]
      congr 1
      rw [show (j + 1).toNat = j.toNat + 1 by omega, List.take_add_one, List.getElem?_eq_getElem hjl]
      show _ = L.take j.toNat ++ [L.getD j.toNat z75]
      rw [List.getD_eq_getElem?_getD, List.getElem?_eq_getElem hjl]; rfl
    have hlen := (gr_len ns (L.take j.toNat)).2
    rw [List.length_take] at hlen
    generalize gr_at ns (L.take j.toNat) = st at hD ho hst hlen
    have hol : out.length ≤ 41943041 := by
      rw [ho]
      have := List.length_filter_le big (st.1.map (rowOf L))
      rw [List.length_map] at this
      omega
    have hnext : ∀ (D' : List Int) (out' : List (List ByteArray)), (∀ n, n ∈ D' ↔ n ∈ (gr_step ns st (r75 L j)).1) → (D'.length : Int) ≤ j + 1 → out' = ((gr_step ns st (r75 L j)).1.map (rowOf L)).filter big →
        Ev (fun k => spec_l7Groups.l0 k a out' D' (L.map (·.f0)) (L.map (·.f0)) (L.length : Int) (j + 1) ns room) (((gr_at ns L).1.map (rowOf L)).filter big) := fun D' out' h1 h2 h3 => ih (j + 1) D' out' (by omega) (by omega) (by omega) (by rw [hst]; exact h1) h2 (by rw [hst]; exact h3)
    have hrd := at_map L j h0 hlt
    have hax : Ev (fun k => spec_l7At.f k ns room a (r75 L j).f0) (r75 L j).f1 := hat _ hm
    generalize r75 L j = x at hb hnext hrd hax
    have hw1 : wrap64 (j + 1) = j + 1 := wrap_id (by omega) (by omega)
    refine Ev.step (fun k => by rw [spec_l7Groups.l0, if_pos hlt, if_pos h0, if_pos (by rw [List.length_map]; exact hlt), hrd]) (ev_bind hax (ev_pos hb.1 (ev_pos hb.2 ?_)))
    by_cases hdir : (r65 ns x.f1).f0 = 2
    · have hs : gr_step ns st x = st := by unfold gr_step; rw [if_pos hdir]
      rw [hs] at hnext
      exact ev_pos hdir (Ev.step (fun k => by rw [spec_l7Groups.j1, if_pos rfl, hw1]) (hnext D out hD (by omega) ho))
    · obtain ⟨q, hq, eq⟩ := spec_l1Has.is D x.f1 (by omega)
      refine ev_neg hdir (ev_bind hq ?_)
      cases q with
      | true =>
        have hin := (hD _).1 (eq.1 rfl)
        have hs : (gr_step ns st x).1 = st.1 := by unfold gr_step; rw [if_neg hdir, if_pos hin]
        rw [hs] at hnext
        exact Ev.step (fun k => by rw [spec_l7Groups.j1, if_pos rfl, hw1]) (hnext D out hD (by omega) ho)
      | false =>
        have hnin : x.f1 ∉ D := fun h => by have := eq.2 h; cases this
        have hin : x.f1 ∉ st.1 := fun h => hnin ((hD _).2 h)
        have hs : (gr_step ns st x).1 = st.1 ++ [x.f1] := by unfold gr_step; rw [if_neg hdir, if_neg hin]
        rw [hs] at hnext
        have hp := @put_length_le x.f1 D
        have hpm : ∀ n, n ∈ put D x.f1 ↔ n ∈ st.1 ++ [x.f1] := fun n => by
          rw [mem_put, List.mem_append, List.mem_singleton, hD n]; exact Or.comm
        refine Ev.step (fun k => by rw [spec_l7Groups.j1, if_neg (by simp), List.length_map]) (ev_bind (spec_l1Put.is D x.f1 (by omega)) ?_)
        refine spec_row_loop ns room a x.f1 L hl hat out _ (put D x.f1) j ?_ L.length 0 [] (by omega) (by omega) (by omega) (by simp) (by simp)
        rw [hw1]
        by_cases hbig : ((rowOf L x.f1).length : Int) > 1
        · refine ev_pos hbig (ev_pos (by omega) (hnext _ _ hpm (by omega) ?_))
          rw [List.map_append, List.filter_append, ← ho]
          congr 1
          show _ = List.filter big [rowOf L x.f1]
          rw [List.filter_cons_of_pos (by unfold big; simp; omega)]; rfl
        · refine ev_neg hbig (hnext _ _ hpm (by omega) ?_)
          rw [List.map_append, List.filter_append, ← ho]
          show _ = out ++ List.filter big [rowOf L x.f1]
          rw [List.filter_cons_of_neg (by unfold big; simp; omega)]; simp
end Go.Proofs.YtdjceippnokimaaGreatDoor.PSat
namespace Go.Proofs.YtdjceippnokimaaGreatDoor.PSat
open Go.RowKit Go.Proofs.YtdjceippnokimaaGreatDoorW.PrintWords Go.Proofs.YtdjceippnokimaaGreatDoorW.PrintLast Go.Proofs.YtdjceippnokimaaGreatDoorW.PrintMore Go.Proofs.YtdjceippnokimaaGreatDoor.Aid Go.Proofs.YtdjceippnokimaaGreatDoor.Loops
set_option linter.unusedVariables false
set_option linter.unusedSimpArgs false
theorem tree_at (ns : List S65) (room a : Int) (hn' : ns.length ≤ 1048576) (hs : ∀ v ∈ ns, Small1 v) :
    (Ev (fun k => spec_l7Asked.f k ns room a) false ∧ Ev (fun k => impl_isGoodAt.f k ns room a) false) ∨
    (Ev (fun k => spec_l7Asked.f k ns room a) true ∧ Ev (fun k => impl_isGoodAt.f k ns room a) true ∧ ∃ t G, Ev (fun k => spec_l7Text.f k ns room a) t ∧ Ev (fun k => impl_Fs_treeText.f k ns room a) t ∧ Ev (fun k => spec_l7Groups.f k ns room a) G ∧ Ev (fun k => impl_Fs_groups.f k ns room a) G ∧ G.length ≤ 41943041 ∧ G.flatten.length ≤ 41943041) := by
  rcases text_at ns room a hn' hs with ⟨h1, h2⟩ | ⟨h1, h2, t, ht1, ht2⟩
  · exact .inl ⟨h1, h2⟩
  rcases ways_at ns room a hn' hs with ⟨h5, _⟩ | ⟨_, _, hg, h0, hlt, _, hrn, d, _, _, h⟩
  · obtain ⟨K1, e1⟩ := h1
    obtain ⟨K2, e2⟩ := h5
    have := (e1 (K1 + K2) (by omega)).symm.trans (e2 (K1 + K2) (by omega))
    cases this
  · obtain ⟨h3, h4, hl, hw⟩ := h false
    have hat : ∀ w ∈ wl ns false d (⟨#[46]⟩ : ByteArray) a, Ev (fun k => spec_l7At.f k ns room a w.f0) w.f1 := fun w hm => spec_l7At.is hs hg hrn h0 hlt hm (hw w hm).1
    generalize wl ns false d (⟨#[46]⟩ : ByteArray) a = L at h3 h4 hl hw hat
    have hsp := spec_groups_loop ns room a L hl (fun w hm => (hw w hm).2) hat L.length 0 [] [] (by omega) (by omega) (by omega) (fun n => by simp [gr_at]) (by simp) (by simp [gr_at])
    have hgr := GR.at ns L
    have hgl := gr_len ns L
    have hfl := gr_flat ns L ([], [])
    have hff := filter_flat big (gr_at ns L).2
    rw [← hgr.rows] at hsp
    have hfl2 : (gr_at ns L).2.flatten.length ≤ L.length := by simpa [gr_at] using hfl
    have hl2 := List.length_filter_le big (gr_at ns L).2
    refine .inr ⟨h1, h2, t, (gr_at ns L).2.filter big, ht1, ht2, ev_bind h3 ?_, ev_bind h4 (ev_pos ⟨hl, by omega, fun w hm => (hw w hm).2⟩ (Ev.now _)), by omega, by omega⟩
    rw [List.length_map]; exact hsp
theorem spec_l7SameTexts.loop (a b : List ByteArray) (hl : a.length = b.length) (hz : a.length ≤ 41943041) (d : Nat) : ∀ i : Int, 0 ≤ i → i ≤ a.length → (a.length : Int) - i = d →
    Ev (fun k => spec_l7SameTexts.l0 k a b (a.length : Int) i) (decide (a.drop i.toNat = b.drop i.toNat)) := by
  induction d with
  | zero =>
    intro i h0 h1 hd
    refine Ev.step (fun k => by rw [spec_l7SameTexts.l0, if_neg (by omega)]) (ev_some ?_)
    rw [List.drop_eq_nil_iff.mpr (show a.length ≤ i.toNat by omega), List.drop_eq_nil_iff.mpr (show b.length ≤ i.toNat by omega)]
    exact (decide_eq_true rfl).symm
  | succ d ih =>
    intro i h0 h1 hd
    have hlt : i < (a.length : Int) := by omega
    have hlt' : i < (b.length : Int) := by omega
    rw [rdOf_drop a i h0 hlt, rdOf_drop b i h0 hlt']
    refine Ev.step (fun k => by rw [spec_l7SameTexts.l0, if_pos hlt, if_pos h0, if_pos hlt, if_pos hlt', wrap_id (by omega) (by omega)]) ?_
    refine ev_ite (fun h => ?_) (fun h => ?_)
    · refine ev_eq (ih (i + 1) (by omega) (by omega) (by omega)) (decide_eq_decide.mpr ?_)
      rw [List.cons.injEq]
      exact ⟨fun hp => ⟨eq_of_toList h, hp⟩, fun hp => hp.2⟩
    · refine ev_some (decide_eq_false ?_).symm
      rw [List.cons.injEq]
      exact fun hp => h (by rw [hp.1])
theorem spec_l7SameTexts.is (a b : List ByteArray) (hz : a.length ≤ 41943041) : Ev (fun k => spec_l7SameTexts.f k a b) (decide (a = b)) := by
  refine ev_ite (fun h => ?_) (fun h => ?_)
  · exact spec_l7SameTexts.loop a b (by omega) hz a.length 0 (by omega) (by omega) (by omega)
  · exact ev_some (decide_eq_false (fun e => h (by rw [e]))).symm
theorem eqS.loop (a b : List ByteArray) (hl : a.length = b.length) (hz : a.length ≤ 41943041) (d : Nat) : ∀ i : Int, 0 ≤ i → i ≤ a.length → (a.length : Int) - i = d →
    Ev (fun k => eqS.l0 k a b (a.length : Int) i) (decide (a.drop i.toNat = b.drop i.toNat)) := by
  induction d with
  | zero =>
    intro i h0 h1 hd
    refine Ev.step (fun k => by rw [eqS.l0, if_neg (by omega)]) (ev_some ?_)
    rw [List.drop_eq_nil_iff.mpr (show a.length ≤ i.toNat by omega), List.drop_eq_nil_iff.mpr (show b.length ≤ i.toNat by omega)]
    exact (decide_eq_true rfl).symm
  | succ d ih =>
    intro i h0 h1 hd
    have hlt : i < (a.length : Int) := by omega
    have hlt' : i < (b.length : Int) := by omega
    rw [rdOf_drop a i h0 hlt, rdOf_drop b i h0 hlt']
    refine Ev.step (fun k => by rw [eqS.l0, if_pos hlt, if_pos h0, if_pos hlt, if_pos hlt', wrap_id (by omega) (by omega)]) ?_
    refine ev_ite (fun h => ?_) (fun h => ?_)
    · refine ev_eq (ih (i + 1) (by omega) (by omega) (by omega)) (decide_eq_decide.mpr ?_)
      rw [List.cons.injEq]
      exact ⟨fun hp => ⟨eq_of_toList h, hp⟩, fun hp => hp.2⟩
    · refine ev_some (decide_eq_false ?_).symm
      rw [List.cons.injEq]
      exact fun hp => h (by rw [hp.1])
theorem eqS.is (a b : List ByteArray) (hz : a.length ≤ 41943041) : Ev (fun k => eqS.f k a b) (decide (a = b)) := by
  refine ev_ite (fun h => ?_) (fun h => ?_)
  · exact eqS.loop a b (by omega) hz a.length 0 (by omega) (by omega) (by omega)
  · exact ev_some (decide_eq_false (fun e => h (by rw [e]))).symm
theorem same_loop (A B : List (List ByteArray)) (hl : A.length = B.length) (hz : A.length ≤ 41943041) (hf : A.flatten.length ≤ 41943041) (ns ms : List S65) (r1 a r2 b : Int) (s t : ByteArray) (h1 : Ev (fun k => spec_l7Text.f k ns r1 a) s) (h2 : Ev (fun k => spec_l7Text.f k ms r2 b) t) (d : Nat) : ∀ i : Int, 0 ≤ i → i ≤ A.length → (A.length : Int) - i = d →
    Ev (fun k => spec_l7Same.l0 k a b A B (A.length : Int) i ns r1 ms r2) (decide (A.drop i.toNat = B.drop i.toNat) && (s.toList == t.toList)) := by
  induction d with
  | zero =>
    intro i h0 hi hd
    rw [List.drop_eq_nil_iff.mpr (show A.length ≤ i.toNat by omega), List.drop_eq_nil_iff.mpr (show B.length ≤ i.toNat by omega)]
    refine Ev.step (fun k => by rw [spec_l7Same.l0, if_neg (by omega)]) ?_
    exact ev_bind h1 (ev_bind h2 (ev_some (by rw [show decide (([] : List (List ByteArray)) = []) = true from decide_eq_true rfl, Bool.true_and])))
  | succ d ih =>
    intro i h0 hi hd
    have hlt : i < (A.length : Int) := by omega
    have hlt' : i < (B.length : Int) := by omega
    rw [drop_list A [] i h0 hlt, drop_list B [] i h0 hlt']
    have hm := flat_row (show rd_L8 A i ∈ A from getD_mem A [] i h0 hlt)
    refine Ev.step (fun k => by rw [spec_l7Same.l0, if_pos hlt, if_pos h0, if_pos hlt, if_pos hlt', wrap_id (x := i + 1) (by omega) (by omega)]) (ev_bind (spec_l7SameTexts.is (rd_L8 A i) (rd_L8 B i) (by omega)) ?_)
    by_cases h : rd_L8 A i = rd_L8 B i
    · refine ev_pos (decide_eq_true h) (ev_eq (ih (i + 1) (by omega) (by omega) (by omega)) ?_)
      exact congrArg (fun z => z && (s.toList == t.toList)) (decide_eq_decide.mpr ⟨fun e => by rw [e]; exact congrArg (fun z => z :: List.drop (i + 1).toNat B) h, fun e => (List.cons.inj e).2⟩)
    · refine ev_neg (by simpa using h) (ev_some ?_)
      rw [decide_eq_false (show ¬ (A.getD i.toNat [] :: A.drop (i + 1).toNat = B.getD i.toNat [] :: B.drop (i + 1).toNat) from fun e => h (List.cons.inj e).1)]; rfl
theorem same_is (A B : List (List ByteArray)) (hz : A.length ≤ 41943041) (hf : A.flatten.length ≤ 41943041) (ns ms : List S65) (r1 a r2 b : Int) (s t : ByteArray) (h1 : Ev (fun k => spec_l7Text.f k ns r1 a) s) (h2 : Ev (fun k => spec_l7Text.f k ms r2 b) t) (h3 : Ev (fun k => spec_l7Groups.f k ns r1 a) A) (h4 : Ev (fun k => spec_l7Groups.f k ms r2 b) B) :
    Ev (fun k => spec_l7Same.f k ns r1 a ms r2 b) (decide (A = B) && (s.toList == t.toList)) := by
  refine ev_bind h3 (ev_bind h4 (ev_ite (fun h => ?_) (fun h => ?_)))
  · exact same_loop A B (by omega) hz hf ns ms r1 a r2 b s t h1 h2 A.length 0 (by omega) (by omega) (by omega)
  · refine ev_some ?_
    rw [decide_eq_false (fun e => h (by rw [e]))]; rfl
theorem eqFunc_loop (A B : List (List ByteArray)) (hl : A.length = B.length) (hz : A.length ≤ 41943041) (hf : A.flatten.length ≤ 41943041) (d : Nat) : ∀ i : Int, 0 ≤ i → i ≤ A.length → (A.length : Int) - i = d →
    Ev (fun k => eqFuncS.l0 k B A (A.length : Int) i) (decide (A.drop i.toNat = B.drop i.toNat)) := by
  induction d with
  | zero =>
    intro i h0 hi hd
    rw [List.drop_eq_nil_iff.mpr (show A.length ≤ i.toNat by omega), List.drop_eq_nil_iff.mpr (show B.length ≤ i.toNat by omega)]
    exact Ev.step (fun k => by rw [eqFuncS.l0, if_neg (by omega)]) (ev_some (by simp))
  | succ d ih =>
    intro i h0 hi hd
    have hlt : i < (A.length : Int) := by omega
    have hlt' : i < (B.length : Int) := by omega
    rw [drop_list A [] i h0 hlt, drop_list B [] i h0 hlt']
    have hm := flat_row (show rd_L8 A i ∈ A from getD_mem A [] i h0 hlt)
    refine Ev.step (fun k => by rw [eqFuncS.l0, if_pos hlt, if_pos h0, if_pos hlt, if_pos hlt', wrap_id (x := i + 1) (by omega) (by omega)]) (ev_bind (eqS.is (rd_L8 A i) (rd_L8 B i) (by omega)) ?_)
    by_cases h : rd_L8 A i = rd_L8 B i
    · refine ev_pos (decide_eq_true h) (ev_eq (ih (i + 1) (by omega) (by omega) (by omega)) ?_)
      exact decide_eq_decide.mpr ⟨fun e => by rw [e]; exact congrArg (fun z => z :: List.drop (i + 1).toNat B) h, fun e => (List.cons.inj e).2⟩
    · refine ev_neg (by simpa using h) (ev_some ?_)
      rw [decide_eq_false (show ¬ (A.getD i.toNat [] :: A.drop (i + 1).toNat = B.getD i.toNat [] :: B.drop (i + 1).toNat) from fun e => h (List.cons.inj e).1)]
theorem eqFunc_is (A B : List (List ByteArray)) (hz : A.length ≤ 41943041) (hf : A.flatten.length ≤ 41943041) : Ev (fun k => eqFuncS.f k A B) (decide (A = B)) := by
  refine ev_ite (fun h => ?_) (fun h => ?_)
  · exact eqFunc_loop A B (by omega) hz hf A.length 0 (by omega) (by omega) (by omega)
  · exact ev_some (decide_eq_false (fun e => h (by rw [e]))).symm
theorem SameTree.same (ns ms : List S65) (r1 a r2 b : Int) (hn : ns.length ≤ 1048576) (hs : ∀ v ∈ ns, Small1 v) (hm : ms.length ≤ 1048576) (ht : ∀ v ∈ ms, Small1 v) : ∃ (v c : Bool), Ev (fun k => spec_SameTree.f k ns r1 a ms r2 b) (v, c) ∧ Ev (fun k => impl_SameTree.f k ns r1 a ms r2 b) (v, c) := by
  rcases tree_at ns r1 a hn hs with ⟨h1, h2⟩ | ⟨h1, h2, s, A, h3, h4, h5, h6, h7, h8⟩
  · exact ⟨false, false, ev_bind h1 (ev_neg (by simp) (Ev.now _)), ev_bind h2 (ev_neg (by simp) (Ev.step (fun k => by rw [impl_SameTree.j0, if_pos rfl]) (Ev.now _)))⟩
  rcases tree_at ms r2 b hm ht with ⟨g1, g2⟩ | ⟨g1, g2, t, B, g3, g4, g5, g6, g7, g8⟩
  · exact ⟨false, false, ev_bind h1 (ev_pos rfl (ev_bind g1 (ev_neg (by simp) (Ev.now _)))), ev_bind h2 (ev_pos rfl (ev_bind g2 (Ev.step (fun k => by rw [impl_SameTree.j0, if_pos (show (!false) = true from rfl)]) (Ev.now _))))⟩
  refine ⟨decide (A = B) && (s.toList == t.toList), true, ev_bind h1 (ev_pos rfl (ev_bind g1 (ev_pos rfl (ev_bind (same_is A B h7 h8 ns ms r1 a r2 b s t h3 g3 h5 g5) (Ev.now _))))), ev_bind h2 (ev_pos rfl (ev_bind g2 (Ev.step (fun k => by rw [impl_SameTree.j0, if_neg (by simp)]) (ev_bind h4 (ev_bind g4 ?_)))))⟩
  by_cases hq : s.toList = t.toList
  · refine ev_pos hq (ev_bind h6 (ev_bind g6 (ev_bind (eqFunc_is A B h7 h8) (ev_some ?_))))
    rw [hq]; simp
  · refine ev_neg hq (ev_some ?_)
    have : (s.toList == t.toList) = false := by simpa using hq
    rw [this, Bool.and_false]
end Go.Proofs.YtdjceippnokimaaGreatDoor.PSat
namespace Go.Proofs.YtdjceippnokimaaGreatDoor.Pure
open Go.RowKit Go.Proofs.YtdjceippnokimaaGreatDoor.PSat Go.Proofs.YtdjceippnokimaaGreatDoorW.PrintWords Go.Proofs.YtdjceippnokimaaGreatDoor.Aid
theorem FnExactSameTree : laws_FnExactSameTree.Pure := by
  intro a n x b m y ha hn hx hb hm hy
  refine Ev.rounds (r := true) ?_
  unfold laws_FnExactSameTree.f
  obtain ⟨r, hr, e⟩ := laws_szFs.is a n ha.1 (fun x hx => ⟨(ha.2 x hx).2.2.2.2.2.1, (ha.2 x hx).2.2.2.2.2.2.1, fun y hy => ((ha.2 x hx).2.2.2.2.2.2.2 y hy).1⟩) 1048576 (by omega) (by omega)
  rcases e with e | ⟨e1, e2, e3, e4⟩
  · exact ev_bind hr (ev_pos e (Ev.now _))
  obtain ⟨q, hq, f⟩ := laws_szFs.is b m hb.1 (fun x hx => ⟨(hb.2 x hx).2.2.2.2.2.1, (hb.2 x hx).2.2.2.2.2.2.1, fun y hy => ((hb.2 x hx).2.2.2.2.2.2.2 y hy).1⟩) r e1 e2
  rcases f with f | ⟨f1, f2, f3, f4⟩
  · exact ev_bind hr (ev_neg (by omega) (ev_bind hq (ev_pos f (Ev.now _))))
  refine ev_bind hr (ev_neg (by omega) (ev_bind hq (ev_neg (by omega) ?_)))
  have ta := laws_toFs.is a n e3 e4
  have oa := nodC_ok e4
  have sa := small_of e4
  have la : (a.map nodC).length ≤ 1048576 := by rw [List.length_map]; omega
  have tb := laws_toFs.is b m f3 f4
  have ob := nodC_ok f4
  have sb := small_of f4
  have lb : (b.map nodC).length ≤ 1048576 := by rw [List.length_map]; omega
  generalize a.map nodC = A at ta oa sa la
  generalize b.map nodC = B at tb ob sb lb
  obtain ⟨v, c, hs, ht⟩ := SameTree.same A B n x m y la sa lb sb
  refine ev_bind ta (ev_bind tb (ev_bind hs (ev_bind ta (ev_bind tb (ev_bind ht (ev_neg (show ¬ ((v != v) = true) by simp) ?_))))))
  show Ev (fun k => laws_FnExactSameTree.j0 k (c != c) a n b m A n B m) true
  rw [bne_self_eq_false]
  exact Ev.step (fun k => by rw [laws_FnExactSameTree.j0, if_neg (by decide)]) (ev_bind ta (ev_bind (laws_eqFs.same A n (by omega) oa) (ev_pos rfl (ev_bind tb (ev_bind (laws_eqFs.same B m (by omega) ob) (ev_pos rfl (Ev.now _)))))))
end Go.Proofs.YtdjceippnokimaaGreatDoor.Pure
