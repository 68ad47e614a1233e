/- The node of a way, by its names: what the reference looks up is the way's own node. No condition. -/
import Derived.Test.YtdjceippnokimaaGreatDoorWalks
import Derived.Test.YtdjceippnokimaaGreatDoorPTrx20
namespace Go.Proofs.YtdjceippnokimaaGreatDoor.PTr
open Go.RowKit Go.Proofs.YtdjceippnokimaaGreatDoorW.PrintWords Go.Proofs.YtdjceippnokimaaGreatDoorW.PrintLast Go.Proofs.YtdjceippnokimaaGreatDoorW.PrintMore Go.Proofs.YtdjceippnokimaaGreatDoor.Aid Go.Proofs.YtdjceippnokimaaGreatDoor.AllLoop Go.Proofs.YtdjceippnokimaaGreatDoor.Loops Go.Proofs.YtdjceippnokimaaGreatDoor.Put Go.Proofs.YtdjceippnokimaaGreatDoor.Graph
set_option linter.unusedSimpArgs false
set_option linter.unusedVariables false
theorem bl_irr : ∀ l : List UInt8, Op.bytesLess l l = false
  | [] => rfl
  | a :: l => by rw [Op.bytesLess, bl_irr l]; simp
theorem bl_trans : ∀ {a b c : List UInt8}, Op.bytesLess a b = true → Op.bytesLess b c = true → Op.bytesLess a c = true
  | _, _, [], _, h => by simp [Op.bytesLess] at h
  | [], _, _ :: _, _, _ => rfl
  | _ :: _, [], _ :: _, h, _ => by simp [Op.bytesLess] at h
  | x :: a, y :: b, z :: c, h, k => by
    simp only [Op.bytesLess, Bool.or_eq_true, Bool.and_eq_true, decide_eq_true_eq, beq_iff_eq] at h k ⊢
    rcases h with h | ⟨h1, h2⟩
    · rcases k with k | ⟨k1, k2⟩
      · exact .inl (UInt8.lt_trans h k)
      · exact .inl (k1 ▸ h)
    · rcases k with k | ⟨k1, k2⟩
      · exact .inl (h1 ▸ k)
      · exact .inr ⟨h1.trans k1, bl_trans h2 k2⟩
theorem less_far {l : List S104} (h : ∀ i : Int, 0 < i → i < (l.length : Int) → Less l i = true) : ∀ (d i : Nat), i + d + 1 < l.length → Op.bytesLess (rd_T104 l (i : Int)).f0.toList (rd_T104 l ((i + d + 1 : Nat) : Int)).f0.toList = true
  | 0, i, hl => by
    have := h ((i + 0 + 1 : Nat) : Int) (by omega) (by omega)
    unfold Less at this
    rwa [show ((i + 0 + 1 : Nat) : Int) - 1 = (i : Int) by omega] at this
  | d + 1, i, hl => by
    have h1 := less_far h d i (by omega)
    have := h ((i + (d + 1) + 1 : Nat) : Int) (by omega) (by omega)
    unfold Less at this
    rw [show ((i + (d + 1) + 1 : Nat) : Int) - 1 = ((i + d + 1 : Nat) : Int) by omega] at this
    exact bl_trans h1 this
def Rises (l : List S104) : Prop := ∀ i j : Nat, i < j → j < l.length → (rd_T104 l (i : Int)).f0.toList ≠ (rd_T104 l (j : Int)).f0.toList
theorem rises_of {l : List S104} (h : ∀ i : Int, 0 < i → i < (l.length : Int) → Less l i = true) : Rises l := fun i j hij hj e => by
  have := less_far h (j - i - 1) i (by omega)
  rw [show i + (j - i - 1) + 1 = j by omega, e, bl_irr] at this
  cases this
theorem rises_in {ns : List S65} {lo : Int} (h1 : All1 lo ns) : ∀ v ∈ ns, Rises v.f6 := fun v hv => by
  have hg := all_mem h1 v hv
  by_cases h0 : v.f0 = 0
  · have := (hg.1 h0).2.2.2.2.2; exact fun i j hij hj => absurd hj (by omega)
  · rcases (hg.2 h0).2.2.2.2 with h' | h' | h'
    · exact fun i j hij hj => absurd hj (by omega)
    · exact rises_of (fun i hi hl => (h'.2.2 i (by omega) hl).2.1 hi)
    · exact fun i j hij hj => absurd hj (by omega)
theorem spec_l3At.loop (l : List S104) (hl : l.length ≤ 1048576) (hu : Rises l) (n : Nat) (hn : n < l.length) (d : Nat) : ∀ i : Int, 0 ≤ i → i ≤ n → (n : Int) - i = d → Ev (fun k => spec_l3At.l0 k (rd_T104 l (n : Int)).f0 l (l.length : Int) i) (rd_T104 l (n : Int)).f1 := by
  induction d with
  | zero =>
    intro i h0 hi hd
    obtain rfl : i = (n : Int) := by omega
    exact Ev.step (fun k => by rw [spec_l3At.l0, if_pos (by omega), if_pos h0, if_pos (by omega), if_pos rfl]) (Ev.now _)
  | succ d ih =>
    intro i h0 hi hd
    have hne := hu i.toNat n (by omega) hn
    rw [show ((i.toNat : Nat) : Int) = i by omega] at hne
    refine Ev.step (fun k => by rw [spec_l3At.l0, if_pos (by omega), if_pos h0, if_pos (by omega), if_neg hne, wrap_id (x := i + 1) (by omega) (by omega)]) ?_
    exact ih (i + 1) (by omega) (by omega) (by omega)
theorem spec_l3At.is (l : List S104) (hl : l.length ≤ 1048576) (hu : Rises l) {e : S104} (he : e ∈ l) : Ev (fun k => spec_l3At.f k l e.f0) e.f1 := by
  obtain ⟨n, hn, en⟩ := List.mem_iff_getElem.1 he
  have e' : rd_T104 l (n : Int) = e := by
    show l.getD (n : Int).toNat z104 = e
    rw [List.getD_eq_getElem?_getD, show (n : Int).toNat = n by omega, List.getElem?_eq_getElem hn]; exact en
  have := spec_l3At.loop l hl hu n hn n 0 (by omega) (by omega) (by omega)
  rw [e'] at this
  exact this
theorem segs_apps : ∀ (a b : List UInt8), segs (a ++ 47 :: b) = segs a ++ segs b
  | [], b => by rw [List.nil_append, segs_slash]; rfl
  | c :: a, b => by
    by_cases hc : c = 47
    · subst hc; rw [List.cons_append, segs_slash, segs_slash, segs_apps a b]; rfl
    · obtain ⟨x, t, h1, h2⟩ := segs_cons c a hc
      obtain ⟨x', t', h3, h4⟩ := segs_cons c (a ++ 47 :: b) hc
      rw [segs_apps a b, h1, List.cons_append, List.cons.injEq] at h3
      rw [List.cons_append, h4, h2, ← h3.1, ← h3.2]; rfl
def names (s : ByteArray) : List ByteArray := (parts s).filter fun p => decide (p.toList ≠ [46])
theorem names_one {nm : ByteArray} (h : nameB nm = true) : names nm = [nm] ∧ nm.toList ≠ [46] := by
  unfold nameB partB dotsB at h
  rw [Bool.and_eq_true, Bool.and_eq_true, decide_eq_true_iff] at h
  obtain ⟨⟨h1, h2⟩, h3⟩ := h
  have hn : 47 ∉ nm.toList := fun hm => by
    rw [bytesOf_eq, nb_all, List.all_eq_true] at h2
    have := h2 47 hm
    revert this; decide
  have hne : nm.toList ≠ [46] := fun e => by rw [e] at h3; revert h3; decide
  have hz : nm.toList ≠ [] := fun e => by rw [size_eq, e] at h1; simp at h1
  refine ⟨?_, hne⟩
  unfold names parts pieces
  rw [segs_none _ hn, List.map_cons, List.map_nil, mk_toList, List.filter_cons, if_pos (by simpa using hz), List.filter_nil, List.filter_cons, if_pos (by simpa using hne), List.filter_nil]
theorem names_dot : names (⟨#[46]⟩ : ByteArray) = [] := by
  unfold names parts pieces
  rw [show (⟨#[46]⟩ : ByteArray).toList = [46] from toList_mk [46], segs_none [46] (by decide)]
  simp [toList_mk]
theorem names_below {p nm : ByteArray} (h : nameB nm = true) : names (belowT p nm) = names p ++ [nm] := by
  obtain ⟨h1, _⟩ := names_one h
  unfold belowT
  by_cases hp : p.toList = [46]
  · rw [if_pos hp, h1, show p = (⟨#[46]⟩ : ByteArray) from eq_of_toList (by rw [hp]; exact (toList_mk [46]).symm), names_dot]; rfl
  · rw [if_neg hp]
    have e : ((p ++ (⟨#[47]⟩ : ByteArray)) ++ nm).toList = p.toList ++ 47 :: nm.toList := by rw [toList_append, toList_append, show (⟨#[47]⟩ : ByteArray).toList = [47] from toList_mk [47]]; simp
    have e2 : pieces ((p ++ (⟨#[47]⟩ : ByteArray)) ++ nm) = pieces p ++ pieces nm := by unfold pieces; rw [e, segs_apps, List.map_append]
    rw [← h1]
    unfold names parts
    rw [e2, List.filter_append, List.filter_append]
def Chain (ns : List S65) : Int → List ByteArray → Int → Prop
  | a, [], x => a = x
  | a, q :: qs, x => 0 ≤ a ∧ a < (ns.length : Int) ∧ ∃ e ∈ (rd_T65 ns a).f6, e.f0 = q ∧ Chain ns e.f1 qs x
theorem wl_chain (ns : List S65) (b : Bool) (hr : ∀ v ∈ ns, ∀ e ∈ v.f6, (0 ≤ e.f1 ∧ e.f1 < (ns.length : Int)) ∧ nameB e.f0 = true) : ∀ (d : Nat) (p : ByteArray) (a : Int), 0 ≤ a → a < (ns.length : Int) → ∀ w ∈ wl ns b d p a, ∃ qs, names w.f0 = names p ++ qs ∧ Chain ns a qs w.f1
  | 0, p, a, _, _, w, hw => by
    rw [wl, List.mem_singleton] at hw; rw [hw]; exact ⟨[], by simp, rfl⟩
  | d + 1, p, a, h0, h1, w, hw => by
    rw [wl, wk_mem, List.mem_flatMap] at hw
    rcases hw with rfl | ⟨e, he, hw⟩
    · exact ⟨[], by simp, rfl⟩
    · have h := hr _ (nd_mem ns a h0 h1) e he
      obtain ⟨qs, e1, e2⟩ := wl_chain ns b hr d _ _ h.1.1 h.1.2 w hw
      exact ⟨e.f0 :: qs, by rw [e1, names_below h.2, List.append_assoc]; rfl, h0, h1, e, he, rfl, e2⟩
theorem spec_l7At.loop (ns : List S65) (room : Int) (hs : ∀ v ∈ ns, v.f6.length ≤ 1048576) (hu : ∀ v ∈ ns, Rises v.f6) (l : List ByteArray) (hl : l.length ≤ 1000000) (y : Int) (d : Nat) : ∀ (j x : Int), 0 ≤ j → j ≤ l.length → (l.length : Int) - j = d → Chain ns x ((l.drop j.toNat).filter fun p => decide (p.toList ≠ [46])) y → Ev (fun k => spec_l7At.l0 k x l (l.length : Int) j ns room) y := by
  induction d with
  | zero =>
    intro j x h0 hj hd hc
    rw [List.drop_eq_nil_iff.mpr (by omega)] at hc
    obtain rfl : x = y := hc
    exact Ev.step (fun k => by rw [spec_l7At.l0, if_neg (by omega)]) (Ev.now _)
  | succ d ih =>
    intro j x h0 hj hd hc
    have hlt : j < (l.length : Int) := by omega
    rw [rdOf_drop l j h0 hlt, List.filter_cons] at hc
    refine Ev.step (fun k => by rw [spec_l7At.l0, if_pos hlt, if_pos h0, if_pos hlt, wrap_id (x := j + 1) (by omega) (by omega)]) ?_
    by_cases h : (rdOf ByteArray.empty l j).toList = [46]
    · rw [if_neg (by simpa using h)] at hc
      exact ev_pos h (ih (j + 1) x (by omega) (by omega) (by omega) hc)
    · rw [if_pos (by simpa using h)] at hc
      obtain ⟨a0, a1, e, he, e1, e2⟩ := hc
      have hm := nd_mem ns x a0 a1
      refine ev_neg h (ev_pos a0 (ev_pos a1 (ev_bind (a := e.f1) ?_ (ih (j + 1) _ (by omega) (by omega) (by omega) e2))))
      rw [← e1]
      exact spec_l3At.is _ (hs _ hm) (hu _ hm) he
theorem spec_l7At.is {ns : List S65} {room a : Int} {b : Bool} {d : Nat} (hs : ∀ v ∈ ns, Small1 v) (hg : SpecGood ns room) (hr : ∀ v ∈ ns, ∀ e ∈ v.f6, (0 ≤ e.f1 ∧ e.f1 < (ns.length : Int)) ∧ nameB e.f0 = true) (h0 : 0 ≤ a) (h1 : a < (ns.length : Int)) {w : S75} (hw : w ∈ wl ns b d (⟨#[46]⟩ : ByteArray) a) (hz : w.f0.size ≤ 1000) : Ev (fun k => spec_l7At.f k ns room a w.f0) w.f1 := by
  obtain ⟨qs, e1, e2⟩ := wl_chain ns b hr d _ a h0 h1 w hw
  rw [names_dot, List.nil_append] at e1
  have hp := parts_length w.f0
  refine ev_bind (spec_l2Parts.is w.f0 (by omega)) (spec_l7At.loop ns room (fun v hv => (hs v hv).2.1) (rises_in hg.2.1) (parts w.f0) (by omega) w.f1 (parts w.f0).length 0 a (by omega) (by omega) (by omega) ?_)
  rw [show (0 : Int).toNat = 0 from rfl, List.drop_zero]
  show Chain ns a (names w.f0) w.f1
  rw [e1]; exact e2
end Go.Proofs.YtdjceippnokimaaGreatDoor.PTr
namespace Go.Proofs.YtdjceippnokimaaGreatDoor.PTr
open Go.RowKit Go.Proofs.YtdjceippnokimaaGreatDoorW.PrintWords Go.Proofs.YtdjceippnokimaaGreatDoorW.PrintLast Go.Proofs.YtdjceippnokimaaGreatDoorW.PrintMore Go.Proofs.YtdjceippnokimaaGreatDoor.Aid
set_option linter.unusedSimpArgs false
set_option linter.unusedVariables false
def num (n : Int) : ByteArray := ⟨(Lib.itoa n).toArray⟩
theorem arr_toList (l : List UInt8) : (⟨l.toArray⟩ : ByteArray).toList = l := ByteArray.toList_mk l
theorem app_toList (a b : ByteArray) : (a ++ b).toList = a.toList ++ b.toList := by
  rw [ByteArray.toList_eq, ByteArray.toList_eq, ByteArray.toList_eq, ByteArray.data_append, Array.toList_append]
theorem dec_len : ∀ u : Nat, (Lib.decDigits u).length ≤ u + 1 := by
  intro u
  induction u using Nat.strongRecOn with
  | _ u ih =>
    rw [Lib.decDigits]
    split
    · simp
    · rw [List.length_append, List.length_singleton]
      have := ih (u / 10) (by omega)
      omega
theorem num_nonneg {n : Int} (h : 0 ≤ n) : num n = ⟨(Lib.decDigits n.toNat).toArray⟩ := by unfold num Lib.itoa; rw [if_neg (by omega)]
theorem num_size {n : Int} (h : 0 ≤ n) : ((num n).size : Int) ≤ n + 1 := by
  rw [num_nonneg h, size_eq, arr_toList]
  have := dec_len n.toNat; omega
theorem one_digit : ∀ d : Fin 10, strOfNums [((48 : Int) + (d.val : Int)) % 256] = (⟨#[UInt8.ofNat (48 + d.val)]⟩ : ByteArray) := by decide +kernel
theorem digit {d : Int} (h0 : 0 ≤ d) (h1 : d < 10) : strOfNums [(wrap64 (48 + d)) % 256] = (⟨#[UInt8.ofNat (48 + d.toNat)]⟩ : ByteArray) := by
  rw [wrap_id (by omega) (by omega)]
  obtain ⟨m, rfl⟩ := Int.eq_ofNat_of_zero_le h0
  exact one_digit ⟨m, by omega⟩
theorem spec_l1Num.is (u : Nat) : ∀ n : Int, 0 ≤ n → n ≤ 9223372036854775000 → n.toNat = u → Ev (fun k => spec_l1Num.f k n) (num n) := by
  induction u using Nat.strongRecOn with
  | _ u ih =>
    intro n h0 h1 hu
    by_cases h : n < 10
    · refine Ev.step (fun k => by rw [spec_l1Num.f, if_pos h]) (ev_some ?_)
      rw [digit h0 h, num_nonneg h0, Lib.decDigits, dif_pos (by omega)]
    · have e : Int.tdiv n 10 = n / 10 := Int.tdiv_eq_ediv_of_nonneg h0
      have em : Int.tmod n 10 = n % 10 := Int.tmod_eq_emod_of_nonneg h0
      have hq : wrap64 (Int.tdiv n 10) = n / 10 := by rw [e, wrap_id (by omega) (by omega)]
      have hd : strOfNums [(wrap64 (48 + (Int.tmod n 10))) % 256] = (⟨#[UInt8.ofNat (48 + (n % 10).toNat)]⟩ : ByteArray) := by
        rw [em]; exact digit (by omega) (by omega)
      have hz := num_size (n := n / 10) (by omega)
      have h1z : (strOfNums [(wrap64 (48 + (Int.tmod n 10))) % 256]).size = 1 := by rw [hd]; rfl
      have hc : (num (n / 10)).size + (strOfNums [(wrap64 (48 + (Int.tmod n 10))) % 256]).size ≤ 9223372036854775807 := by rw [h1z]; omega
      refine Ev.step (fun k => by rw [spec_l1Num.f, if_neg h, hq]) (ev_bind (ih (n / 10).toNat (by omega) (n / 10) (by omega) (by omega) rfl) (ev_bind0 rfl (ev_pos hc (ev_some ?_))))
      rw [hd]
      refine eq_of_toList ?_
      rw [app_toList, num_nonneg h0, num_nonneg (show 0 ≤ n / 10 by omega), arr_toList, arr_toList]
      conv => rhs; rw [Lib.decDigits]
      rw [dif_neg (by omega), show (n / 10).toNat = n.toNat / 10 by omega, show (n % 10).toNat = n.toNat % 10 by omega]
      exact (arr_toList _).symm
end Go.Proofs.YtdjceippnokimaaGreatDoor.PTr
namespace Go.Proofs.YtdjceippnokimaaGreatDoor.PTr
open Go.RowKit Go.Proofs.YtdjceippnokimaaGreatDoorW.PrintWords Go.Proofs.YtdjceippnokimaaGreatDoorW.PrintLast Go.Proofs.YtdjceippnokimaaGreatDoorW.PrintMore Go.Proofs.YtdjceippnokimaaGreatDoor.Aid Go.Proofs.YtdjceippnokimaaGreatDoor.Loops
set_option linter.unusedVariables false
set_option linter.unusedSimpArgs false
theorem signs_all : ∀ n : Fin 512, spec_l1Signs.f 10 (n.val : Int) = impl_modeText.f (n.val : Int) := by decide +kernel
theorem spec_l1Signs.is {x : Int} (h0 : 0 ≤ x) (h1 : x < 512) : Ev (fun k => spec_l1Signs.f k x) (strOfNums (impl_modeText.list x)) := by
  obtain ⟨n, rfl⟩ := Int.eq_ofNat_of_zero_le h0
  exact Ev.of (spec_l1Signs.mono _) (signs_all ⟨n, by omega⟩)
theorem signs_size (x : Int) : (strOfNums (impl_modeText.list x)).size = 9 := by
  unfold impl_modeText.list; rfl
theorem dec_le : ∀ (k u : Nat), 1 ≤ k → u < 10 ^ k → (Lib.decDigits u).length ≤ k
  | 0, _, h, _ => absurd h (by omega)
  | k + 1, u, _, h => by
    rw [Lib.decDigits]
    split
    · simp
    · rename_i h10
      rw [List.length_append, List.length_singleton]
      rcases Nat.eq_zero_or_pos k with rfl | hk
      · simp at h; omega
      · have := dec_le k (u / 10) hk (by rw [Nat.pow_succ] at h; omega)
        omega
theorem num_le {n : Int} (h : 0 ≤ n) (h1 : n ≤ 1000000) : (num n).size ≤ 7 := by
  rw [num_nonneg h, size_eq, arr_toList]
  exact dec_le 7 n.toNat (by omega) (by have : (10 : Nat) ^ 7 = 10000000 := by decide
                                        omega)
theorem sign_same : ∀ d : Fin 4, 1 ≤ d.val → (⟨#[63, 45, 100, 108]⟩ : ByteArray).extract d.val (d.val + 1) = (⟨#[32, 45, 100, 108]⟩ : ByteArray).extract d.val (d.val + 1) ∧ ((⟨#[32, 45, 100, 108]⟩ : ByteArray).extract d.val (d.val + 1)).size = 1 := by decide +kernel
def sg (a : Int) : ByteArray := (⟨#[32, 45, 100, 108]⟩ : ByteArray).extract a.toNat (wrap64 (a + 1)).toNat
theorem sign_eq {a : Int} (h : 1 ≤ a ∧ a ≤ 3) : (⟨#[63, 45, 100, 108]⟩ : ByteArray).extract a.toNat (wrap64 (a + 1)).toNat = sg a ∧ (sg a).size = 1 := by
  unfold sg
  rw [wrap_id (by omega) (by omega), show (a + 1).toNat = a.toNat + 1 by omega]
  exact sign_same ⟨a.toNat, by omega⟩ (by show 1 ≤ a.toNat; omega)
def sp : ByteArray := ⟨#[32]⟩
def nl : ByteArray := ⟨#[10]⟩
def headT (v : S65) (p : ByteArray) : ByteArray := (((((((((sg v.f0 ++ strOfNums (impl_modeText.list v.f1)) ++ sp) ++ num v.f2) ++ sp) ++ num v.f3) ++ sp) ++ num v.f4) ++ sp) ++ p)
def lineT (v : S65) (p : ByteArray) : ByteArray := if v.f0 = 2 then headT v p ++ nl else (headT v p ++ (sp ++ v.f5)) ++ nl
def Fine (v : S65) : Prop := (1 ≤ v.f0 ∧ v.f0 ≤ 3) ∧ (0 ≤ v.f1 ∧ v.f1 ≤ 511) ∧ (0 ≤ v.f2 ∧ v.f2 ≤ 99) ∧ (0 ≤ v.f3 ∧ v.f3 ≤ 99) ∧ (0 ≤ v.f4 ∧ v.f4 ≤ 1000000) ∧ v.f5.size ≤ 1048576
theorem fine_of {lo : Int} {ns : List S65} {v : S65} (h : Good1 lo ns v) (hs : Small1 v) (h0 : v.f0 ≠ 0) : Fine v := by
  obtain ⟨h1, h2, h3, h4, h5⟩ := h.2 h0
  refine ⟨?_, h1, h2, h3, h4, hs.1⟩
  rcases h5 with h5 | h5 | h5 <;> (have := h5.1; omega)
theorem line_size {v : S65} (h : Fine v) {p : ByteArray} (hp : p.size ≤ 1000) : (lineT v p).size ≤ 1060000 := by
  have h1 := (sign_eq h.1).2
  have h2 := signs_size v.f1
  have h3 := num_le h.2.2.1.1 (by have := h.2.2.1.2; omega)
  have h4 := num_le h.2.2.2.1.1 (by have := h.2.2.2.1.2; omega)
  have h5 := num_le h.2.2.2.2.1.1 h.2.2.2.2.1.2
  have h6 := h.2.2.2.2.2
  have e1 : sp.size = 1 := rfl
  have e2 : nl.size = 1 := rfl
  unfold lineT headT
  split <;> (simp only [ByteArray.size_append]; omega)
theorem itoa_num {n : Int} (h0 : 0 ≤ n) (h1 : n ≤ 1000000) : strconv_Itoa.f n = some (num n) := by
  unfold strconv_Itoa.f; rw [if_pos (by omega)]; rfl
theorem kind_is {a : Int} (h : 1 ≤ a ∧ a ≤ 3) : impl_kindSign.f a = some (sg a) := by
  have hw : wrap64 (a + 1) = a + 1 := wrap_id (by omega) (by omega)
  unfold impl_kindSign.f
  rw [if_pos (by omega), if_pos (by rw [hw]; omega), if_pos (by rw [hw]; omega)]; rfl
theorem impl_Fs_wayText.is (ns : List S65) (room n : Int) (p : ByteArray) (h0 : 0 ≤ n) (h1 : n < (ns.length : Int)) (hv : Fine (rd_T65 ns n)) (hp : p.size ≤ 1000) : impl_Fs_wayText.f ns room p n = some (lineT (rd_T65 ns n) p) := by
  unfold impl_Fs_wayText.f
  rw [if_pos h0, if_pos h1]
  generalize rd_T65 ns n = v at hv
  have s1 := (sign_eq hv.1).2
  have s2 := signs_size v.f1
  have s3 := num_le hv.2.2.1.1 (by have := hv.2.2.1.2; omega)
  have s4 := num_le hv.2.2.2.1.1 (by have := hv.2.2.2.1.2; omega)
  have s5 := num_le hv.2.2.2.2.1.1 hv.2.2.2.2.1.2
  have s6 := hv.2.2.2.2.2
  rw [kind_is hv.1, Option.bind_some, show impl_modeText.f v.f1 = some (strOfNums (impl_modeText.list v.f1)) from rfl, Option.bind_some, if_pos (by omega), if_pos (by omega), itoa_num hv.2.2.1.1 (by have := hv.2.2.1.2; omega), Option.bind_some, if_pos (by omega), if_pos (by omega), itoa_num hv.2.2.2.1.1 (by have := hv.2.2.2.1.2; omega), Option.bind_some, if_pos (by omega), if_pos (by omega), itoa_num hv.2.2.2.2.1.1 hv.2.2.2.2.1.2, Option.bind_some, if_pos (by omega), if_pos (by omega), if_pos (by omega)]
  unfold lineT
  by_cases hk : v.f0 = 2
  · rw [if_pos hk, if_pos hk, if_pos (by omega)]; rfl
  · rw [if_neg hk, if_neg hk, if_pos (by omega), if_pos (by omega), if_pos (by omega)]; rfl
def textT (ns : List S65) (l : List S75) (acc : ByteArray) : ByteArray := l.foldl (fun a w => a ++ lineT (rd_T65 ns w.f1) w.f0) acc
theorem impl_tree_go (ns : List S65) (room : Int) : ∀ (l : List S75) (acc : ByteArray) (m : Nat), (∀ w ∈ l, (0 ≤ w.f1 ∧ w.f1 < (ns.length : Int)) ∧ Fine (rd_T65 ns w.f1) ∧ w.f0.size ≤ 1000) → m + l.length ≤ 41943041 → acc.size ≤ m * 1060000 → impl_Fs_treeText.go ns room l acc = some (textT ns l acc)
  | [], acc, m, _, _, _ => rfl
  | w :: l, acc, m, hw, hl, ha => by
    obtain ⟨⟨h0, h1⟩, h2, h3⟩ := hw w (by simp)
    rw [List.length_cons] at hl
    have hz := line_size h2 h3
    rw [impl_Fs_treeText.go, impl_Fs_wayText.is ns room w.f1 w.f0 h0 h1 h2 h3, Option.bind_some, if_pos (by omega)]
    exact impl_tree_go ns room l _ (m + 1) (fun x hx => hw x (by simp [hx])) (by omega) (by rw [ByteArray.size_append]; omega)
theorem spec_l7Text.loop (ns : List S65) (room a : Int) (l : List S75) (hl : l.length ≤ 41943041) (hw : ∀ w ∈ l, (0 ≤ w.f1 ∧ w.f1 < (ns.length : Int)) ∧ Fine (rd_T65 ns w.f1) ∧ w.f0.size ≤ 1000) (hat : ∀ w ∈ l, Ev (fun k => spec_l7At.f k ns room a w.f0) w.f1) (d : Nat) : ∀ (j : Int) (acc : ByteArray), 0 ≤ j → j ≤ l.length → (l.length : Int) - j = d → (acc.size : Int) ≤ j * 1060000 → Ev (fun k => spec_l7Text.l0 k a acc (l.map (·.f0)) (l.length : Int) j ns room) (textT ns (l.drop j.toNat) acc) := by
  induction d with
  | zero =>
    intro j acc h0 hj hd ha
    rw [List.drop_eq_nil_iff.mpr (by omega)]
    exact Ev.step (fun k => by rw [spec_l7Text.l0, if_neg (by omega)]) (Ev.now acc)
  | succ d ih =>
    intro j acc h0 hj hd ha
    have hlt : j < (l.length : Int) := by omega
    have hm := getD_mem l z75 j h0 hlt
    have hrd : rdOf ByteArray.empty (l.map (·.f0)) j = (l.getD j.toNat z75).f0 := by
      unfold rdOf
      have hjl : j.toNat < l.length := by omega
      rw [List.getD_eq_getElem?_getD, List.getD_eq_getElem?_getD, List.getElem?_map, List.getElem?_eq_getElem hjl]; rfl
    rw [drop_list l z75 j h0 hlt]
    generalize l.getD j.toNat z75 = w at hm hrd
    obtain ⟨⟨b0, b1⟩, hv, hp⟩ := hw w hm
    refine Ev.step (fun k => by rw [spec_l7Text.l0, if_pos hlt, if_pos h0, if_pos (by rw [List.length_map]; exact hlt), hrd]) (ev_bind (hat w hm) (ev_pos b0 (ev_pos b1 ?_)))
    have hz := line_size hv hp
    have e : textT ns (w :: l.drop (j + 1).toNat) acc = textT ns (l.drop (j + 1).toNat) (acc ++ lineT (rd_T65 ns w.f1) w.f0) := rfl
    rw [e]
    have hz2 : ((acc ++ lineT (rd_T65 ns w.f1) w.f0).size : Int) ≤ (j + 1) * 1060000 := by rw [ByteArray.size_append]; omega
    have ihh := ih (j + 1) (acc ++ lineT (rd_T65 ns w.f1) w.f0) (by omega) (by omega) (by omega) hz2
    clear e hz2 hz
    generalize rd_T65 ns w.f1 = v at hv ihh ⊢
    have hwr : wrap64 (v.f0 + 1) = v.f0 + 1 := wrap_id (by have := hv.1; omega) (by have := hv.1; omega)
    have s0 := sign_eq hv.1
    have s1 := s0.2
    have s2 := signs_size v.f1
    have s3 := num_le hv.2.2.1.1 (by have := hv.2.2.1.2; omega)
    have s4 := num_le hv.2.2.2.1.1 (by have := hv.2.2.2.1.2; omega)
    have s5 := num_le hv.2.2.2.2.1.1 hv.2.2.2.2.1.2
    have s6 := hv.2.2.2.2.2
    refine ev_pos (by have := hv.1; omega) (ev_pos (by rw [hwr]; omega) (ev_pos (by rw [hwr]; have := hv.1; omega) (ev_bind (spec_l1Signs.is hv.2.1.1 (by have := hv.2.1.2; omega)) ?_)))
    rw [s0.1]
    refine ev_pos (by omega) (ev_pos (by omega) (ev_bind (spec_l1Num.is _ v.f2 hv.2.2.1.1 (by have := hv.2.2.1.2; omega) rfl) (ev_pos (by omega) (ev_pos (by omega) (ev_bind (spec_l1Num.is _ v.f3 hv.2.2.2.1.1 (by have := hv.2.2.2.1.2; omega) rfl) (ev_pos (by omega) (ev_pos (by omega) (ev_bind (spec_l1Num.is _ v.f4 hv.2.2.2.2.1.1 (by have := hv.2.2.2.2.1.2; omega) rfl) ?_))))))))
    refine ev_pos (by omega) (ev_pos (by omega) (ev_pos (by omega) (ev_pos (by omega) ?_)))
    rw [wrap_id (x := j + 1) (by omega) (by omega)]
    by_cases hk : v.f0 = 2
    · have e : acc ++ lineT v w.f0 = (acc ++ headT v w.f0) ++ nl := by unfold lineT; rw [if_pos hk, ByteArray.append_assoc]
      rw [e] at ihh ⊢
      refine ev_pos hk (ev_pos (by omega) ?_)
      exact ihh
    · have e : acc ++ lineT v w.f0 = ((acc ++ headT v w.f0) ++ (sp ++ v.f5)) ++ nl := by unfold lineT; rw [if_neg hk]; simp only [ByteArray.append_assoc]
      rw [e] at ihh ⊢
      refine ev_neg hk (ev_pos (by omega) (ev_pos (by omega) (ev_pos (by omega) ?_)))
      exact ihh
theorem there_in {ns : List S65} {lo : Int} (h1 : All1 lo ns) : ∀ v ∈ ns, ∀ e ∈ v.f6, (rd_T65 ns e.f1).f0 ≠ 0 := fun v hv e he => by
  obtain ⟨i, hi, ei⟩ := List.mem_iff_getElem.1 he
  have hg := all_mem h1 v hv
  by_cases h0 : v.f0 = 0
  · have := (hg.1 h0).2.2.2.2.2; omega
  · rcases (hg.2 h0).2.2.2.2 with h' | h' | h'
    · omega
    · have := (h'.2.2 i (by omega) (by omega)).2.2.2.2
      have e' : rd_T104 v.f6 (i : Int) = e := by
        show v.f6.getD (i : Int).toNat z104 = e
        rw [List.getD_eq_getElem?_getD, show (i : Int).toNat = i by omega, List.getElem?_eq_getElem hi]; exact ei
      rw [e'] at this; exact this
    · omega
theorem wl_there (ns : List S65) (b : Bool) (hr : ∀ v ∈ ns, ∀ e ∈ v.f6, (0 ≤ e.f1 ∧ e.f1 < (ns.length : Int)) ∧ (rd_T65 ns e.f1).f0 ≠ 0) : ∀ (d : Nat) (p : ByteArray) (a : Int), 0 ≤ a → a < (ns.length : Int) → (rd_T65 ns a).f0 ≠ 0 → ∀ w ∈ wl ns b d p a, (rd_T65 ns w.f1).f0 ≠ 0
  | 0, p, a, h0, h1, h2, w, hw => by
    rw [wl, List.mem_singleton] at hw; rw [hw]; exact h2
  | d + 1, p, a, h0, h1, h2, w, hw => by
    rw [wl, wk_mem, List.mem_flatMap] at hw
    rcases hw with rfl | ⟨e, he, hw⟩
    · exact h2
    · have h := hr _ (nd_mem ns a h0 h1) e he
      exact wl_there ns b hr d _ _ h.1.1 h.1.2 h.2 w hw
theorem text_at (ns : List S65) (room a : Int) (hn' : ns.length ≤ 1048576) (hs : ∀ v ∈ ns, Small1 v) :
    (Ev (fun k => spec_l7Asked.f k ns room a) false ∧ Ev (fun k => impl_isGoodAt.f k ns room a) false) ∨
    (Ev (fun k => spec_l7Asked.f k ns room a) true ∧ Ev (fun k => impl_isGoodAt.f k ns room a) true ∧ ∃ t, Ev (fun k => spec_l7Text.f k ns room a) t ∧ Ev (fun k => impl_Fs_treeText.f k ns room a) t) := by
  rcases ways_at ns room a hn' hs with ⟨h1, h2⟩ | ⟨h1, h2, hg, h0, hlt, hk, hrn, d, _, _, h⟩
  · exact .inl ⟨h1, h2⟩
  · obtain ⟨h3, h4, hl, hw⟩ := h false
    have hat : ∀ w ∈ wl ns false d (⟨#[46]⟩ : ByteArray) a, Ev (fun k => spec_l7At.f k ns room a w.f0) w.f1 := fun w hm => spec_l7At.is hs hg hrn h0 hlt hm (hw w hm).1
    have ht := wl_there ns false (fun v hv e he => ⟨(hrn v hv e he).1, there_in hg.2.1 v hv e he⟩) d (⟨#[46]⟩ : ByteArray) a h0 hlt hk
    have hf : ∀ w ∈ wl ns false d (⟨#[46]⟩ : ByteArray) a, (0 ≤ w.f1 ∧ w.f1 < (ns.length : Int)) ∧ Fine (rd_T65 ns w.f1) ∧ w.f0.size ≤ 1000 := fun w hm =>
      ⟨(hw w hm).2, fine_of (hg.2.1 w.f1 (hw w hm).2.1 (hw w hm).2.2) (hs _ (nd_mem ns w.f1 (hw w hm).2.1 (hw w hm).2.2)) (ht w hm), (hw w hm).1⟩
    generalize wl ns false d (⟨#[46]⟩ : ByteArray) a = L at h3 h4 hl hw hat hf
    have hi := impl_tree_go ns room L ⟨#[]⟩ 0 hf (by omega) (by show (⟨#[]⟩ : ByteArray).size ≤ _; exact Nat.zero_le _)
    have hsp := spec_l7Text.loop ns room a L hl hf hat L.length 0 ⟨#[]⟩ (by omega) (by omega) (by omega) (by show ((⟨#[]⟩ : ByteArray).size : Int) ≤ _; exact Int.le_refl 0)
    rw [show (0 : Int).toNat = 0 from rfl, List.drop_zero] at hsp
    refine .inr ⟨h1, h2, textT ns L ⟨#[]⟩, ev_bind h3 ?_, ev_bind h4 (ev_of hi)⟩
    rw [List.length_map]; exact hsp
theorem TreeText.same (ns : List S65) (room a : Int) (hn' : ns.length ≤ 1048576) (hs : ∀ v ∈ ns, Small1 v) : ∃ (v : ByteArray) (b : Bool), Ev (fun k => spec_TreeText.f k ns room a) (v, b) ∧ Ev (fun k => impl_TreeText.f k ns room a) (v, b) := by
  rcases text_at ns room a hn' hs with ⟨h1, h2⟩ | ⟨h1, h2, t, h3, h4⟩
  · exact ⟨⟨#[]⟩, false, ev_bind h1 (ev_neg (by simp) (Ev.now _)), ev_bind h2 (ev_neg (by simp) (Ev.now _))⟩
  · exact ⟨t, true, ev_bind h1 (ev_pos rfl (ev_bind h3 (Ev.now _))), ev_bind h2 (ev_pos rfl (ev_bind h4 (Ev.now _)))⟩
end Go.Proofs.YtdjceippnokimaaGreatDoor.PTr
namespace Go.Proofs.YtdjceippnokimaaGreatDoor.Pure
open Go.RowKit Go.Proofs.YtdjceippnokimaaGreatDoor.PTr Go.Proofs.YtdjceippnokimaaGreatDoorW.PrintWords Go.Proofs.YtdjceippnokimaaGreatDoor.Aid
theorem FnExactTreeText : laws_FnExactTreeText.Pure := by
  intro a n x ha hn hx
  refine Ev.rounds (r := true) ?_
  unfold laws_FnExactTreeText.f
  obtain ⟨r, hr, e⟩ := laws_szFs.is a n ha.1 (fun x hx => ⟨(ha.2 x hx).2.2.2.2.2.1, (ha.2 x hx).2.2.2.2.2.2.1, fun y hy => ((ha.2 x hx).2.2.2.2.2.2.2 y hy).1⟩) 1048576 (by omega) (by omega)
  rcases e with e | ⟨e1, e2, e3, e4⟩
  · exact ev_bind hr (ev_pos e (Ev.now _))
  refine ev_bind hr (ev_neg (by omega) ?_)
  have ta := laws_toFs.is a n e3 e4
  have oa := nodC_ok e4
  have sa := small_of e4
  have la : (a.map nodC).length ≤ 1048576 := by rw [List.length_map]; omega
  generalize a.map nodC = A at ta oa sa la
  obtain ⟨v, b, hs, ht⟩ := TreeText.same A n x la sa
  refine ev_bind ta (ev_bind hs (ev_bind ta (ev_bind ht (ev_pos rfl ?_))))
  show Ev (fun k => laws_FnExactTreeText.j0 k (b != b) a n A n) true
  rw [bne_self_eq_false]
  exact Ev.step (fun k => by rw [laws_FnExactTreeText.j0, if_neg (by decide)]) (ev_bind ta (ev_bind (laws_eqFs.same A n (by omega) oa) (ev_pos rfl (Ev.now _))))
end Go.Proofs.YtdjceippnokimaaGreatDoor.Pure
