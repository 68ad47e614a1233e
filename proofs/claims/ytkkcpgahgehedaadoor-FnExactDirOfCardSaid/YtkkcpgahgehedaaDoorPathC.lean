/- impl.isDots, impl.GoodName. -/
import Derived.Test.YtkkcpgahgehedaaDoorPathB
namespace Go.Proofs.YtkkcpgahgehedaaDoor.PPath
open Go.RowKit Go.Proofs.YtkkcpgahgehedaaDoorW.PrintWords Go.Proofs.YtkkcpgahgehedaaDoorW.PrintLast Go.Proofs.YtkkcpgahgehedaaDoorW.PrintMore Go.Proofs.YtkkcpgahgehedaaDoor.Aid
theorem impl_isDots.is (s : ByteArray) : impl_isDots.f s = some (dotsB s) := by
  unfold impl_isDots.f dotsB
  by_cases h : s.toList = ([46] : List UInt8)
  · rw [if_pos h]; simp [h]
  · rw [if_neg h]; simp [h]
theorem impl_GoodName.is (s : ByteArray) : Ev (fun k => impl_GoodName.f k s) (nameB s) := by
  unfold impl_GoodName.f nameB
  refine ev_bind (impl_isPart.is s) ?_
  refine ev_ite (fun h => ?_) (fun h => ?_)
  · rw [impl_isDots.is, h]; exact Ev.now _
  · exact ev_some (by rw [Bool.eq_false_iff.mpr h]; rfl)
end Go.Proofs.YtkkcpgahgehedaaDoor.PPath

/- The last name of a clean path: what the program's and the reference's functions tell. -/
namespace Go.Proofs.YtkkcpgahgehedaaDoor.PPath
open Go.RowKit Go.Proofs.YtkkcpgahgehedaaDoorW.PrintWords Go.Proofs.YtkkcpgahgehedaaDoorW.PrintLast Go.Proofs.YtkkcpgahgehedaaDoorW.PrintMore Go.Proofs.YtkkcpgahgehedaaDoor.Aid
set_option linter.unusedSimpArgs false
set_option linter.unusedVariables false

theorem lastIdx.loop (s : ByteArray) (hs : s.size ≤ 4294967296) (d : Nat) : ∀ i : Int, -1 ≤ i → i < s.size → i + 1 = d →
    ∃ r : Int, Ev (fun k => bytealg_LastIndexByteString.l0 k s 47 i) r ∧ ((r = -1 ∧ 47 ∉ s.toList.take (i + 1).toNat) ∨ ∃ a b, s.toList.take (i + 1).toNat = a ++ 47 :: b ∧ (a.length : Int) = r ∧ 47 ∉ b) := by
  induction d with
  | zero =>
    intro i h0 h1 hd
    refine ⟨-1, Ev.step (fun k => by rw [bytealg_LastIndexByteString.l0, if_neg (by omega)]) (Ev.now _), .inl ⟨rfl, ?_⟩⟩
    rw [show (i + 1).toNat = 0 by omega]; simp
  | succ d ih =>
    intro i h0 h1 hd
    have hi : 0 ≤ i := by omega
    obtain ⟨c, hc, hb⟩ := bt_toList s i hi h1
    have htake : s.toList.take (i + 1).toNat = s.toList.take i.toNat ++ [c] := by
      rw [show (i + 1).toNat = i.toNat + 1 by omega, List.take_add_one, hc]; rfl
    have htl : (s.toList.take i.toNat).length = i.toNat := by rw [List.length_take, ← size_eq]; omega
    by_cases h47 : c = 47
    · subst h47
      refine ⟨i, Ev.step (fun k => by rw [bytealg_LastIndexByteString.l0, if_pos hi, if_pos hi, if_pos h1, if_pos (by rw [hb]; rfl)]) (Ev.now _), .inr ⟨_, [], htake, ?_, by simp⟩⟩
      rw [htl]; omega
    · obtain ⟨r, hr, hx⟩ := ih (i - 1) (by omega) (by omega) (by omega)
      refine ⟨r, Ev.step (fun k => by rw [bytealg_LastIndexByteString.l0, if_pos hi, if_pos hi, if_pos h1, if_neg (by rw [hb, u8_47]; exact h47), wrap_id (by omega) (by omega)]) hr, ?_⟩
      rw [show i - 1 + 1 = i by omega] at hx
      rw [htake]
      rcases hx with ⟨e, hn⟩ | ⟨a, b, e, hl, hn⟩
      · refine .inl ⟨e, fun hm => ?_⟩
        rcases List.mem_append.1 hm with hm | hm
        · exact hn hm
        · exact h47 (List.mem_singleton.1 hm).symm
      · refine .inr ⟨a, b ++ [c], by rw [e]; simp, hl, fun hm => ?_⟩
        rcases List.mem_append.1 hm with hm | hm
        · exact hn hm
        · exact h47 (List.mem_singleton.1 hm).symm
theorem slash_unique {a b a0 b0 : List UInt8} (e : a ++ 47 :: b = a0 ++ 47 :: b0) (h : 47 ∉ b) (h0 : 47 ∉ b0) : a = a0 := by
  rcases List.append_eq_append_iff.1 e with ⟨x, e1, e2⟩ | ⟨x, e1, e2⟩
  · cases x with
    | nil => rw [e1]; simp
    | cons c x =>
      rw [List.cons_append] at e2
      have := (List.cons.inj e2).2
      exact absurd (by rw [this]; simp) h
  · cases x with
    | nil => rw [e1]; simp
    | cons c x =>
      rw [List.cons_append] at e2
      have := (List.cons.inj e2).2
      exact absurd (by rw [this]; simp) h0
theorem lastIdx.is (s : ByteArray) (hs : s.size ≤ 4294967296) : ∃ r : Int, Ev (fun k => strings_LastIndexByte.f k s 47) r ∧ ((r = -1 ∧ 47 ∉ s.toList) ∨ ∃ a b, s.toList = a ++ 47 :: b ∧ (a.length : Int) = r ∧ 47 ∉ b) := by
  obtain ⟨r, hr, hx⟩ := lastIdx.loop s hs s.size ((s.size : Int) - 1) (by omega) (by omega) (by omega)
  refine ⟨r, ?_, ?_⟩
  · refine ev_bind (a := r) ?_ (Ev.now _)
    unfold bytealg_LastIndexByteString.f
    rw [wrap_id (by omega) (by omega)]; exact hr
  · rwa [show ((s.size : Int) - 1 + 1).toNat = s.toList.length by rw [← size_eq]; omega, List.take_length] at hx
theorem lastIdx.none (s : ByteArray) (hs : s.size ≤ 4294967296) (h : 47 ∉ s.toList) : Ev (fun k => strings_LastIndexByte.f k s 47) (-1) := by
  obtain ⟨r, hr, ⟨rfl, _⟩ | ⟨a, b, e, _⟩⟩ := lastIdx.is s hs
  · exact hr
  · exact absurd (by rw [e]; simp) h
theorem lastIdx.at (s : ByteArray) (hs : s.size ≤ 4294967296) (a b : List UInt8) (e : s.toList = a ++ 47 :: b) (h : 47 ∉ b) : Ev (fun k => strings_LastIndexByte.f k s 47) (a.length : Int) := by
  obtain ⟨r, hr, ⟨_, hn⟩ | ⟨a', b', e', hl, hb'⟩⟩ := lastIdx.is s hs
  · exact absurd (by rw [e]; simp) hn
  · rw [slash_unique (e.symm.trans e') h hb', hl]; exact hr

/-! ### the last part -/
def dirL (w : Bool) (ps : List ByteArray) : List UInt8 := if ps = [] then [] else if w = true then 47 :: joinL ps else joinL ps
theorem clean_snoc_text (w : Bool) (ps : List ByteArray) (p : ByteArray) (h : w = true ∨ ps ≠ []) : (cleanText w (ps ++ [p])).toList = dirL w ps ++ 47 :: p.toList := by
  unfold cleanText dirL
  cases w with
  | true =>
    rw [if_pos rfl, pathText_toList]
    by_cases hn : ps = []
    · subst hn; rw [if_pos rfl, List.nil_append, joinL_one]; rfl
    · rw [if_neg hn, if_pos rfl, joinL_snoc ps p hn]; rfl
  | false =>
    have hn : ps ≠ [] := by simpa using h
    rw [if_neg (by simp), if_neg (by simp), if_neg hn, if_neg (by simp), toList_mk, joinL_snoc ps p hn]
theorem clean_one_text (p : ByteArray) : (cleanText false ([] ++ [p])).toList = p.toList := by
  unfold cleanText
  rw [if_neg (by simp), if_neg (by simp), toList_mk, List.nil_append, joinL_one]
theorem cleanText_size {s : ByteArray} (h : pathB s = true) : (cleanText (wh s) (cl s)).size ≤ 4294967295 := by
  have hj := joinSize h
  rw [size_eq]
  unfold cleanText
  split
  · rw [pathText_toList, List.length_cons]; omega
  · split
    · rw [toList_mk]; simp
    · rw [toList_mk]; omega
theorem cut_good {s : ByteArray} (h : pathB s = true) {init : List ByteArray} {p : ByteArray} (e : cl s = init ++ [p]) : Ev (fun k => impl_cut.f k s) (mk (dirL (wh s) init), p, nameB p) := by
  have hp : Part p := parts_part (cl_mem (s := s) (p := p) (by rw [e]; simp)).1
  have hz := cleanText_size h
  refine ev_bind (impl_GoodPath.is s) (ev_pos h (ev_bind (impl_clean.is s h) ?_))
  rw [e] at hz ⊢
  by_cases hc : wh s = true ∨ init ≠ []
  · have ht := clean_snoc_text (wh s) init p hc
    generalize cleanText (wh s) (init ++ [p]) = t at ht hz ⊢
    have hl : t.size = (dirL (wh s) init).length + 1 + p.toList.length := by rw [size_eq, ht, List.length_append, List.length_cons]; omega
    refine ev_bind (lastIdx.at t (by omega) _ _ ht hp.1) ?_
    have hm : mx 0 ((dirL (wh s) init).length : Int) = ((dirL (wh s) init).length : Int) := by unfold mx; omega
    rw [hm, wrap_id (by omega) (by omega)]
    have e1 : t.extract ((((dirL (wh s) init).length : Int) + 1)).toNat t.size = p := by
      refine eq_of_toList ?_
      rw [toList_extract, ht, show ((((dirL (wh s) init).length : Int) + 1)).toNat = (dirL (wh s) init).length + 1 by omega, List.drop_append, List.drop_eq_nil_iff.mpr (by omega), List.nil_append,
        show (dirL (wh s) init).length + 1 - (dirL (wh s) init).length = 1 by omega, List.drop_succ_cons, List.drop_zero, List.take_of_length_le (by omega)]
    have e2 : t.extract 0 (((dirL (wh s) init).length : Int)).toNat = mk (dirL (wh s) init) := by
      refine eq_of_toList ?_
      rw [toList_extract, ht, toList_mk, List.drop_zero, show (((dirL (wh s) init).length : Int)).toNat - 0 = (dirL (wh s) init).length by omega, List.take_left']; rfl
    rw [e1, e2]
    refine ev_pos (by omega) (ev_pos (by omega) (ev_pos (by omega) (ev_pos (by omega) ?_)))
    exact ev_bind (impl_GoodName.is p) (Ev.now _)
  · have hw : wh s = false := by cases hh : wh s with
      | false => rfl
      | true => exact absurd (.inl hh) hc
    have hn : init = [] := Decidable.byContradiction fun hh => hc (.inr hh)
    subst hn
    rw [hw] at hz ⊢
    have ht : cleanText false ([] ++ [p]) = p := eq_of_toList (clean_one_text p)
    rw [ht] at hz ⊢
    refine ev_bind (lastIdx.none p (by omega) hp.1) ?_
    have hm : mx 0 (-1 : Int) = 0 := by decide
    rw [hm, show wrap64 (-1 + 1) = 0 from wrap_id (x := -1 + 1) (by omega) (by omega)]
    have e1 : p.extract (0 : Int).toNat p.size = p := by
      refine eq_of_toList ?_
      rw [toList_extract, Int.toNat_zero, List.drop_zero, List.take_of_length_le (by rw [size_eq]; omega)]
    have e2 : p.extract 0 (0 : Int).toNat = mk (dirL false []) := by
      refine eq_of_toList ?_
      rw [toList_extract, toList_mk]; simp [dirL]
    rw [e1, e2]
    refine ev_pos (by omega) (ev_pos (by omega) (ev_pos (by omega) (ev_pos (by omega) ?_)))
    exact ev_bind (impl_GoodName.is p) (Ev.now _)
theorem cut_empty {s : ByteArray} (h : pathB s = true) (e : cl s = []) : ∃ x y, Ev (fun k => impl_cut.f k s) (x, y, false) := by
  have hgen : ∀ (t : ByteArray) (r : Int), t.size ≤ 10 → cleanText (wh s) [] = t → Ev (fun k => strings_LastIndexByte.f k t 47) r → -1 ≤ r → r < (t.size : Int) → nameB (t.extract (r + 1).toNat t.size) = false →
      ∃ x y, Ev (fun k => impl_cut.f k s) (x, y, false) := fun t r hz ht hr h1 h2 h5 => by
    have hm : 0 ≤ mx 0 r ∧ mx 0 r ≤ (t.size : Int) := by unfold mx; split <;> omega
    refine ⟨t.extract 0 (mx 0 r).toNat, t.extract (r + 1).toNat t.size, ?_⟩
    refine ev_bind (impl_GoodPath.is s) (ev_pos h (ev_bind (impl_clean.is s h) ?_))
    rw [e, ht]
    refine ev_bind hr ?_
    rw [wrap_id (x := r + 1) (by omega) (by omega)]
    refine ev_pos hm.1 (ev_pos hm.2 (ev_pos (by omega) (ev_pos (by omega) ?_)))
    have hg := impl_GoodName.is (t.extract (r + 1).toNat t.size)
    rw [h5] at hg
    exact ev_bind hg (Ev.now _)
  cases hw : wh s with
  | true =>
    refine hgen (mk [47]) 0 (by rw [size_mk]; simp) (by unfold cleanText; rw [hw, if_pos rfl]; rfl) (lastIdx.at _ (by rw [size_mk]; simp) [] [] (toList_mk _) (by simp)) (by decide) (by rw [size_mk]; decide) ?_
    unfold nameB partB; rw [show (mk [47]).extract ((0 : Int) + 1).toNat (mk [47]).size = mk [] from eq_of_toList (by rw [toList_extract, toList_mk, toList_mk]; rfl), size_mk]; rfl
  | false =>
    refine hgen (mk [46]) (-1) (by rw [size_mk]; simp) (by unfold cleanText; rw [hw, if_neg (by simp), if_pos rfl]) (lastIdx.none _ (by rw [size_mk]; simp) (by rw [toList_mk]; decide)) (by decide) (by rw [size_mk]; decide) ?_
    unfold nameB dotsB; rw [show (mk [46]).extract ((-1 : Int) + 1).toNat (mk [46]).size = mk [46] from eq_of_toList (by rw [toList_extract, toList_mk, size_mk]; rfl), toList_mk]; simp
theorem nameB_cl {s p : ByteArray} (h : pathB s = true) (hp : p ∈ cl s) : nameB p = !decide (dots p) := by
  obtain ⟨h1, h2⟩ := cl_mem hp
  unfold nameB
  rw [pathB_part h h1, Bool.true_and]
  congr 1
  unfold dotsB
  rw [show (p.toList == [46]) = false from beq_eq_false_iff_ne.mpr h2, Bool.false_or]
  by_cases h3 : p.toList = [46, 46]
  · rw [beq_iff_eq.mpr h3]; exact (decide_eq_true (p := dots p) h3).symm
  · rw [beq_eq_false_iff_ne.mpr h3]; exact (decide_eq_false (p := dots p) h3).symm
def lastT (l : List ByteArray) : ByteArray := match l.getLast? with
  | none => ⟨#[]⟩
  | some p => if dots p then ⟨#[]⟩ else p
theorem spec_l2Last.is {s : ByteArray} (h : pathB s = true) : Ev (fun k => spec_l2Last.f k s) (lastT (cl s)) := by
  obtain ⟨h1, h2⟩ := pathB_size h
  have hl := cl_length s
  refine ev_bind (spec_l2Clean.is s h1 (by omega)) (ev_ite (fun h' => ?_) (fun h' => ?_))
  · have hn : cl s = [] := List.eq_nil_of_length_eq_zero (by omega)
    exact ev_some (by rw [hn]; rfl)
  · have hlast := rdOf_last (cl s) (by omega)
    rw [wrap_id (by omega) (by omega)]
    unfold lastT
    rw [hlast]
    refine ev_pos (by omega) (ev_pos (by omega) (ev_ite (fun h3 => ?_) (fun h3 => ?_)))
    · exact ev_some (if_pos h3).symm
    · exact ev_some (if_neg h3).symm
end Go.Proofs.YtkkcpgahgehedaaDoor.PPath

