/- What leads from a whole path to one within it: what the program's and the reference's functions tell. -/
import Derived.Test.YtkkcpgahgehedaaDoorPathB
namespace Go.Proofs.YtkkcpgahgehedaaDoor.PPath
open Go.RowKit Go.Proofs.YtkkcpgahgehedaaDoorW.PrintWords Go.Proofs.YtkkcpgahgehedaaDoorW.PrintLast Go.Proofs.YtkkcpgahgehedaaDoorW.PrintMore Go.Proofs.YtkkcpgahgehedaaDoor.Aid
set_option linter.unusedSimpArgs false
set_option linter.unusedVariables false

/-! ### texts of parts, cut again -/
theorem segs_slash_app : ∀ (u x : List UInt8), segs (u ++ 47 :: x) = segs u ++ segs x
  | [], x => segs_slash x
  | c :: u, x => by
    by_cases hc : c = 47
    · subst hc; rw [List.cons_append, segs_slash, segs_slash, segs_slash_app u x]; rfl
    · obtain ⟨a, t, e, e'⟩ := segs_cons c u hc
      obtain ⟨a2, t2, e2, e2'⟩ := segs_cons c (u ++ 47 :: x) hc
      rw [List.cons_append, e2', e', ]
      rw [segs_slash_app u x, e, List.cons_append] at e2
      obtain ⟨rfl, rfl⟩ := List.cons.inj e2
      rfl
theorem segs_joinL : ∀ (ps : List ByteArray), ps ≠ [] → (∀ p ∈ ps, 47 ∉ p.toList) → segs (joinL ps) = ps.map (·.toList)
  | [], h, _ => absurd rfl h
  | [p], _, h => by rw [joinL_one, segs_none _ (h p (by simp))]; rfl
  | p :: q :: ps, _, h => by
    rw [joinL_cons, segs_app _ _ (h p (by simp)), segs_joinL (q :: ps) (by simp) (fun r hr => h r (List.mem_cons_of_mem _ hr))]; rfl
theorem map_toList_inj : ∀ {a b : List ByteArray}, a.map (·.toList) = b.map (·.toList) → a = b
  | [], [], _ => rfl
  | [], _ :: _, h => by simp at h
  | _ :: _, [], h => by simp at h
  | p :: a, q :: b, h => by
    rw [List.map_cons, List.map_cons] at h
    obtain ⟨h1, h2⟩ := List.cons.inj h
    rw [eq_of_toList h1, map_toList_inj h2]
theorem joinL_ne' {ps : List ByteArray} (h : ps ≠ []) (hp : ∀ p ∈ ps, Part p) : joinL ps ≠ [] := by
  cases ps with
  | nil => exact absurd rfl h
  | cons q qs => exact joinL_ne (hp q (by simp)).2
theorem joinL_inj {a b : List ByteArray} (ha : ∀ p ∈ a, Part p) (hb : ∀ p ∈ b, Part p) (e : joinL a = joinL b) : a = b := by
  by_cases h1 : a = []
  · subst h1
    by_cases h2 : b = []
    · exact h2.symm
    · exact absurd (e.symm.trans joinL_nil) (joinL_ne' h2 hb)
  · by_cases h2 : b = []
    · subst h2; exact absurd (e.trans joinL_nil) (joinL_ne' h1 ha)
    · have := congrArg segs e
      rw [segs_joinL a h1 (fun p hp => (ha p hp).1), segs_joinL b h2 (fun p hp => (hb p hp).1)] at this
      exact map_toList_inj this
theorem joinL_append : ∀ (a c : List ByteArray), a ≠ [] → c ≠ [] → joinL (a ++ c) = joinL a ++ 47 :: joinL c
  | [], c, h, _ => absurd rfl h
  | [p], [], _, h => absurd rfl h
  | [p], q :: c, _, _ => by rw [List.cons_append, List.nil_append, joinL_cons, joinL_one]
  | p :: q :: a, c, _, h => by
    rw [List.cons_append, List.cons_append, joinL_cons, joinL_cons, ← List.cons_append, joinL_append (q :: a) c (by simp) h, List.append_assoc, List.cons_append]
/-- The text with a slash leads on exactly where the parts do. -/
theorem joinL_prefix {a b : List ByteArray} (ha : ∀ p ∈ a, Part p) (hb : ∀ p ∈ b, Part p) (hn : a ≠ []) : (joinL a ++ [47]) <+: joinL b ↔ a <+: b ∧ a ≠ b := by
  constructor
  · rintro ⟨x, hx⟩
    have hb0 : b ≠ [] := fun e => by rw [e, joinL_nil] at hx; simp at hx
    rw [List.append_assoc, List.singleton_append] at hx
    have h := congrArg segs hx
    rw [segs_slash_app, segs_joinL a hn (fun p hp => (ha p hp).1), segs_joinL b hb0 (fun p hp => (hb p hp).1)] at h
    have hpre : a <+: b := by
      refine List.prefix_iff_eq_take.mpr (map_toList_inj ?_)
      rw [List.map_take, ← h, List.take_append_of_le_length (by rw [List.length_map]; exact Nat.le_refl _), List.take_of_length_le (by rw [List.length_map]; exact Nat.le_refl _)]
    refine ⟨hpre, fun e => ?_⟩
    subst e
    have := congrArg List.length h
    rw [List.length_append] at this
    exact segs_ne x (List.eq_nil_of_length_eq_zero (by omega))
  · rintro ⟨⟨c, rfl⟩, hne⟩
    have hc : c ≠ [] := fun e => hne (by rw [e, List.append_nil])
    exact ⟨joinL c, by rw [joinL_append a c hn hc, List.append_assoc]; rfl⟩

/-! ### the program's and the reference's -/
def wholeB (s : ByteArray) : Bool := pathB s && wh s
theorem spec_l2Whole.is (s : ByteArray) (hs : s.size < 4294967281) : Ev (fun k => spec_l2Whole.f k s) (wholeB s) := by
  refine ev_bind (spec_l2Path.is s hs) (ev_ite (fun h => ?_) (fun h => ?_))
  · have := pathB_size h
    exact ev_pos (by omega) (ev_some (by unfold wholeB; rw [h]; rfl))
  · exact ev_some (by unfold wholeB; rw [Bool.eq_false_iff.mpr h]; rfl)
theorem impl_isWhole.is (s : ByteArray) : Ev (fun k => impl_isWhole.f k s) (wholeB s) := by
  refine ev_bind (impl_GoodPath.is s) (ev_ite (fun h => ?_) (fun h => ?_))
  · have := pathB_size h
    exact ev_pos (by omega) (ev_some (by unfold wholeB; rw [h]; rfl))
  · exact ev_some (by unfold wholeB; rw [Bool.eq_false_iff.mpr h]; rfl)
theorem spec_l2Within.loop (b a : List ByteArray) (hl : a.length ≤ b.length) (hz : b.length ≤ 4294967296) (d : Nat) : ∀ i : Int, 0 ≤ i → i ≤ a.length → (a.length : Int) - i = d →
    Ev (fun k => spec_l2Within.l0 k b a (a.length : Int) i) (decide (a.drop i.toNat <+: b.drop i.toNat)) := by
  induction d with
  | zero =>
    intro i h0 h1 hd
    refine Ev.step (fun k => by rw [spec_l2Within.l0, if_neg (by omega)]) (ev_some ?_)
    rw [List.drop_eq_nil_iff.mpr (show a.length ≤ i.toNat by omega)]
    exact (decide_eq_true (List.nil_prefix)).symm
  | succ d ih =>
    intro i h0 h1 hd
    have hlt : i < (a.length : Int) := by omega
    have hlt' : i < (b.length : Int) := by omega
    rw [rdOf_drop a i h0 hlt, rdOf_drop b i h0 hlt']
    refine Ev.step (fun k => by rw [spec_l2Within.l0, if_pos hlt, if_pos h0, if_pos hlt, if_pos hlt', wrap_id (by omega) (by omega)]) ?_
    refine ev_ite (fun h => ?_) (fun h => ?_)
    · refine ev_eq (ih (i + 1) (by omega) (by omega) (by omega)) (decide_eq_decide.mpr ?_)
      rw [List.cons_prefix_cons]
      exact ⟨fun hp => ⟨eq_of_toList h, hp⟩, fun hp => hp.2⟩
    · refine ev_some (decide_eq_false ?_).symm
      rw [List.cons_prefix_cons]
      exact fun hp => h (by rw [hp.1])
theorem spec_l2Within.is {d s : ByteArray} (hd : pathB d = true) (hs : pathB s = true) : Ev (fun k => spec_l2Within.f k d s) (decide (cl d <+: cl s)) := by
  obtain ⟨a1, a2⟩ := pathB_size hd
  obtain ⟨b1, b2⟩ := pathB_size hs
  have ha := cl_length d
  have hb := cl_length s
  refine ev_bind (spec_l2Clean.is d a1 (by omega)) (ev_bind (spec_l2Clean.is s b1 (by omega)) (ev_ite (fun h => ?_) (fun h => ?_)))
  · refine ev_some (decide_eq_false fun hp => ?_).symm
    have := hp.length_le; omega
  · exact spec_l2Within.loop (cl s) (cl d) (by omega) (by omega) (cl d).length 0 (by omega) (by omega) (by omega)
/-- What FromTo tells of two whole paths. -/
def restR (a b : List ByteArray) : ByteArray × Bool := if a <+: b then (if b.drop a.length = [] then mk [46] else mk (joinL (b.drop a.length)), true) else (⟨#[]⟩, false)
def fromR (d s : ByteArray) : ByteArray × Bool := if wholeB d = true ∧ wholeB s = true then restR (cl d) (cl s) else (⟨#[]⟩, false)
theorem wholeB_path {s : ByteArray} (h : wholeB s = true) : pathB s = true ∧ wh s = true := by
  unfold wholeB at h; simpa using h
theorem spec_FromTo.is (d s : ByteArray) (hd : d.size < 4294967281) (hs : s.size < 4294967281) : Ev (fun k => spec_FromTo.f k d s) (fromR d s) := by
  have hbad : fromR d s = (⟨#[]⟩, false) → Ev (fun k => spec_FromTo.j0 k d s true) (fromR d s) := fun h =>
    Ev.step (fun k => by rw [spec_FromTo.j0, if_pos rfl]) (ev_some h.symm)
  refine ev_bind (spec_l2Whole.is d hd) (ev_ite (fun h1 => ?_) (fun h1 => hbad (by unfold fromR; rw [if_neg (fun h => h1 h.1)])))
  refine ev_bind (spec_l2Whole.is s hs) (ev_ite (fun h2 => ?_) (fun h2 => hbad (by unfold fromR; rw [if_neg (fun h => h2 h.2)])))
  obtain ⟨p1, w1⟩ := wholeB_path h1
  obtain ⟨p2, w2⟩ := wholeB_path h2
  refine ev_bind (spec_l2Within.is p1 p2) ?_
  by_cases h3 : cl d <+: cl s
  · rw [decide_eq_true h3]
    obtain ⟨a1, a2⟩ := pathB_size p1
    obtain ⟨b1, b2⟩ := pathB_size p2
    have ha := cl_length d
    have hb := cl_length s
    have hle := h3.length_le
    refine Ev.step (fun k => by rw [Bool.not_true, spec_FromTo.j0, if_neg (by simp)]) ?_
    refine ev_bind (spec_l2Clean.is s b1 (by omega)) (ev_bind (spec_l2Clean.is d a1 (by omega)) (ev_pos (by omega) (ev_pos (by omega) ?_)))
    rw [show ((cl d).length : Int).toNat = (cl d).length by omega]
    refine ev_bind0 rfl ?_
    have hres : fromR d s = (if (cl s).drop (cl d).length = [] then mk [46] else mk (joinL ((cl s).drop (cl d).length)), true) := by
      unfold fromR restR; rw [if_pos ⟨h1, h2⟩, if_pos h3]
    rw [hres]
    refine ev_ite (fun h4 => ?_) (fun h4 => ?_)
    · have hn : (cl s).drop (cl d).length = [] := List.eq_nil_of_length_eq_zero (by omega)
      exact ev_some (by rw [if_pos hn]; rfl)
    · refine ev_bind (spec_l2Of.is _ (by rw [List.length_drop]; omega) (fun p hp => by have := cl_size (List.mem_of_mem_drop hp); omega)) ?_
      refine ev_pos (by have := pathText_size ((cl s).drop (cl d).length); omega) (ev_some ?_)
      rw [if_neg (fun e => h4 (by rw [e]; rfl)), pathText_rest]
  · rw [decide_eq_false h3]
    exact hbad (by unfold fromR restR; rw [if_pos ⟨h1, h2⟩, if_neg h3])
theorem hasPrefix.is (t u : ByteArray) : stringslite_HasPrefix.f t u = some (decide (u.toList <+: t.toList)) := by
  unfold stringslite_HasPrefix.f
  by_cases h : (t.size : Int) ≥ (u.size : Int)
  · rw [if_pos h, if_pos (by omega), if_pos (by omega)]
    congr 1
    rw [toList_extract, List.drop_zero, show ((u.size : Int)).toNat - 0 = u.toList.length by rw [← size_eq]; omega]
    by_cases hp : u.toList <+: t.toList
    · rw [decide_eq_true hp]; exact beq_iff_eq.mpr (List.prefix_iff_eq_take.mp hp).symm
    · rw [decide_eq_false hp]; exact beq_eq_false_iff_ne.mpr fun e => hp (List.prefix_iff_eq_take.mpr e.symm)
  · rw [if_neg h, decide_eq_false]
    intro hp
    have := hp.length_le
    rw [← size_eq, ← size_eq] at this; omega
theorem cutPrefix.is (t u : ByteArray) : strings_CutPrefix.f t u = some (if u.toList <+: t.toList then (mk (t.toList.drop u.size), true) else (t, false)) := by
  unfold strings_CutPrefix.f stringslite_CutPrefix.f
  rw [hasPrefix.is]
  by_cases hp : u.toList <+: t.toList
  · have := hp.length_le
    rw [← size_eq, ← size_eq] at this
    rw [decide_eq_true hp, if_pos hp, Option.bind_some, if_pos rfl, if_pos (by omega), if_pos (by omega), Option.bind_some]
    have e : t.extract (u.size : Int).toNat t.size = mk (t.toList.drop u.size) := by
      refine eq_of_toList ?_
      rw [toList_extract, toList_mk, show (u.size : Int).toNat = u.size by omega, List.take_of_length_le (by rw [List.length_drop, ← size_eq]; omega)]
    rw [e]
  · rw [decide_eq_false hp, if_neg hp, Option.bind_some, if_neg (by simp)]; rfl
theorem cutPrefix.yes {t u : ByteArray} (h : u.toList <+: t.toList) : strings_CutPrefix.f t u = some (mk (t.toList.drop u.size), true) := by rw [cutPrefix.is, if_pos h]
theorem cutPrefix.no {t u : ByteArray} (h : ¬ u.toList <+: t.toList) : strings_CutPrefix.f t u = some (t, false) := by rw [cutPrefix.is, if_neg h]
theorem impl_FromTo.is (d s : ByteArray) : Ev (fun k => impl_FromTo.f k d s) (fromR d s) := by
  have hbad : fromR d s = (⟨#[]⟩, false) → Ev (fun k => impl_FromTo.j0 k d s true) (fromR d s) := fun h =>
    Ev.step (fun k => by rw [impl_FromTo.j0, if_pos rfl]) (ev_some h.symm)
  refine ev_bind (impl_isWhole.is d) (ev_ite (fun h1 => ?_) (fun h1 => hbad (by unfold fromR; rw [if_neg (fun h => h1 h.1)])))
  refine ev_bind (impl_isWhole.is s) ?_
  by_cases h2 : wholeB s = true
  · obtain ⟨p1, w1⟩ := wholeB_path h1
    obtain ⟨p2, w2⟩ := wholeB_path h2
    have ja := joinSize p1
    have pa : ∀ p ∈ cl d, Part p := fun p hp => parts_part (cl_mem hp).1
    have pb : ∀ p ∈ cl s, Part p := fun p hp => parts_part (cl_mem hp).1
    have hc1 := impl_clean.is d p1
    have hc2 := impl_clean.is s p2
    have e1 : cleanText (wh d) (cl d) = pathText (cl d) := by unfold cleanText; rw [if_pos w1]
    have e2 : cleanText (wh s) (cl s) = pathText (cl s) := by unfold cleanText; rw [if_pos w2]
    rw [e1] at hc1
    rw [e2] at hc2
    rw [h2]
    have hres : fromR d s = restR (cl d) (cl s) := by unfold fromR; rw [if_pos ⟨h1, h2⟩]
    rw [hres]
    generalize cl d = a at *
    generalize cl s = b at *
    refine Ev.step (fun k => by rw [Bool.not_true, impl_FromTo.j0, if_neg (by simp)]) ?_
    refine ev_bind hc1 (ev_bind hc2 ?_)
    simp only [pathText_toList]
    refine ev_ite (fun h3 => ?_) (fun h3 => ?_)
    · have hab := joinL_inj pa pb (List.cons.inj h3).2
      subst hab
      refine ev_some ?_
      unfold restR
      rw [if_pos (List.prefix_refl a), if_pos (by rw [List.drop_eq_nil_iff]; exact Nat.le_refl _)]; rfl
    · have hne : a ≠ b := fun e => h3 (by rw [e])
      refine ev_ite (fun h4 => ?_) (fun h4 => ?_)
      · have ha : a = [] := Decidable.byContradiction fun e => joinL_ne' e pa (List.cons.inj h4).2
        subst ha
        refine ev_bind0 (cutPrefix.yes (by rw [pathText_toList, pathText_toList, joinL_nil]; exact ⟨joinL b, rfl⟩)) ?_
        refine ev_pos rfl (ev_some ?_)
        unfold restR
        rw [if_pos (List.nil_prefix), List.length_nil, List.drop_zero, if_neg (fun e => hne e.symm)]
        rw [size_eq, pathText_toList, pathText_toList, joinL_nil]; rfl
      · have ha : a ≠ [] := fun e => h4 (by rw [e, joinL_nil])
        refine ev_pos (by rw [size_eq, pathText_toList, List.length_cons]; omega) ?_
        have et : (pathText a ++ (⟨#[47]⟩ : ByteArray)).toList = 47 :: (joinL a ++ [47]) := by
          rw [toList_append, pathText_toList, show (⟨#[47]⟩ : ByteArray).toList = [47] from toList_mk [47]]; rfl
        have ez : (pathText a ++ (⟨#[47]⟩ : ByteArray)).size = (joinL a ++ [47]).length + 1 := by rw [size_eq, et, List.length_cons]
        have hpre : (pathText a ++ (⟨#[47]⟩ : ByteArray)).toList <+: (pathText b).toList ↔ a <+: b ∧ a ≠ b := by
          rw [et, pathText_toList, List.cons_prefix_cons, ← joinL_prefix pa pb ha]
          exact ⟨fun h => h.2, fun h => ⟨rfl, h⟩⟩
        unfold restR
        by_cases hp : a <+: b
        · refine ev_bind0 (cutPrefix.yes (hpre.mpr ⟨hp, hne⟩)) ?_
          rw [if_pos hp]
          refine ev_pos rfl (ev_some ?_)
          obtain ⟨c, rfl⟩ := hp
          have hc : c ≠ [] := fun e => hne (by rw [e, List.append_nil])
          rw [List.drop_left, if_neg hc, ez, pathText_toList, joinL_append a c ha hc, List.drop_succ_cons, show joinL a ++ 47 :: joinL c = (joinL a ++ [47]) ++ joinL c by simp, List.drop_left]
        · refine ev_bind0 (cutPrefix.no (fun h => hp (hpre.mp h).1)) ?_
          rw [if_neg hp]
          exact ev_neg (by simp) (Ev.now _)
  · rw [Bool.eq_false_iff.mpr h2]; exact hbad (by unfold fromR; rw [if_neg (fun h => h2 h.2)])
def withinR (d s : ByteArray) : Bool × Bool := if wholeB d = true ∧ wholeB s = true then (decide (cl d <+: cl s), true) else (false, false)
theorem spec_IsWithin.is (d s : ByteArray) (hd : d.size < 4294967281) (hs : s.size < 4294967281) : Ev (fun k => spec_IsWithin.f k d s) (withinR d s) := by
  refine ev_bind (spec_l2Whole.is d hd) (ev_ite (fun h1 => ?_) (fun h1 => ev_some (by unfold withinR; rw [if_neg (fun h => h1 h.1)])))
  refine ev_bind (spec_l2Whole.is s hs) (ev_ite (fun h2 => ?_) (fun h2 => ev_some (by unfold withinR; rw [if_neg (fun h => h2 h.2)])))
  exact ev_bind (spec_l2Within.is (wholeB_path h1).1 (wholeB_path h2).1) (ev_some (by unfold withinR; rw [if_pos ⟨h1, h2⟩]))
theorem impl_IsWithin.is (d s : ByteArray) : Ev (fun k => impl_IsWithin.f k d s) (withinR d s) := by
  refine ev_bind (impl_isWhole.is d) (ev_ite (fun h1 => ?_) (fun h1 => ev_some (by unfold withinR; rw [if_neg (fun h => h1 h.1)])))
  refine ev_bind (impl_isWhole.is s) (ev_ite (fun h2 => ?_) (fun h2 => ev_some (by unfold withinR; rw [if_neg (fun h => h2 h.2)])))
  refine ev_bind (impl_FromTo.is d s) (ev_some ?_)
  unfold withinR fromR restR
  have hb : wholeB d = true ∧ wholeB s = true := ⟨h1, h2⟩
  rw [if_pos hb, if_pos hb]
  by_cases hp : cl d <+: cl s
  · rw [if_pos hp, decide_eq_true hp]
  · rw [if_neg hp, decide_eq_false hp]
end Go.Proofs.YtkkcpgahgehedaaDoor.PPath

