/- What a form says of a text: from the front, and sign by sign. No condition. -/

namespace Go.Proofs.Ytkkcpgahgehedaa.Form
set_option linter.unusedSimpArgs false
set_option linter.unusedVariables false

def isF : List UInt8 → List UInt8 → Bool
  | [], s => s.isEmpty
  | c :: f, s => if c = 42 then (List.range (s.length + 1)).any (fun k => isF f (s.drop k)) else match s with
    | [] => false
    | x :: s' => (c == 63 || c == x) && isF f s'
theorem isF_nil {s : List UInt8} : isF [] s = true ↔ s = [] := by unfold isF; exact List.isEmpty_iff
theorem isF_star {f s : List UInt8} : isF (42 :: f) s = true ↔ ∃ k, k ≤ s.length ∧ isF f (s.drop k) = true := by
  have e : isF (42 :: f) s = (List.range (s.length + 1)).any (fun k => isF f (s.drop k)) := by
    conv => lhs; rw [isF.eq_def]
    exact if_pos rfl
  rw [e, List.any_eq_true]
  constructor
  · rintro ⟨k, hk, h⟩; exact ⟨k, by have := List.mem_range.1 hk; omega, h⟩
  · rintro ⟨k, hk, h⟩; exact ⟨k, List.mem_range.2 (by omega), h⟩
theorem isF_one_nil {c : UInt8} {f : List UInt8} (hc : c ≠ 42) : isF (c :: f) [] = false := by unfold isF; rw [if_neg hc]
theorem isF_one {c x : UInt8} {f s : List UInt8} (hc : c ≠ 42) : isF (c :: f) (x :: s) = ((c == 63 || c == x) && isF f s) := by
  conv => lhs; unfold isF
  rw [if_neg hc]
theorem isF_append {g : List UInt8} : ∀ {f s : List UInt8}, isF (f ++ g) s = true ↔ ∃ k, k ≤ s.length ∧ isF f (s.take k) = true ∧ isF g (s.drop k) = true
  | [], s => by
    rw [List.nil_append]
    constructor
    · intro h; exact ⟨0, Nat.zero_le _, isF_nil.2 (by simp), by simpa using h⟩
    · rintro ⟨k, hk, h1, h2⟩
      have h3 := isF_nil.1 h1
      have : (s.take k).length = 0 := by rw [h3]; rfl
      rw [List.length_take] at this
      rwa [show k = 0 by omega, List.drop_zero] at h2
  | c :: f, s => by
    rw [List.cons_append]
    by_cases hc : c = 42
    · subst hc
      rw [isF_star]
      constructor
      · rintro ⟨j, hj, h⟩
        obtain ⟨k, hk, h1, h2⟩ := (isF_append (f := f)).1 h
        rw [List.length_drop] at hk
        refine ⟨j + k, by omega, isF_star.2 ⟨j, by rw [List.length_take]; omega, ?_⟩, by rwa [List.drop_drop] at h2⟩
        rw [List.drop_take, show j + k - j = k by omega]; exact h1
      · rintro ⟨m, hm, h1, h2⟩
        obtain ⟨j, hj, h3⟩ := isF_star.1 h1
        rw [List.length_take] at hj
        rw [List.drop_take] at h3
        refine ⟨j, by omega, (isF_append (f := f)).2 ⟨m - j, by rw [List.length_drop]; omega, h3, ?_⟩⟩
        rw [List.drop_drop, show j + (m - j) = m by omega]; exact h2
    · cases s with
      | nil =>
        rw [isF_one_nil hc]
        constructor
        · intro h; cases h
        · rintro ⟨k, hk, h1, h2⟩
          rw [List.take_nil, isF_one_nil hc] at h1; cases h1
      | cons x s =>
        rw [isF_one hc, Bool.and_eq_true, isF_append (f := f)]
        constructor
        · rintro ⟨hm, k, hk, h1, h2⟩
          refine ⟨k + 1, by rw [List.length_cons]; omega, ?_, by simpa using h2⟩
          rw [List.take_succ_cons, isF_one hc, hm, h1]; rfl
        · rintro ⟨m, hm, h1, h2⟩
          cases m with
          | zero => rw [List.take_zero, isF_one_nil hc] at h1; cases h1
          | succ m =>
            rw [List.take_succ_cons, isF_one hc, Bool.and_eq_true] at h1
            exact ⟨h1.1, m, by rw [List.length_cons] at hm; omega, h1.2, by simpa using h2⟩
/-- The row of all beginnings. -/
def row (p s : List UInt8) : List Bool := (List.range (s.length + 1)).map fun k => isF p (s.take k)
theorem row_length (p s : List UInt8) : (row p s).length = s.length + 1 := by simp [row]
theorem row_get (p s : List UInt8) {k : Nat} (h : k ≤ s.length) : (row p s)[k]? = some (isF p (s.take k)) := by
  unfold row; rw [List.getElem?_map, List.getElem?_range (by omega)]; rfl
theorem snoc_star {p s : List UInt8} {k : Nat} (h : k + 1 ≤ s.length) : isF (p ++ [42]) (s.take (k + 1)) = (isF p (s.take (k + 1)) || isF (p ++ [42]) (s.take k)) := by
  rw [Bool.eq_iff_iff, Bool.or_eq_true, isF_append, isF_append]
  constructor
  · rintro ⟨j, hj, h1, _⟩
    rw [List.length_take] at hj
    by_cases e : j = k + 1
    · rw [e, List.take_take, Nat.min_self] at h1; exact Or.inl h1
    · refine Or.inr ⟨j, by rw [List.length_take]; omega, ?_, isF_star.2 ⟨((s.take k).drop j).length, Nat.le_refl _, isF_nil.2 List.drop_length⟩⟩
      rw [List.take_take] at h1 ⊢
      rwa [show min j k = min j (k + 1) by omega]
  · rintro (h1 | ⟨j, hj, h1, _⟩)
    · refine ⟨k + 1, by rw [List.length_take]; omega, by rwa [List.take_take, Nat.min_self], isF_star.2 ⟨((s.take (k + 1)).drop (k + 1)).length, Nat.le_refl _, isF_nil.2 List.drop_length⟩⟩
    · rw [List.length_take] at hj
      refine ⟨j, by rw [List.length_take]; omega, ?_, isF_star.2 ⟨((s.take (k + 1)).drop j).length, Nat.le_refl _, isF_nil.2 List.drop_length⟩⟩
      rw [List.take_take] at h1 ⊢
      rwa [show min j (k + 1) = min j k by omega]
theorem snoc_star_zero {p s : List UInt8} : isF (p ++ [42]) (s.take 0) = isF p (s.take 0) := by
  rw [Bool.eq_iff_iff, isF_append]
  constructor
  · rintro ⟨j, hj, h1, _⟩; simpa using h1
  · intro h; exact ⟨0, Nat.zero_le _, by simpa using h, isF_star.2 ⟨0, Nat.zero_le _, isF_nil.2 (by simp)⟩⟩
theorem snoc_one_zero {p s : List UInt8} {c : UInt8} (hc : c ≠ 42) : isF (p ++ [c]) (s.take 0) = false := by
  rw [Bool.eq_false_iff]; intro h
  obtain ⟨j, hj, _, h2⟩ := isF_append.1 h
  rw [List.take_zero, List.drop_nil, isF_one_nil hc] at h2; cases h2
theorem snoc_one {p s : List UInt8} {c x : UInt8} {k : Nat} (hc : c ≠ 42) (hx : s[k]? = some x) : isF (p ++ [c]) (s.take (k + 1)) = ((c == 63 || c == x) && isF p (s.take k)) := by
  have hk : k < s.length := (List.getElem?_eq_some_iff.1 hx).1
  have ht : s.take (k + 1) = s.take k ++ [x] := by rw [List.take_add_one, hx]; rfl
  rw [Bool.eq_iff_iff, isF_append, Bool.and_eq_true]
  have hl : (s.take k).length = k := by rw [List.length_take]; omega
  constructor
  · rintro ⟨j, hj, h1, h2⟩
    rw [ht, List.length_append, hl, List.length_singleton] at hj
    rw [ht] at h1 h2
    by_cases e : j = k + 1
    · rw [e, List.drop_eq_nil_iff.mpr (by rw [List.length_append, hl]; simp), isF_one_nil hc] at h2; cases h2
    · rw [List.drop_append_of_le_length (by omega)] at h2
      cases hd : (s.take k).drop j with
      | nil =>
        rw [hd, List.nil_append, isF_one hc, Bool.and_eq_true] at h2
        have : j = k := by have := congrArg List.length hd; rw [List.length_drop, hl] at this; simp at this; omega
        subst this
        rw [List.take_append_of_le_length (by omega), List.take_of_length_le (by omega)] at h1
        exact ⟨h2.1, h1⟩
      | cons a t =>
        rw [hd, List.cons_append, isF_one hc, Bool.and_eq_true] at h2
        have := isF_nil.1 h2.2
        simp at this
  · rintro ⟨hm, h⟩
    refine ⟨k, by rw [ht, List.length_append, hl]; simp, ?_, ?_⟩
    · rw [ht, List.take_append_of_le_length (by omega), List.take_of_length_le (by omega)]; exact h
    · rw [ht, List.drop_append_of_le_length (by omega), List.drop_eq_nil_iff.mpr (by omega), List.nil_append, isF_one hc, hm]; rfl
theorem star_step {f s : List UInt8} {x : UInt8} : isF (42 :: f) (x :: s) = (isF f (x :: s) || isF (42 :: f) s) := by
  rw [Bool.eq_iff_iff, Bool.or_eq_true, isF_star, isF_star]
  constructor
  · rintro ⟨k, hk, h⟩
    cases k with
    | zero => exact Or.inl h
    | succ k => exact Or.inr ⟨k, by rw [List.length_cons] at hk; omega, by simpa using h⟩
  · rintro (h | ⟨k, hk, h⟩)
    · exact ⟨0, Nat.zero_le _, h⟩
    · exact ⟨k + 1, by rw [List.length_cons]; omega, by simpa using h⟩
theorem star_nil {f : List UInt8} : isF (42 :: f) [] = isF f [] := by
  rw [Bool.eq_iff_iff, isF_star]
  constructor
  · rintro ⟨k, hk, h⟩; simpa using h
  · intro h; exact ⟨0, Nat.zero_le _, h⟩
end Go.Proofs.Ytkkcpgahgehedaa.Form

