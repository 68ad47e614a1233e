/- Rising lists of numbers: putting one to its place, and how long such a list can be. No condition. -/

namespace Go.Proofs.Ytehgojpiahmalaa.Put
set_option linter.unusedSimpArgs false
set_option linter.unusedVariables false

def put : List Int → Int → List Int
  | [], n => [n]
  | x :: l, n => if x < n then x :: put l n else if x = n then x :: l else n :: x :: l
theorem mem_put {x n : Int} : ∀ {l : List Int}, x ∈ put l n ↔ x = n ∨ x ∈ l
  | [] => by simp [put]
  | a :: l => by
    unfold put
    by_cases h : a < n
    · rw [if_pos h, List.mem_cons, mem_put, List.mem_cons]
      constructor
      · rintro (h | h | h)
        · exact Or.inr (Or.inl h)
        · exact Or.inl h
        · exact Or.inr (Or.inr h)
      · rintro (h | h | h)
        · exact Or.inr (Or.inl h)
        · exact Or.inl h
        · exact Or.inr (Or.inr h)
    · rw [if_neg h]
      by_cases h2 : a = n
      · rw [if_pos h2, List.mem_cons]
        constructor
        · exact Or.inr
        · rintro (h | h)
          · exact Or.inl (h.trans h2.symm)
          · exact h
      · rw [if_neg h2, List.mem_cons]
abbrev Rising (l : List Int) : Prop := l.Pairwise (· < ·)
theorem put_rising {n : Int} : ∀ {l : List Int}, Rising l → Rising (put l n)
  | [], _ => by simp [put, Rising]
  | a :: l, h => by
    have ⟨h1, h2⟩ := List.pairwise_cons.1 h
    unfold put
    by_cases hc : a < n
    · rw [if_pos hc]
      refine List.pairwise_cons.2 ⟨fun y hy => ?_, put_rising h2⟩
      rcases mem_put.1 hy with rfl | hy
      · exact hc
      · exact h1 y hy
    · rw [if_neg hc]
      by_cases h3 : a = n
      · rw [if_pos h3]; exact h
      · rw [if_neg h3]
        refine List.pairwise_cons.2 ⟨fun y hy => ?_, h⟩
        rcases List.mem_cons.1 hy with rfl | hy
        · omega
        · have := h1 y hy; omega
theorem put_mem {n : Int} : ∀ {l : List Int}, Rising l → n ∈ l → put l n = l
  | [], _, h => by cases h
  | a :: l, hr, h => by
    have ⟨h1, h2⟩ := List.pairwise_cons.1 hr
    unfold put
    rcases List.mem_cons.1 h with rfl | h
    · rw [if_neg (by omega), if_pos rfl]
    · rw [if_pos (h1 n h), put_mem h2 h]
theorem put_len {n : Int} : ∀ {l : List Int}, n ∉ l → (put l n).length = l.length + 1
  | [], _ => rfl
  | a :: l, h => by
    have h1 : a ≠ n := fun e => h (e ▸ List.mem_cons_self)
    have h2 : n ∉ l := fun e => h (List.mem_cons_of_mem _ e)
    unfold put
    by_cases hc : a < n
    · rw [if_pos hc, List.length_cons, put_len h2]; rfl
    · rw [if_neg hc, if_neg h1]; rfl
theorem put_length_le {n : Int} : ∀ {l : List Int}, (put l n).length ≤ l.length + 1
  | [] => Nat.le_refl _
  | a :: l => by
    unfold put
    by_cases hc : a < n
    · rw [if_pos hc, List.length_cons, List.length_cons]; have := @put_length_le n l; omega
    · rw [if_neg hc]
      by_cases h1 : a = n
      · rw [if_pos h1]; simp
      · rw [if_neg h1]; simp
theorem put_length_ge {n : Int} : ∀ {l : List Int}, l.length ≤ (put l n).length
  | [] => Nat.zero_le _
  | a :: l => by
    unfold put
    by_cases hc : a < n
    · rw [if_pos hc, List.length_cons, List.length_cons]; have := @put_length_ge n l; omega
    · rw [if_neg hc]
      by_cases h1 : a = n
      · rw [if_pos h1]; exact Nat.le_refl _
      · rw [if_neg h1]; simp
theorem rising_len {a n : Int} : ∀ {l : List Int}, Rising l → (∀ x ∈ l, a ≤ x ∧ x < n) → a ≤ n → (l.length : Int) ≤ n - a
  | [], _, _, h => by simp; omega
  | x :: l, hr, hb, h => by
    have ⟨h1, h2⟩ := List.pairwise_cons.1 hr
    have hx := hb x List.mem_cons_self
    have := rising_len (a := x + 1) (n := n) h2 (fun y hy => ⟨by have := h1 y hy; omega, (hb y (List.mem_cons_of_mem _ hy)).2⟩) (by omega)
    rw [List.length_cons]; omega
theorem rising_ext : ∀ {l m : List Int}, Rising l → Rising m → (∀ x, x ∈ l ↔ x ∈ m) → l = m
  | [], [], _, _, _ => rfl
  | [], b :: m, _, _, h => absurd ((h b).2 List.mem_cons_self) (by simp)
  | a :: l, [], _, _, h => absurd ((h a).1 List.mem_cons_self) (by simp)
  | a :: l, b :: m, hl, hm, h => by
    have ⟨h1, h2⟩ := List.pairwise_cons.1 hl
    have ⟨k1, k2⟩ := List.pairwise_cons.1 hm
    have e : a = b := by
      rcases List.mem_cons.1 ((h a).1 List.mem_cons_self) with e | e
      · exact e
      · rcases List.mem_cons.1 ((h b).2 List.mem_cons_self) with e' | e'
        · exact e'.symm
        · have := k1 a e; have := h1 b e'; omega
    subst e
    rw [rising_ext h2 k2 (fun x => ?_)]
    constructor
    · intro hx
      rcases List.mem_cons.1 ((h x).1 (List.mem_cons_of_mem _ hx)) with e | e
      · have := h1 x hx; omega
      · exact e
    · intro hx
      rcases List.mem_cons.1 ((h x).2 (List.mem_cons_of_mem _ hx)) with e | e
      · have := k1 x hx; omega
      · exact e
/-- All numbers of a list, rising. -/
def putEach (l : List Int) : List Int → List Int := l.foldl put
theorem mem_putEach {x : Int} : ∀ {l met : List Int}, x ∈ putEach l met ↔ x ∈ l ∨ x ∈ met
  | [], met => by simp [putEach]
  | a :: l, met => by
    show x ∈ putEach l (put met a) ↔ _
    rw [mem_putEach, mem_put, List.mem_cons]
    constructor
    · rintro (h | h | h)
      · exact Or.inl (Or.inr h)
      · exact Or.inl (Or.inl h)
      · exact Or.inr h
    · rintro ((h | h) | h)
      · exact Or.inr (Or.inl h)
      · exact Or.inl h
      · exact Or.inr (Or.inr h)
theorem putEach_rising : ∀ {l met : List Int}, Rising met → Rising (putEach l met)
  | [], _, h => h
  | a :: l, met, h => putEach_rising (l := l) (put_rising h)
theorem putEach_le : ∀ {l met : List Int}, (putEach l met).length ≤ l.length + met.length
  | [], met => by simp [putEach]
  | a :: l, met => by
    show (putEach l (put met a)).length ≤ _
    have := @putEach_le l (put met a); have := @put_length_le a met; rw [List.length_cons]; omega
/-- No number is there twice: the rising list is as long as all together. -/
theorem putEach_len : ∀ {l met : List Int}, Rising met → ((putEach l met).length = l.length + met.length ↔ l.Nodup ∧ ∀ x ∈ l, x ∉ met)
  | [], met, _ => by simp [putEach]
  | a :: l, met, h => by
    show (putEach l (put met a)).length = _ ↔ _
    have ih := @putEach_len l (put met a) (put_rising h)
    have hle := @putEach_le l (put met a)
    rw [List.length_cons, List.nodup_cons]
    by_cases ha : a ∈ met
    · rw [put_mem h ha] at hle ⊢
      constructor
      · intro e; omega
      · rintro ⟨_, h2⟩; exact absurd ha (h2 a List.mem_cons_self)
    · have hp := put_len ha
      rw [hp] at ih hle
      rw [show (putEach l (put met a)).length = l.length + 1 + met.length ↔ (putEach l (put met a)).length = l.length + (met.length + 1) by omega, ih]
      constructor
      · rintro ⟨h1, h2⟩
        refine ⟨⟨fun hm => h2 a hm (mem_put.2 (Or.inl rfl)), h1⟩, fun x hx hxm => ?_⟩
        rcases List.mem_cons.1 hx with rfl | hx
        · exact ha hxm
        · exact h2 x hx (mem_put.2 (Or.inr hxm))
      · rintro ⟨⟨h1, h2⟩, h3⟩
        refine ⟨h2, fun x hx hxm => ?_⟩
        rcases mem_put.1 hxm with rfl | hxm
        · exact h1 hx
        · exact h3 x (List.mem_cons_of_mem _ hx) hxm
theorem nodup_len {n : Int} {l : List Int} (h : l.Nodup) (hb : ∀ x ∈ l, 0 ≤ x ∧ x < n) (hn : 0 ≤ n) : (l.length : Int) ≤ n := by
  have e := (putEach_len (l := l) (met := []) List.Pairwise.nil).2 ⟨h, by simp⟩
  have := rising_len (a := 0) (n := n) (putEach_rising (l := l) (met := []) List.Pairwise.nil) (fun x hx => by
    rcases mem_putEach.1 hx with h | h
    · exact hb x h
    · cases h) hn
  simp at e; omega
end Go.Proofs.Ytehgojpiahmalaa.Put

