/- jh lists of numbers: putting one to its place, and how long such a list can be. No condition. -/
import Derived.Test.YtmhjmicplaolmaaGreatDoorAid
namespace Go.Proofs.YtmhjmicplaolmaaGreatDoor.Put
set_option linter.unusedSimpArgs false
set_option linter.unusedVariables false
def put : List Int → Int → List Int
  | [], n => [n]
  | x :: l, n => if x < n then x :: put l n else if x = n then x :: l else n :: x :: l
theorem jH {x n : Int} : ∀ {l : List Int}, x ∈ put l n ↔ x = n ∨ x ∈ l
  | [] => by simp [put]
  | a :: l => by
    unfold put
    by_cases h : a < n
    · rw [if_pos h, List.mem_cons, jH, List.mem_cons]
      constructor
      · rintro (h | h | h)
        · exact Or.inr (Or.inl h)
        · exact Or.inl h
        · exact Or.inr (Or.inr h)
      · rintro (h | h | h)
        · exact Or.inr (Or.inl h)
        · exact Or.inl h
        · exact Or.inr (Or.inr h)
    · rw [if_neg h]
      by_cases h2 : a = n
      · rw [if_pos h2, List.mem_cons]
        constructor
        · exact Or.inr
        · rintro (h | h)
          · exact Or.inl (h.trans h2.symm)
          · exact h
      · rw [if_neg h2, List.mem_cons]
abbrev jh (l : List Int) : Prop := l.Pairwise (· < ·)
theorem kG {n : Int} : ∀ {l : List Int}, jh l → jh (put l n)
  | [], _ => by simp [put, jh]
  | a :: l, h => by
    have ⟨h1, h2⟩ := List.pairwise_cons.1 h
    unfold put
    by_cases hc : a < n
    · rw [if_pos hc]
      refine List.pairwise_cons.2 ⟨fun y hy => ?_, kG h2⟩
      rcases jH.1 hy with rfl | hy
      · exact hc
      · exact h1 y hy
    · rw [if_neg hc]
      by_cases h3 : a = n
      · rw [if_pos h3]; exact h
      · rw [if_neg h3]
        refine List.pairwise_cons.2 ⟨fun y hy => ?_, h⟩
        rcases List.mem_cons.1 hy with rfl | hy
        · omega
        · have := h1 y hy; omega
theorem put_mem {n : Int} : ∀ {l : List Int}, jh l → n ∈ l → put l n = l
  | [], _, h => by cases h
  | a :: l, hr, h => by
    have ⟨h1, h2⟩ := List.pairwise_cons.1 hr
    unfold put
    rcases List.mem_cons.1 h with rfl | h
    · rw [if_neg (by omega), if_pos rfl]
    · rw [if_pos (h1 n h), put_mem h2 h]
theorem o7 {n : Int} : ∀ {l : List Int}, n ∉ l → (put l n).length = l.length + 1
  | [], _ => rfl
  | a :: l, h => by
    have h1 : a ≠ n := fun e => h (e ▸ List.mem_cons_self)
    have h2 : n ∉ l := fun e => h (List.mem_cons_of_mem _ e)
    unfold put
    by_cases hc : a < n
    · rw [if_pos hc, List.length_cons, o7 h2]; rfl
    · rw [if_neg hc, if_neg h1]; rfl
theorem mi {n : Int} : ∀ {l : List Int}, (put l n).length ≤ l.length + 1
  | [] => Nat.le_refl _
  | a :: l => by
    unfold put
    by_cases hc : a < n
    · rw [if_pos hc, List.length_cons, List.length_cons]; have := @mi n l; omega
    · rw [if_neg hc]
      by_cases h1 : a = n
      · rw [if_pos h1]; simp
      · rw [if_neg h1]; simp
theorem mo {n : Int} : ∀ {l : List Int}, l.length ≤ (put l n).length
  | [] => Nat.zero_le _
  | a :: l => by
    unfold put
    by_cases hc : a < n
    · rw [if_pos hc, List.length_cons, List.length_cons]; have := @mo n l; omega
    · rw [if_neg hc]
      by_cases h1 : a = n
      · rw [if_pos h1]; exact Nat.le_refl _
      · rw [if_neg h1]; simp
theorem jX {a n : Int} : ∀ {l : List Int}, jh l → (∀ x ∈ l, a ≤ x ∧ x < n) → a ≤ n → (l.length : Int) ≤ n - a
  | [], _, _, h => by simp; omega
  | x :: l, hr, hb, h => by
    have ⟨h1, h2⟩ := List.pairwise_cons.1 hr
    have hx := hb x List.mem_cons_self
    have := jX (a := x + 1) (n := n) h2 (fun y hy => ⟨by have := h1 y hy; omega, (hb y (List.mem_cons_of_mem _ hy)).2⟩) (by omega)
    rw [List.length_cons]; omega
theorem mE : ∀ {l m : List Int}, jh l → jh m → (∀ x, x ∈ l ↔ x ∈ m) → l = m
  | [], [], _, _, _ => rfl
  | [], b :: m, _, _, h => absurd ((h b).2 List.mem_cons_self) (by simp)
  | a :: l, [], _, _, h => absurd ((h a).1 List.mem_cons_self) (by simp)
  | a :: l, b :: m, hl, hm, h => by
    have ⟨h1, h2⟩ := List.pairwise_cons.1 hl
    have ⟨k1, k2⟩ := List.pairwise_cons.1 hm
    have e : a = b := by
      rcases List.mem_cons.1 ((h a).1 List.mem_cons_self) with e | e
      · exact e
      · rcases List.mem_cons.1 ((h b).2 List.mem_cons_self) with e' | e'
        · exact e'.symm
        · have := k1 a e; have := h1 b e'; omega
    subst e
    rw [mE h2 k2 (fun x => ?_)]
    constructor
    · intro hx
      rcases List.mem_cons.1 ((h x).1 (List.mem_cons_of_mem _ hx)) with e | e
      · have := h1 x hx; omega
      · exact e
    · intro hx
      rcases List.mem_cons.1 ((h x).2 (List.mem_cons_of_mem _ hx)) with e | e
      · have := k1 x hx; omega
      · exact e
def jF (l : List Int) : List Int → List Int := l.foldl put
theorem oI {x : Int} : ∀ {l met : List Int}, x ∈ jF l met ↔ x ∈ l ∨ x ∈ met
  | [], met => by simp [jF]
  | a :: l, met => by
    show x ∈ jF l (put met a) ↔ _
    rw [oI, jH, List.mem_cons]
    constructor
    · rintro (h | h | h)
      · exact Or.inl (Or.inr h)
      · exact Or.inl (Or.inl h)
      · exact Or.inr h
    · rintro ((h | h) | h)
      · exact Or.inr (Or.inl h)
      · exact Or.inl h
      · exact Or.inr (Or.inr h)
theorem lJ : ∀ {l met : List Int}, jh met → jh (jF l met)
  | [], _, h => h
  | a :: l, met, h => lJ (l := l) (kG h)
theorem p9 : ∀ {l met : List Int}, (jF l met).length ≤ l.length + met.length
  | [], met => by simp [jF]
  | a :: l, met => by
    show (jF l (put met a)).length ≤ _
    have := @p9 l (put met a); have := @mi a met; rw [List.length_cons]; omega
theorem oH : ∀ {l met : List Int}, jh met → ((jF l met).length = l.length + met.length ↔ l.Nodup ∧ ∀ x ∈ l, x ∉ met)
  | [], met, _ => by simp [jF]
  | a :: l, met, h => by
    show (jF l (put met a)).length = _ ↔ _
    have ih := @oH l (put met a) (kG h)
    have hle := @p9 l (put met a)
    rw [List.length_cons, List.nodup_cons]
    by_cases ha : a ∈ met
    · rw [put_mem h ha] at hle ⊢
      constructor
      · intro e; omega
      · rintro ⟨_, h2⟩; exact absurd ha (h2 a List.mem_cons_self)
    · have hp := o7 ha
      rw [hp] at ih hle
      rw [show (jF l (put met a)).length = l.length + 1 + met.length ↔ (jF l (put met a)).length = l.length + (met.length + 1) by omega, ih]
      constructor
      · rintro ⟨h1, h2⟩
        refine ⟨⟨fun hm => h2 a hm (jH.2 (Or.inl rfl)), h1⟩, fun x hx hxm => ?_⟩
        rcases List.mem_cons.1 hx with rfl | hx
        · exact ha hxm
        · exact h2 x hx (jH.2 (Or.inr hxm))
      · rintro ⟨⟨h1, h2⟩, h3⟩
        refine ⟨h2, fun x hx hxm => ?_⟩
        rcases jH.1 hxm with rfl | hxm
        · exact h1 hx
        · exact h3 x (List.mem_cons_of_mem _ hx) hxm
theorem qM {n : Int} {l : List Int} (h : l.Nodup) (hb : ∀ x ∈ l, 0 ≤ x ∧ x < n) (hn : 0 ≤ n) : (l.length : Int) ≤ n := by
  have e := (oH (l := l) (met := []) List.Pairwise.nil).2 ⟨h, by simp⟩
  have := jX (a := 0) (n := n) (lJ (l := l) (met := []) List.Pairwise.nil) (fun x hx => by
    rcases oI.1 hx with h | h
    · exact hb x h
    · cases h) hn
  simp at e; omega
end Go.Proofs.YtmhjmicplaolmaaGreatDoor.Put
namespace Go.Proofs.YtmhjmicplaolmaaGreatDoor.Graph
open Go.Proofs.YtmhjmicplaolmaaGreatDoor.Put
set_option linter.unusedSimpArgs false
set_option linter.unusedVariables false
inductive Reach (adj : Int → List Int) (a : Int) : Int → Prop
  | here : Reach adj a a
  | next {x y : Int} : Reach adj a x → y ∈ adj x → Reach adj a y
theorem Reach.trans {adj : Int → List Int} {a b c : Int} (h : Reach adj a b) (k : Reach adj b c) : Reach adj a c := by
  induction k with
  | here => exact h
  | next _ hy ih => exact Reach.next ih hy
theorem Reach.closed {adj : Int → List Int} {a : Int} {r : List Int} (h0 : a ∈ r) (hc : ∀ x ∈ r, ∀ y ∈ adj x, y ∈ r) {x : Int} (h : Reach adj a x) : x ∈ r := by
  induction h with
  | here => exact h0
  | next _ hy ih => exact hc _ ih _ hy
structure Met (adj : Int → List Int) (n : Int) (l met r : List Int) : Prop where
  rising : jh r
  bound : ∀ x ∈ r, 0 ≤ x ∧ x < n
  more : ∀ x ∈ met, x ∈ r
  all : ∀ x ∈ l, x ∈ r
  closed : ∀ x ∈ r, x ∉ met → ∀ y ∈ adj x, y ∈ r
  from_ : ∀ x ∈ r, x ∉ met → ∃ a ∈ l, Reach adj a x
  len : met.length ≤ r.length
theorem Met.nil {adj : Int → List Int} {n : Int} {met : List Int} (h : jh met) (hb : ∀ x ∈ met, 0 ≤ x ∧ x < n) : Met adj n [] met met :=
  ⟨h, hb, fun _ h => h, fun _ h => (by cases h), fun _ h h' => absurd h h', fun _ h h' => absurd h h', Nat.le_refl _⟩
theorem Met.has {adj : Int → List Int} {n a : Int} {met : List Int} (h : jh met) (hb : ∀ x ∈ met, 0 ≤ x ∧ x < n) (ha : a ∈ met) : Met adj n [a] met met :=
  ⟨h, hb, fun _ h => h, fun x hx => by rw [List.mem_singleton.1 hx]; exact ha, fun _ h h' => absurd h h', fun _ h h' => absurd h h', Nat.le_refl _⟩
theorem Met.cons {adj : Int → List Int} {n a : Int} {l met m r : List Int} (h1 : Met adj n [a] met m) (h2 : Met adj n l m r) : Met adj n (a :: l) met r := by
  refine ⟨h2.rising, h2.bound, fun x hx => h2.more x (h1.more x hx), fun x hx => ?_, fun x hx hn y hy => ?_, fun x hx hn => ?_, Nat.le_trans h1.len h2.len⟩
  · rcases List.mem_cons.1 hx with rfl | hx
    · exact h2.more _ (h1.all _ List.mem_cons_self)
    · exact h2.all x hx
  · by_cases hm : x ∈ m
    · exact h2.more y (h1.closed x hm hn y hy)
    · exact h2.closed x hx hm y hy
  · by_cases hm : x ∈ m
    · obtain ⟨b, hb, hr⟩ := h1.from_ x hm hn
      exact ⟨b, by rw [List.mem_singleton.1 hb]; exact List.mem_cons_self, hr⟩
    · obtain ⟨b, hb, hr⟩ := h2.from_ x hx hm
      exact ⟨b, List.mem_cons_of_mem _ hb, hr⟩
theorem Met.step {adj : Int → List Int} {n a : Int} {met r : List Int} (hn : a ∉ met) (h : Met adj n (adj a) (put met a) r) : Met adj n [a] met r := by
  refine ⟨h.rising, h.bound, fun x hx => h.more x (jH.2 (Or.inr hx)), fun x hx => ?_, fun x hx hx' y hy => ?_, fun x hx hx' => ?_, Nat.le_trans (mo) h.len⟩
  · rw [List.mem_singleton.1 hx]; exact h.more a (jH.2 (Or.inl rfl))
  · by_cases hm : x ∈ put met a
    · rcases jH.1 hm with rfl | hm
      · exact h.all y hy
      · exact absurd hm hx'
    · exact h.closed x hx hm y hy
  · refine ⟨a, List.mem_singleton.2 rfl, ?_⟩
    by_cases hm : x ∈ put met a
    · rcases jH.1 hm with rfl | hm
      · exact Reach.here
      · exact absurd hm hx'
    · obtain ⟨b, hb, hr⟩ := h.from_ x hx hm
      exact Reach.trans (Reach.next Reach.here hb) hr
theorem Met.reach {adj : Int → List Int} {n a : Int} {r : List Int} (h : Met adj n [a] [] r) {x : Int} : x ∈ r ↔ Reach adj a x := by
  constructor
  · intro hx
    obtain ⟨b, hb, hr⟩ := h.from_ x hx (by simp)
    rw [List.mem_singleton.1 hb] at hr; exact hr
  · exact Reach.closed (h.all a List.mem_cons_self) (fun x hx y hy => h.closed x hx (by simp) y hy)
def bX (rows : List (List Int)) (x : Int) : List Int := rows.getD x.toNat []
def links (rows : List (List Int)) (x : Int) : Nat := rows.flatten.count x
theorem qZ {rows : List (List Int)} {x : Int} (h1 : x.toNat < rows.length) : bX rows x ∈ rows := by
  unfold bX; rw [List.getD_eq_getElem?_getD, List.getElem?_eq_getElem h1]; exact List.getElem_mem h1
theorem kX {rows : List (List Int)} {x : Int} : 0 < links rows x ↔ ∃ p : Int, 0 ≤ p ∧ p < (rows.length : Int) ∧ x ∈ bX rows p := by
  unfold links
  rw [List.count_pos_iff, List.mem_flatten]
  constructor
  · rintro ⟨l, hl, hx⟩
    obtain ⟨i, hi, e⟩ := List.mem_iff_getElem.1 hl
    refine ⟨i, by omega, by omega, ?_⟩
    unfold bX
    rw [show (i : Int).toNat = i by omega, List.getD_eq_getElem?_getD, List.getElem?_eq_getElem hi, Option.getD_some, e]; exact hx
  · rintro ⟨p, h0, h1, h⟩
    exact ⟨_, qZ (by omega), h⟩
theorem wF {rows : List (List Int)} {x p q : Int} (h : links rows x ≤ 1) (hp0 : 0 ≤ p) (hq0 : 0 ≤ q) (hp : p < (rows.length : Int)) (hq : q < (rows.length : Int)) (h1 : x ∈ bX rows p) (h2 : x ∈ bX rows q) : p = q := by
  have key : ∀ {i j : Nat}, i < j → j < rows.length → x ∈ rows.getD i [] → x ∈ rows.getD j [] → False := fun {i j} hij hj hi hj' => by
    have e : rows = rows.take j ++ rows.drop j := (List.take_append_drop j rows).symm
    have hc : links rows x = (rows.take j).flatten.count x + (rows.drop j).flatten.count x := by
      unfold links; conv => lhs; rw [e]
      rw [List.flatten_append, List.count_append]
    have c1 : 0 < (rows.take j).flatten.count x := by
      rw [List.count_pos_iff, List.mem_flatten]
      refine ⟨_, ?_, hi⟩
      rw [List.getD_eq_getElem?_getD, List.getElem?_eq_getElem (by omega), Option.getD_some]
      exact List.mem_iff_getElem.2 ⟨i, by rw [List.length_take]; omega, by rw [List.getElem_take]⟩
    have c2 : 0 < (rows.drop j).flatten.count x := by
      rw [List.count_pos_iff, List.mem_flatten]
      refine ⟨_, ?_, hj'⟩
      rw [List.getD_eq_getElem?_getD, List.getElem?_eq_getElem hj, Option.getD_some]
      exact List.mem_iff_getElem.2 ⟨0, by rw [List.length_drop]; omega, by rw [List.getElem_drop]; rfl⟩
    omega
  rcases Int.lt_trichotomy p q with hlt | e | hlt
  · exact (key (by omega) (by omega) h1 h2).elim
  · exact e
  · exact (key (by omega) (by omega) h2 h1).elim
theorem tu {rows : List (List Int)} {x p : Int} {a b : List Int} (h : links rows x ≤ 1) (hp0 : 0 ≤ p) (hp : p < (rows.length : Int)) (e : bX rows p = a ++ x :: b) : x ∉ a := by
  intro hx
  have hs : (bX rows p).count x ≤ rows.flatten.count x := by
    have hm : bX rows p ∈ rows := qZ (by omega)
    obtain ⟨i, hi, e'⟩ := List.mem_iff_getElem.1 hm
    have e2 : rows.flatten.count x = (rows.take i).flatten.count x + (rows.drop i).flatten.count x := by
      conv => lhs; rw [← List.take_append_drop i rows]
      rw [List.flatten_append, List.count_append]
    rw [e2, List.drop_eq_getElem_cons hi, List.flatten_cons, List.count_append, e']; omega
  have h1 : 0 < a.count x := List.count_pos_iff.2 hx
  unfold links at h
  rw [e, List.count_append, List.count_cons_self] at hs
  omega
structure iw (adj : Int → List Int) (dir : Int → Prop) (n : Int) (q : List Int) (k : Nat) (done : List Int) : Prop where
  nodup : q.Nodup
  bound : ∀ x ∈ q, 0 ≤ x ∧ x < n ∧ dir x
  zero : 0 ∈ q
  up : ∀ x ∈ q, x ≠ 0 → (∃ p ∈ q.take k, x ∈ adj p) ∨ x ∈ done
  reach : ∀ x ∈ q, Reach adj 0 x
  down : ∀ p ∈ q.take k, ∀ y ∈ adj p, dir y → y ∈ q
  downd : ∀ y ∈ done, dir y → y ∈ q
  order : ∀ (j : Nat) (x : Int), q[j]? = some x → x ≠ 0 → ∃ (i : Nat) (p : Int), i < j ∧ q[i]? = some p ∧ x ∈ adj p
theorem iw.start {adj : Int → List Int} {dir : Int → Prop} {n : Int} (hn : 0 < n) (hd : dir 0) : iw adj dir n [0] 0 [] :=
  ⟨by simp, fun x hx => by rw [List.mem_singleton.1 hx]; exact ⟨by omega, hn, hd⟩, by simp, fun x hx h => absurd (List.mem_singleton.1 hx) h, fun x hx => by rw [List.mem_singleton.1 hx]; exact Reach.here, fun p hp => by simp at hp, fun y hy => (by cases hy), fun j x hj h0 => absurd (List.mem_singleton.1 (List.mem_of_getElem? hj)) h0⟩
structure Tree (adj : Int → List Int) (dir : Int → Prop) (n : Int) : Prop where
  range : ∀ x, 0 ≤ x → x < n → ∀ y ∈ adj x, 0 ≤ y ∧ y < n
  zero : ∀ x, 0 ≤ x → x < n → 0 ∉ adj x
  one : ∀ x, dir x → ∀ p q, 0 ≤ p → p < n → 0 ≤ q → q < n → x ∈ adj p → x ∈ adj q → p = q
  once : ∀ x, dir x → ∀ p a b, 0 ≤ p → p < n → adj p = a ++ x :: b → x ∉ a
  only : ∀ x, 0 ≤ x → x < n → ∀ y ∈ adj x, dir x
theorem iw.fresh {adj : Int → List Int} {dir : Int → Prop} {n : Int} (T : Tree adj dir n) {q done rest : List Int} {k : Nat} {c e : Int} (h : iw adj dir n q k done) (hk : q[k]? = some c) (ha : adj c = done ++ e :: rest) (hd : dir e) : e ∉ q := by
  intro hq
  have hcq : c ∈ q := List.mem_of_getElem? hk
  have hc := h.bound c hcq
  have hea : e ∈ adj c := by rw [ha]; simp
  have h0 : e ≠ 0 := fun e0 => T.zero c hc.1 hc.2.1 (e0 ▸ hea)
  rcases h.up e hq h0 with ⟨p, hp, hpe⟩ | hdn
  · have hpq : p ∈ q := List.mem_of_mem_take hp
    have hpb := h.bound p hpq
    have := T.one e hd p c hpb.1 hpb.2.1 hc.1 hc.2.1 hpe hea
    subst this
    have hkl : k < q.length := (List.getElem?_eq_some_iff.1 hk).1
    have hs : q = q.take k ++ p :: q.drop (k + 1) := by
      rw [List.getElem?_eq_getElem hkl] at hk
      rw [← Option.some.inj hk, ← List.drop_eq_getElem_cons hkl, List.take_append_drop]
    have hnd := h.nodup
    rw [hs, List.nodup_append] at hnd
    exact hnd.2.2 p hp p List.mem_cons_self rfl
  · exact T.once e hd c done rest hc.1 hc.2.1 ha hdn
theorem iw.push {adj : Int → List Int} {dir : Int → Prop} {n : Int} (T : Tree adj dir n) {q done rest : List Int} {k : Nat} {c e : Int} (h : iw adj dir n q k done) (hk : q[k]? = some c) (ha : adj c = done ++ e :: rest) (hd : dir e) : iw adj dir n (q ++ [e]) k (done ++ [e]) := by
  have hf := h.fresh T hk ha hd
  have hkl : k < q.length := (List.getElem?_eq_some_iff.1 hk).1
  have ht : (q ++ [e]).take k = q.take k := List.take_append_of_le_length (by omega)
  have hcq : c ∈ q := List.mem_of_getElem? hk
  have hc := h.bound c hcq
  have hea : e ∈ adj c := by rw [ha]; simp
  refine ⟨?_, fun x hx => ?_, by simp [h.zero], fun x hx h0 => ?_, fun x hx => ?_, fun p hp y hy hdy => ?_, fun y hy hdy => ?_, fun j x hj h0 => ?_⟩
  · rw [List.nodup_append]
    refine ⟨h.nodup, by simp, fun a ha' b hb => ?_⟩
    rw [List.mem_singleton.1 hb]; rintro rfl; exact hf ha'
  · rcases List.mem_append.1 hx with hx | hx
    · exact h.bound x hx
    · rw [List.mem_singleton.1 hx]; exact ⟨(T.range c hc.1 hc.2.1 e hea).1, (T.range c hc.1 hc.2.1 e hea).2, hd⟩
  · rw [ht]
    rcases List.mem_append.1 hx with hx | hx
    · rcases h.up x hx h0 with h' | h'
      · exact Or.inl h'
      · exact Or.inr (List.mem_append.2 (Or.inl h'))
    · exact Or.inr (List.mem_append.2 (Or.inr hx))
  · rcases List.mem_append.1 hx with hx | hx
    · exact h.reach x hx
    · rw [List.mem_singleton.1 hx]; exact Reach.next (h.reach c hcq) hea
  · rw [ht] at hp; exact List.mem_append.2 (Or.inl (h.down p hp y hy hdy))
  · rcases List.mem_append.1 hy with hy | hy
    · exact List.mem_append.2 (Or.inl (h.downd y hy hdy))
    · exact List.mem_append.2 (Or.inr hy)
  · by_cases hl : j < q.length
    · rw [List.getElem?_append_left hl] at hj
      obtain ⟨i, p, hi, hp, hx⟩ := h.order j x hj h0
      exact ⟨i, p, hi, by rw [List.getElem?_append_left (by omega)]; exact hp, hx⟩
    · have hj' := List.mem_of_getElem? hj
      rw [List.getElem?_append_right (by omega)] at hj
      have e : x = e := by
        have := List.mem_of_getElem? hj
        exact List.mem_singleton.1 this
      refine ⟨k, c, by omega, by rw [List.getElem?_append_left hkl]; exact hk, ?_⟩
      rw [e]; exact hea
theorem iw.skip {adj : Int → List Int} {dir : Int → Prop} {n : Int} {q done : List Int} {k : Nat} {e : Int} (h : iw adj dir n q k done) (hd : ¬ dir e) : iw adj dir n q k (done ++ [e]) :=
  ⟨h.nodup, h.bound, h.zero, fun x hx h0 => (h.up x hx h0).imp id fun h' => List.mem_append.2 (Or.inl h'), h.reach, h.down, fun y hy hdy => by
    rcases List.mem_append.1 hy with hy | hy
    · exact h.downd y hy hdy
    · rw [List.mem_singleton.1 hy] at hdy; exact absurd hdy hd, h.order⟩
theorem iw.next {adj : Int → List Int} {dir : Int → Prop} {n : Int} {q : List Int} {k : Nat} {c : Int} (h : iw adj dir n q k (adj c)) (hk : q[k]? = some c) : iw adj dir n q (k + 1) [] := by
  have ht : q.take (k + 1) = q.take k ++ [c] := by rw [List.take_add_one, hk]; rfl
  refine ⟨h.nodup, h.bound, h.zero, fun x hx h0 => ?_, h.reach, fun p hp y hy hdy => ?_, fun y hy => (by cases hy), h.order⟩
  · rw [ht]
    rcases h.up x hx h0 with ⟨p, hp, hx'⟩ | h'
    · exact Or.inl ⟨p, List.mem_append.2 (Or.inl hp), hx'⟩
    · exact Or.inl ⟨c, List.mem_append.2 (Or.inr (List.mem_singleton.2 rfl)), h'⟩
  · rw [ht] at hp
    rcases List.mem_append.1 hp with hp | hp
    · exact h.down p hp y hy hdy
    · rw [List.mem_singleton.1 hp] at hy; exact h.downd y hy hdy
theorem iw.len {adj : Int → List Int} {dir : Int → Prop} {n : Int} {q done : List Int} {k : Nat} (h : iw adj dir n q k done) (hn : 0 ≤ n) : (q.length : Int) ≤ n := qM h.nodup (fun x hx => ⟨(h.bound x hx).1, (h.bound x hx).2.1⟩) hn
theorem iw.allIn {adj : Int → List Int} {dir : Int → Prop} {n : Int} (T : Tree adj dir n) (hn : 0 < n) {q : List Int} (h : iw adj dir n q q.length []) {x : Int} (hr : Reach adj 0 x) : (0 ≤ x ∧ x < n) ∧ (dir x → x ∈ q) := by
  induction hr with
  | here => exact ⟨⟨by omega, hn⟩, fun _ => h.zero⟩
  | next hy hx ih =>
    refine ⟨T.range _ ih.1.1 ih.1.2 _ hx, fun hd => ?_⟩
    have hdy := T.only _ ih.1.1 ih.1.2 _ hx
    exact h.down _ (by rw [List.take_of_length_le (Nat.le_refl _)]; exact ih.2 hdy) _ hx hd
def Deep (adj : Int → List Int) : Nat → Int → Prop
  | 0, x => adj x = []
  | d + 1, x => ∀ y ∈ adj x, Deep adj d y
theorem Deep.mono {adj : Int → List Int} : ∀ {d e : Nat} {x : Int}, Deep adj d x → d ≤ e → Deep adj e x
  | 0, 0, _, h, _ => h
  | 0, e + 1, x, h, _ => fun y hy => by have : adj x = [] := h; rw [this] at hy; cases hy
  | d + 1, 0, _, _, h => by omega
  | d + 1, e + 1, x, h, hl => fun y hy => Deep.mono (h y hy) (by omega)
theorem iw.deep {adj : Int → List Int} {dir : Int → Prop} {n : Int} (T : Tree adj dir n) {q : List Int} (h : iw adj dir n q q.length []) (d : Nat) : ∀ (i : Nat) (x : Int), q[i]? = some x → q.length - i = d → Deep adj d x := by
  induction d using Nat.strongRecOn with
  | _ d ih =>
    intro i x hi hd
    have hil : i < q.length := (List.getElem?_eq_some_iff.1 hi).1
    obtain ⟨d', rfl⟩ : ∃ d', d = d' + 1 := ⟨d - 1, by omega⟩
    have hxq := List.mem_of_getElem? hi
    have hxb := h.bound x hxq
    intro y hy
    have hyb := T.range x hxb.1 hxb.2.1 y hy
    by_cases hdy : dir y
    · have hyq := h.down x (by rw [List.take_of_length_le (Nat.le_refl _)]; exact hxq) y hy hdy
      obtain ⟨j, hj, e⟩ := List.mem_iff_getElem.1 hyq
      have hj' : q[j]? = some y := by rw [List.getElem?_eq_getElem hj, e]
      have h0 : y ≠ 0 := fun e0 => T.zero x hxb.1 hxb.2.1 (e0 ▸ hy)
      obtain ⟨i', p, hlt, hp, hyp⟩ := h.order j y hj' h0
      have hpb := h.bound p (List.mem_of_getElem? hp)
      have epx := T.one y hdy p x hpb.1 hpb.2.1 hxb.1 hxb.2.1 hyp hy
      subst epx
      have hi' : i' < q.length := (List.getElem?_eq_some_iff.1 hp).1
      have eii : i = i' := by
        rw [List.getElem?_eq_getElem hil] at hi
        rw [List.getElem?_eq_getElem hi'] at hp
        have e := (Option.some.inj hi).trans (Option.some.inj hp).symm
        have hnd := List.pairwise_iff_getElem.1 h.nodup
        rcases Nat.lt_trichotomy i i' with hlt' | h' | hlt'
        · exact absurd e (hnd i i' hil hi' hlt')
        · exact h'
        · exact absurd e.symm (hnd i' i hi' hil hlt')
      exact (ih (q.length - j) (by omega) j y hj' rfl).mono (by omega)
    · have : adj y = [] := by
        cases ha : adj y with
        | nil => rfl
        | cons z t => exact absurd (T.only y hyb.1 hyb.2 z (by rw [ha]; exact List.mem_cons_self)) hdy
      exact Deep.mono (d := 0) this (Nat.zero_le _)
theorem both {adj : Int → List Int} {dir there : Int → Prop} {n : Int} (T : Tree adj dir n) (hn : 0 < n) {q r : List Int} (h : iw adj dir n q q.length []) (hr : Met adj n [0] [] r) (hdt : ∀ x, dir x → there x) :
    (∀ x, 0 ≤ x → x < n → there x → x ∈ r) ↔ (∀ x, 0 ≤ x → x < n → dir x → x ∈ q) ∧ (∀ x, 0 < x → x < n → there x → ∃ p, 0 ≤ p ∧ p < n ∧ x ∈ adj p) := by
  constructor
  · intro H
    refine ⟨fun x h0 h1 hd => (h.allIn T hn (hr.reach.1 (H x h0 h1 (hdt x hd)))).2 hd, fun x h0 h1 ht => ?_⟩
    have hre := hr.reach.1 (H x (by omega) h1 ht)
    cases hre with
    | here => omega
    | next hp hx => have := (h.allIn T hn hp).1; exact ⟨_, this.1, this.2, hx⟩
  · rintro ⟨H1, H2⟩ x h0 h1 ht
    by_cases hx : x = 0
    · subst hx; exact hr.all 0 List.mem_cons_self
    · obtain ⟨p, hp0, hp1, hxp⟩ := H2 x (by omega) h1 ht
      have hpd := T.only p hp0 hp1 x hxp
      exact hr.reach.2 (Reach.next (h.reach p (H1 p hp0 hp1 hpd)) hxp)
end Go.Proofs.YtmhjmicplaolmaaGreatDoor.Graph
namespace Go.Proofs.YtmhjmicplaolmaaGreatDoor.Loops
open Go.RowKit Go.Proofs.YtmhjmicplaolmaaGreatDoorW.PrintWords Go.Proofs.YtmhjmicplaolmaaGreatDoorW.PrintLast Go.Proofs.YtmhjmicplaolmaaGreatDoorW.PrintMore Go.Proofs.YtmhjmicplaolmaaGreatDoor.Aid
set_option linter.unusedSimpArgs false
set_option linter.unusedVariables false
variable {α β γ : Type}
theorem je (l : List α) (z : α) (i : Int) (h0 : 0 ≤ i) (h1 : i < (l.length : Int)) : l.getD i.toNat z ∈ l := by
  have hl : i.toNat < l.length := by omega
  rw [List.getD_eq_getElem?_getD, List.getElem?_eq_getElem hl]; exact List.getElem_mem hl
theorem za (z : α) (a b : List α) (hab : a.length = b.length) (hM : a.length ≤ 9223372036854775806) (L : Nat → Int → Option Bool) (G : Nat → α → α → Option Bool)
    (h1 : ∀ k i, 0 ≤ i → i < (a.length : Int) → L (k + 1) i = (G k (a.getD i.toNat z) (b.getD i.toNat z)).bind fun t => if t = true then L k (wrap64 (i + 1)) else some false)
    (h2 : ∀ k i, ¬ i < (a.length : Int) → L (k + 1) i = some true)
    (hG : ∀ x ∈ a, ∀ y ∈ b, ∃ r, Ev (fun k => G k x y) r ∧ (r = true ↔ x = y)) (d : Nat) : ∀ i : Int, 0 ≤ i → i ≤ a.length → (a.length : Int) - i = d →
    ∃ r, Ev (fun k => L k i) r ∧ (r = true ↔ a.drop i.toNat = b.drop i.toNat) := by
  induction d with
  | zero =>
    intro i h0 hi hd
    refine ⟨true, Ev.step (fun k => h2 k i (by omega)) (Ev.now _), ?_⟩
    rw [List.drop_eq_nil_iff.mpr (show a.length ≤ i.toNat by omega), List.drop_eq_nil_iff.mpr (show b.length ≤ i.toNat by omega)]
    simp
  | succ d ih =>
    intro i h0 hi hd
    have hlt : i < (a.length : Int) := by omega
    have hlt' : i < (b.length : Int) := by omega
    obtain ⟨r, hr, e⟩ := hG _ (je a z i h0 hlt) _ (je b z i h0 hlt')
    rw [ic a z i h0 hlt, ic b z i h0 hlt']
    cases r with
    | true =>
      obtain ⟨r', hr', e'⟩ := ih (i + 1) (by omega) (by omega) (by omega)
      refine ⟨r', Ev.step (fun k => h1 k i h0 hlt) (aj hr (af rfl ?_)), ?_⟩
      · rw [bg (by omega) (by omega)]; exact hr'
      · rw [e', List.cons.injEq]
        exact ⟨fun h => ⟨e.1 rfl, h⟩, fun h => h.2⟩
    | false =>
      refine ⟨false, Ev.step (fun k => h1 k i h0 hlt) (aj hr (aH (by simp) (Ev.now _))), ?_⟩
      rw [List.cons.injEq]
      exact ⟨fun h => (by cases h), fun h => absurd (e.2 h.1) (by simp)⟩
theorem xR (z : α) (a b : List α) (hM : a.length ≤ 9223372036854775806) (F : Nat → Option Bool) (L : Nat → Int → Option Bool) (G : Nat → α → α → Option Bool)
    (h0 : ∀ k, F k = if (a.length : Int) = (b.length : Int) then L k 0 else some false)
    (h1 : a.length = b.length → ∀ k i, 0 ≤ i → i < (a.length : Int) → L (k + 1) i = (G k (a.getD i.toNat z) (b.getD i.toNat z)).bind fun t => if t = true then L k (wrap64 (i + 1)) else some false)
    (h2 : ∀ k i, ¬ i < (a.length : Int) → L (k + 1) i = some true)
    (hG : ∀ x ∈ a, ∀ y ∈ b, ∃ r, Ev (fun k => G k x y) r ∧ (r = true ↔ x = y)) : ∃ r, Ev F r ∧ (r = true ↔ a = b) := by
  by_cases h : a.length = b.length
  · obtain ⟨r, hr, e⟩ := za z a b h hM L G (h1 h) h2 hG a.length 0 (by omega) (by omega) (by omega)
    refine ⟨r, ?_, by simpa using e⟩
    rw [show F = fun k => if (a.length : Int) = (b.length : Int) then L k 0 else some false from funext h0]
    exact af (by omega) hr
  · refine ⟨false, ?_, fun e => (by cases e), fun e => absurd (by rw [e]) h⟩
    rw [show F = fun k => if (a.length : Int) = (b.length : Int) then L k 0 else some false from funext h0]
    exact aH (by omega) (Ev.now _)
theorem vE (z : α) (l : List α) (hM : l.length ≤ 9223372036854775806) (L : Nat → Int → Int → Option Int) (G : Nat → α → Int → Option Int) (Q : α → Prop) (N : Int)
    (h1 : ∀ k x i, 0 ≤ i → i < (l.length : Int) → L (k + 1) x i = (G k (l.getD i.toNat z) x).bind fun t => if t < 0 then some (-1) else L k t (wrap64 (i + 1)))
    (h2 : ∀ k x i, ¬ i < (l.length : Int) → L (k + 1) x i = some x)
    (hG : ∀ a ∈ l, ∀ x, 0 ≤ x → x ≤ N → ∃ r, Ev (fun k => G k a x) r ∧ (r < 0 ∨ (0 ≤ r ∧ r ≤ x ∧ Q a))) (d : Nat) : ∀ (x i : Int), 0 ≤ i → i ≤ l.length → 0 ≤ x → x ≤ N → (l.length : Int) - i = d →
    ∃ r, Ev (fun k => L k x i) r ∧ (r < 0 ∨ (0 ≤ r ∧ r ≤ x ∧ ∀ a ∈ l.drop i.toNat, Q a)) := by
  induction d with
  | zero =>
    intro x i h0 hi hx hx2 hd
    refine ⟨x, Ev.step (fun k => h2 k x i (by omega)) (Ev.now _), .inr ⟨hx, by omega, ?_⟩⟩
    rw [List.drop_eq_nil_iff.mpr (by omega)]; simp
  | succ d ih =>
    intro x i h0 hi hx hx2 hd
    have hlt : i < (l.length : Int) := by omega
    obtain ⟨t, ht, e⟩ := hG _ (je l z i h0 hlt) x hx hx2
    rw [ic l z i h0 hlt]
    rcases e with hneg | ⟨e1, e2, e3⟩
    · exact ⟨-1, Ev.step (fun k => h1 k x i h0 hlt) (aj ht (af hneg (Ev.now _))), .inl (by omega)⟩
    · obtain ⟨r, hr, e'⟩ := ih t (i + 1) (by omega) (by omega) e1 (by omega) (by omega)
      refine ⟨r, Ev.step (fun k => h1 k x i h0 hlt) (aj ht (aH (by omega) ?_)), ?_⟩
      · rw [bg (by omega) (by omega)]; exact hr
      · rcases e' with h | ⟨h3, h4, h5⟩
        · exact .inl h
        · refine .inr ⟨h3, by omega, fun q hq => ?_⟩
          rcases List.mem_cons.1 hq with rfl | hq
          · exact e3
          · exact h5 q hq
theorem vD (z : α) (l : List α) (hM : l.length ≤ 9223372036854775806) (L : Nat → List β → Int → Option (List β)) (G : Nat → α → Option γ) (c : γ → β) (g : α → γ)
    (h1 : ∀ k acc i, 0 ≤ i → i < (l.length : Int) → acc.length = l.length → L (k + 1) acc i = (G k (l.getD i.toNat z)).bind fun y => L k (acc.set i.toNat (c y)) (wrap64 (i + 1)))
    (h2 : ∀ k acc i, ¬ i < (l.length : Int) → L (k + 1) acc i = some acc)
    (hG : ∀ a ∈ l, Ev (fun k => G k a) (g a)) (d : Nat) : ∀ (acc : List β) (i : Int), acc.length = l.length → 0 ≤ i → i ≤ l.length → acc.take i.toNat = (l.map fun a => c (g a)).take i.toNat → (l.length : Int) - i = d →
    Ev (fun k => L k acc i) (l.map fun a => c (g a)) := by
  induction d with
  | zero =>
    intro acc i hz h0 hi ht hd
    refine Ev.step (fun k => h2 k acc i (by omega)) (dE ?_)
    rwa [List.take_of_length_le (by omega), List.take_of_length_le (by rw [List.length_map]; omega)] at ht
  | succ d ih =>
    intro acc i hz h0 hi ht hd
    have hlt : i < (l.length : Int) := by omega
    refine Ev.step (fun k => h1 k acc i h0 hlt hz) (aj (hG _ (je l z i h0 hlt)) ?_)
    rw [bg (by omega) (by omega)]
    refine ih _ (i + 1) (by rw [List.length_set]; exact hz) (by omega) (by omega) ?_ (by omega)
    have hil : i.toNat < acc.length := by omega
    have hil' : i.toNat < l.length := by omega
    rw [show (i + 1).toNat = i.toNat + 1 by omega, List.take_add_one, List.take_add_one, List.take_set_of_le (Nat.le_refl _), ht, List.getElem?_set_self hil]
    congr 1
    rw [List.getElem?_map, List.getD_eq_getElem?_getD, List.getElem?_eq_getElem hil']; rfl
end Go.Proofs.YtmhjmicplaolmaaGreatDoor.Loops
namespace Go.Proofs.YtmhjmicplaolmaaGreatDoor.AllLoop
open Go.RowKit Go.Proofs.YtmhjmicplaolmaaGreatDoorW.PrintWords Go.Proofs.YtmhjmicplaolmaaGreatDoorW.PrintLast Go.Proofs.YtmhjmicplaolmaaGreatDoorW.PrintMore Go.Proofs.YtmhjmicplaolmaaGreatDoor.Aid
set_option linter.unusedSimpArgs false
set_option linter.unusedVariables false
def nU (L : Nat → Int → Option Bool) (P : Int → Prop) (i : Int) : Prop :=
  (P i ∧ ∀ r, Ev (fun k => L k (i + 1)) r → Ev (fun k => L k i) r) ∨ (¬ P i ∧ Ev (fun k => L k i) false)
theorem yh {L : Nat → Int → Option Bool} {P : Int → Prop} {Q : Prop} {N : Int} (h1 : ∀ i, 0 ≤ i → i < N → (∀ j, 0 ≤ j → j < i → P j) → nU L P i)
    (h2 : (∀ j, 0 ≤ j → j < N → P j) → ∃ e : Bool, Ev (fun k => L k N) e ∧ (e = true ↔ Q)) (d : Nat) : ∀ i : Int, 0 ≤ i → i ≤ N → N - i = d → (∀ j, 0 ≤ j → j < i → P j) →
    ∃ r : Bool, Ev (fun k => L k i) r ∧ (r = true ↔ (∀ j, 0 ≤ j → j < N → P j) ∧ Q) := by
  induction d with
  | zero =>
    intro i h0 hi hd hp
    have e : i = N := by omega
    subst e
    obtain ⟨e, he, hq⟩ := h2 hp
    exact ⟨e, he, by rw [hq]; exact ⟨fun h => ⟨hp, h⟩, fun h => h.2⟩⟩
  | succ d ih =>
    intro i h0 hi hd hp
    rcases h1 i h0 (by omega) hp with ⟨h, hn⟩ | ⟨h, hf⟩
    · obtain ⟨r, hr, e⟩ := ih (i + 1) (by omega) (by omega) (by omega) (fun j hj0 hj1 => by
        by_cases hji : j = i
        · rw [hji]; exact h
        · exact hp j hj0 (by omega))
      exact ⟨r, hn r hr, e⟩
    · exact ⟨false, hf, fun h' => (by cases h'), fun h' => absurd (h'.1 i h0 (by omega)) h⟩
theorem mR {L : Nat → Int → Option Bool} {P : Int → Prop} {Q : Prop} {N : Int} (hN : 0 ≤ N) (h1 : ∀ i, 0 ≤ i → i < N → (∀ j, 0 ≤ j → j < i → P j) → nU L P i)
    (h2 : (∀ j, 0 ≤ j → j < N → P j) → ∃ e : Bool, Ev (fun k => L k N) e ∧ (e = true ↔ Q)) : ∃ r : Bool, Ev (fun k => L k 0) r ∧ (r = true ↔ (∀ j, 0 ≤ j → j < N → P j) ∧ Q) :=
  yh h1 h2 N.toNat 0 (by omega) hN (by omega) (fun j h0 h1 => by omega)
theorem vX {r s : Bool} {p q : Prop} (hr : r = true ↔ p) (hs : s = true ↔ q) (h : p ↔ q) : r = s := by
  have h' : r = true ↔ s = true := hr.trans (h.trans hs.symm)
  cases r <;> cases s <;> simp at h' ⊢
end Go.Proofs.YtmhjmicplaolmaaGreatDoor.AllLoop
