-- Written by a program of this session (wip/print2) out of the translation. Lean checks it.
import Derived.Test.YtehgojpiahmalaaPSrtx0
namespace Go.Proofs.Ytehgojpiahmalaa.PSrt
open Go.RowKit Go.Proofs.YtehgojpiahmalaaW.PrintWords Go.Proofs.YtehgojpiahmalaaW.PrintLast Go.Proofs.YtehgojpiahmalaaW.PrintMore
attribute [local go_sem] max2_int min2_int max_two min_two max_three min_three max_four min_four   -- for this text's walks alone
set_option linter.unusedVariables false
set_option linter.unusedSimpArgs false

/-! ### impl_sortFaults: function 66 -/
instance : DecidableEq S82 := fun a b => if h : a.f0 = b.f0 ∧ a.f1 = b.f1 then isTrue (by cases a; cases b; obtain ⟨rfl, rfl⟩ := h; rfl) else isFalse (fun e => h (by rw [e]; exact ⟨rfl, rfl⟩))
instance : Inhabited S82 := ⟨⟨⟨#[]⟩, 0⟩⟩
namespace SortLaw
open Go.Sort
variable {α : Type}
/-- Strictly ascending. -/
def Asc (lt : α → α → Bool) (l : List α) : Prop := l.Pairwise (fun x y => lt x y = true)
theorem asc_unique {lt : α → α → Bool} (hO : SWO lt) : ∀ a b : List α, Asc lt a → Asc lt b → (∀ x, x ∈ a ↔ x ∈ b) → a = b
  | [], [], _, _, _ => rfl
  | [], y :: b, _, _, h => absurd ((h y).2 (by simp)) (by simp)
  | x :: a, [], _, _, h => absurd ((h x).1 (by simp)) (by simp)
  | x :: a, y :: b, ha, hb, h => by
    have ha' := List.pairwise_cons.1 ha
    have hb' := List.pairwise_cons.1 hb
    have e : x = y := by
      rcases List.mem_cons.1 ((h x).1 (by simp)) with e | m
      · exact e
      · rcases List.mem_cons.1 ((h y).2 (by simp)) with e2 | m2
        · exact e2.symm
        · have := hO.trans x y x (ha'.1 y m2) (hb'.1 x m)
          rw [hO.irrefl] at this; cases this
    subst e
    congr 1
    refine asc_unique hO a b ha'.2 hb'.2 (fun z => ⟨fun m => ?_, fun m => ?_⟩)
    · rcases List.mem_cons.1 ((h z).1 (List.mem_cons_of_mem _ m)) with e | m2
      · subst e; have := ha'.1 z m; rw [hO.irrefl] at this; cases this
      · exact m2
    · rcases List.mem_cons.1 ((h z).2 (List.mem_cons_of_mem _ m)) with e | m2
      · subst e; have := hb'.1 z m; rw [hO.irrefl] at this; cases this
      · exact m2
variable [Inhabited α]
/-- Where x belongs: behind all that isn't greater. -/
def cut (lt : α → α → Bool) (out : List α) (x : α) : Nat → Nat
  | 0 => 0
  | k + 1 => if lt x (out.getD k default) = true then cut lt out x k else k + 1
theorem cut_spec (lt : α → α → Bool) (out : List α) (x : α) : ∀ n, cut lt out x n ≤ n ∧ (∀ j, cut lt out x n ≤ j → j < n → lt x (out.getD j default) = true) ∧ (0 < cut lt out x n → lt x (out.getD (cut lt out x n - 1) default) = false)
  | 0 => ⟨Nat.le_refl _, fun j _ h => absurd h (Nat.not_lt_zero _), fun h => absurd h (Nat.lt_irrefl _)⟩
  | n + 1 => by
    have ih := cut_spec lt out x n
    unfold cut
    split
    · rename_i h
      refine ⟨by omega, fun j h1 h2 => ?_, ih.2.2⟩
      by_cases e : j = n
      · subst e; exact h
      · exact ih.2.1 j h1 (by omega)
    · rename_i h
      exact ⟨Nat.le_refl _, fun j h1 h2 => absurd h1 (by omega), fun _ => by simpa using h⟩
/-- The reference's step. -/
def put [DecidableEq α] (lt : α → α → Bool) (out : List α) (x : α) : List α :=
  if 0 < cut lt out x out.length ∧ out.getD (cut lt out x out.length - 1) default = x then out else out.take (cut lt out x out.length) ++ x :: out.drop (cut lt out x out.length)
theorem getD_at (l : List α) (i : Nat) (h : i < l.length) : l.getD i default = l[i] := by rw [List.getD_eq_getElem?_getD, List.getElem?_eq_getElem h]; rfl
theorem put_asc [DecidableEq α] {lt : α → α → Bool} (hO : SWO lt) (hT : ∀ x y, lt x y = false → lt y x = false → x = y) (out : List α) (x : α) (ho : Asc lt out) : Asc lt (put lt out x) ∧ ∀ z, z ∈ put lt out x ↔ z ∈ out ∨ z = x := by
  obtain ⟨h1, h2, h3⟩ := cut_spec lt out x out.length
  unfold put
  generalize cut lt out x out.length = K at h1 h2 h3 ⊢
  split
  · rename_i h
    refine ⟨ho, fun z => ⟨.inl, fun h4 => ?_⟩⟩
    rcases h4 with h4 | rfl
    · exact h4
    · have hk : K - 1 < out.length := by omega
      rw [← h.2, getD_at out _ hk]; exact List.getElem_mem hk
  · rename_i h
    have lo : ∀ y ∈ out.take K, lt y x = true := fun y hy => by
      obtain ⟨j, hj, rfl⟩ := List.getElem_of_mem hy
      have hj2 : j < K ∧ j < out.length := by rw [List.length_take] at hj; omega
      rw [List.getElem_take]
      have hK : 0 < K := by omega
      have hk : K - 1 < out.length := by omega
      have l1 := h3 hK
      rw [getD_at out _ hk] at l1
      have ne : out[K - 1] ≠ x := fun e => h ⟨hK, by rw [getD_at out _ hk]; exact e⟩
      have l2 : lt out[K - 1] x = true := by
        cases hq : lt out[K - 1] x with
        | true => rfl
        | false => exact absurd (hT _ _ hq l1) ne
      by_cases e : j = K - 1
      · subst e; exact l2
      · exact hO.trans _ _ _ (List.pairwise_iff_getElem.1 ho j (K - 1) hj2.2 hk (by omega)) l2
    have hi : ∀ y ∈ out.drop K, lt x y = true := fun y hy => by
      obtain ⟨j, hj, rfl⟩ := List.getElem_of_mem hy
      rw [List.length_drop] at hj
      rw [List.getElem_drop]
      have := h2 (K + j) (by omega) (by omega)
      rwa [getD_at out _ (by omega)] at this
    refine ⟨List.pairwise_append.2 ⟨ho.sublist (List.take_sublist _ _), List.pairwise_cons.2 ⟨hi, ho.sublist (List.drop_sublist _ _)⟩, fun a ha b hb => ?_⟩, fun z => ?_⟩
    · rcases List.mem_cons.1 hb with rfl | hb
      · exact lo a ha
      · exact hO.trans _ _ _ (lo a ha) (hi b hb)
    · rw [List.mem_append, List.mem_cons]
      have e : z ∈ out ↔ z ∈ out.take K ∨ z ∈ out.drop K := by rw [← List.mem_append, List.take_append_drop]
      rw [e]
      constructor
      · rintro (h | h | h)
        · exact .inl (.inl h)
        · exact .inr h
        · exact .inl (.inr h)
      · rintro ((h | h) | h)
        · exact .inl h
        · exact .inr (.inr h)
        · exact .inr (.inl h)
theorem puts_asc [DecidableEq α] {lt : α → α → Bool} (hO : SWO lt) (hT : ∀ x y, lt x y = false → lt y x = false → x = y) : ∀ (l out : List α), Asc lt out → Asc lt (l.foldl (put lt) out) ∧ ∀ z, z ∈ l.foldl (put lt) out ↔ z ∈ out ∨ z ∈ l
  | [], out, ho => ⟨ho, fun z => by simp⟩
  | x :: l, out, ho => by
    have h := put_asc hO hT out x ho
    have ih := puts_asc hO hT l (put lt out x) h.1
    refine ⟨ih.1, fun z => ?_⟩
    rw [List.foldl_cons, ih.2, h.2, List.mem_cons, or_assoc]
theorem compactUpTo_asc [DecidableEq α] {lt : α → α → Bool} (hO : SWO lt) (hT : ∀ x y, lt x y = false → lt y x = false → x = y) (d : Array α) (hs : SortedIn lt 0 d.size d) : ∀ m, m ≤ d.size → Asc lt (Lib.compactUpTo d m) ∧ ∀ z, z ∈ Lib.compactUpTo d m ↔ ∃ j, j < m ∧ d[j]! = z
  | 0, _ => ⟨by simp [Lib.compactUpTo, Asc], fun z => by simp [Lib.compactUpTo]⟩
  | m + 1, hm => by
    have ih := compactUpTo_asc hO hT d hs m (by omega)
    rw [Lib.compactUpTo_succ]
    cases hk : Lib.keeps d m with
    | false =>
      have h : ¬ (m = 0 ∨ d[m]! ≠ d[m - 1]!) := of_decide_eq_false hk
      have hm0 : m ≠ 0 := fun e => h (.inl e)
      have he : d[m]! = d[m - 1]! := Classical.byContradiction fun e => h (.inr e)
      simp only [Bool.false_eq_true, if_false, List.append_nil]
      refine ⟨ih.1, fun z => ?_⟩
      rw [ih.2]
      constructor
      · rintro ⟨j, hj, e⟩; exact ⟨j, by omega, e⟩
      · rintro ⟨j, hj, e⟩
        by_cases ej : j = m
        · subst ej; exact ⟨j - 1, by omega, by rw [← he]; exact e⟩
        · exact ⟨j, by omega, e⟩
    | true =>
      have h : m = 0 ∨ d[m]! ≠ d[m - 1]! := of_decide_eq_true hk
      simp only [if_true]
      refine ⟨List.pairwise_append.2 ⟨ih.1, by simp, fun a ha b hb => ?_⟩, fun z => ?_⟩
      · obtain rfl : b = d[m]! := by simpa using hb
        obtain ⟨j, hj, rfl⟩ := (ih.2 a).1 ha
        have h1 := hs j m (Nat.zero_le _) hj (by omega)
        cases hq : lt d[j]! d[m]! with
        | true => rfl
        | false =>
          have e := hT _ _ hq h1
          have h2 : lt d[m]! d[m - 1]! = false := hs (m - 1) m (Nat.zero_le _) (by omega) (by omega)
          have h3 : lt d[m - 1]! d[m]! = false := by
            by_cases ej : j = m - 1
            · subst ej; exact hq
            · rw [← e]; exact hs j (m - 1) (Nat.zero_le _) (by omega) (by omega)
          have := hT _ _ h2 h3
          rcases h with h | h
          · omega
          · exact absurd this h
      · rw [List.mem_append, ih.2, List.mem_singleton]
        constructor
        · rintro (⟨j, hj, e⟩ | e)
          · exact ⟨j, by omega, e⟩
          · exact ⟨m, by omega, e.symm⟩
        · rintro ⟨j, hj, e⟩
          by_cases ej : j = m
          · subst ej; exact .inr e.symm
          · exact .inl ⟨j, by omega, e⟩
/-- A sorted permutation without its doubles is what the insertions give. -/
theorem sorted_puts [DecidableEq α] {lt : α → α → Bool} (hO : SWO lt) (hT : ∀ x y, lt x y = false → lt y x = false → x = y) (l : List α) (d : Array α) (hp : d.toList.Perm l) (hs : SortedIn lt 0 d.size d) : Lib.compactUpTo d d.size = l.foldl (put lt) [] := by
  have h1 := compactUpTo_asc hO hT d hs d.size (Nat.le_refl _)
  have h2 := puts_asc hO hT l [] List.Pairwise.nil
  refine asc_unique hO _ _ h1.1 h2.1 (fun z => ?_)
  rw [h1.2, h2.2]
  simp only [List.not_mem_nil, false_or]
  rw [← hp.mem_iff, ← Lib.range_map_get d, List.mem_map]
  simp only [List.mem_range]
end SortLaw

section
open Go.RowKit Go.Sort Go.Proofs
section
open Go.Sort Go.Proofs
variable {α : Type} [Inhabited α]
theorem sortF_setMany_append : ∀ (a b : List Value) (s : Nat) (F : Array Value), setMany F s (a ++ b) = setMany (setMany F s a) (s + a.length) b
  | [], b, s, F => by simp [setMany]
  | v :: a, b, s, F => by
    rw [List.cons_append, setMany, setMany, sortF_setMany_append a b (s + 1) _]
    congr 1
    simp only [List.length_cons]; omega
/-- One element's cells laid anew. -/
theorem sortF_setMany_put (enc : α → List Value) (k : Nat) (hk : ∀ x, (enc x).length = k) (d : Array α) (i : Nat) (x : α) (hi : i < d.size) : setMany (flatK enc k d) (i * k) (enc x) = flatK enc k (d.setIfInBounds i x) := by
  refine ext_get! (by simp) fun t ht => ?_
  have ht' : t < d.size * k := by simpa using ht
  have k0 : 0 < k := by
    rcases Nat.eq_zero_or_pos k with h | h
    · subst h; simp at ht'
    · exact h
  rw [get_setMany _ _ _ t (by simpa using ht'), get_flatK _ _ _ t ht', get_flatK _ _ _ t (by simpa using ht'), hk]
  by_cases a : t / k = i
  · rw [if_pos ((blk_iff k i t k0).2 a)]
    subst a
    rw [← Nat.mod_eq_sub_div_mul]
    simp [hi]
  · rw [if_neg (fun h => a ((blk_iff k i t k0).1 h))]
    rw [show (d.setIfInBounds i x)[t / k]! = d[t / k]! from getElem!_set_other d i (t / k) x a]
/-- Elements' cells laid one behind the other. -/
theorem sortF_setMany_lay (enc : α → List Value) (k : Nat) (hk : ∀ x, (enc x).length = k) : ∀ (xs : List α) (d : Array α) (s : Nat), s + xs.length ≤ d.size → setMany (flatK enc k d) (s * k) (xs.flatMap enc) = flatK enc k (Lib.lay d s xs)
  | [], d, s, _ => rfl
  | x :: xs, d, s, h => by
    have h' : s + (xs.length + 1) ≤ d.size := by simpa using h
    rw [List.flatMap_cons, sortF_setMany_append, sortF_setMany_put enc k hk d s x (by omega), hk, show s * k + k = (s + 1) * k from by rw [Nat.add_mul, Nat.one_mul], sortF_setMany_lay enc k hk xs _ (s + 1) (by simp; omega)]
    rfl
theorem sortF_bound (d k i n : Nat) (h : i + n ≤ d) : i * k + n * k ≤ d * k := by rw [← Nat.add_mul]; exact Nat.mul_le_mul_right k h
/-- A store of one element into the row. -/
theorem sortF_putRowK_set (enc : α → List Value) (k : Nat) (hk : ∀ x, (enc x).length = k) (w : World) (blk off : Nat) (d : Array α) (i : Nat) (x : α) (hi : i < d.size) : (putRowK enc k w blk off d).setCells blk (off + i * k) (enc x) = putRowK enc k w blk off (d.setIfInBounds i x) := by
  unfold putRowK
  rw [setCells_putRow _ _ _ _ _ _ (by rw [hk, size_flatK]; have := sortF_bound d.size k i 1 (by omega); omega), sortF_setMany_put enc k hk d i x hi]
theorem sortF_length_flatMap {β : Type} (enc : β → List Value) (k : Nat) (hk : ∀ x, (enc x).length = k) : ∀ xs : List β, (xs.flatMap enc).length = xs.length * k
  | [] => by simp
  | x :: xs => by rw [List.flatMap_cons, List.length_append, hk, sortF_length_flatMap enc k hk xs, List.length_cons, Nat.add_mul, Nat.one_mul, Nat.add_comm]
theorem sortF_putRowK_lay (enc : α → List Value) (k : Nat) (hk : ∀ x, (enc x).length = k) (w : World) (blk off : Nat) (xs : List α) (d : Array α) (i : Nat) (hi : i + xs.length ≤ d.size) : (putRowK enc k w blk off d).setCells blk (off + i * k) (xs.flatMap enc) = putRowK enc k w blk off (Lib.lay d i xs) := by
  unfold putRowK
  rw [setCells_putRow _ _ _ _ _ _ (by rw [sortF_length_flatMap enc k hk, size_flatK]; exact sortF_bound _ _ _ _ hi), sortF_setMany_lay enc k hk xs d i hi]
end
section
open Go.Sort Go.Proofs
variable {α : Type} [Inhabited α]
theorem sortB_flat_at {β : Type} (enc : β → List Value) (k : Nat) (k0 : 0 < k) (hk : ∀ x, (enc x).length = k) : ∀ (zs : List β) (t : Nat), (zs.flatMap enc)[t]? = (zs[t / k]?).bind fun x => (enc x)[t % k]?
  | [], t => by simp
  | x :: r, t => by
    rw [List.flatMap_cons, List.getElem?_append, hk]
    by_cases h : t < k
    · rw [if_pos h, Nat.div_eq_of_lt h, Nat.mod_eq_of_lt h]; rfl
    · rw [if_neg h, sortB_flat_at enc k k0 hk r (t - k), ← Nat.mod_eq_sub_mod (by omega)]
      have e : t / k = (t - k) / k + 1 := by
        rw [Nat.div_eq_sub_div k0 (by omega)]
      rw [e]; rfl
theorem sortB_flatK_at (enc : α → List Value) (k : Nat) (k0 : 0 < k) (hk : ∀ x, (enc x).length = k) (zs : List α) (t : Nat) (ht : t < zs.length * k) : (zs.flatMap enc)[t]? = some (flatK enc k zs.toArray)[t]! := by
  have h1 : t / k < zs.length := Nat.div_lt_of_lt_mul (by rw [Nat.mul_comm]; exact ht)
  have h2 : t % k < (enc zs[t / k]).length := by rw [hk]; exact Nat.mod_lt _ k0
  rw [sortB_flat_at enc k k0 hk, get_flatK enc k zs.toArray t (by simpa using ht), List.getElem?_eq_getElem h1, getElem!_pos zs.toArray (t / k) (by simpa using h1)]
  simp only [Option.bind_some, List.getElem_toArray]
  rw [List.getElem?_eq_getElem h2, getElem!_pos (enc zs[t / k]) (t % k) h2]
theorem sortB_holds {enc : α → List Value} {k : Nat} (k0 : 0 < k) (hk : ∀ x, (enc x).length = k) {w : World} {base : Nat} {e : TypeId} {v : Value} {n : Nat} {zs : List α} (h : w.ownsRow base e k v n (zs.flatMap enc)) (hl : zs.length = n) (hv : v ≠ .slice none 0 0) :
    ∃ g cap, v = .slice (some ⟨g, 0, none⟩) n cap ∧ base ≤ g ∧ g < w.heap.size ∧ n ≤ cap ∧ cap ≤ maxLen ∧ HoldsK enc k w g 0 zs.toArray := by
  rcases h.2 with ⟨e0, _⟩ | ⟨g, cap, cur, rfl, hb, hg, hn, hm, hs, ht⟩
  · exact absurd e0 hv
  · have hlt : g < w.heap.size := by
      rcases Nat.lt_or_ge g w.heap.size with h' | h'
      · exact h'
      · rw [Array.getElem?_eq_none h'] at hg; cases hg
    refine ⟨g, cap, rfl, hb, hlt, hn, hm, fun j hj => ?_⟩
    have hj' : j < n * k := by rw [size_flatK] at hj; simpa [hl] using hj
    refine ⟨?_, by simp [World.frozen?, hg]⟩
    have e1 : (cur.toList.take (n * k))[j]? = (zs.flatMap enc)[j]? := by rw [ht]
    rw [List.getElem?_take, if_pos hj', Array.getElem?_toList, sortB_flatK_at enc k k0 hk zs j (by rw [hl]; exact hj')] at e1
    simp only [World.cell?, hg, Nat.zero_add]
    simp only [Option.isSome_none, Bool.false_eq_true, if_false]
    rw [e1]; rfl
theorem sortB_owns {enc : α → List Value} {k : Nat} (k0 : 0 < k) (hk : ∀ x, (enc x).length = k) {w : World} {base : Nat} {e : TypeId} {g n cap q m : Nat} {zs ys : List α} (h : w.ownsRow base e k (.slice (some ⟨g, 0, none⟩) n cap) n (zs.flatMap enc)) (hy : ys.length = n) (hm2 : m ≤ n) :
    (putRowK enc k (Sort.ahead w q) g 0 ys.toArray).ownsRow base e k (.slice (some ⟨g, 0, none⟩) m cap) m ((ys.take m).flatMap enc) := by
  rcases h.2 with ⟨e0, _⟩ | ⟨g', cap', cur, e0, hb, hg, hn, hm, hs, ht⟩
  · cases e0
  · injection e0 with e1 _ e3
    injection e1 with e1
    injection e1 with e1
    subst e1; subst e3
    have hmk : m * k ≤ n * k := Nat.mul_le_mul_right k hm2
    have hnk : n * k ≤ cap * k := Nat.mul_le_mul_right k hn
    refine ⟨by rw [sortF_length_flatMap enc k hk, List.length_take, hy, Nat.min_eq_left hm2], .inr ⟨g, cap, putCells id 0 (flatK enc k ys.toArray) cur, rfl, hb, ?_, by omega, hm, by simpa [putCells] using hs, ?_⟩⟩
    · simp [putRowK, putRow, mapBlock, Sort.ahead, Array.getElem?_modify, hg, onCells]
    · apply List.ext_getElem?
      intro j
      rw [List.getElem?_take, Array.getElem?_toList]
      by_cases hj : j < m * k
      · have hjc : j < cur.size := by omega
        have e2 : ((ys.take m).flatMap enc)[j]? = (ys.flatMap enc)[j]? := by
          have hd : j / k < m := Nat.div_lt_of_lt_mul (by rw [Nat.mul_comm]; exact hj)
          rw [sortB_flat_at enc k k0 hk, sortB_flat_at enc k k0 hk, List.getElem?_take, if_pos hd]
        rw [e2, sortB_flatK_at enc k k0 hk ys j (by rw [hy]; omega)]
        simp only [if_pos hj, putCells, Array.getElem?_mapIdx, Array.getElem?_eq_getElem hjc, Option.map_some]
        rw [if_pos (by simp [hy]; omega)]
        simp
      · rw [if_neg hj, List.getElem?_eq_none (by rw [sortF_length_flatMap enc k hk, List.length_take, hy, Nat.min_eq_left hm2]; omega)]
end
theorem sortF_nanS (x : ByteArray) (w : World) : Calls Try.prog 95 #[.string x] w fun e w' => e = .returned (.bool false) ∧ w' = w := by
  go_enter Try.func95, Try.ntmps95
  go_wp2
  go_ret
  exact ⟨by simp, rfl⟩
theorem sortF_nanI (x : Int) (w : World) : Calls Try.prog 96 #[.int .i64 x] w fun e w' => e = .returned (.bool false) ∧ w' = w := by
  go_enter Try.func96, Try.ntmps96
  go_wp2
  go_ret
  exact ⟨by simp, rfl⟩
def sortF_cS (x y : ByteArray) : Int := if Op.bytesLess x.toList y.toList = true then -1 else if (x.toList == y.toList) = true then 0 else 1
set_option maxHeartbeats 2000000 in
theorem sortF_cmpS (x y : ByteArray) (w : World) : Calls Try.prog 86 #[.string x, .string y] w fun e w' => e = .returned (.int .i64 (sortF_cS x y)) ∧ w' = w := by
  unfold sortF_cS
  cases h1 : Op.bytesLess x.toList y.toList <;> cases h2 : (x.toList == y.toList)
  all_goals go_enter Try.func86, Try.ntmps86
  all_goals go_wp2_with (go_at_call 95; refine (sortF_nanS _ _).mono ?_; rintro e w' ⟨rfl, rfl⟩)
  all_goals go_ret
  all_goals exact ⟨by simp, rfl⟩
def sortF_cI (x y : Int) : Int := if x < y then -1 else if x > y then 1 else 0
set_option maxHeartbeats 2000000 in
theorem sortF_cmpI (x y : Int) (w : World) : Calls Try.prog 87 #[.int .i64 x, .int .i64 y] w fun e w' => e = .returned (.int .i64 (sortF_cI x y)) ∧ w' = w := by
  unfold sortF_cI
  by_cases h1 : x < y <;> by_cases h2 : x > y
  all_goals first | (exfalso; omega) | skip
  all_goals go_enter Try.func87, Try.ntmps87
  all_goals go_wp2_with (go_at_call 96; refine (sortF_nanI _ _).mono ?_; rintro e w' ⟨rfl, rfl⟩)
  all_goals go_ret
  all_goals exact ⟨by first | rfl | simp [h1, h2], rfl⟩
set_option maxHeartbeats 4000000 in
set_option maxRecDepth 100000 in
theorem sortF_or (b : Nat) (c : Nat) (x y : Int) (w : World) (h0 : w.cell? ⟨b, 0, none⟩ = some (.int .i64 x)) (h1 : w.cell? ⟨b, 1, none⟩ = some (.int .i64 y)) : Calls Try.prog 85 #[.slice (some ⟨b, 0, none⟩) 2 c] w fun e w' => e = .returned (.int .i64 (if x = 0 then y else x)) ∧ w' = w := by
  go_enter Try.func85, Try.ntmps85
  go_wp2
  go_loopg [5, 8] 2 (fun g _ v8 wx => wx = w ∧ ((g = 2 ∧ v8 = .int .i64 0) ∨ (g = 1 ∧ v8 = .int .i64 1 ∧ x = 0) ∨ (g = 0 ∧ v8 = .int .i64 2 ∧ x = 0 ∧ y = 0)))
  case atStart => exact ⟨rfl, .inl ⟨rfl, rfl⟩⟩
  case round =>
    obtain ⟨rfl, ⟨rfl, rfl⟩ | ⟨rfl, rfl, hx⟩ | ⟨rfl, rfl, hx, hy⟩⟩ := hrel
    · by_cases hx : x = 0
      · subst hx
        go_wp2
        go_roundg 1
        case measure => omega
        case rel => exact ⟨rfl, .inr (.inl ⟨rfl, by simp, by simp⟩)⟩
      · have hb : (x != 0) = true := bne_iff_ne.2 hx
        go_wp2
        go_ret
        exact ⟨by first | rfl | simp [hx], rfl⟩
    · subst hx
      by_cases hy : y = 0
      · subst hy
        go_wp2
        go_roundg 0
        case measure => omega
        case rel => exact ⟨rfl, .inr (.inr ⟨rfl, by simp, by simp, by simp⟩)⟩
      · have hb : (y != 0) = true := bne_iff_ne.2 hy
        go_wp2
        go_ret
        exact ⟨rfl, rfl⟩
    · subst hx
      subst hy
      go_wp2
      go_ret
      exact ⟨rfl, rfl⟩
/-- The closure's comparison. -/
def sortF_cf (x y : S82) : Int := if sortF_cS x.f0 y.f0 = 0 then sortF_cI x.f1 y.f1 else sortF_cS x.f0 y.f0
def sortF_enc (x : S82) : List Value := [.string x.f0, .int .i64 x.f1]
set_option maxHeartbeats 4000000 in
set_option maxRecDepth 100000 in
theorem sortF_closure (x y : S82) (W : World) : Calls Try.prog 84 #[.agg (sortF_enc x).toArray, .agg (sortF_enc y).toArray] W fun e w' => e = .returned (.int .i64 (sortF_cf x y)) ∧ ∃ q os', w' = Sort.grow (W.drewN q) os' := by
  unfold sortF_cf sortF_enc
  have hS := fun W' => sortF_cmpS x.f0 y.f0 W'
  have hI := fun W' => sortF_cmpI x.f1 y.f1 W'
  generalize sortF_cS x.f0 y.f0 = s at hS ⊢
  generalize sortF_cI x.f1 y.f1 = i at hI ⊢
  have hO := fun (b : Nat) (w : World) (c : Nat) h0 h1 => sortF_or b c s i w h0 h1
  generalize (if s = 0 then i else s) = r at hO ⊢
  go_enter Try.func84, Try.ntmps84
  go_wp2
  have f0 : ((W.alloc (Obj.cells #[Value.string x.f0, Value.int IntKind.i64 x.f1] 82)).alloc (Obj.cells #[Value.string y.f0, Value.int IntKind.i64 y.f1] 82)).cell? ⟨W.heap.size, 0, none⟩ = some (.string x.f0) := by simp
  have f1 : ((W.alloc (Obj.cells #[Value.string x.f0, Value.int IntKind.i64 x.f1] 82)).alloc (Obj.cells #[Value.string y.f0, Value.int IntKind.i64 y.f1] 82)).cell? ⟨W.heap.size, 1, none⟩ = some (.int .i64 x.f1) := by simp
  have f2 : ((W.alloc (Obj.cells #[Value.string x.f0, Value.int IntKind.i64 x.f1] 82)).alloc (Obj.cells #[Value.string y.f0, Value.int IntKind.i64 y.f1] 82)).cell? ⟨W.heap.size + 1, 0, none⟩ = some (.string y.f0) := by rw [World.cell?_alloc_at _ _ _ _ (by simp)]; rfl
  have f3 : ((W.alloc (Obj.cells #[Value.string x.f0, Value.int IntKind.i64 x.f1] 82)).alloc (Obj.cells #[Value.string y.f0, Value.int IntKind.i64 y.f1] 82)).cell? ⟨W.heap.size + 1, 1, none⟩ = some (.int .i64 y.f1) := by rw [World.cell?_alloc_at _ _ _ _ (by simp)]; rfl
  have fg : ((W.alloc (Obj.cells #[Value.string x.f0, Value.int IntKind.i64 x.f1] 82)).alloc (Obj.cells #[Value.string y.f0, Value.int IntKind.i64 y.f1] 82)) = Sort.grow W #[(Obj.cells #[Value.string x.f0, Value.int IntKind.i64 x.f1] 82), (Obj.cells #[Value.string y.f0, Value.int IntKind.i64 y.f1] 82)] := by rw [Sort.alloc_eq_grow, Sort.alloc_eq_grow, Sort.grow_grow]; rfl
  generalize ((W.alloc (Obj.cells #[Value.string x.f0, Value.int IntKind.i64 x.f1] 82)).alloc (Obj.cells #[Value.string y.f0, Value.int IntKind.i64 y.f1] 82)) = W1 at f0 f1 f2 f3 fg ⊢
  refine wp_region_still_tail 10 (by kernel_rfl) (by kernel_rfl) ?_
  change wpStill _ _ (World.drew W1) _ _ _
  have g0 : (World.drew W1).cell? ⟨W.heap.size, 0, none⟩ = some (.string x.f0) := f0
  have g1 : (World.drew W1).cell? ⟨W.heap.size, 1, none⟩ = some (.int .i64 x.f1) := f1
  have g2 : (World.drew W1).cell? ⟨W.heap.size + 1, 0, none⟩ = some (.string y.f0) := f2
  have g3 : (World.drew W1).cell? ⟨W.heap.size + 1, 1, none⟩ = some (.int .i64 y.f1) := f3
  change wpStill _ _ _ (fun a' => wpList _ _ _ _ _ (World.drew W1)) _ _
  have gg : World.drew W1 = Sort.grow (W.drewN 1) #[(Obj.cells #[Value.string x.f0, Value.int IntKind.i64 x.f1] 82), (Obj.cells #[Value.string y.f0, Value.int IntKind.i64 y.f1] 82)] := by rw [fg]; rfl
  have GG : Aside (World.drew W1 = Sort.grow (W.drewN 1) #[(Obj.cells #[Value.string x.f0, Value.int IntKind.i64 x.f1] 82), (Obj.cells #[Value.string y.f0, Value.int IntKind.i64 y.f1] 82)]) := gg
  clear f0 f1 f2 f3 fg gg
  generalize World.drew W1 = W2 at g0 g1 g2 g3 GG ⊢
  simp only [List.take_succ_cons, List.take_zero, List.drop_succ_cons, List.drop_zero]
  repeat (first | still_step | still_call (hS _) | still_call (hI _))
  refine wpStill_nil ?_
  clear g0 g1 g2 g3
  go_wp2_with (go_at_call 85; refine (hO _ _ _ (by simp) (by simp)).mono ?_; rintro e w' ⟨rfl, rfl⟩)
  go_ret
  exact ⟨rfl, 1, #[(Obj.cells #[Value.string x.f0, Value.int IntKind.i64 x.f1] 82), (Obj.cells #[Value.string y.f0, Value.int IntKind.i64 y.f1] 82)] ++ #[Obj.cells #[Value.int IntKind.i64 s, Value.int IntKind.i64 i] 3], by rw [← Sort.grow_grow, ← GG.out, Sort.alloc_eq_grow]⟩
theorem sortC_rep_at (enc : S82 → List Value) (k : Nat) (hk : ∀ x, (enc x).length = k) (zr : S82) : ∀ n i : Nat, ((List.replicate n zr).flatMap enc)[i]? = if i < n * k then (enc zr)[i % k]? else none
  | 0, i => by simp
  | n + 1, i => by
    rw [List.replicate_succ, List.flatMap_cons, List.getElem?_append, hk]
    by_cases h : i < k
    · rw [if_pos h, if_pos (by rw [Nat.add_mul]; omega), Nat.mod_eq_of_lt h]
    · rw [if_neg h, sortC_rep_at enc k hk zr n (i - k), ← Nat.mod_eq_sub_mod (by omega)]
      by_cases h2 : i < (n + 1) * k
      · rw [if_pos h2, if_pos (by rw [Nat.add_mul] at h2; omega)]
      · rw [if_neg h2, if_neg (by rw [Nat.add_mul] at h2; omega)]
theorem sortC_zero_cells (n : Nat) : (Builtin.zeroCells #[Value.string (⟨#[]⟩ : ByteArray), Value.int .i64 0] n).toList = (List.replicate n (⟨(⟨#[]⟩ : ByteArray), 0⟩ : S82)).flatMap sortF_enc := by
  apply List.ext_getElem?
  intro i
  rw [sortC_rep_at sortF_enc 2 (fun _ => rfl)]
  simp only [Builtin.zeroCells, Array.toList_map, Array.toList_range, List.getElem?_map, List.getElem?_range]
  by_cases h : i < n * 2
  · rw [if_pos h]
    rcases Nat.mod_two_eq_zero_or_one i with e | e <;> simp [h, e, sortF_enc]
  · rw [if_neg h]
    simp [h]
theorem sortC_clear (w : World) (t ty : TypeId) (ht : Try.prog.underlying t = some (.slice 82)) (b o n c : Nat) (hn : 0 < n)
    (hc : ∀ j, j < n * 2 → (w.cell? ⟨b, o + j, none⟩).isSome = true) (hf : ∀ j, j < n * 2 → w.frozen? ⟨b, o + j, none⟩ = false) :
    (Builtin.clear_ #[t] ty #[.slice (some ⟨b, o, none⟩) n c]).run Try.prog w = .ok (.tuple #[]) (w.setCells b o ((List.replicate n (⟨(⟨#[]⟩ : ByteArray), 0⟩ : S82)).flatMap sortF_enc)) := by
  have hl : ((List.replicate n (⟨(⟨#[]⟩ : ByteArray), 0⟩ : S82)).flatMap sortF_enc).length = n * 2 := by
    rw [← sortC_zero_cells]; simp [Builtin.zeroCells]
  have hst := run_storeCells_cells (P := Try.prog) b o ((List.replicate n (⟨(⟨#[]⟩ : ByteArray), 0⟩ : S82)).flatMap sortF_enc) 0 w (by rw [hl]; simpa using hc) (by rw [hl]; simpa using hf) (by
    intro v hv
    obtain ⟨x, _, hx⟩ := List.mem_flatMap.1 hv
    rcases List.mem_cons.1 hx with rfl | hx
    · rfl
    · rcases List.mem_cons.1 hx with rfl | hx
      · rfl
      · cases hx)
  simp only [Nat.add_zero] at hst
  rw [← sortC_zero_cells] at hst ⊢
  have hv : ∀ w, (zeroValue 82).run Try.prog w = .ok (.agg #[.string (⟨#[]⟩ : ByteArray), .int .i64 0]) w := Try.zeroValue82
  obtain ⟨m, rfl⟩ : ∃ m, n = m + 1 := ⟨n - 1, by omega⟩
  simp [Builtin.clear_, run_underlying ht, hv, hst, Value.cells]
theorem sortK_ne {x y : S82} (h : x ≠ y) : (x.f0.toList == y.f0.toList) = false ∨ ((x.f0.toList == y.f0.toList) = true ∧ (x.f1 == y.f1) = false) := by
  by_cases h0 : x.f0.toList = y.f0.toList
  · refine .inr ⟨by simpa using h0, ?_⟩
    rw [beq_eq_false_iff_ne]
    intro h1
    apply h
    rw [ByteArray.toList_eq, ByteArray.toList_eq] at h0
    cases x; cases y
    congr
    exact ByteArray.ext (Array.toList_inj.mp h0)
  · exact .inl (by simpa using h0)
set_option maxHeartbeats 8000000 in
set_option maxRecDepth 1000000 in
/-- slices.Compact at rows of faults, over an array. -/
theorem sortK_compact (blk off cap : Nat) (d : Array S82) (w : World) (hH : HoldsK sortF_enc 2 w blk off d) (hsz : d.size ≤ 4611686018427387904) (hcap : d.size ≤ cap) :
    Calls Try.prog 88 #[.slice (some ⟨blk, off, none⟩) d.size cap] w fun e w' => e = .returned (.slice (some ⟨blk, off, none⟩) (Lib.compactUpTo d d.size).length cap) ∧ ∃ q, w' = putRowK sortF_enc 2 (Sort.ahead w q) blk off (Lib.compactUpTo d d.size ++ List.replicate (d.size - (Lib.compactUpTo d d.size).length) (⟨(⟨#[]⟩ : ByteArray), 0⟩ : S82)).toArray := by
  have mixed : Try.prog.follows .mixedOrders = true := by kernel_rfl
  have hk : ∀ x, (sortF_enc x).length = 2 := fun _ => rfl
  have HK : Hid (∀ x, (sortF_enc x).length = 2) := hk
  have same : ∀ q, (∀ j, j < d.size → Lib.keeps d j = true) → (Lib.compactUpTo d d.size).length = d.size ∧ w.drewN q = putRowK sortF_enc 2 (Sort.ahead w q) blk off (Lib.compactUpTo d d.size ++ List.replicate (d.size - (Lib.compactUpTo d d.size).length) (⟨(⟨#[]⟩ : ByteArray), 0⟩ : S82)).toArray := by
    intro q hall
    have e : Lib.compactUpTo d d.size = d.toList := by rw [Lib.compactUpTo_all d _ hall, Lib.range_map_get]
    rw [e]
    refine ⟨by simp, ?_⟩
    simp only [Array.length_toList, Nat.sub_self, List.replicate_zero, List.append_nil, Array.toArray_toList]
    exact (putRowK_self sortF_enc 2 (Sort.ahead w q) blk off d (holdsK_ahead sortF_enc 2 w q blk off d hH)).symm
  have HS : Aside (∀ q, (∀ j, j < d.size → Lib.keeps d j = true) → (Lib.compactUpTo d d.size).length = d.size ∧ w.drewN q = putRowK sortF_enc 2 (Sort.ahead w q) blk off (Lib.compactUpTo d d.size ++ List.replicate (d.size - (Lib.compactUpTo d d.size).length) (⟨(⟨#[]⟩ : ByteArray), 0⟩ : S82)).toArray) := same
  clear same
  by_cases h2 : d.size < 2
  · have HH : Aside (HoldsK sortF_enc 2 w blk off d) := hH
    clear hH hk
    go_enter Try.func88, Try.ntmps88
    go_wp2
    go_ret
    obtain ⟨e1, e2⟩ := HS.out 0 (fun j hj => Lib.keeps_lt_one d j (by omega))
    exact ⟨by rw [e1]; rfl, 0, e2⟩
  · have HH : Aside (HoldsK sortF_enc 2 w blk off d) := hH
    clear hH hk
    go_enter Try.func88, Try.ntmps88
    go_wp2
    go_loopg [3] d.size (fun g s3 wr => ∃ k q : Nat, 1 ≤ k ∧ k ≤ d.size ∧ d.size - k ≤ g ∧ s3 = .int .i64 k ∧ wr = w.drewN q ∧ Aside (∀ j, j < k → Lib.keeps d j = true))
    case atStart => exact ⟨1, 0, Nat.le_refl _, by omega, by omega, rfl, rfl, (show Aside _ from Lib.keeps_lt_one d)⟩
    case round =>
      obtain ⟨k, q, hk1, hk, hg, rfl, rfl, A⟩ := hrel
      by_cases hlt : k < d.size
      · have c1a := fun n => (show ((w.drewN q).drewN n).cell? ⟨blk, off + k * 2, none⟩ = some (.string d[k]!.f0) from (HH.out.cell hlt (show 0 < 2 by omega)).1)
        have c1b := fun n => (show ((w.drewN q).drewN n).cell? ⟨blk, off + k * 2 + 1, none⟩ = some (.int .i64 d[k]!.f1) from (HH.out.cell hlt (show 1 < 2 by omega)).1)
        have c0a := fun n => (show ((w.drewN q).drewN n).cell? ⟨blk, off + (k - 1) * 2, none⟩ = some (.string d[k - 1]!.f0) from (HH.out.cell (show k - 1 < d.size by omega) (show 0 < 2 by omega)).1)
        have c0b := fun n => (show ((w.drewN q).drewN n).cell? ⟨blk, off + (k - 1) * 2 + 1, none⟩ = some (.int .i64 d[k - 1]!.f1) from (HH.out.cell (show k - 1 < d.size by omega) (show 1 < 2 by omega)).1)
        generalize hx : d[k]! = x at c1a c1b
        generalize hy : d[k - 1]! = y at c0a c0b
        have B : Aside (d[k]! = x ∧ d[k - 1]! = y) := ⟨hx, hy⟩
        clear hx hy
        generalize hwq : w.drewN q = wq at c1a c1b c0a c0b ⊢
        have WQ : Aside (w.drewN q = wq) := hwq
        clear hwq
        by_cases hdup : x = y
        · subst hdup
          have hw1 : IntKind.i64.wrap ((k : Int) - 1) = ((k - 1 : Nat) : Int) := by simp [IntKind.wrap, IntKind.bits, IntKind.signed]; omega
          have hlt1 : k - 1 < d.size := by omega
          have he : (x.f0.toList == x.f0.toList) = true := by simp
          go_wp2_with fail
          go_quiet_o (fail)
          go_wp2
          clear c1a c1b c0a c0b he
          go_loopg [3, 5] d.size (fun g s3 s5 wr => ∃ (kk k2 q2 : Nat) (dk : Array S82), s3 = .int .i64 kk ∧ s5 = .int .i64 k2 ∧ 1 ≤ k2 ∧ k + k2 ≤ d.size ∧ d.size - (k + k2) ≤ g ∧ Aside (wr = putRowK sortF_enc 2 (Sort.ahead w q2) blk off dk) ∧ Aside (Lib.CompInv d (k + k2) kk dk))
          case atStart => exact ⟨k, 1, q + nq, d, rfl, rfl, Nat.le_refl _, by omega, by omega, (show Aside _ from by rw [← WQ.out, World.drewN_drewN]; exact (putRowK_self sortF_enc 2 (Sort.ahead w (q + nq)) blk off d (holdsK_ahead sortF_enc 2 w (q + nq) blk off d HH.out)).symm), (show Aside _ from Lib.CompInv.start A.out (Lib.keeps_neg (by omega) (by rw [B.out.1, B.out.2])))⟩
          case round =>
            obtain ⟨kk, k2, q2, dk, rfl, rfl, h1, hle, hg2, W2, I2⟩ := hrel
            have hkk := I2.out.lt
            have hds := I2.out.size
            have HHk : Aside (HoldsK sortF_enc 2 wr blk off dk) := by
              show HoldsK sortF_enc 2 wr blk off dk
              rw [W2.out]; exact holdsK_putRowK sortF_enc 2 _ blk off d dk (holdsK_ahead sortF_enc 2 w q2 blk off d HH.out) hds
            by_cases hlt2 : k + k2 < d.size
            · have cma := fun n => (show (wr.drewN n).cell? ⟨blk, off + k * 2 + k2 * 2, none⟩ = some (.string d[k + k2]!.f0) from by rw [← I2.out.high (k + k2) (by omega), show off + k * 2 + k2 * 2 = off + (k + k2) * 2 by omega]; exact (HHk.out.cell (show k + k2 < dk.size by omega) (show 0 < 2 by omega)).1)
              have cmb := fun n => (show (wr.drewN n).cell? ⟨blk, off + k * 2 + k2 * 2 + 1, none⟩ = some (.int .i64 d[k + k2]!.f1) from by rw [← I2.out.high (k + k2) (by omega), show off + k * 2 + k2 * 2 + 1 = off + (k + k2) * 2 + 1 by omega]; exact (HHk.out.cell (show k + k2 < dk.size by omega) (show 1 < 2 by omega)).1)
              have cpa := fun n => (show (wr.drewN n).cell? ⟨blk, off + k * 2 + (k2 - 1) * 2, none⟩ = some (.string d[k + k2 - 1]!.f0) from by rw [← I2.out.high (k + k2 - 1) (by omega), show off + k * 2 + (k2 - 1) * 2 = off + (k + k2 - 1) * 2 by omega]; exact (HHk.out.cell (show k + k2 - 1 < dk.size by omega) (show 0 < 2 by omega)).1)
              have cpb := fun n => (show (wr.drewN n).cell? ⟨blk, off + k * 2 + (k2 - 1) * 2 + 1, none⟩ = some (.int .i64 d[k + k2 - 1]!.f1) from by rw [← I2.out.high (k + k2 - 1) (by omega), show off + k * 2 + (k2 - 1) * 2 + 1 = off + (k + k2 - 1) * 2 + 1 by omega]; exact (HHk.out.cell (show k + k2 - 1 < dk.size by omega) (show 1 < 2 by omega)).1)
              generalize hu : d[k + k2]! = u at cma cmb
              generalize hv : d[k + k2 - 1]! = v at cpa cpb
              have C : Aside (d[k + k2]! = u ∧ d[k + k2 - 1]! = v) := ⟨hu, hv⟩
              clear hu hv
              have hw2 : IntKind.i64.wrap ((k2 : Int) - 1) = ((k2 - 1 : Nat) : Int) := by simp [IntKind.wrap, IntKind.bits, IntKind.signed]; omega
              have hl1 : k2 < d.size - k := by omega
              have hl2 : k2 - 1 < d.size - k := by omega
              by_cases huv : u = v
              · subst huv
                have he : (u.f0.toList == u.f0.toList) = true := by simp
                go_wp2_with fail
                go_quiet_o (fail)
                go_wp2
                go_roundg (d.size - (k + (k2 + 1)))
                case measure => omega
                case rel => exact ⟨kk, k2 + 1, q2 + nq, dk, rfl, by go_num, by omega, by omega, Nat.le_refl _, (show Aside _ from by rw [W2.out]; exact putRowK_drewN sortF_enc 2 w q2 _ blk off dk), (show Aside _ from I2.out.skip (Lib.keeps_neg (by omega) (by rw [C.out.1, C.out.2])))⟩
              · have cka := fun n => (show (wr.drewN n).cell? ⟨blk, off + kk * 2, none⟩ = some (.string dk[kk]!.f0) from (HHk.out.cell (show kk < dk.size by omega) (show 0 < 2 by omega)).1)
                have ckb := fun n => (show (wr.drewN n).cell? ⟨blk, off + kk * 2 + 1, none⟩ = some (.int .i64 dk[kk]!.f1) from (HHk.out.cell (show kk < dk.size by omega) (show 1 < 2 by omega)).1)
                have fka := fun n => (show (wr.drewN n).frozen? ⟨blk, off + kk * 2, none⟩ = false from (HHk.out.cell (show kk < dk.size by omega) (show 0 < 2 by omega)).2)
                have fkb := fun n => (show (wr.drewN n).frozen? ⟨blk, off + kk * 2 + 1, none⟩ = false from (HHk.out.cell (show kk < dk.size by omega) (show 1 < 2 by omega)).2)
                generalize dk[kk]!.f0 = o0 at cka
                generalize dk[kk]!.f1 = o1 at ckb
                have hkd : kk < d.size := by omega
                have HD : Aside (u ≠ v) := huv
                rcases sortK_ne huv with he | ⟨he, he1⟩
                all_goals clear huv
                all_goals go_wp2_with fail
                all_goals go_quiet_o (fail)
                all_goals go_wp2
                all_goals go_roundg (d.size - (k + (k2 + 1)))
                case measure => omega
                case measure => omega
                all_goals exact ⟨kk + 1, k2 + 1, q2 + nq, dk.setIfInBounds kk u, by go_num, by go_num, by omega, by omega, Nat.le_refl _, (show Aside _ from by rw [W2.out, ← sortF_putRowK_set sortF_enc 2 HK _ blk off dk kk u (by omega), ← putRowK_drewN sortF_enc 2 w q2 nq blk off dk]; rfl), (show Aside _ from by have := I2.out.keep hlt2 (Lib.keeps_pos (by rw [C.out.1, C.out.2]; exact HD.out)); rwa [C.out.1] at this)⟩
            · have hend : k + k2 = d.size := by omega
              have hcl : ∀ ty, (Builtin.clear_ #[49] ty #[.slice (some ⟨blk, off + kk * 2, none⟩) (d.size - kk) (cap - kk)]).run Try.prog wr = .ok (.tuple #[]) (wr.setCells blk (off + kk * 2) ((List.replicate (d.size - kk) (⟨(⟨#[]⟩ : ByteArray), 0⟩ : S82)).flatMap sortF_enc)) :=
                fun ty => sortC_clear wr 49 ty Try.underlying49 blk (off + kk * 2) (d.size - kk) (cap - kk) (by omega) (fun j hj => by
                  have := (HHk.out.cell (i := kk + j / 2) (c := j % 2) (by omega) (by omega)).1
                  rw [show off + (kk + j / 2) * 2 + j % 2 = off + kk * 2 + j by omega] at this
                  rw [this]; rfl) (fun j hj => by
                  have := (HHk.out.cell (i := kk + j / 2) (c := j % 2) (by omega) (by omega)).2
                  rwa [show off + (kk + j / 2) * 2 + j % 2 = off + kk * 2 + j by omega] at this)
              go_wp2
              go_ret
              have hI := I2.out
              rw [hend] at hI
              refine ⟨by rw [hI.len]; rfl, q2, ?_⟩
              rw [hI.len, ← hI.done (⟨(⟨#[]⟩ : ByteArray), 0⟩ : S82), ← sortF_putRowK_lay sortF_enc 2 HK _ blk off _ dk kk (by simp; omega), ← W2.out]
        · have hw1 : IntKind.i64.wrap ((k : Int) - 1) = ((k - 1 : Nat) : Int) := by simp [IntKind.wrap, IntKind.bits, IntKind.signed]; omega
          have hlt1 : k - 1 < d.size := by omega
          have HD : Aside (x ≠ y) := hdup
          rcases sortK_ne hdup with he | ⟨he, he1⟩
          all_goals clear hdup
          all_goals go_wp2_with fail
          all_goals go_quiet_o (fail)
          all_goals go_wp2
          all_goals go_roundg (d.size - (k + 1))
          case measure => omega
          case measure => omega
          all_goals refine ⟨k + 1, q + nq, by omega, by omega, Nat.le_refl _, by go_num, by rw [← WQ.out, World.drewN_drewN], (show Aside _ from fun j hj => ?_)⟩
          all_goals by_cases e : j = k
          all_goals first
            | (subst e; exact Lib.keeps_pos (by rw [B.out.1, B.out.2]; exact HD.out))
            | exact A.out j (by omega)
      · have : k = d.size := by omega
        subst this
        go_wp2
        go_ret
        obtain ⟨e1, e2⟩ := HS.out q A.out
        exact ⟨by rw [e1]; rfl, q, e2⟩
theorem sortO_lt (x y : S82) : ltOf sortF_cf x y = decide (x.f0.toList < y.f0.toList ∨ (x.f0.toList = y.f0.toList ∧ x.f1 < y.f1)) := by
  unfold ltOf sortF_cf sortF_cS sortF_cI
  rw [bytesLess_eq]
  by_cases h1 : x.f0.toList < y.f0.toList
  · simp [h1]
  · by_cases h2 : x.f0.toList = y.f0.toList
    · by_cases h3 : x.f1 < y.f1
      · simp [h2, h3, List.lt_irrefl]
      · by_cases h4 : x.f1 > y.f1 <;> simp [h2, h3, h4, List.lt_irrefl]
    · simp [h1, h2]
theorem sortO_total (x y : S82) (h1 : ltOf sortF_cf x y = false) (h2 : ltOf sortF_cf y x = false) : x = y := by
  rw [sortO_lt, decide_eq_false_iff_not, not_or] at h1 h2
  have e : x.f0.toList = y.f0.toList := List.le_antisymm (List.not_lt.1 h2.1) (List.not_lt.1 h1.1)
  have e1 : x.f1 = y.f1 := by
    have a : ¬ x.f1 < y.f1 := fun h => h1.2 ⟨e, h⟩
    have b : ¬ y.f1 < x.f1 := fun h => h2.2 ⟨e.symm, h⟩
    omega
  rw [ByteArray.toList_eq, ByteArray.toList_eq] at e
  cases x; cases y
  congr
  exact ByteArray.ext (Array.toList_inj.mp e)
theorem sortO_swo : SWO (ltOf sortF_cf) where
  irrefl x := by rw [sortO_lt]; simp [List.lt_irrefl]
  trans x y z h1 h2 := by
    rw [sortO_lt, decide_eq_true_eq] at *
    rcases h1 with h1 | ⟨h1, h1'⟩ <;> rcases h2 with h2 | ⟨h2, h2'⟩
    · exact .inl (List.lt_trans h1 h2)
    · exact .inl (h2 ▸ h1)
    · exact .inl (h1 ▸ h2)
    · exact .inr ⟨h1.trans h2, by omega⟩
  ntrans x y z h1 h2 := by
    rw [sortO_lt, decide_eq_false_iff_not, not_or] at *
    have l1 := List.not_lt.1 h1.1
    have l2 := List.not_lt.1 h2.1
    refine ⟨List.not_lt.2 (List.le_trans l2 l1), fun ⟨e, h⟩ => ?_⟩
    have e1 : x.f0.toList = y.f0.toList := List.le_antisymm (by rw [e]; exact l2) l1
    have a : ¬ x.f1 < y.f1 := fun h => h1.2 ⟨e1, h⟩
    have b : ¬ y.f1 < z.f1 := fun h => h2.2 ⟨e1.symm.trans e, h⟩
    omega
set_option maxHeartbeats 4000000 in
set_option maxRecDepth 100000 in
theorem sortS_core (b off cap : Nat) (l : List S82) (w : World) (hn : l.length ≤ 1048576) (hc : ∀ (j : Nat) u, (l.flatMap sortF_enc)[j]? = some u → w.cell? ⟨b, off + j, none⟩ = some u) :
    Calls Try.prog 66 #[.slice (some ⟨b, off, none⟩) l.length cap] w fun e w' => ∃ (v' : Value) (d' : Array S82), e = .returned v' ∧ PermIn 0 l.length l.toArray d' ∧ SortedIn (ltOf sortF_cf) 0 l.length d' ∧ w'.ownsRow w.heap.size 82 2 v' (Lib.compactUpTo d' d'.size).length ((Lib.compactUpTo d' d'.size).flatMap sortF_enc) ∧ Below w.heap.size w w' := by
  obtain ⟨i0, hi, hz0, hz1, hz2⟩ : ∃ i0, Try.prog.info? 82 = some i0 ∧ i0.zero = some (.agg #[.string (⟨#[]⟩ : ByteArray), .int .i64 0]) ∧ i0.size = 2 ∧ i0.bytes = 24 := by
    have h : (Try.prog.info? 82).map (fun i => (i.zero, i.size, i.bytes)) = some (some (.agg #[.string (⟨#[]⟩ : ByteArray), .int .i64 0]), 2, 24) := by kernel_rfl
    cases hq : Try.prog.info? 82 with
    | none => rw [hq] at h; cases h
    | some i =>
      rw [hq] at h
      simp only [Option.map_some, Option.some.injEq, Prod.mk.injEq] at h
      exact ⟨i, rfl, h.1, h.2.1, h.2.2⟩
  have h1 : ∀ x, ∀ v ∈ sortF_enc x, v.oneCell' = true := fun x v hv => by simp [sortF_enc] at hv; rcases hv with rfl | rfl <;> rfl
  have h1' : ∀ u ∈ l.flatMap sortF_enc, u.oneCell' = true := fun u hu => by obtain ⟨x, _, hx⟩ := List.mem_flatMap.1 hu; exact h1 x u hx
  have hcl := AnyE.slices_Clone Try.laysClone i0 _ 2 24 hi hz0 hz1 hz2 rfl (by omega) Try.sizeOf82 b off l.length cap (l.flatMap sortF_enc) w (sortF_length_flatMap sortF_enc 2 (fun _ => rfl) l) (by simp [maxLen]; omega) (by omega) hc h1'
  have eg : ∀ args w, (callFunc 84 args).run Try.prog w = .ok (.enter 84 args) w := enters_of Try.func84 (by kernel_rfl) rfl
  have hso : ∀ (g cap2 : Nat) (w1 : World), HoldsK sortF_enc 2 w1 g 0 l.toArray → g < w1.heap.size → l.length ≤ cap2 → Calls Try.prog 83 #[.slice (some ⟨g, 0, none⟩) l.length cap2, .func (.func 84) #[] #[]] w1 fun e w2 => e = .returned (.tuple #[]) ∧ ∃ d' n os, PermIn 0 l.length l.toArray d' ∧ SortedIn (ltOf sortF_cf) 0 l.length d' ∧ w2 = sortWorldK sortF_enc 2 w1 g 0 n d' os := fun g cap2 w1 hH hlt _ =>
    AnyQ.slices_SortFunc Try.laysSort 2 Try.isAgg82 Try.sizeOf82 sortF_enc (fun _ => rfl) h1 sortF_cf sortO_swo 84 #[] g 0 cap2 l.toArray w1 eg (fun _ _ _ _ x y => sortF_closure x y _) hH hlt (by simp; omega)
  have hco : ∀ (g cap2 n : Nat) (os : Array Obj) (d' : Array S82) (w1 : World), HoldsK sortF_enc 2 w1 g 0 l.toArray → g < w1.heap.size → l.length ≤ cap2 → d'.size = l.length → Calls Try.prog 88 #[.slice (some ⟨g, 0, none⟩) l.length cap2] (sortWorldK sortF_enc 2 w1 g 0 n d' os) fun e w' => e = .returned (.slice (some ⟨g, 0, none⟩) (Lib.compactUpTo d' d'.size).length cap2) ∧ ∃ q, w' = putRowK sortF_enc 2 (Sort.ahead (sortWorldK sortF_enc 2 w1 g 0 n d' os) q) g 0 (Lib.compactUpTo d' d'.size ++ List.replicate (d'.size - (Lib.compactUpTo d' d'.size).length) (⟨(⟨#[]⟩ : ByteArray), 0⟩ : S82)).toArray := fun g cap2 n os d' w1 hH hlt hcap hs => by
    have hH2 : HoldsK sortF_enc 2 (sortWorldK sortF_enc 2 w1 g 0 n d' os) g 0 d' := by
      unfold sortWorldK
      exact holdsK_grow sortF_enc 2 _ os g 0 d' (by simpa [putRowK, putRow, mapBlock, Sort.ahead] using hlt) (holdsK_putRowK sortF_enc 2 _ g 0 l.toArray d' (holdsK_ahead sortF_enc 2 w1 n g 0 l.toArray hH) (by simpa using hs))
    have := sortK_compact g 0 cap2 d' _ hH2 (by omega) (by omega)
    rw [hs] at this ⊢
    exact this
  change Calls Try.prog 82 _ _ _ at hcl
  clear hc h1 h1' hi hz0 hz1 hz2 eg
  go_enter Try.func66, Try.ntmps66
  go_wp2_with (first
    | (go_at_call 82; refine hcl.mono ?_; rintro e w1 ⟨v', rfl, hown, hne, hB⟩; obtain ⟨g, cap2, rfl, hg, hlt, hcap, hmx, hH⟩ := sortB_holds (k := 2) (by decide) (fun _ => rfl) hown rfl hne)
    | (go_at_call 83; refine (hso g cap2 w1 hH hlt hcap).mono ?_; rintro e w2 ⟨rfl, d', n, os, hp, hsd, rfl⟩)
    | (go_at_call 88; refine (hco g cap2 n os d' w1 hH hlt hcap (hp.1.trans (by simp))).mono ?_; rintro e w3 ⟨rfl, q, hw3⟩))
  go_ret
  have hsz : d'.size = l.length := hp.1.trans (by simp)
  have hle : (Lib.compactUpTo d' d'.size).length ≤ d'.size := by unfold Lib.compactUpTo; rw [List.length_map]; exact Nat.le_trans (List.length_filter_le _ _) (by simp)
  have o2 := sortB_owns (q := n) (m := l.length) (ys := d'.toList) (enc := sortF_enc) (k := 2) (by decide) (fun _ => rfl) hown (by simpa using hsz) (Nat.le_refl _)
  rw [List.take_of_length_le (by simp [hsz]), Array.toArray_toList] at o2
  have o3 := Lib.ownsRow_grow o2 0 os
  have o4 := sortB_owns (q := q) (m := (Lib.compactUpTo d' d'.size).length) (enc := sortF_enc) (k := 2) (ys := Lib.compactUpTo d' d'.size ++ List.replicate (d'.size - (Lib.compactUpTo d' d'.size).length) (⟨(⟨#[]⟩ : ByteArray), 0⟩ : S82)) (by decide) (fun _ => rfl) o3 (by rw [List.length_append, List.length_replicate]; omega) (by omega)
  rw [List.take_left] at o4
  have b2 := Lib.below_putRow (q := n) (d := flatK sortF_enc 2 d') (enc := id) hB hg
  have b3 := b2.trans (Lib.below_grow w.heap.size _ b2.size 0 os)
  have b4 := Lib.below_putRow (q := q) (d := flatK sortF_enc 2 (Lib.compactUpTo d' d'.size ++ List.replicate (d'.size - (Lib.compactUpTo d' d'.size).length) (⟨(⟨#[]⟩ : ByteArray), 0⟩ : S82)).toArray) (enc := id) b3 hg
  refine ⟨_, d', rfl, hp, hsd, ?_, ?_⟩
  · exact o4
  · exact b4
theorem sortT_compact0 (p : Option Addr) (cap : Nat) (w : World) : Calls Try.prog 88 #[.slice p 0 cap] w fun e w' => e = .returned (.slice p 0 cap) ∧ w' = w := by
  go_enter Try.func88, Try.ntmps88
  go_wp2
  go_ret
  exact ⟨rfl, rfl⟩
set_option maxHeartbeats 2000000 in
set_option maxRecDepth 100000 in
theorem sortT_clone0 (a : Addr) (c : Nat) (w : World) : Calls Try.prog 82 #[.slice (some a) 0 c] w fun e w' => ∃ v', e = .returned v' ∧ w'.ownsRow w.heap.size 82 2 v' 0 [] ∧ Below w.heap.size w w' := by
  have mixed : Try.prog.follows .mixedOrders = true := Try.laysClone.mixed
  have t22 : Try.prog.underlying 49 = some (.slice 82) := Try.laysClone.t22
  have a22 : ∀ (w : World), Sem.run Try.prog (isAgg 49) w = Result.ok false w := Try.laysClone.a22
  have z22 : ∀ (w : World), Sem.run Try.prog (sizeOf 49) w = Result.ok 1 w := Try.laysClone.z22
  have v22 : ∀ (w : World), Sem.run Try.prog (zeroValue 49) w = Result.ok (.slice none 0 0) w := Try.laysClone.v22
  have q22 : ∀ (w : World) (a : Option Addr) (n c n' c' : Nat), (binOp .eql 49 (.slice a n c) (.slice none n' c')).run Try.prog w = .ok (.bool a.isNone) w := fun w a n c n' c' => Lib.run_eql_slice_nil w _ _ a n c n' c' t22
  have u22 : ∀ w, Sem.run Try.prog (underlying 49) w = .ok (TypeDesc.slice 82) w := run_underlying t22
  obtain ⟨i0, hi, hz0, hz1, hz2⟩ : ∃ i0, Try.prog.info? 82 = some i0 ∧ i0.zero = some (.agg #[.string (⟨#[]⟩ : ByteArray), .int .i64 0]) ∧ i0.size = 2 ∧ i0.bytes = 24 := by
    have h : (Try.prog.info? 82).map (fun i => (i.zero, i.size, i.bytes)) = some (some (.agg #[.string (⟨#[]⟩ : ByteArray), .int .i64 0]), 2, 24) := by kernel_rfl
    cases hq : Try.prog.info? 82 with
    | none => rw [hq] at h; cases h
    | some i =>
      rw [hq] at h
      simp only [Option.map_some, Option.some.injEq, Prod.mk.injEq] at h
      exact ⟨i, rfl, h.1, h.2.1, h.2.2⟩
  go_enter Try.func82, Try.ntmps82
  go_wp2_with (at_builtin; refine wpList_append_own _ rfl _ _ 49 rfl w.heap.size 82 i0 (.agg #[.string (⟨#[]⟩ : ByteArray), .int .i64 0]) 2 24 t22 hi hz0 hz1 hz2 rfl (by decide) _ _ _ rfl (World.ownsRow_made w #[] 0 (Nat.le_refl _) (Nat.zero_le _) rfl) a 0 c [] rfl rfl (by intro j u hj; simp at hj) (by intro u hu; cases hu) (by unfold maxLen; omega) (by omega) (by simp) ?_)
  intro v' w1 hown hgrow hnil
  go_wp2
  go_ret
  exact ⟨v', rfl, by simpa using hown, ((Below.refl _ w).alloc (Nat.le_refl _) _).grown hgrow (by simp) (by intro k hk; simp [Value.ownBlock] at hk; omega)⟩
set_option maxHeartbeats 2000000 in
set_option maxRecDepth 100000 in
theorem sortT_zero (A0 : Option Addr) (c : Nat) (w : World) : Calls Try.prog 66 #[.slice A0 0 c] w fun e w' => ∃ v', e = .returned v' ∧ w'.ownsRow w.heap.size 82 2 v' 0 [] ∧ Below w.heap.size w w' := by
  have hcl : Calls Try.prog 82 #[.slice A0 0 c] w fun e w' => ∃ v', e = .returned v' ∧ w'.ownsRow w.heap.size 82 2 v' 0 [] ∧ Below w.heap.size w w' := by
    cases A0 with
    | none => exact (AnyE.slices_Clone_nil Try.laysClone 0 c w).mono fun e w' ⟨he, hw⟩ => ⟨_, he, own_nil _ _ _ _, hw ▸ Below.refl _ _⟩
    | some a => exact sortT_clone0 a c w
  have hso : ∀ (p : Option Addr) (cap : Nat) (fv : Value) (w1 : World), Calls Try.prog 83 #[.slice p 0 cap, fv] w1 fun e w2 => e = .returned (.tuple #[]) ∧ w2 = w1 := fun p cap fv w1 => AnyF.slices_SortFunc_none { Try.laysSort with } p cap fv w1
  have hco := fun (p : Option Addr) (cap : Nat) (w1 : World) => sortT_compact0 p cap w1
  go_enter Try.func66, Try.ntmps66
  go_wp2_with (first
    | (go_at_call 82; refine hcl.mono ?_; rintro e w1 ⟨v', rfl, hown, hB⟩; obtain ⟨p, cap2, rfl⟩ := own_slice hown)
    | (go_at_call 83; refine (hso p cap2 _ _).mono ?_; rintro e w2 ⟨rfl, rfl⟩)
    | (go_at_call 88; refine (hco p cap2 _).mono ?_; rintro e w3 ⟨rfl, rfl⟩))
  go_ret
  exact ⟨_, rfl, hown, hB⟩
theorem sortT_reps {α : Type} [Inhabited α] (R : α → List Value → Prop) (enc : α → List Value) (k : Nat) (k0 : 0 < k) (hk : ∀ x, (enc x).length = k) (hR : ∀ x, R x (enc x)) (xs : List α) : Reps R k xs (xs.flatMap enc) := by
  refine ⟨sortF_length_flatMap enc k hk xs, fun j p hp => ?_⟩
  have : ((xs.flatMap enc).drop (j * k)).take k = enc p := by
    apply List.ext_getElem?
    intro t
    rw [List.getElem?_take, List.getElem?_drop, sortB_flat_at enc k k0 hk]
    by_cases ht : t < k
    · rw [if_pos ht, show (j * k + t) / k = j from by rw [Nat.mul_comm, Nat.mul_add_div k0, Nat.div_eq_of_lt ht, Nat.add_zero], hp, show (j * k + t) % k = t from by rw [Nat.mul_comm, Nat.mul_add_mod, Nat.mod_eq_of_lt ht]]
      rfl
    · rw [if_neg ht, List.getElem?_eq_none (by rw [hk]; omega)]
  rw [this]
  exact hR p
theorem sortT_perm {α : Type} [Inhabited α] (l : List α) (d : Array α) (h : PermIn 0 l.length l.toArray d) : d.toList.Perm l := by
  have h1 : d.size = l.length := h.1.trans (by simp)
  have h2 := h.2.2
  rw [show d.extract 0 l.length = d from by rw [← h1]; exact Array.extract_size, show l.toArray.extract 0 l.length = l.toArray from by rw [show l.length = l.toArray.size from by simp]; exact Array.extract_size] at h2
  simpa using h2
def impl_sortFaults.f (l0 : List S82) : Option (List S82) := if l0.length ≤ 100 then some (l0.foldl (SortLaw.put (ltOf sortF_cf)) []) else none
theorem impl_sortFaults.calls (A0 : Option Addr) (c0 : Nat) (l0 : List S82) (r : List S82) (w : World) (hr0 : Kd.C k82 w A0 l0.length l0) (hc0 : l0.length ≤ c0) (h : impl_sortFaults.f l0 = some r) :
    Calls Try.prog 66 #[.slice A0 l0.length c0] w fun e w' => ∃ v0_ : Value, e = .returned (v0_) ∧ Kd.R k82 82 w' w.heap.size (fun _ => True) v0_ r ∧ Below w.heap.size w w' := by
  unfold impl_sortFaults.f at h
  split at h
  rotate_left
  · cases h
  rename_i hl
  obtain rfl := Option.some.inj h
  have up : ∀ (w' : World) (v : Value) (ys : List S82), w'.ownsRow w.heap.size 82 2 v ys.length (ys.flatMap sortF_enc) → Kd.R k82 82 w' w.heap.size (fun _ => True) v ys := fun w' v ys ho =>
    ⟨fun _ _ => trivial, ys.flatMap sortF_enc, ho, sortT_reps _ sortF_enc 2 (by decide) (fun _ => rfl) (fun x => ⟨[.string x.f0], [.int .i64 x.f1], rfl, rfl, rfl⟩) ys⟩
  rcases Nat.eq_zero_or_pos l0.length with h0 | h0
  · obtain rfl := List.eq_nil_of_length_eq_zero h0
    exact (sortT_zero A0 c0 w).mono fun e w' ⟨v, he, ho, hb⟩ => ⟨v, he, up w' v [] ho, hb⟩
  · obtain ⟨ad, rfl, hcell⟩ := hr0.2.2 h0
    have hcell' : ∀ (j : Nat) u, (l0.flatMap sortF_enc)[j]? = some u → w.cell? (ad.add j) = some u := fun j u hj => by
      rw [sortB_flat_at sortF_enc 2 (by decide) (fun _ => rfl)] at hj
      cases hq : l0[j / 2]? with
      | none => rw [hq] at hj; cases hj
      | some x =>
        rw [hq] at hj
        obtain ⟨c, _, ⟨c0, c1, rfl, k0, k1⟩, hc⟩ := hcell (j / 2) x hq
        obtain rfl : c0 = [Value.string x.f0] := k0
        obtain rfl : c1 = [Value.int .i64 x.f1] := k1
        have := hc (j % 2) u hj
        change w.cell? (ad.add (j / 2 * 2 + j % 2)) = some u at this
        rwa [show j / 2 * 2 + j % 2 = j from Nat.div_add_mod' j 2] at this
    obtain ⟨b, off, spot⟩ := ad
    have hspot : spot = none := by
      have := hcell' 0
      rw [sortB_flat_at sortF_enc 2 (by decide) (fun _ => rfl)] at this
      have := this (.string l0[0].f0) (by rw [Nat.zero_div, List.getElem?_eq_getElem h0]; rfl)
      cases spot with
      | none => rfl
      | some x => simp [World.cell?, Addr.add] at this; split at this <;> simp at this
    subst hspot
    refine (sortS_core b off c0 l0 w (by omega) (fun j u hj => by rw [← hcell' j u hj, Addr.add_lit])).mono fun e w' ⟨v, d, he, hp, hs, ho, hb⟩ => ⟨v, he, ?_, hb⟩
    have hsz : d.size = l0.length := hp.1.trans (by simp)
    have := SortLaw.sorted_puts sortO_swo sortO_total l0 d (sortT_perm l0 d hp) (by rw [hsz]; exact hs)
    rw [this] at ho
    exact up w' v _ ho

end

/-! ### impl_SortFaults: function 32 -/
def impl_SortFaults.f (l0 : List (S82)) : Option ((List (S82)) × Bool) := if (l0.length : Int) > 100 then (some (([] : List (S82)), false)) else ((impl_sortFaults.f l0).bind fun t182 => (some (t182, true)))
set_option maxHeartbeats 8000000 in
set_option maxRecDepth 100000 in
theorem impl_SortFaults.calls (A0 : Option Addr) (c0 : Nat) (l0 : List (S82)) (r1 : List (S82)) (r2 : Bool) (w : World) (hr0 : Kd.C k82 w A0 l0.length l0) (hc0 : l0.length ≤ c0) (h : impl_SortFaults.f l0 = some (r1, r2)) :
    Calls Try.prog 32 #[.slice A0 l0.length c0] w fun e w' => ∃ v0_ : Value, e = .returned (.tuple #[v0_, .bool r2]) ∧ Kd.R k82 82 w' w.heap.size (fun _ => True) v0_ r1 ∧ Below w.heap.size w w' := by
  have HR0 := Aside0.mk hr0
  have HC0 := Aside0.mk hc0
  clear hr0 hc0
  have HB := Aside0.mk (Below.refl w.heap.size w)
  have H : (if (l0.length : Int) > 100 then (some (([] : List (S82)), false)) else ((impl_sortFaults.f l0).bind fun t182 => (some (t182, true)))) = some (r1, r2) := h
  clear h
  by_cases c2 : (l0.length : Int) > 100
  · rw [if_pos c2] at H
    have c2b0 : decide (100 < (l0.length : Int)) = true := decide_eq_true c2
    have c2b1 : decide (100 < l0.length) = true := decide_eq_true (by omega)
    clear c2
    simp only [Option.some.injEq, Prod.mk.injEq] at H
    obtain ⟨rfl, rfl⟩ := H
    go_enter Try.func32, Try.ntmps32
    go_wp2
    go_ret2
    exact ⟨_, by first | rfl | (simp [errW_none, errW_some] <;> rfl) | (simp [errW_none, errW_some]; exact isEmpty_ne _) | (simp [*, errW_none, errW_some] <;> rfl), by first | exact Kd.R_nil _ _ _ _ _ | exact Kd.N_nil _ _ _ _ _ | exact Kd.V_nil _ _ _ _ _ | exact Kd.Q_nil _ _ _ _ _ | exact Kd.S_nil _ _ _ _ _, by repeat (first | (with_reducible first | exact HB.out | apply below_alloc | apply pw_below_drewN | apply below_drew1) | exact HB.out)⟩
  · rw [if_neg c2] at H
    have c2b0 : decide (100 < (l0.length : Int)) = false := decide_eq_false c2
    have c2b1 : decide (100 < l0.length) = false := decide_eq_false (by omega)
    clear c2
    replace H := Option.bind_eq_some_iff.mp H
    obtain ⟨t182, A30, H⟩ := H
    replace H : (some (t182, true)) = some (r1, r2) := H
    have A3 := Aside0.mk A30
    clear A30
    simp only [Option.some.injEq, Prod.mk.injEq] at H
    obtain ⟨rfl, rfl⟩ := H
    go_enter Try.func32, Try.ntmps32
    go_wp2_with (first | ((with_reducible refine gate_callee (f := 66) rfl ?_); refine goesL_ (some 8) rfl rfl Try.func66 (by kernel_rfl) rfl #[.slice A0 l0.length c0] rfl (by (try simp only [List.map_toArray, List.map_cons, List.map_nil]); first | done | rfl | (simp only [List.length_drop, List.length_take]; rfl)) ?_; (with_reducible refine (impl_sortFaults.calls _ _ l0 t182 _ ?side1 ?side2 A3.out).mono ?_); (case side1 => repeat (first | exact HR0.out | (with_reducible refine Kd.C_alloc ?_ _) | (with_reducible refine Kd.C_drewN ?_ _) | (with_reducible refine Kd.C_drew ?_))); (case side2 => exact HC0.out); rintro e w4 ⟨v183, rfl, ho0, hb⟩; refine ⟨_, rfl, ?_⟩; have n0_ := Aside0.mk (Kd.R_lower ho0 (below_size (by repeat (first | (with_reducible first | exact HB.out | apply below_alloc | apply pw_below_drewN | apply below_drew1) | exact HB.out)))); have n1_ := Aside0.mk (below_step (by repeat (first | (with_reducible first | exact HB.out | apply below_alloc | apply pw_below_drewN | apply below_drew1) | exact HB.out)) hb); clear HB; have HO184 := n0_; have HB := n1_; clear n0_ n1_; (try clear hb); (try clear hb2); (try clear hk); (try clear hi); (try clear ho0)))
    go_ret2
    exact ⟨_, by first | rfl | (simp [errW_none, errW_some] <;> rfl) | (simp [errW_none, errW_some]; exact isEmpty_ne _) | (simp [*, errW_none, errW_some] <;> rfl), by (with_reducible repeat (first | apply Kd.R_alloc | apply Kd.R_drewN | apply Kd.R_drew)); exact HO184.out, by repeat (first | (with_reducible first | exact HB.out | apply below_alloc | apply pw_below_drewN | apply below_drew1) | exact HB.out)⟩

/-! ### laws_eqFault: function 67 -/
def laws_eqFault.f (a0_0 : ByteArray) (a0_1 : Int) (a1_0 : ByteArray) (a1_1 : Int) : Option (Bool) := if a0_0.toList = a1_0.toList then (if a0_1 = a1_1 then (some true) else (some false)) else (some false)
set_option maxHeartbeats 8000000 in
set_option maxRecDepth 100000 in
theorem laws_eqFault.calls (a0_0 : ByteArray) (a0_1 : Int) (a1_0 : ByteArray) (a1_1 : Int) (r : Bool) (w : World) (h : laws_eqFault.f a0_0 a0_1 a1_0 a1_1 = some r) :
    Calls Try.prog 67 #[.agg #[.string a0_0, .int .i64 a0_1], .agg #[.string a1_0, .int .i64 a1_1]] w fun e w' => e = .returned (.bool r) ∧ Below w.heap.size w w' := by
  have hu82 := Try.underlying82
  have HB := Aside0.mk (Below.refl w.heap.size w)
  have H : (if a0_0.toList = a1_0.toList then (if a0_1 = a1_1 then (some true) else (some false)) else (some false)) = some r := h
  clear h
  by_cases c3 : a0_0.toList = a1_0.toList
  · rw [if_pos c3] at H
    have c3b0 : (a0_0.toList == a1_0.toList) = true := beq_iff_eq.mpr c3
    have c3b1 : (a0_0.toList != a1_0.toList) = false := bne_eq_false_iff_eq.mpr c3
    clear c3
    by_cases c4 : a0_1 = a1_1
    · rw [if_pos c4] at H
      have c4b0 : (a0_1 == a1_1) = true := beq_iff_eq.mpr c4
      have c4b1 : (a0_1 != a1_1) = false := bne_eq_false_iff_eq.mpr c4
      clear c4
      obtain rfl := Option.some.inj H
      go_enter Try.func67, Try.ntmps67
      go_wp2_with (first | ((with_reducible refine gate_dst (N := 2) rfl ?_); refine box_event ?hg (N := 2) ?hd (cs := #[.string a0_0, .int .i64 a0_1]) (t := 82) ?hr ?_; (case hd => rfl); (case hg => rfl); (case hr => first | (go_simp; done) | (go_simp; rfl)); intro gb185 hg w5 hbox hb; have n0_ := Aside0.mk (below_step (by repeat (first | (with_reducible first | exact HB.out | apply below_alloc | apply pw_below_drewN | apply below_drew1) | exact HB.out)) hb); have n1_ := Aside0.mk (hbox); have n2_ := Aside0.mk ((by rw [hg]; exact (below_size (by repeat (first | (with_reducible first | exact HB.out | apply below_alloc | apply pw_below_drewN | apply below_drew1) | exact HB.out))) : w.heap.size ≤ gb185)); have n3_ := Aside0.mk ((by rw [hg]; exact (below_size (by repeat (first | (with_reducible first | exact HB.out | apply below_alloc | apply pw_below_drewN | apply below_drew1) | exact HB.out))) : w.heap.size ≤ gb185)); clear HB; have HB := n0_; have BK185 := n1_; have GW185 := n2_; have GE185 := n3_; clear n0_ n1_ n2_ n3_; clear hb hbox hg) | ((with_reducible refine gate_dst (N := 3) rfl ?_); refine box_event ?hg (N := 3) ?hd (cs := #[.string a1_0, .int .i64 a1_1]) (t := 82) ?hr ?_; (case hd => rfl); (case hg => rfl); (case hr => first | (go_simp; done) | (go_simp; rfl)); intro gb186 hg w6 hbox hb; have n0_ := Aside0.mk (blk_below (g := gb185) (o := .cells #[.string a0_0, .int .i64 a0_1] 82 (0, 0)) (by (with_reducible repeat (first | refine blk_drewN ?_ _ | refine blk_drew ?_ | refine blk_alloc ?_ _)); exact BK185.out) hb); have n1_ := Aside0.mk (below_step (by repeat (first | (with_reducible first | exact HB.out | apply below_alloc | apply pw_below_drewN | apply below_drew1 | refine below_set ?_ GE185.out) | exact HB.out)) hb); have n2_ := Aside0.mk (hbox); have n3_ := Aside0.mk ((by rw [hg]; exact (below_size (by repeat (first | (with_reducible first | exact HB.out | apply below_alloc | apply pw_below_drewN | apply below_drew1 | refine below_set ?_ GE185.out) | exact HB.out))) : w.heap.size ≤ gb186)); have n4_ := Aside0.mk ((by rw [hg]; exact (below_size (by repeat (first | (with_reducible first | exact HB.out | apply below_alloc | apply pw_below_drewN | apply below_drew1 | refine below_set ?_ GE185.out) | exact HB.out))) : w.heap.size ≤ gb186)); have n5_ := Aside0.mk ((by rw [hg]; exact Nat.ne_of_lt (blk_lt (g := gb185) (o := .cells #[.string a0_0, .int .i64 a0_1] 82 (0, 0)) (by (with_reducible repeat (first | refine blk_drewN ?_ _ | refine blk_drew ?_ | refine blk_alloc ?_ _)); exact BK185.out)) : gb185 ≠ gb186)); have n6_ := Aside0.mk ((by rw [hg]; exact Nat.ne_of_gt (blk_lt (g := gb185) (o := .cells #[.string a0_0, .int .i64 a0_1] 82 (0, 0)) (by (with_reducible repeat (first | refine blk_drewN ?_ _ | refine blk_drew ?_ | refine blk_alloc ?_ _)); exact BK185.out)) : gb186 ≠ gb185)); clear BK185; clear HB; have BK185 := n0_; have HB := n1_; have BK186 := n2_; have GW186 := n3_; have GE186 := n4_; have NB185_186 := n5_; have NB186_185 := n6_; clear n0_ n1_ n2_ n3_ n4_ n5_ n6_; clear hb hbox hg; have hnb7 := NB185_186.out; have hnc7 := NB186_185.out; have hcz8_0 : w6.cell? ⟨gb185, 0, none⟩ = some (.string a0_0) := (blk_cell BK185.out 0).trans rfl; have hcz8_1 : w6.cell? ⟨gb185, 1, none⟩ = some (.int .i64 a0_1) := (blk_cell BK185.out 1).trans rfl; have hfz8_0 := blk_frozen BK185.out 0; have hfz8_1 := blk_frozen BK185.out 1; have hcz9_0 : w6.cell? ⟨gb186, 0, none⟩ = some (.string a1_0) := (blk_cell BK186.out 0).trans rfl; have hcz9_1 : w6.cell? ⟨gb186, 1, none⟩ = some (.int .i64 a1_1) := (blk_cell BK186.out 1).trans rfl; have hfz9_0 := blk_frozen BK186.out 0; have hfz9_1 := blk_frozen BK186.out 1))
      go_ret
      exact ⟨by first | rfl | (simp [errW_none, errW_some] <;> rfl) | (simp [errW_none, errW_some]; exact isEmpty_ne _) | (simp [*, errW_none, errW_some] <;> rfl), by repeat (first | (with_reducible first | exact HB.out | apply below_alloc | apply pw_below_drewN | apply below_drew1 | refine below_set ?_ GE185.out | refine below_set ?_ GE186.out) | exact HB.out)⟩
    · rw [if_neg c4] at H
      have c4b0 : (a0_1 == a1_1) = false := beq_eq_false_iff_ne.mpr c4
      have c4b1 : (a0_1 != a1_1) = true := bne_iff_ne.mpr c4
      obtain rfl := Option.some.inj H
      go_enter Try.func67, Try.ntmps67
      go_wp2_with (first | ((with_reducible refine gate_dst (N := 2) rfl ?_); refine box_event ?hg (N := 2) ?hd (cs := #[.string a0_0, .int .i64 a0_1]) (t := 82) ?hr ?_; (case hd => rfl); (case hg => rfl); (case hr => first | (go_simp; done) | (go_simp; rfl)); intro gb185 hg w10 hbox hb; have n0_ := Aside0.mk (below_step (by repeat (first | (with_reducible first | exact HB.out | apply below_alloc | apply pw_below_drewN | apply below_drew1) | exact HB.out)) hb); have n1_ := Aside0.mk (hbox); have n2_ := Aside0.mk ((by rw [hg]; exact (below_size (by repeat (first | (with_reducible first | exact HB.out | apply below_alloc | apply pw_below_drewN | apply below_drew1) | exact HB.out))) : w.heap.size ≤ gb185)); have n3_ := Aside0.mk ((by rw [hg]; exact (below_size (by repeat (first | (with_reducible first | exact HB.out | apply below_alloc | apply pw_below_drewN | apply below_drew1) | exact HB.out))) : w.heap.size ≤ gb185)); clear HB; have HB := n0_; have BK185 := n1_; have GW185 := n2_; have GE185 := n3_; clear n0_ n1_ n2_ n3_; clear hb hbox hg) | ((with_reducible refine gate_dst (N := 3) rfl ?_); refine box_event ?hg (N := 3) ?hd (cs := #[.string a1_0, .int .i64 a1_1]) (t := 82) ?hr ?_; (case hd => rfl); (case hg => rfl); (case hr => first | (go_simp; done) | (go_simp; rfl)); intro gb186 hg w11 hbox hb; have n0_ := Aside0.mk (blk_below (g := gb185) (o := .cells #[.string a0_0, .int .i64 a0_1] 82 (0, 0)) (by (with_reducible repeat (first | refine blk_drewN ?_ _ | refine blk_drew ?_ | refine blk_alloc ?_ _)); exact BK185.out) hb); have n1_ := Aside0.mk (below_step (by repeat (first | (with_reducible first | exact HB.out | apply below_alloc | apply pw_below_drewN | apply below_drew1 | refine below_set ?_ GE185.out) | exact HB.out)) hb); have n2_ := Aside0.mk (hbox); have n3_ := Aside0.mk ((by rw [hg]; exact (below_size (by repeat (first | (with_reducible first | exact HB.out | apply below_alloc | apply pw_below_drewN | apply below_drew1 | refine below_set ?_ GE185.out) | exact HB.out))) : w.heap.size ≤ gb186)); have n4_ := Aside0.mk ((by rw [hg]; exact (below_size (by repeat (first | (with_reducible first | exact HB.out | apply below_alloc | apply pw_below_drewN | apply below_drew1 | refine below_set ?_ GE185.out) | exact HB.out))) : w.heap.size ≤ gb186)); have n5_ := Aside0.mk ((by rw [hg]; exact Nat.ne_of_lt (blk_lt (g := gb185) (o := .cells #[.string a0_0, .int .i64 a0_1] 82 (0, 0)) (by (with_reducible repeat (first | refine blk_drewN ?_ _ | refine blk_drew ?_ | refine blk_alloc ?_ _)); exact BK185.out)) : gb185 ≠ gb186)); have n6_ := Aside0.mk ((by rw [hg]; exact Nat.ne_of_gt (blk_lt (g := gb185) (o := .cells #[.string a0_0, .int .i64 a0_1] 82 (0, 0)) (by (with_reducible repeat (first | refine blk_drewN ?_ _ | refine blk_drew ?_ | refine blk_alloc ?_ _)); exact BK185.out)) : gb186 ≠ gb185)); clear BK185; clear HB; have BK185 := n0_; have HB := n1_; have BK186 := n2_; have GW186 := n3_; have GE186 := n4_; have NB185_186 := n5_; have NB186_185 := n6_; clear n0_ n1_ n2_ n3_ n4_ n5_ n6_; clear hb hbox hg; have hnb12 := NB185_186.out; have hnc12 := NB186_185.out; have hcz13_0 : w11.cell? ⟨gb185, 0, none⟩ = some (.string a0_0) := (blk_cell BK185.out 0).trans rfl; have hcz13_1 : w11.cell? ⟨gb185, 1, none⟩ = some (.int .i64 a0_1) := (blk_cell BK185.out 1).trans rfl; have hfz13_0 := blk_frozen BK185.out 0; have hfz13_1 := blk_frozen BK185.out 1; have hcz14_0 : w11.cell? ⟨gb186, 0, none⟩ = some (.string a1_0) := (blk_cell BK186.out 0).trans rfl; have hcz14_1 : w11.cell? ⟨gb186, 1, none⟩ = some (.int .i64 a1_1) := (blk_cell BK186.out 1).trans rfl; have hfz14_0 := blk_frozen BK186.out 0; have hfz14_1 := blk_frozen BK186.out 1))
      go_ret
      exact ⟨by first | rfl | (simp [errW_none, errW_some] <;> rfl) | (simp [errW_none, errW_some]; exact isEmpty_ne _) | (simp [*, errW_none, errW_some] <;> rfl), by repeat (first | (with_reducible first | exact HB.out | apply below_alloc | apply pw_below_drewN | apply below_drew1 | refine below_set ?_ GE185.out | refine below_set ?_ GE186.out) | exact HB.out)⟩
  · rw [if_neg c3] at H
    have c3b0 : (a0_0.toList == a1_0.toList) = false := beq_eq_false_iff_ne.mpr c3
    have c3b1 : (a0_0.toList != a1_0.toList) = true := bne_iff_ne.mpr c3
    obtain rfl := Option.some.inj H
    go_enter Try.func67, Try.ntmps67
    go_wp2_with (first | ((with_reducible refine gate_dst (N := 2) rfl ?_); refine box_event ?hg (N := 2) ?hd (cs := #[.string a0_0, .int .i64 a0_1]) (t := 82) ?hr ?_; (case hd => rfl); (case hg => rfl); (case hr => first | (go_simp; done) | (go_simp; rfl)); intro gb185 hg w15 hbox hb; have n0_ := Aside0.mk (below_step (by repeat (first | (with_reducible first | exact HB.out | apply below_alloc | apply pw_below_drewN | apply below_drew1) | exact HB.out)) hb); have n1_ := Aside0.mk (hbox); have n2_ := Aside0.mk ((by rw [hg]; exact (below_size (by repeat (first | (with_reducible first | exact HB.out | apply below_alloc | apply pw_below_drewN | apply below_drew1) | exact HB.out))) : w.heap.size ≤ gb185)); have n3_ := Aside0.mk ((by rw [hg]; exact (below_size (by repeat (first | (with_reducible first | exact HB.out | apply below_alloc | apply pw_below_drewN | apply below_drew1) | exact HB.out))) : w.heap.size ≤ gb185)); clear HB; have HB := n0_; have BK185 := n1_; have GW185 := n2_; have GE185 := n3_; clear n0_ n1_ n2_ n3_; clear hb hbox hg) | ((with_reducible refine gate_dst (N := 3) rfl ?_); refine box_event ?hg (N := 3) ?hd (cs := #[.string a1_0, .int .i64 a1_1]) (t := 82) ?hr ?_; (case hd => rfl); (case hg => rfl); (case hr => first | (go_simp; done) | (go_simp; rfl)); intro gb186 hg w16 hbox hb; have n0_ := Aside0.mk (blk_below (g := gb185) (o := .cells #[.string a0_0, .int .i64 a0_1] 82 (0, 0)) (by (with_reducible repeat (first | refine blk_drewN ?_ _ | refine blk_drew ?_ | refine blk_alloc ?_ _)); exact BK185.out) hb); have n1_ := Aside0.mk (below_step (by repeat (first | (with_reducible first | exact HB.out | apply below_alloc | apply pw_below_drewN | apply below_drew1 | refine below_set ?_ GE185.out) | exact HB.out)) hb); have n2_ := Aside0.mk (hbox); have n3_ := Aside0.mk ((by rw [hg]; exact (below_size (by repeat (first | (with_reducible first | exact HB.out | apply below_alloc | apply pw_below_drewN | apply below_drew1 | refine below_set ?_ GE185.out) | exact HB.out))) : w.heap.size ≤ gb186)); have n4_ := Aside0.mk ((by rw [hg]; exact (below_size (by repeat (first | (with_reducible first | exact HB.out | apply below_alloc | apply pw_below_drewN | apply below_drew1 | refine below_set ?_ GE185.out) | exact HB.out))) : w.heap.size ≤ gb186)); have n5_ := Aside0.mk ((by rw [hg]; exact Nat.ne_of_lt (blk_lt (g := gb185) (o := .cells #[.string a0_0, .int .i64 a0_1] 82 (0, 0)) (by (with_reducible repeat (first | refine blk_drewN ?_ _ | refine blk_drew ?_ | refine blk_alloc ?_ _)); exact BK185.out)) : gb185 ≠ gb186)); have n6_ := Aside0.mk ((by rw [hg]; exact Nat.ne_of_gt (blk_lt (g := gb185) (o := .cells #[.string a0_0, .int .i64 a0_1] 82 (0, 0)) (by (with_reducible repeat (first | refine blk_drewN ?_ _ | refine blk_drew ?_ | refine blk_alloc ?_ _)); exact BK185.out)) : gb186 ≠ gb185)); clear BK185; clear HB; have BK185 := n0_; have HB := n1_; have BK186 := n2_; have GW186 := n3_; have GE186 := n4_; have NB185_186 := n5_; have NB186_185 := n6_; clear n0_ n1_ n2_ n3_ n4_ n5_ n6_; clear hb hbox hg; have hnb17 := NB185_186.out; have hnc17 := NB186_185.out; have hcz18_0 : w16.cell? ⟨gb185, 0, none⟩ = some (.string a0_0) := (blk_cell BK185.out 0).trans rfl; have hcz18_1 : w16.cell? ⟨gb185, 1, none⟩ = some (.int .i64 a0_1) := (blk_cell BK185.out 1).trans rfl; have hfz18_0 := blk_frozen BK185.out 0; have hfz18_1 := blk_frozen BK185.out 1; have hcz19_0 : w16.cell? ⟨gb186, 0, none⟩ = some (.string a1_0) := (blk_cell BK186.out 0).trans rfl; have hcz19_1 : w16.cell? ⟨gb186, 1, none⟩ = some (.int .i64 a1_1) := (blk_cell BK186.out 1).trans rfl; have hfz19_0 := blk_frozen BK186.out 0; have hfz19_1 := blk_frozen BK186.out 1))
    go_ret
    exact ⟨by first | rfl | (simp [errW_none, errW_some] <;> rfl) | (simp [errW_none, errW_some]; exact isEmpty_ne _) | (simp [*, errW_none, errW_some] <;> rfl), by repeat (first | (with_reducible first | exact HB.out | apply below_alloc | apply pw_below_drewN | apply below_drew1 | refine below_set ?_ GE185.out | refine below_set ?_ GE186.out) | exact HB.out)⟩

end Go.Proofs.Ytehgojpiahmalaa.PSrt
