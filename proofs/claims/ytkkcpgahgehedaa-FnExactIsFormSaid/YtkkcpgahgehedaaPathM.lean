/- Paths as lists of parts: plain Lean, no program in sight. No condition. -/
import Derived.Test.YtkkcpgahgehedaaAid
import Derived.Lib.Join
import Derived.Lib.Split
import Derived.Lib.IndexBytes
import Derived.Lib.CountLaws
import Derived.Lib.SplitLaws
namespace Go.Proofs.Ytkkcpgahgehedaa.Aid
open Go.RowKit Go.Proofs.YtkkcpgahgehedaaW.PrintWords Go.Proofs.YtkkcpgahgehedaaW.PrintLast Go.Proofs.YtkkcpgahgehedaaW.PrintMore
set_option linter.unusedSimpArgs false
set_option linter.unusedVariables false

def mk (l : List UInt8) : ByteArray := ⟨l.toArray⟩
theorem toList_mk (l : List UInt8) : (mk l).toList = l := ByteArray.toList_mk l
theorem mk_toList (s : ByteArray) : mk s.toList = s := eq_of_toList (toList_mk _)
theorem mk_inj {a b : List UInt8} (h : mk a = mk b) : a = b := by rw [← toList_mk a, h, toList_mk]
theorem data_eq (s : ByteArray) : s.data.toList = s.toList := (ByteArray.toList_eq s).symm
theorem toList_extract (s : ByteArray) (a b : Nat) : (s.extract a b).toList = (s.toList.drop a).take (b - a) := by
  rw [Lib.extract_toList, data_eq]
theorem toList_append (a b : ByteArray) : (a ++ b).toList = a.toList ++ b.toList := by
  rw [ByteArray.toList_eq, ByteArray.toList_eq, ByteArray.toList_eq, ByteArray.data_append, Array.toList_append]
theorem size_mk (l : List UInt8) : (mk l).size = l.length := by rw [size_eq, toList_mk]
theorem bt_toList (s : ByteArray) (i : Int) (h0 : 0 ≤ i) (h1 : i < (s.size : Int)) : ∃ c, s.toList[i.toNat]? = some c ∧ bt s i = (c.toNat : Int) := by
  have h := bt_get s i h0 h1
  rw [bytesOf_eq, List.getElem?_map] at h
  cases hc : s.toList[i.toNat]? with
  | none => rw [hc] at h; cases h
  | some c => rw [hc] at h; exact ⟨c, rfl, (Option.some.inj h).symm⟩

/-! ### cutting at slashes -/
def segs : List UInt8 → List (List UInt8)
  | [] => [[]]
  | c :: l => if c = 47 then [] :: segs l else match segs l with
    | [] => [[c]]
    | h :: t => (c :: h) :: t
theorem segs_ne (l : List UInt8) : segs l ≠ [] := by
  cases l with
  | nil => simp [segs]
  | cons c l => unfold segs; split; · simp
                split <;> simp
theorem segs_cons (c : UInt8) (l : List UInt8) (h : c ≠ 47) : ∃ a t, segs l = a :: t ∧ segs (c :: l) = (c :: a) :: t := by
  cases hs : segs l with
  | nil => exact absurd hs (segs_ne l)
  | cons a t => exact ⟨a, t, rfl, by rw [segs, if_neg h, hs]⟩
theorem segs_slash (l : List UInt8) : segs (47 :: l) = [] :: segs l := by rw [segs, if_pos rfl]
theorem segs_none : ∀ l : List UInt8, 47 ∉ l → segs l = [l]
  | [], _ => rfl
  | c :: l, h => by
    have hc : c ≠ 47 := fun e => h (by rw [e]; exact List.mem_cons_self)
    rw [segs, if_neg hc, segs_none l (fun hm => h (List.mem_cons_of_mem _ hm))]
theorem segs_app : ∀ (a b : List UInt8), 47 ∉ a → segs (a ++ 47 :: b) = a :: segs b
  | [], b, _ => segs_slash b
  | c :: a, b, h => by
    have hc : c ≠ 47 := fun e => h (by rw [e]; exact List.mem_cons_self)
    rw [List.cons_append, segs, if_neg hc, segs_app a b (fun hm => h (List.mem_cons_of_mem _ hm))]
theorem segs_mem : ∀ (l : List UInt8) (p : List UInt8), p ∈ segs l → 47 ∉ p
  | [], p, h => by simp [segs] at h; subst h; simp
  | c :: l, p, h => by
    by_cases hc : c = 47
    · subst hc; rw [segs_slash] at h
      rcases List.mem_cons.1 h with rfl | h
      · simp
      · exact segs_mem l p h
    · obtain ⟨a, t, e, e'⟩ := segs_cons c l hc
      rw [e'] at h
      rcases List.mem_cons.1 h with rfl | h
      · intro hm
        rcases List.mem_cons.1 hm with e2 | hm
        · exact hc e2.symm
        · exact segs_mem l a (by rw [e]; exact List.mem_cons_self) hm
      · exact segs_mem l p (by rw [e]; exact List.mem_cons_of_mem _ h)
theorem segs_length : ∀ l : List UInt8, (segs l).length ≤ l.length + 1
  | [] => by simp [segs]
  | c :: l => by
    have ih := segs_length l
    by_cases hc : c = 47
    · subst hc; rw [segs_slash]; simp; omega
    · obtain ⟨a, t, e, e'⟩ := segs_cons c l hc
      rw [e'] ; rw [e] at ih; simp at ih ⊢; omega
theorem segs_sum : ∀ (l p : List UInt8), p ∈ segs l → p.length ≤ l.length
  | [], p, h => by simp [segs] at h; subst h; simp
  | c :: l, p, h => by
    by_cases hc : c = 47
    · subst hc; rw [segs_slash] at h
      rcases List.mem_cons.1 h with rfl | h
      · simp
      · have := segs_sum l p h; simp; omega
    · obtain ⟨a, t, e, e'⟩ := segs_cons c l hc
      rw [e'] at h
      rcases List.mem_cons.1 h with rfl | h
      · have := segs_sum l a (by rw [e]; exact List.mem_cons_self); simp; omega
      · have := segs_sum l p (by rw [e]; exact List.mem_cons_of_mem _ h); simp; omega

/-- What strings.Split does, in the same words. -/
theorem index_miss : ∀ l : List UInt8, Lib.indexByte l 47 = -1 → 47 ∉ l
  | [], _ => by simp
  | c :: l, h => by
    unfold Lib.indexByte at h
    split at h
    · simp at h
    · rename_i hc
      split at h
      · rename_i h'
        have hl := index_miss l (by simpa using h')
        intro hm
        rcases List.mem_cons.1 hm with e | hm
        · exact hc (by rw [← e]; simp)
        · exact hl hm
      · have := Lib.indexByte_ge l 47; rename_i h'; simp at h'; omega
theorem index_hit : ∀ l : List UInt8, Lib.indexByte l 47 ≠ -1 → 0 ≤ Lib.indexByte l 47 ∧ 47 ∉ l.take (Lib.indexByte l 47).toNat ∧ l = l.take (Lib.indexByte l 47).toNat ++ 47 :: l.drop ((Lib.indexByte l 47).toNat + 1)
  | [], h => absurd rfl h
  | c :: l, h => by
    unfold Lib.indexByte at h ⊢
    by_cases hc : (c == 47) = true
    · rw [if_pos hc]
      have : c = 47 := by simpa using hc
      subst this
      exact ⟨by simp, by simp, by simp⟩
    · rw [if_neg hc] at h ⊢
      by_cases h' : (Lib.indexByte l 47 == -1) = true
      · rw [if_pos h'] at h; exact absurd rfl h
      · rw [if_neg h'] at h ⊢
        obtain ⟨i0, i1, i2⟩ := index_hit l (by simpa using h')
        have e : (Lib.indexByte l 47 + 1).toNat = (Lib.indexByte l 47).toNat + 1 := by omega
        rw [e, List.take_succ_cons, List.drop_succ_cons]
        refine ⟨by omega, ?_, ?_⟩
        · intro hm
          rcases List.mem_cons.1 hm with e2 | hm
          · exact hc (by rw [← e2]; simp)
          · exact i1 hm
        · rw [List.cons_append, ← i2]
theorem splitK_segs : ∀ (k : Nat) (l : List UInt8), l.count 47 ≤ k → Lib.splitK [47] 0 k l = segs l
  | 0, l, h => by
    rw [Lib.splitK, segs_none l (by intro hm; have := List.count_pos_iff.2 hm; omega)]
  | k + 1, l, h => by
    rw [Lib.splitK, Lib.index_one]
    by_cases hx : Lib.indexByte l 47 = -1
    · rw [if_pos (by simp [hx]), segs_none l (index_miss l hx)]
    · rw [if_neg (by simpa using hx)]
      obtain ⟨i0, i1, i2⟩ := index_hit l hx
      have hc : l.count 47 = (l.drop ((Lib.indexByte l 47).toNat + 1)).count 47 + 1 := by
        conv => lhs; rw [i2]
        rw [List.count_append, List.count_cons_self, List.count_eq_zero_of_not_mem i1]; omega
      have ih := splitK_segs k (l.drop ((Lib.indexByte l 47).toNat + 1)) (by omega)
      rw [Nat.add_zero, show ([47] : List UInt8).length = 1 from rfl, ih]
      conv => rhs; rw [i2]
      rw [segs_app _ _ i1]

/-! ### parts -/
def pieces (s : ByteArray) : List ByteArray := (segs s.toList).map mk
def parts (s : ByteArray) : List ByteArray := (pieces s).filter fun p => !p.toList.isEmpty
theorem splitB_pieces (s : ByteArray) : Lib.splitB ⟨#[47]⟩ 0 (Lib.countB s ⟨#[47]⟩) s = pieces s := by
  have h := Lib.splitB_data ⟨#[47]⟩ 0 (Lib.countB s ⟨#[47]⟩) s
  have hc : Lib.countB s ⟨#[47]⟩ = s.data.toList.count 47 := Lib.count_one _ _
  rw [hc] at h ⊢
  rw [show (⟨#[47]⟩ : ByteArray).data.toList = [47] from rfl, splitK_segs _ _ (Nat.le_refl _)] at h
  unfold pieces
  rw [← data_eq, ← h, List.map_map]
  conv => lhs; rw [← List.map_id (Lib.splitB _ _ _ _)]
  refine List.map_congr_left fun x _ => ?_
  show x = mk x.data.toList
  rw [data_eq, mk_toList]
theorem pieces_length (s : ByteArray) : (pieces s).length ≤ s.size + 1 := by
  unfold pieces; rw [List.length_map, size_eq]; exact segs_length _
theorem parts_length (s : ByteArray) : (parts s).length ≤ s.size + 1 := Nat.le_trans (List.length_filter_le _ _) (pieces_length s)
/-- A part has no slash, and something. -/
def Part (p : ByteArray) : Prop := 47 ∉ p.toList ∧ p.toList ≠ []
theorem parts_part {s p : ByteArray} (h : p ∈ parts s) : Part p := by
  obtain ⟨h1, h2⟩ := List.mem_filter.1 h
  obtain ⟨l, hl, rfl⟩ := List.mem_map.1 h1
  rw [toList_mk] at h2
  refine ⟨by rw [toList_mk]; exact segs_mem _ _ hl, ?_⟩
  rw [toList_mk]; intro e; rw [e] at h2; simp at h2
theorem parts_size {s p : ByteArray} (h : p ∈ parts s) : p.size ≤ s.size := by
  obtain ⟨h1, _⟩ := List.mem_filter.1 h
  obtain ⟨l, hl, rfl⟩ := List.mem_map.1 h1
  rw [size_mk, size_eq s]; exact segs_sum _ _ hl

def pathB (s : ByteArray) : Bool := (parts s).all partB && decide (1 ≤ s.size ∧ s.size ≤ 60)
def longB (s : ByteArray) : Bool := (parts s).all partB && decide (1 ≤ s.size)

theorem nb_all {l : List UInt8} : (l.map fun b => (b.toNat : Int)).all nb = l.all fun b => nb (b.toNat : Int) := by rw [List.all_map]; rfl
theorem part_dots (s : ByteArray) (h : dotsB s = true) : partB s = true := by
  unfold dotsB at h
  have h' : s.toList = [46] ∨ s.toList = [46, 46] := by simpa using h
  unfold partB
  rw [size_eq, bytesOf_eq]
  rcases h' with e | e <;> rw [e] <;> decide
theorem name_or_dots (s : ByteArray) : (nameB s || dotsB s) = partB s := by
  unfold nameB
  cases hd : dotsB s with
  | true => rw [part_dots s hd]; rfl
  | false => simp

/-! ### clean parts -/
def dot (p : ByteArray) : Prop := p.toList = [46]
def dots (p : ByteArray) : Prop := p.toList = [46, 46]
instance (p : ByteArray) : Decidable (dot p) := by unfold dot; infer_instance
instance (p : ByteArray) : Decidable (dots p) := by unfold dots; infer_instance
def lastDots (acc : List ByteArray) : Bool := match acc.getLast? with
  | none => true
  | some p => decide (dots p)
def cleanStep (whole : Bool) (acc : List ByteArray) (p : ByteArray) : List ByteArray :=
  if dot p then acc else if dots p then (if lastDots acc = false then acc.dropLast else if whole = true then acc else acc ++ [p]) else acc ++ [p]
def cleanL (whole : Bool) (ps : List ByteArray) : List ByteArray := ps.foldl (cleanStep whole) []
theorem cleanStep_mem {whole : Bool} {acc : List ByteArray} {p q : ByteArray} (h : q ∈ cleanStep whole acc p) : q ∈ acc ∨ (q = p ∧ ¬ dot p) := by
  unfold cleanStep at h
  split at h
  · exact .inl h
  · rename_i hd
    split at h
    · split at h
      · exact .inl ((List.dropLast_sublist _).subset h)
      · split at h
        · exact .inl h
        · rcases List.mem_append.1 h with h | h
          · exact .inl h
          · exact .inr ⟨by simpa using h, hd⟩
    · rcases List.mem_append.1 h with h | h
      · exact .inl h
      · exact .inr ⟨by simpa using h, hd⟩
theorem clean_mem (whole : Bool) : ∀ (ps acc : List ByteArray) (q : ByteArray), q ∈ ps.foldl (cleanStep whole) acc → q ∈ acc ∨ (q ∈ ps ∧ ¬ dot q)
  | [], acc, q, h => .inl h
  | p :: ps, acc, q, h => by
    rw [List.foldl_cons] at h
    rcases clean_mem whole ps _ q h with h | ⟨h, hd⟩
    · rcases cleanStep_mem h with h | ⟨rfl, hd⟩
      · exact .inl h
      · exact .inr ⟨List.mem_cons_self, hd⟩
    · exact .inr ⟨List.mem_cons_of_mem _ h, hd⟩
theorem cleanL_mem {whole : Bool} {ps : List ByteArray} {q : ByteArray} (h : q ∈ cleanL whole ps) : q ∈ ps ∧ ¬ dot q := by
  rcases clean_mem whole ps [] q h with h | h
  · cases h
  · exact h
theorem cleanStep_length (whole : Bool) (acc : List ByteArray) (p : ByteArray) : (cleanStep whole acc p).length ≤ acc.length + 1 := by
  unfold cleanStep
  repeat' split
  all_goals simp
  omega
theorem clean_length (whole : Bool) : ∀ (ps acc : List ByteArray), (ps.foldl (cleanStep whole) acc).length ≤ acc.length + ps.length
  | [], acc => by simp
  | p :: ps, acc => by
    have h1 := clean_length whole ps (cleanStep whole acc p)
    have h2 := cleanStep_length whole acc p
    rw [List.foldl_cons]; simp; omega
/-- Where the path is whole no '..' is left. -/
theorem clean_nodots : ∀ (ps acc : List ByteArray), (∀ q ∈ acc, ¬ dots q) → ∀ q ∈ ps.foldl (cleanStep true) acc, ¬ dots q
  | [], acc, h, q, hq => h q hq
  | p :: ps, acc, h, q, hq => by
    rw [List.foldl_cons] at hq
    refine clean_nodots ps _ (fun r hr => ?_) q hq
    unfold cleanStep at hr
    split at hr
    · exact h r hr
    · split at hr
      · split at hr
        · exact h r ((List.dropLast_sublist _).subset hr)
        · simp only [if_true] at hr; exact h r hr
      · rename_i hd
        rcases List.mem_append.1 hr with hr | hr
        · exact h r hr
        · obtain rfl : r = p := by simpa using hr
          exact hd

/-! ### texts of parts -/
def joinL (ps : List ByteArray) : List UInt8 := Lib.join (ps.map (·.data.toList)) [47]
theorem joinL_nil : joinL [] = [] := rfl
theorem joinL_one (p : ByteArray) : joinL [p] = p.toList := by unfold joinL; simp only [List.map_cons, List.map_nil]; rw [Lib.join_one, data_eq]
theorem joinL_cons (p q : ByteArray) (ps : List ByteArray) : joinL (p :: q :: ps) = p.toList ++ 47 :: joinL (q :: ps) := by
  unfold joinL Lib.join
  simp only [List.map_cons]
  rw [List.intercalate, List.intercalate, List.intersperse_cons_cons, List.flatten_cons, List.flatten_cons, data_eq]
  simp
theorem joinL_snoc (ps : List ByteArray) (p : ByteArray) (h : ps ≠ []) : joinL (ps ++ [p]) = joinL ps ++ 47 :: p.toList := by
  induction ps with
  | nil => exact absurd rfl h
  | cons q ps ih =>
    cases ps with
    | nil => rw [List.cons_append, List.nil_append, joinL_cons, joinL_one, joinL_one]
    | cons r ps => rw [List.cons_append, List.cons_append, joinL_cons, joinL_cons, ← List.cons_append, ih (by simp), List.append_assoc, List.cons_append]
def pathText (ps : List ByteArray) : ByteArray := mk (47 :: joinL ps)
def cleanText (whole : Bool) (ps : List ByteArray) : ByteArray := if whole = true then pathText ps else if ps = [] then mk [46] else mk (joinL ps)
theorem joinL_ne {p : ByteArray} {ps : List ByteArray} (h : p.toList ≠ []) : joinL (p :: ps) ≠ [] := by
  cases ps with
  | nil => rw [joinL_one]; exact h
  | cons q ps => rw [joinL_cons]; simp
theorem joinL_length : ∀ (ps : List ByteArray) (n : Nat), (∀ p ∈ ps, p.size ≤ n) → (joinL ps).length ≤ ps.length * (n + 1)
  | [], n, _ => by simp [joinL_nil]
  | [p], n, h => by
    rw [joinL_one, ← size_eq]; have := h p (by simp); simp; omega
  | p :: q :: ps, n, h => by
    have ih := joinL_length (q :: ps) n (fun r hr => h r (List.mem_cons_of_mem _ hr))
    have h1 := h p (by simp)
    rw [joinL_cons, List.length_append, List.length_cons, ← size_eq]
    simp only [List.length_cons] at ih ⊢
    rw [Nat.add_mul (ps.length + 1) 1]; omega
end Go.Proofs.Ytkkcpgahgehedaa.Aid

