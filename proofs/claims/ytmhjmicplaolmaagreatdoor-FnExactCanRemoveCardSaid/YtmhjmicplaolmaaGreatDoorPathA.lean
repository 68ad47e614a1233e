/- Paths as lists of parts: plain Lean, no program in sight. No condition. -/
import Derived.Test.YtmhjmicplaolmaaGreatDoorPRmx1
import Derived.Test.YtmhjmicplaolmaaGreatDoorPRmx2
import Derived.Test.YtmhjmicplaolmaaGreatDoorPRmx3
import Derived.Test.YtmhjmicplaolmaaGreatDoorPRmx4
import Derived.Test.YtmhjmicplaolmaaGreatDoorPRmx5
import Derived.Test.YtmhjmicplaolmaaGreatDoorPRmx6
import Derived.Test.YtmhjmicplaolmaaGreatDoorPRmx7
import Derived.Test.YtmhjmicplaolmaaGreatDoorPRmx8
import Derived.Test.YtmhjmicplaolmaaGreatDoorPRmx9
import Derived.Test.YtmhjmicplaolmaaGreatDoorPRmx10
import Derived.Test.YtmhjmicplaolmaaGreatDoorPRmx11
import Derived.Test.YtmhjmicplaolmaaGreatDoorPRmx12
import Derived.Test.YtmhjmicplaolmaaGreatDoorPRmx13
import Derived.Test.YtmhjmicplaolmaaGreatDoorPRmx14
import Derived.Test.YtmhjmicplaolmaaGreatDoorPRmx15
import Derived.Test.YtmhjmicplaolmaaGreatDoorPRmx16
import Derived.Test.YtmhjmicplaolmaaGreatDoorPRmx17
import Derived.Test.YtmhjmicplaolmaaGreatDoorPRmx18
import Derived.Test.YtmhjmicplaolmaaGreatDoorPRmx19
import Derived.Test.YtmhjmicplaolmaaGreatDoorPRmx20
import Derived.Test.YtmhjmicplaolmaaGreatDoorPRmx21
import Derived.Test.YtmhjmicplaolmaaGreatDoorPRmx22
import Derived.Test.YtmhjmicplaolmaaGreatDoorPRmx23
import Derived.Test.YtmhjmicplaolmaaGreatDoorPRmx24
import Derived.Test.YtmhjmicplaolmaaGreatDoorPRmx25
import Derived.Test.YtmhjmicplaolmaaGreatDoorPRmx26
import Derived.Test.YtmhjmicplaolmaaGreatDoorAid
import Derived.Lib.Join
import Derived.Lib.Split
import Derived.Lib.IndexBytes
import Derived.Lib.CountLaws
import Derived.Lib.SplitLaws
namespace Go.Proofs.YtmhjmicplaolmaaGreatDoor.Aid
open Go.RowKit Go.Proofs.YtmhjmicplaolmaaGreatDoorW.PrintWords Go.Proofs.YtmhjmicplaolmaaGreatDoorW.PrintLast Go.Proofs.YtmhjmicplaolmaaGreatDoorW.PrintMore
set_option linter.unusedSimpArgs false
set_option linter.unusedVariables false
def mk (l : List UInt8) : ByteArray := ⟨l.toArray⟩
theorem toList_mk (l : List UInt8) : (mk l).toList = l := ByteArray.toList_mk l
theorem mk_toList (s : ByteArray) : mk s.toList = s := eq_of_toList (toList_mk _)
theorem data_eq (s : ByteArray) : s.data.toList = s.toList := (ByteArray.toList_eq s).symm
theorem toList_extract (s : ByteArray) (a b : Nat) : (s.extract a b).toList = (s.toList.drop a).take (b - a) := by
  rw [Lib.extract_toList, data_eq]
theorem toList_append (a b : ByteArray) : (a ++ b).toList = a.toList ++ b.toList := by
  rw [ByteArray.toList_eq, ByteArray.toList_eq, ByteArray.toList_eq, ByteArray.data_append, Array.toList_append]
theorem size_mk (l : List UInt8) : (mk l).size = l.length := by rw [size_eq, toList_mk]
theorem bt_toList (s : ByteArray) (i : Int) (h0 : 0 ≤ i) (h1 : i < (s.size : Int)) : ∃ c, s.toList[i.toNat]? = some c ∧ bt s i = (c.toNat : Int) := by
  have h := bt_get s i h0 h1
  rw [bytesOf_eq, List.getElem?_map] at h
  cases hc : s.toList[i.toNat]? with
  | none => rw [hc] at h; cases h
  | some c => rw [hc] at h; exact ⟨c, rfl, (Option.some.inj h).symm⟩
def segs : List UInt8 → List (List UInt8)
  | [] => [[]]
  | c :: l => if c = 47 then [] :: segs l else match segs l with
    | [] => [[c]]
    | h :: t => (c :: h) :: t
theorem segs_ne (l : List UInt8) : segs l ≠ [] := by
  cases l with
  | nil => simp [segs]
  | cons c l => unfold segs; split; · simp
                split <;> simp
theorem segs_cons (c : UInt8) (l : List UInt8) (h : c ≠ 47) : ∃ a t, segs l = a :: t ∧ segs (c :: l) = (c :: a) :: t := by
  cases hs : segs l with
  | nil => exact absurd hs (segs_ne l)
  | cons a t => exact ⟨a, t, rfl, by rw [segs, if_neg h, hs]⟩
theorem segs_slash (l : List UInt8) : segs (47 :: l) = [] :: segs l := by rw [segs, if_pos rfl]
theorem segs_none : ∀ l : List UInt8, 47 ∉ l → segs l = [l]
  | [], _ => rfl
  | c :: l, h => by
    have hc : c ≠ 47 := fun e => h (by rw [e]; exact List.mem_cons_self)
    rw [segs, if_neg hc, segs_none l (fun hm => h (List.mem_cons_of_mem _ hm))]
theorem segs_app : ∀ (a b : List UInt8), 47 ∉ a → segs (a ++ 47 :: b) = a :: segs b
  | [], b, _ => segs_slash b
  | c :: a, b, h => by
    have hc : c ≠ 47 := fun e => h (by rw [e]; exact List.mem_cons_self)
    rw [List.cons_append, segs, if_neg hc, segs_app a b (fun hm => h (List.mem_cons_of_mem _ hm))]
theorem segs_length : ∀ l : List UInt8, (segs l).length ≤ l.length + 1
  | [] => by simp [segs]
  | c :: l => by
    have ih := segs_length l
    by_cases hc : c = 47
    · subst hc; rw [segs_slash]; simp; omega
    · obtain ⟨a, t, e, e'⟩ := segs_cons c l hc
      rw [e'] ; rw [e] at ih; simp at ih ⊢; omega
theorem segs_sum : ∀ (l p : List UInt8), p ∈ segs l → p.length ≤ l.length
  | [], p, h => by simp [segs] at h; subst h; simp
  | c :: l, p, h => by
    by_cases hc : c = 47
    · subst hc; rw [segs_slash] at h
      rcases List.mem_cons.1 h with rfl | h
      · simp
      · have := segs_sum l p h; simp; omega
    · obtain ⟨a, t, e, e'⟩ := segs_cons c l hc
      rw [e'] at h
      rcases List.mem_cons.1 h with rfl | h
      · have := segs_sum l a (by rw [e]; exact List.mem_cons_self); simp; omega
      · have := segs_sum l p (by rw [e]; exact List.mem_cons_of_mem _ h); simp; omega
theorem index_miss : ∀ l : List UInt8, Lib.indexByte l 47 = -1 → 47 ∉ l
  | [], _ => by simp
  | c :: l, h => by
    unfold Lib.indexByte at h
    split at h
    · simp at h
    · rename_i hc
      split at h
      · rename_i h'
        have hl := index_miss l (by simpa using h')
        intro hm
        rcases List.mem_cons.1 hm with e | hm
        · exact hc (by rw [← e]; simp)
        · exact hl hm
      · have := Lib.indexByte_ge l 47; rename_i h'; simp at h'; omega
theorem index_hit : ∀ l : List UInt8, Lib.indexByte l 47 ≠ -1 → 0 ≤ Lib.indexByte l 47 ∧ 47 ∉ l.take (Lib.indexByte l 47).toNat ∧ l = l.take (Lib.indexByte l 47).toNat ++ 47 :: l.drop ((Lib.indexByte l 47).toNat + 1)
  | [], h => absurd rfl h
  | c :: l, h => by
    unfold Lib.indexByte at h ⊢
    by_cases hc : (c == 47) = true
    · rw [if_pos hc]
      have : c = 47 := by simpa using hc
      subst this
      exact ⟨by simp, by simp, by simp⟩
    · rw [if_neg hc] at h ⊢
      by_cases h' : (Lib.indexByte l 47 == -1) = true
      · rw [if_pos h'] at h; exact absurd rfl h
      · rw [if_neg h'] at h ⊢
        obtain ⟨i0, i1, i2⟩ := index_hit l (by simpa using h')
        have e : (Lib.indexByte l 47 + 1).toNat = (Lib.indexByte l 47).toNat + 1 := by omega
        rw [e, List.take_succ_cons, List.drop_succ_cons]
        refine ⟨by omega, ?_, ?_⟩
        · intro hm
          rcases List.mem_cons.1 hm with e2 | hm
          · exact hc (by rw [← e2]; simp)
          · exact i1 hm
        · rw [List.cons_append, ← i2]
theorem splitK_segs : ∀ (k : Nat) (l : List UInt8), l.count 47 ≤ k → Lib.splitK [47] 0 k l = segs l
  | 0, l, h => by
    rw [Lib.splitK, segs_none l (by intro hm; have := List.count_pos_iff.2 hm; omega)]
  | k + 1, l, h => by
    rw [Lib.splitK, Lib.index_one]
    by_cases hx : Lib.indexByte l 47 = -1
    · rw [if_pos (by simp [hx]), segs_none l (index_miss l hx)]
    · rw [if_neg (by simpa using hx)]
      obtain ⟨i0, i1, i2⟩ := index_hit l hx
      have hc : l.count 47 = (l.drop ((Lib.indexByte l 47).toNat + 1)).count 47 + 1 := by
        conv => lhs; rw [i2]
        rw [List.count_append, List.count_cons_self, List.count_eq_zero_of_not_mem i1]; omega
      have ih := splitK_segs k (l.drop ((Lib.indexByte l 47).toNat + 1)) (by omega)
      rw [Nat.add_zero, show ([47] : List UInt8).length = 1 from rfl, ih]
      conv => rhs; rw [i2]
      rw [segs_app _ _ i1]
def pieces (s : ByteArray) : List ByteArray := (segs s.toList).map mk
def parts (s : ByteArray) : List ByteArray := (pieces s).filter fun p => !p.toList.isEmpty
theorem splitB_pieces (s : ByteArray) : Lib.splitB ⟨#[47]⟩ 0 (Lib.countB s ⟨#[47]⟩) s = pieces s := by
  have h := Lib.splitB_data ⟨#[47]⟩ 0 (Lib.countB s ⟨#[47]⟩) s
  have hc : Lib.countB s ⟨#[47]⟩ = s.data.toList.count 47 := Lib.count_one _ _
  rw [hc] at h ⊢
  rw [show (⟨#[47]⟩ : ByteArray).data.toList = [47] from rfl, splitK_segs _ _ (Nat.le_refl _)] at h
  unfold pieces
  rw [← data_eq, ← h, List.map_map]
  conv => lhs; rw [← List.map_id (Lib.splitB _ _ _ _)]
  refine List.map_congr_left fun x _ => ?_
  show x = mk x.data.toList
  rw [data_eq, mk_toList]
theorem pieces_length (s : ByteArray) : (pieces s).length ≤ s.size + 1 := by
  unfold pieces; rw [List.length_map, size_eq]; exact segs_length _
theorem parts_length (s : ByteArray) : (parts s).length ≤ s.size + 1 := Nat.le_trans (List.length_filter_le _ _) (pieces_length s)
theorem parts_size {s p : ByteArray} (h : p ∈ parts s) : p.size ≤ s.size := by
  obtain ⟨h1, _⟩ := List.mem_filter.1 h
  obtain ⟨l, hl, rfl⟩ := List.mem_map.1 h1
  rw [size_mk, size_eq s]; exact segs_sum _ _ hl
def pathB (s : ByteArray) : Bool := (parts s).all partB && decide (1 ≤ s.size ∧ s.size ≤ 60)
def longB (s : ByteArray) : Bool := (parts s).all partB && decide (1 ≤ s.size)
theorem nb_all {l : List UInt8} : (l.map fun b => (b.toNat : Int)).all nb = l.all fun b => nb (b.toNat : Int) := by rw [List.all_map]; rfl
theorem part_dots (s : ByteArray) (h : dotsB s = true) : partB s = true := by
  unfold dotsB at h
  have h' : s.toList = [46] ∨ s.toList = [46, 46] := by simpa using h
  unfold partB
  rw [size_eq, bytesOf_eq]
  rcases h' with e | e <;> rw [e] <;> decide
theorem name_or_dots (s : ByteArray) : (nameB s || dotsB s) = partB s := by
  unfold nameB
  cases hd : dotsB s with
  | true => rw [part_dots s hd]; rfl
  | false => simp
def dot (p : ByteArray) : Prop := p.toList = [46]
def dots (p : ByteArray) : Prop := p.toList = [46, 46]
instance (p : ByteArray) : Decidable (dot p) := by unfold dot; infer_instance
instance (p : ByteArray) : Decidable (dots p) := by unfold dots; infer_instance
def joinL (ps : List ByteArray) : List UInt8 := Lib.join (ps.map (·.data.toList)) [47]
theorem joinL_nil : joinL [] = [] := rfl
theorem joinL_one (p : ByteArray) : joinL [p] = p.toList := by unfold joinL; simp only [List.map_cons, List.map_nil]; rw [Lib.join_one, data_eq]
theorem joinL_cons (p q : ByteArray) (ps : List ByteArray) : joinL (p :: q :: ps) = p.toList ++ 47 :: joinL (q :: ps) := by
  unfold joinL Lib.join
  simp only [List.map_cons]
  rw [List.intercalate, List.intercalate, List.intersperse_cons_cons, List.flatten_cons, List.flatten_cons, data_eq]
  simp
def pathText (ps : List ByteArray) : ByteArray := mk (47 :: joinL ps)
theorem joinL_length : ∀ (ps : List ByteArray) (n : Nat), (∀ p ∈ ps, p.size ≤ n) → (joinL ps).length ≤ ps.length * (n + 1)
  | [], n, _ => by simp [joinL_nil]
  | [p], n, h => by
    rw [joinL_one, ← size_eq]; have := h p (by simp); simp; omega
  | p :: q :: ps, n, h => by
    have ih := joinL_length (q :: ps) n (fun r hr => h r (List.mem_cons_of_mem _ hr))
    have h1 := h p (by simp)
    rw [joinL_cons, List.length_append, List.length_cons, ← size_eq]
    simp only [List.length_cons] at ih ⊢
    rw [Nat.add_mul (ps.length + 1) 1]; omega
end Go.Proofs.YtmhjmicplaolmaaGreatDoor.Aid
namespace Go.Proofs.YtmhjmicplaolmaaGreatDoor.PRm
open Go.RowKit Go.Proofs.YtmhjmicplaolmaaGreatDoorW.PrintWords Go.Proofs.YtmhjmicplaolmaaGreatDoorW.PrintLast Go.Proofs.YtmhjmicplaolmaaGreatDoorW.PrintMore Go.Proofs.YtmhjmicplaolmaaGreatDoor.Aid
theorem impl_within.is (n a b : Int) : impl_within.f n a b = some (decide (a ≤ n ∧ n ≤ b)) := by
  unfold impl_within.f
  by_cases h : n ≥ a
  · rw [if_pos h]; simp [show a ≤ n from h]
  · rw [if_neg h]; simp [show ¬ a ≤ n from h]
theorem spec_l1In.is (n a b : Int) : spec_l1In.f n a b = some (decide (a ≤ n ∧ n ≤ b)) := by
  unfold spec_l1In.f
  by_cases h : n ≥ a
  · rw [if_pos h]; simp [show a ≤ n from h]
  · rw [if_neg h]; simp [show ¬ a ≤ n from h]
theorem impl_isNameByte.is (c : Int) : impl_isNameByte.f c = some (nb c) := by
  unfold impl_isNameByte.f nb
  by_cases h : nbP c
  · rw [decide_eq_true h]
    unfold nbP at h
    repeat' split
    all_goals first | rfl | (congr 1; simp; omega) | (exfalso; omega)
  · rw [decide_eq_false h]
    unfold nbP at h
    repeat' split
    all_goals first | rfl | (congr 1; simp; omega) | (exfalso; omega)
theorem impl_isPart_1.is (c : Int) : impl_isPart_1.f c = some (!nb c) := by
  unfold impl_isPart_1.f
  rw [impl_isNameByte.is]; rfl
theorem spec_l2Name.round (k : Nat) (s : ByteArray) (i : Int) (h0 : 0 ≤ i) (h1 : i < (s.size : Int)) :
    spec_l2Name.l0 (k + 1) s i = if nb (bt s i) = true then spec_l2Name.l0 k s (wrap64 (i + 1)) else some false := by
  rw [spec_l2Name.l0]
  rw [if_pos h1, if_pos h0]
  generalize bt s i = c
  generalize spec_l2Name.l0 k s (wrap64 (i + 1)) = R
  by_cases h : nbP c
  · rw [show nb c = true from decide_eq_true h]
    simp only [if_true]
    unfold nbP at h
    repeat' split
    all_goals first | rfl | (exfalso; omega)
  · rw [show nb c = false from decide_eq_false h]
    simp only [Bool.false_eq_true, if_false]
    unfold nbP at h
    repeat' split
    all_goals first | rfl | (exfalso; omega)
theorem spec_l2Name.loop (s : ByteArray) (hs : s.size ≤ 9223372036854775807) (d : Nat) : ∀ i : Int, 0 ≤ i → i ≤ s.size → (s.size : Int) - i = d →
    Ev (fun k => spec_l2Name.l0 k s i) (((bytesOf s).drop i.toNat).all nb && (decide (1 ≤ s.size ∧ s.size ≤ 8) && !dotsB s)) := by
  induction d with
  | zero =>
    intro i h0 h1 hd
    refine Ev.step (fun k => by rw [spec_l2Name.l0, if_neg (by omega), spec_l1In.is]) ?_
    rw [drop_all s i (by omega)]
    simp only [Option.bind_some, List.all_nil, Bool.true_and, decide_eq_true_eq]
    unfold dotsB
    refine ev_ite (fun h => ?_) (fun h => ?_)
    · rw [decide_eq_true (show 1 ≤ s.size ∧ s.size ≤ 8 by omega)]
      refine ev_ite (fun h => ?_) (fun h => ?_)
      · exact ev_some (by simp [h])
      · exact ev_some (by simp [h, bne])
    · exact ev_some (by rw [decide_eq_false (show ¬ (1 ≤ s.size ∧ s.size ≤ 8) by omega)]; rfl)
  | succ d ih =>
    intro i h0 h1 hd
    have hlt : i < (s.size : Int) := by omega
    refine Ev.step (fun k => spec_l2Name.round k s i h0 hlt) ?_
    rw [drop_bytes s i h0 hlt, List.all_cons, wrap_id (by omega) (by omega)]
    refine ev_ite (fun h => ?_) (fun h => ?_)
    · refine ev_eq (ih (i + 1) (by omega) (by omega) (by omega)) (by rw [h]; rfl)
    · exact ev_some (by rw [Bool.eq_false_iff.mpr h]; rfl)
theorem spec_l2Name.is (s : ByteArray) (hs : s.size ≤ 9223372036854775807) : Ev (fun k => spec_l2Name.f k s) (nameB s) := by
  refine ev_eq (spec_l2Name.loop s hs s.size 0 (by omega) (by omega) (by omega)) ?_
  unfold nameB partB
  show ((bytesOf s).all nb && _) = _
  cases decide (1 ≤ s.size ∧ s.size ≤ 8) <;> cases (bytesOf s).all nb <;> rfl
theorem indexName.loop (l : List Int) (hl : l.length ≤ 9223372036854775807) (d : Nat) : ∀ i : Int, 0 ≤ i → i ≤ l.length → (l.length : Int) - i = d →
    ∃ r : Int, Ev (fun k => slices_IndexFunc_byte_byte__impl_isPart_1.l0 k l (l.length : Int) i) r ∧ decide (r ≥ 0) = !(l.drop i.toNat).all nb := by
  induction d with
  | zero =>
    intro i h0 h1 hd
    refine ⟨-1, Ev.step (fun k => by rw [slices_IndexFunc_byte_byte__impl_isPart_1.l0, if_neg (by omega)]) (Ev.now _), ?_⟩
    rw [show l.drop i.toNat = [] by rw [List.drop_eq_nil_iff]; omega]; rfl
  | succ d ih =>
    intro i h0 h1 hd
    have hlt : i < (l.length : Int) := by omega
    have hstep : ∀ k, slices_IndexFunc_byte_byte__impl_isPart_1.l0 (k + 1) l (l.length : Int) i = if (!nb (rd l i)) = true then some i else slices_IndexFunc_byte_byte__impl_isPart_1.l0 k l (l.length : Int) (i + 1) := fun k => by
      rw [slices_IndexFunc_byte_byte__impl_isPart_1.l0, if_pos hlt, if_pos h0, if_pos hlt, impl_isPart_1.is, wrap_id (by omega) (by omega)]; rfl
    rw [drop_list l 0 i h0 hlt, List.all_cons]
    show ∃ r, _ ∧ decide (r ≥ 0) = !(nb (rd l i) && _)
    cases hb : nb (rd l i) with
    | false => exact ⟨i, Ev.step hstep (ev_pos (by rw [hb]; rfl) (Ev.now _)), by simp [h0]⟩
    | true =>
      obtain ⟨r, h, e⟩ := ih (i + 1) (by omega) (by omega) (by omega)
      exact ⟨r, Ev.step hstep (ev_neg (by rw [hb]; simp) h), by rw [e]; rfl⟩
theorem impl_isPart.is (s : ByteArray) : Ev (fun k => impl_isPart.f k s) (partB s) := by
  unfold impl_isPart.f partB
  refine ev_bind0 (impl_within.is _ _ _) ?_
  refine ev_ite (fun h => ?_) (fun h => ?_)
  · have h' : 1 ≤ s.size ∧ s.size ≤ 8 := by simp at h; omega
    obtain ⟨r, hr, e⟩ := indexName.loop (bytesOf s) (by rw [bytesOf_length]; omega) s.size 0 (by omega) (by rw [bytesOf_length]; omega) (by rw [bytesOf_length]; omega)
    refine ev_bind (a := decide (r ≥ 0)) (ev_bind hr (Ev.now _)) ?_
    refine ev_some ?_
    rw [e, decide_eq_true h']; simp
  · refine ev_some ?_
    have h' : ¬ (1 ≤ s.size ∧ s.size ≤ 8) := by simp at h; omega
    rw [decide_eq_false h']; rfl
end Go.Proofs.YtmhjmicplaolmaaGreatDoor.PRm
namespace Go.Proofs.YtmhjmicplaolmaaGreatDoor.PRm
open Go.RowKit Go.Proofs.YtmhjmicplaolmaaGreatDoorW.PrintWords Go.Proofs.YtmhjmicplaolmaaGreatDoorW.PrintLast Go.Proofs.YtmhjmicplaolmaaGreatDoorW.PrintMore Go.Proofs.YtmhjmicplaolmaaGreatDoor.Aid
set_option linter.unusedSimpArgs false
set_option linter.unusedVariables false
theorem rdOf_drop (l : List ByteArray) (i : Int) (h0 : 0 ≤ i) (h1 : i < (l.length : Int)) : l.drop i.toNat = rdOf ByteArray.empty l i :: l.drop (i + 1).toNat := drop_list l ByteArray.empty i h0 h1
theorem rdOf_mem (l : List ByteArray) (i : Int) (h0 : 0 ≤ i) (h1 : i < (l.length : Int)) : rdOf ByteArray.empty l i ∈ l := by
  have hl : i.toNat < l.length := by omega
  unfold rdOf
  rw [List.getD_eq_getElem?_getD, List.getElem?_eq_getElem hl]
  exact List.getElem_mem hl
theorem u8_47 (c : UInt8) : ((c.toNat : Int) = 47) ↔ c = 47 := by
  constructor
  · intro h
    have : c.toNat = (47 : UInt8).toNat := by show c.toNat = 47; omega
    exact UInt8.toNat_inj.mp this
  · rintro rfl; rfl
def addHead (c : List UInt8) : List (List UInt8) → List ByteArray
  | [] => [mk c]
  | h :: t => mk (c ++ h) :: t.map mk
theorem addHead_nil {l : List (List UInt8)} (h : l ≠ []) : addHead [] l = l.map mk := by
  cases l with
  | nil => exact absurd rfl h
  | cons a t => rfl
theorem extract_mk (s : ByteArray) (a b : Nat) : s.extract a b = mk ((s.toList.take b).drop a) := eq_of_toList (by rw [toList_extract, toList_mk, List.drop_take])
theorem spec_l1Split.loop (s : ByteArray) (hs : s.size < 4294967281) (d : Nat) : ∀ (out : List ByteArray) (a i : Int), 0 ≤ a → a ≤ i → i ≤ s.size → (out.length : Int) ≤ i → (s.size : Int) - i = d →
    Ev (fun k => spec_l1Split.l0 k s 47 out a i) (out ++ addHead ((s.toList.take i.toNat).drop a.toNat) (segs (s.toList.drop i.toNat))) := by
  induction d with
  | zero =>
    intro out a i h0 h1 h2 h3 hd
    refine Ev.step (fun k => by rw [spec_l1Split.l0, if_neg (by omega), if_pos h0, if_pos (by omega), if_pos (by omega)]) ?_
    refine ev_some ?_
    have hi : i.toNat = s.size := by omega
    have hl : s.toList.length = s.size := (size_eq s).symm
    rw [extract_mk, hi, List.take_of_length_le (by omega), List.drop_eq_nil_iff.mpr (Nat.le_of_eq hl)]
    simp [segs, addHead]
  | succ d ih =>
    intro out a i h0 h1 h2 h3 hd
    have hlt : i < (s.size : Int) := by omega
    obtain ⟨c, hc, hb⟩ := bt_toList s i (by omega) hlt
    have hil : i.toNat < s.toList.length := by rw [← size_eq]; omega
    have hdrop : s.toList.drop i.toNat = c :: s.toList.drop (i + 1).toNat := by
      rw [List.drop_eq_getElem_cons hil, show (i + 1).toNat = i.toNat + 1 by omega]
      rw [List.getElem?_eq_getElem hil] at hc
      rw [Option.some.inj hc]
    have htake : s.toList.take (i + 1).toNat = s.toList.take i.toNat ++ [c] := by
      rw [show (i + 1).toNat = i.toNat + 1 by omega, List.take_add_one, hc]; rfl
    have htl : (s.toList.take i.toNat).length = i.toNat := by rw [List.length_take]; omega
    by_cases h47 : c = 47
    · subst h47
      refine Ev.step (fun k => by rw [spec_l1Split.l0, if_pos hlt, if_pos (by omega), if_pos (by rw [hb]; rfl), if_pos h0, if_pos h1, if_pos (by omega), if_pos (by omega), wrap_id (by omega) (by omega)]) ?_
      refine ev_eq (ih (out ++ [s.extract a.toNat i.toNat]) (i + 1) (i + 1) (by omega) (by omega) (by omega) (by rw [List.length_append]; simp; omega) (by omega)) ?_
      rw [hdrop, segs_slash, List.drop_eq_nil_iff.mpr (by rw [List.length_take]; omega), addHead_nil (segs_ne _), extract_mk]
      simp [addHead]
    · refine Ev.step (fun k => by rw [spec_l1Split.l0, if_pos hlt, if_pos (by omega), if_neg (by rw [hb, u8_47]; exact h47), wrap_id (by omega) (by omega)]) ?_
      refine ev_eq (ih out a (i + 1) h0 (by omega) (by omega) (by omega) (by omega)) ?_
      obtain ⟨x, t, e, e'⟩ := segs_cons c (s.toList.drop (i + 1).toNat) h47
      rw [hdrop, e, e', htake, List.drop_append_of_le_length (by omega)]
      simp [addHead]
theorem spec_l1Split.is (s : ByteArray) (hs : s.size < 4294967281) : Ev (fun k => spec_l1Split.f k s 47) (pieces s) := by
  refine ev_eq (spec_l1Split.loop s hs s.size [] 0 0 (by omega) (by omega) (by omega) (by simp) (by omega)) ?_
  simp only [Int.toNat_zero, List.take_zero, List.drop_nil, List.drop_zero, List.nil_append]
  rw [addHead_nil (segs_ne _)]; rfl
theorem spec_l2Parts.loop (l : List ByteArray) (hl : l.length < 4294967283) (d : Nat) : ∀ (out : List ByteArray) (i : Int), 0 ≤ i → i ≤ l.length → (out.length : Int) ≤ i → (l.length : Int) - i = d →
    Ev (fun k => spec_l2Parts.l0 k out l (l.length : Int) i) (out ++ (l.drop i.toNat).filter fun p => !p.toList.isEmpty) := by
  induction d with
  | zero =>
    intro out i h0 h1 h2 hd
    refine Ev.step (fun k => by rw [spec_l2Parts.l0, if_neg (by omega)]) (ev_some ?_)
    rw [List.drop_eq_nil_iff.mpr (by omega)]; simp
  | succ d ih =>
    intro out i h0 h1 h2 hd
    have hlt : i < (l.length : Int) := by omega
    rw [rdOf_drop l i h0 hlt]
    by_cases he : (rdOf ByteArray.empty l i).toList = ([] : List UInt8)
    · refine Ev.step (fun k => by rw [spec_l2Parts.l0, if_pos hlt, if_pos h0, if_pos hlt, if_pos he, wrap_id (by omega) (by omega)]) ?_
      refine ev_eq (ih out (i + 1) (by omega) (by omega) (by omega) (by omega)) ?_
      rw [List.filter_cons_of_neg (by rw [he]; simp)]
    · refine Ev.step (fun k => by rw [spec_l2Parts.l0, if_pos hlt, if_pos h0, if_pos hlt, if_neg he, if_pos (by omega), wrap_id (by omega) (by omega)]) ?_
      refine ev_eq (ih (out ++ [rdOf ByteArray.empty l i]) (i + 1) (by omega) (by omega) (by rw [List.length_append]; simp; omega) (by omega)) ?_
      rw [List.filter_cons_of_pos (by simpa using he)]; simp
theorem spec_l2Parts.is (s : ByteArray) (hs : s.size < 4294967281) : Ev (fun k => spec_l2Parts.f k s) (parts s) := by
  have hl := pieces_length s
  refine ev_bind (spec_l1Split.is s hs) ?_
  exact ev_eq (spec_l2Parts.loop (pieces s) (by omega) (pieces s).length [] 0 (by omega) (by omega) (by simp) (by omega)) (by simp [parts])
theorem impl_partsOf.is (s : ByteArray) (hs : s.size < 4294967281) : impl_partsOf.f s = some (parts s) := by
  unfold impl_partsOf.f impl_partsOf.raw
  rw [if_pos hs, splitB_pieces]; rfl
theorem spec_l2Path.loop (s : ByteArray) (l : List ByteArray) (hl : l.length < 4294967283) (hz : ∀ p ∈ l, p.size ≤ 9223372036854775807) (d : Nat) : ∀ i : Int, 0 ≤ i → i ≤ l.length → (l.length : Int) - i = d →
    Ev (fun k => spec_l2Path.l0 k s l (l.length : Int) i) ((l.drop i.toNat).all partB && decide (1 ≤ s.size ∧ s.size ≤ 60)) := by
  induction d with
  | zero =>
    intro i h0 h1 hd
    refine Ev.step (fun k => by rw [spec_l2Path.l0, if_neg (by omega), spec_l1In.is]) ?_
    rw [List.drop_eq_nil_iff.mpr (by omega)]
    refine ev_some ?_
    rw [List.all_nil, Bool.true_and]
    exact decide_eq_decide.mpr (by omega)
  | succ d ih =>
    intro i h0 h1 hd
    have hlt : i < (l.length : Int) := by omega
    refine Ev.step (fun k => by rw [spec_l2Path.l0, if_pos hlt, if_pos h0, if_pos hlt]) ?_
    rw [rdOf_drop l i h0 hlt, List.all_cons, wrap_id (by omega) (by omega)]
    have hm := rdOf_mem l i h0 hlt
    generalize rdOf ByteArray.empty l i = p at hm ⊢
    have ih' := ih (i + 1) (by omega) (by omega) (by omega)
    refine ev_bind (spec_l2Name.is p (hz p hm)) ?_
    have hp := name_or_dots p
    refine ev_ite (fun h => ?_) (fun h => ?_)
    · rw [← hp, h]; exact ih'
    · have hn : nameB p = false := Bool.eq_false_iff.mpr h
      rw [hn, Bool.false_or] at hp
      rw [← hp]
      unfold dotsB
      refine ev_ite (fun h => ?_) (fun h => ?_)
      · rw [h]; exact ih'
      · refine ev_ite (fun h' => ?_) (fun h' => ?_)
        · rw [h']; exact ih'
        · refine ev_some ?_
          have e1 : (p.toList == [46]) = false := by simpa using h
          have e2 : (p.toList == [46, 46]) = false := by simpa using h'
          rw [e1, e2]; rfl
theorem spec_l2Path.is (s : ByteArray) (hs : s.size < 4294967281) : Ev (fun k => spec_l2Path.f k s) (pathB s) := by
  have hl := parts_length s
  refine ev_bind (spec_l2Parts.is s hs) ?_
  exact spec_l2Path.loop s (parts s) (by omega) (fun p hp => by have := parts_size hp; omega) (parts s).length 0 (by omega) (by omega) (by omega)
theorem impl_isLong_1.is (p : ByteArray) : Ev (fun k => impl_isLong_1.f k p) (!partB p) := ev_bind (impl_isPart.is p) (Ev.now _)
theorem indexLong.loop (l : List ByteArray) (hl : l.length ≤ 9223372036854775807) (d : Nat) : ∀ i : Int, 0 ≤ i → i ≤ l.length → (l.length : Int) - i = d →
    ∃ r : Int, Ev (fun k => slices_IndexFunc_string_string__impl_isLong_1.l0 k l (l.length : Int) i) r ∧ decide (r ≥ 0) = !(l.drop i.toNat).all partB := by
  induction d with
  | zero =>
    intro i h0 h1 hd
    refine ⟨-1, Ev.step (fun k => by rw [slices_IndexFunc_string_string__impl_isLong_1.l0, if_neg (by omega)]) (Ev.now _), ?_⟩
    rw [List.drop_eq_nil_iff.mpr (by omega)]; rfl
  | succ d ih =>
    intro i h0 h1 hd
    have hlt : i < (l.length : Int) := by omega
    have hstep : ∀ k, slices_IndexFunc_string_string__impl_isLong_1.l0 (k + 1) l (l.length : Int) i = (impl_isLong_1.f k (rdOf ByteArray.empty l i)).bind fun t => if t = true then some i else slices_IndexFunc_string_string__impl_isLong_1.l0 k l (l.length : Int) (i + 1) := fun k => by
      rw [slices_IndexFunc_string_string__impl_isLong_1.l0, if_pos hlt, if_pos h0, if_pos hlt, wrap_id (by omega) (by omega)]
    rw [rdOf_drop l i h0 hlt, List.all_cons]
    generalize rdOf ByteArray.empty l i = p at hstep ⊢
    have hp := impl_isLong_1.is p
    cases hb : partB p with
    | false =>
      rw [hb] at hp
      exact ⟨i, Ev.step hstep (ev_bind hp (ev_pos rfl (Ev.now _))), by simp [h0]⟩
    | true =>
      rw [hb] at hp
      obtain ⟨r, h, e⟩ := ih (i + 1) (by omega) (by omega) (by omega)
      exact ⟨r, Ev.step hstep (ev_bind hp (ev_neg (by simp) h)), by rw [e]; rfl⟩
theorem impl_isLong.is (s : ByteArray) (hs : s.size < 4294967281) : Ev (fun k => impl_isLong.f k s) (longB s) := by
  unfold impl_isLong.f longB
  have hl := parts_length s
  refine ev_ite (fun h => ?_) (fun h => ?_)
  · refine ev_some ?_
    rw [show decide (1 ≤ s.size) = false by rw [size_eq, h]; rfl, Bool.and_false]
  · refine ev_bind0 (impl_partsOf.is s hs) ?_
    obtain ⟨r, hr, e⟩ := indexLong.loop (parts s) (by omega) (parts s).length 0 (by omega) (by omega) (by omega)
    refine ev_bind (a := decide (r ≥ 0)) (ev_bind hr (Ev.now _)) (ev_some ?_)
    have h1 : 1 ≤ s.size := by
      rw [size_eq]; cases hc : s.toList with
      | nil => exact absurd hc h
      | cons c t => simp
    rw [e, decide_eq_true h1]; simp
theorem impl_GoodPath.is (s : ByteArray) : Ev (fun k => impl_GoodPath.f k s) (pathB s) := by
  unfold impl_GoodPath.f
  refine ev_ite (fun h => ?_) (fun h => ?_)
  · refine ev_bind (impl_isLong.is s (by omega)) (ev_some ?_)
    unfold longB pathB
    congr 1
    simp; omega
  · refine ev_some ?_
    unfold pathB
    rw [decide_eq_false (show ¬ (1 ≤ s.size ∧ s.size ≤ 60) by omega), Bool.and_false]
end Go.Proofs.YtmhjmicplaolmaaGreatDoor.PRm
