/- Clean paths: what the program's and the reference's functions tell. -/
import Derived.Test.YtkkcpgahgehedaaDoorPathA
import Derived.Test.YtkkcpgahgehedaaDoorPPathx11
namespace Go.Proofs.YtkkcpgahgehedaaDoor.PPath
open Go.RowKit Go.Proofs.YtkkcpgahgehedaaDoorW.PrintWords Go.Proofs.YtkkcpgahgehedaaDoorW.PrintLast Go.Proofs.YtkkcpgahgehedaaDoorW.PrintMore Go.Proofs.YtkkcpgahgehedaaDoor.Aid
set_option linter.unusedSimpArgs false
set_option linter.unusedVariables false

theorem rdOf_last (l : List ByteArray) (h : 0 < l.length) : l.getLast? = some (rdOf ByteArray.empty l ((l.length : Int) - 1)) := by
  have hl : l.length - 1 < l.length := by omega
  unfold rdOf
  rw [List.getLast?_eq_getElem?, show ((l.length : Int) - 1).toNat = l.length - 1 by omega, List.getD_eq_getElem?_getD, List.getElem?_eq_getElem hl]; rfl
theorem lastDots_pos (l : List ByteArray) (h : 0 < l.length) : lastDots l = decide (dots (rdOf ByteArray.empty l ((l.length : Int) - 1))) := by
  unfold lastDots; rw [rdOf_last l h]
theorem step_dot {w : Bool} {acc : List ByteArray} {p : ByteArray} (h : dot p) : cleanStep w acc p = acc := if_pos h
theorem step_no {w : Bool} {acc : List ByteArray} {p : ByteArray} (h : ¬ dot p) (h2 : ¬ dots p) : cleanStep w acc p = acc ++ [p] := by unfold cleanStep; rw [if_neg h, if_neg h2]
theorem step_up {w : Bool} {acc : List ByteArray} {p : ByteArray} (h : ¬ dot p) (h2 : dots p) (h3 : lastDots acc = false) : cleanStep w acc p = acc.dropLast := by unfold cleanStep; rw [if_neg h, if_pos h2, if_pos h3]
theorem step_whole {acc : List ByteArray} {p : ByteArray} (h : ¬ dot p) (h2 : dots p) (h3 : lastDots acc = true) : cleanStep true acc p = acc := by unfold cleanStep; rw [if_neg h, if_pos h2, if_neg (by rw [h3]; simp), if_pos rfl]
theorem step_part {acc : List ByteArray} {p : ByteArray} (h : ¬ dot p) (h2 : dots p) (h3 : lastDots acc = true) : cleanStep false acc p = acc ++ [p] := by unfold cleanStep; rw [if_neg h, if_pos h2, if_neg (by rw [h3]; simp), if_neg (by simp)]
def wh (s : ByteArray) : Bool := bt s 0 == 47
def cl (s : ByteArray) : List ByteArray := cleanL (wh s) (parts s)

theorem spec_l2Clean.loop (s : ByteArray) (hs : 1 ≤ s.size) (l : List ByteArray) (hl : l.length < 4294967283) (d : Nat) : ∀ (acc : List ByteArray) (i : Int), 0 ≤ i → i ≤ l.length → (acc.length : Int) ≤ i → (l.length : Int) - i = d →
    Ev (fun k => spec_l2Clean.l0 k s acc l (l.length : Int) i) ((l.drop i.toNat).foldl (cleanStep (wh s)) acc) := by
  induction d with
  | zero =>
    intro acc i h0 h1 h2 hd
    refine Ev.step (fun k => by rw [spec_l2Clean.l0, if_neg (by omega)]) (ev_some ?_)
    rw [List.drop_eq_nil_iff.mpr (by omega)]; rfl
  | succ d ih =>
    intro acc i h0 h1 h2 hd
    have hlt : i < (l.length : Int) := by omega
    rw [rdOf_drop l i h0 hlt, List.foldl_cons]
    have hst := cleanStep_length (wh s) acc (rdOf ByteArray.empty l i)
    have ihs := ih (cleanStep (wh s) acc (rdOf ByteArray.empty l i)) (i + 1) (by omega) (by omega) (by omega) (by omega)
    by_cases hp1 : (rdOf ByteArray.empty l i).toList = ([46] : List UInt8)
    · refine Ev.step (fun k => by rw [spec_l2Clean.l0, if_pos hlt, if_pos h0, if_pos hlt, if_pos hp1, wrap_id (by omega) (by omega)]) ?_
      rwa [step_dot hp1] at ihs ⊢
    by_cases hp2 : (rdOf ByteArray.empty l i).toList = ([46, 46] : List UInt8)
    · have hno : lastDots acc = true → Ev (fun k => spec_l2Clean.j1 k s acc (rdOf ByteArray.empty l i) (acc.length : Int) l (l.length : Int) i false) ((l.drop (i + 1).toNat).foldl (cleanStep (wh s)) (cleanStep (wh s) acc (rdOf ByteArray.empty l i))) := fun hld => by
        by_cases hw : bt s 0 = 47
        · have hwh : wh s = true := by unfold wh; rw [hw]; rfl
          rw [hwh] at ihs ⊢
          rw [step_whole hp1 hp2 hld] at ihs ⊢
          refine Ev.step (fun k => by rw [spec_l2Clean.j1, if_neg (by simp), if_pos hp2, if_pos (by omega), if_pos hw, wrap_id (by omega) (by omega)]) ihs
        · have hwh : wh s = false := by unfold wh; simpa using hw
          rw [hwh] at ihs ⊢
          rw [step_part hp1 hp2 hld] at ihs ⊢
          refine Ev.step (fun k => by rw [spec_l2Clean.j1, if_neg (by simp), if_pos hp2, if_pos (by omega), if_neg hw, if_pos (by omega), wrap_id (by omega) (by omega)]) ihs
      by_cases h3 : 0 < acc.length
      · refine Ev.step (fun k => by rw [spec_l2Clean.l0, if_pos hlt, if_pos h0, if_pos hlt, if_neg hp1, if_pos hp2, if_pos (by omega), wrap_id (by omega) (by omega), if_pos (by omega), if_pos (by omega)]) ?_
        have hld := lastDots_pos acc h3
        by_cases h4 : (rdOf ByteArray.empty acc ((acc.length : Int) - 1)).toList = ([46, 46] : List UInt8)
        · rw [show ((rdOf ByteArray.empty acc ((acc.length : Int) - 1)).toList != ([46, 46] : List UInt8)) = false by rw [h4]; rfl]
          exact hno (by rw [hld]; exact decide_eq_true h4)
        · rw [show ((rdOf ByteArray.empty acc ((acc.length : Int) - 1)).toList != ([46, 46] : List UInt8)) = true by simpa using h4]
          have hf : lastDots acc = false := by rw [hld]; exact decide_eq_false h4
          rw [step_up hp1 hp2 hf] at ihs ⊢
          refine Ev.step (fun k => by rw [spec_l2Clean.j1, if_pos rfl, wrap_id (by omega) (by omega), if_pos (by omega), if_pos (by omega), wrap_id (by omega) (by omega)]) ?_
          rw [show acc.take ((acc.length : Int) - 1).toNat = acc.dropLast by rw [List.dropLast_eq_take, show ((acc.length : Int) - 1).toNat = acc.length - 1 by omega]]
          exact ihs
      · have hn : acc = [] := List.eq_nil_of_length_eq_zero (by omega)
        refine Ev.step (fun k => by rw [spec_l2Clean.l0, if_pos hlt, if_pos h0, if_pos hlt, if_neg hp1, if_pos hp2, if_neg (by omega)]) ?_
        exact hno (by rw [hn]; rfl)
    · refine Ev.step (fun k => by rw [spec_l2Clean.l0, if_pos hlt, if_pos h0, if_pos hlt, if_neg hp1, if_neg hp2]) ?_
      rw [step_no hp1 hp2] at ihs ⊢
      refine Ev.step (fun k => by rw [spec_l2Clean.j1, if_neg (by simp), if_neg hp2, if_pos (by omega), wrap_id (by omega) (by omega)]) ihs
theorem spec_l2Clean.is (s : ByteArray) (hs : 1 ≤ s.size) (hs2 : s.size < 4294967281) : Ev (fun k => spec_l2Clean.f k s) (cl s) := by
  have hl := parts_length s
  refine ev_bind (spec_l2Parts.is s hs2) ?_
  exact spec_l2Clean.loop s hs (parts s) (by omega) (parts s).length [] 0 (by omega) (by omega) (by simp) (by omega)

/-! ### texts of parts -/
theorem strings_Join.is (ps : List ByteArray) (n : Nat) (hn : ps.length ≤ n) (hz : ∀ p ∈ ps, p.size ≤ 60) (hb : n ≤ 61) : strings_Join.f ps ⟨#[47]⟩ = some (mk (joinL ps)) := by
  have h := joinL_length ps 60 hz
  unfold strings_Join.f
  rw [if_pos]
  · rfl
  · refine ⟨by omega, ?_⟩
    have h2 : (Lib.join (ps.map (·.data.toList)) (⟨#[47]⟩ : ByteArray).data.toList).length = (joinL ps).length := rfl
    have : ps.length * (60 + 1) ≤ 61 * 61 := Nat.mul_le_mul (by omega) (by omega)
    omega
theorem impl_pathOf.is (ps : List ByteArray) (n : Nat) (hn : ps.length ≤ n) (hz : ∀ p ∈ ps, p.size ≤ 60) (hb : n ≤ 61) : impl_pathOf.f ps = some (pathText ps) := by
  unfold impl_pathOf.f
  rw [strings_Join.is ps n hn hz hb, Option.bind_some, if_pos]
  · rw [show (⟨#[47]⟩ : ByteArray) ++ mk (joinL ps) = pathText ps from eq_of_toList (by rw [toList_append, toList_mk, pathText, toList_mk, show (⟨#[47]⟩ : ByteArray).toList = [47] from toList_mk [47]]; rfl)]
  · rw [size_mk]
    have h := joinL_length ps 60 hz
    have : ps.length * (60 + 1) ≤ 61 * 61 := Nat.mul_le_mul (by omega) (by omega)
    omega
theorem nil_toList : (⟨#[]⟩ : ByteArray).toList = [] := toList_mk []
def slashed (ps : List ByteArray) : List UInt8 := ps.flatMap fun p => 47 :: p.toList
theorem slashed_join : ∀ (p : ByteArray) (ps : List ByteArray), slashed (p :: ps) = 47 :: joinL (p :: ps)
  | p, [] => by rw [joinL_one]; simp [slashed]
  | p, q :: ps => by
    rw [joinL_cons, slashed, List.flatMap_cons, ← slashed, slashed_join q ps]; rfl
theorem spec_l2Of.loop (l : List ByteArray) (hl : l.length ≤ 4294967283) (hz : ∀ p ∈ l, p.size ≤ 1048576) (d : Nat) : ∀ (acc : ByteArray) (i : Int), 0 ≤ i → i ≤ l.length → (acc.size : Int) ≤ i * 1048577 → (l.length : Int) - i = d →
    Ev (fun k => spec_l2Of.l0 k acc l (l.length : Int) i) (mk (acc.toList ++ slashed (l.drop i.toNat))) := by
  induction d with
  | zero =>
    intro acc i h0 h1 h2 hd
    refine Ev.step (fun k => by rw [spec_l2Of.l0, if_neg (by omega)]) (ev_some ?_)
    rw [List.drop_eq_nil_iff.mpr (by omega), slashed]; simp [mk_toList]
  | succ d ih =>
    intro acc i h0 h1 h2 hd
    have hlt : i < (l.length : Int) := by omega
    have hm := hz _ (rdOf_mem l i h0 hlt)
    rw [rdOf_drop l i h0 hlt]
    generalize hp : rdOf ByteArray.empty l i = p at hm ⊢
    have e : ((⟨#[47]⟩ : ByteArray) ++ p).toList = 47 :: p.toList := by rw [toList_append, show (⟨#[47]⟩ : ByteArray).toList = [47] from toList_mk [47]]; rfl
    have ez : ((acc ++ ((⟨#[47]⟩ : ByteArray) ++ p)).size : Int) = acc.size + 1 + p.size := by
      rw [size_eq, toList_append, e, List.length_append, List.length_cons, ← size_eq, ← size_eq]; omega
    refine Ev.step (fun k => by rw [spec_l2Of.l0, if_pos hlt, if_pos h0, if_pos hlt, hp, if_pos (by omega), if_pos (by omega), wrap_id (by omega) (by omega)]) ?_
    refine ev_eq (ih (acc ++ ((⟨#[47]⟩ : ByteArray) ++ p)) (i + 1) (by omega) (by omega) (by omega) (by omega)) ?_
    rw [toList_append, e, slashed, slashed, List.flatMap_cons, List.append_assoc]
theorem spec_l2Of.is (l : List ByteArray) (hl : l.length ≤ 4294967283) (hz : ∀ p ∈ l, p.size ≤ 1048576) : Ev (fun k => spec_l2Of.f k l) (pathText l) := by
  cases l with
  | nil => exact ev_pos rfl (ev_some rfl)
  | cons p ps =>
    refine ev_neg (by simp; omega) ?_
    refine ev_eq (spec_l2Of.loop (p :: ps) hl hz (p :: ps).length ⟨#[]⟩ 0 (by omega) (by omega) (by rw [size_eq, nil_toList]; simp) (by omega)) ?_
    rw [Int.toNat_zero, List.drop_zero, slashed_join, nil_toList]; rfl

/-! ### the bounds of a good path -/
theorem pathB_size {s : ByteArray} (h : pathB s = true) : 1 ≤ s.size ∧ s.size ≤ 60 := by
  unfold pathB at h
  rw [Bool.and_eq_true] at h
  exact of_decide_eq_true h.2
theorem pathB_part {s p : ByteArray} (h : pathB s = true) (hp : p ∈ parts s) : partB p = true := by
  unfold pathB at h
  rw [Bool.and_eq_true] at h
  exact List.all_eq_true.1 h.1 p hp
theorem cl_mem {s p : ByteArray} (h : p ∈ cl s) : p ∈ parts s ∧ ¬ dot p := cleanL_mem h
theorem cl_length (s : ByteArray) : (cl s).length ≤ s.size + 1 := by
  have h1 := clean_length (wh s) (parts s) []
  have h2 := parts_length s
  unfold cl cleanL; simp only [List.length_nil] at h1; omega
theorem cl_size {s p : ByteArray} (h : p ∈ cl s) : p.size ≤ s.size := parts_size (cl_mem h).1

theorem impl_clean.loop (w : Bool) (l : List ByteArray) (hl : l.length ≤ 61) (hz : ∀ p ∈ l, p.size ≤ 60) (d : Nat) : ∀ (acc : List ByteArray) (i : Int), 0 ≤ i → i ≤ l.length → (acc.length : Int) ≤ i → (∀ p ∈ acc, p.size ≤ 60) → (l.length : Int) - i = d →
    Ev (fun k => impl_clean.l0 k w acc l (l.length : Int) i) (cleanText w ((l.drop i.toNat).foldl (cleanStep w) acc)) := by
  induction d with
  | zero =>
    intro acc i h0 h1 h2 hza hd
    have hj := strings_Join.is acc 61 (by omega) hza (by omega)
    have hpo := impl_pathOf.is acc 61 (by omega) hza (by omega)
    refine Ev.step (fun k => by rw [impl_clean.l0, if_neg (by omega)]) ?_
    rw [List.drop_eq_nil_iff.mpr (by omega), List.foldl_nil]
    refine ev_ite (fun h => ?_) (fun h => ?_)
    · exact ev_bind0 hpo (ev_some (by unfold cleanText; rw [if_pos h]))
    · refine ev_ite (fun h' => ?_) (fun h' => ?_)
      · have hn : acc = [] := List.eq_nil_of_length_eq_zero (by omega)
        exact ev_some (by unfold cleanText; rw [if_neg h, if_pos hn]; rfl)
      · exact ev_bind0 hj (ev_some (by unfold cleanText; rw [if_neg h, if_neg (by intro e; rw [e] at h'; simp at h')]))
  | succ d ih =>
    intro acc i h0 h1 h2 hza hd
    have hlt : i < (l.length : Int) := by omega
    have hm := hz _ (rdOf_mem l i h0 hlt)
    rw [rdOf_drop l i h0 hlt, List.foldl_cons]
    have hst := cleanStep_length w acc (rdOf ByteArray.empty l i)
    have ihs := ih (cleanStep w acc (rdOf ByteArray.empty l i)) (i + 1) (by omega) (by omega) (by omega) (fun q hq => by
      rcases cleanStep_mem hq with hq | ⟨rfl, _⟩
      · exact hza q hq
      · exact hm) (by omega)
    by_cases hp1 : (rdOf ByteArray.empty l i).toList = ([46] : List UInt8)
    · refine Ev.step (fun k => by rw [impl_clean.l0, if_pos hlt, if_pos h0, if_pos hlt, if_pos hp1, wrap_id (by omega) (by omega)]) ?_
      rwa [step_dot hp1] at ihs ⊢
    by_cases hp2 : (rdOf ByteArray.empty l i).toList = ([46, 46] : List UInt8)
    · have hno : lastDots acc = true → Ev (fun k => impl_clean.j1 k w acc (rdOf ByteArray.empty l i) (wrap64 ((acc.length : Int) - 1)) l (l.length : Int) i false) (cleanText w ((l.drop (i + 1).toNat).foldl (cleanStep w) (cleanStep w acc (rdOf ByteArray.empty l i)))) := fun hld => by
        cases w with
        | true =>
          rw [step_whole hp1 hp2 hld] at ihs ⊢
          refine Ev.step (fun k => by rw [impl_clean.j1, if_neg (by simp), if_pos rfl, wrap_id (x := i + 1) (by omega) (by omega)]) ihs
        | false =>
          rw [step_part hp1 hp2 hld] at ihs ⊢
          refine Ev.step (fun k => by rw [impl_clean.j1, if_neg (by simp), if_neg (by simp), if_pos (by omega), wrap_id (x := i + 1) (by omega) (by omega)]) ihs
      by_cases h3 : 0 < acc.length
      · have hwr : wrap64 ((acc.length : Int) - 1) = (acc.length : Int) - 1 := wrap_id (by omega) (by omega)
        rw [hwr] at hno
        refine Ev.step (fun k => by rw [impl_clean.l0, if_pos hlt, if_pos h0, if_pos hlt, if_neg hp1, if_pos hp2, hwr, if_pos (by omega), if_pos (by omega), if_pos (by omega)]) ?_
        have hld := lastDots_pos acc h3
        by_cases h4 : (rdOf ByteArray.empty acc ((acc.length : Int) - 1)).toList = ([46, 46] : List UInt8)
        · rw [show ((rdOf ByteArray.empty acc ((acc.length : Int) - 1)).toList != ([46, 46] : List UInt8)) = false by rw [h4]; rfl]
          exact hno (by rw [hld]; exact decide_eq_true h4)
        · rw [show ((rdOf ByteArray.empty acc ((acc.length : Int) - 1)).toList != ([46, 46] : List UInt8)) = true by simpa using h4]
          have hf : lastDots acc = false := by rw [hld]; exact decide_eq_false h4
          rw [step_up hp1 hp2 hf] at ihs ⊢
          refine Ev.step (fun k => by rw [impl_clean.j1, if_pos rfl, if_pos (by omega), if_pos (by omega), wrap_id (x := i + 1) (by omega) (by omega)]) ?_
          rw [show acc.take ((acc.length : Int) - 1).toNat = acc.dropLast by rw [List.dropLast_eq_take, show ((acc.length : Int) - 1).toNat = acc.length - 1 by omega]]
          exact ihs
      · have hn : acc = [] := List.eq_nil_of_length_eq_zero (by omega)
        refine Ev.step (fun k => by rw [impl_clean.l0, if_pos hlt, if_pos h0, if_pos hlt, if_neg hp1, if_pos hp2, if_neg (by rw [wrap_id (by omega) (by omega)]; omega)]) ?_
        exact hno (by rw [hn]; rfl)
    · rw [step_no hp1 hp2] at ihs ⊢
      refine Ev.step (fun k => by rw [impl_clean.l0, if_pos hlt, if_pos h0, if_pos hlt, if_neg hp1, if_neg hp2, if_pos (by omega), wrap_id (by omega) (by omega)]) ihs
theorem impl_clean.is (s : ByteArray) (h : pathB s = true) : Ev (fun k => impl_clean.f k s) (cleanText (wh s) (cl s)) := by
  obtain ⟨h1, h2⟩ := pathB_size h
  have hl := parts_length s
  refine ev_pos (by omega) (ev_bind0 (impl_partsOf.is s (by omega)) ?_)
  exact impl_clean.loop (wh s) (parts s) (by omega) (fun p hp => by have := parts_size hp; omega) (parts s).length [] 0 (by omega) (by omega) (by simp) (by simp) (by omega)
theorem joinSize {s : ByteArray} (h : pathB s = true) : (joinL (cl s)).length ≤ 3721 := by
  obtain ⟨h1, h2⟩ := pathB_size h
  have a := cl_length s
  have b := joinL_length (cl s) 60 (fun p hp => by have := cl_size hp; omega)
  have : (cl s).length * (60 + 1) ≤ 61 * 61 := Nat.mul_le_mul (by omega) (by omega)
  omega
theorem pathText_toList (ps : List ByteArray) : (pathText ps).toList = 47 :: joinL ps := toList_mk _
theorem pathText_rest (ps : List ByteArray) : (pathText ps).extract 1 (pathText ps).size = mk (joinL ps) := by
  refine eq_of_toList ?_
  rw [toList_extract, toList_mk, pathText_toList, size_eq, pathText_toList]; simp
theorem pathText_size (ps : List ByteArray) : 1 ≤ (pathText ps).size := by rw [size_eq, pathText_toList]; simp
theorem spec_l2CleanText.is (s : ByteArray) (h : pathB s = true) : Ev (fun k => spec_l2CleanText.f k s) (cleanText (wh s) (cl s)) := by
  obtain ⟨h1, h2⟩ := pathB_size h
  have a := cl_length s
  have hof := spec_l2Of.is (cl s) (by omega) (fun p hp => by have := cl_size hp; omega)
  refine ev_bind (spec_l2Clean.is s h1 (by omega)) (ev_pos (by omega) (ev_ite (fun hw => ?_) (fun hw => ?_)))
  · have hwh : wh s = true := by unfold wh; rw [hw]; rfl
    exact ev_bind hof (ev_some (by unfold cleanText; rw [if_pos hwh]))
  · have hwh : wh s = false := by unfold wh; simpa using hw
    rw [hwh]
    refine ev_ite (fun h' => ?_) (fun h' => ?_)
    · have hn : cl s = [] := List.eq_nil_of_length_eq_zero (by omega)
      exact ev_some (by unfold cleanText; rw [if_neg (by simp), if_pos hn]; rfl)
    · refine ev_bind hof (ev_pos (by have := pathText_size (cl s); omega) (ev_some ?_))
      unfold cleanText; rw [if_neg (by simp), if_neg (by intro e; rw [e] at h'; simp at h'), pathText_rest]
def cleanR (s : ByteArray) : ByteArray × Bool := if pathB s = true then (cleanText (wh s) (cl s), true) else (⟨#[]⟩, false)
theorem spec_CleanPath.is (s : ByteArray) (hs : s.size < 4294967281) : Ev (fun k => spec_CleanPath.f k s) (cleanR s) := by
  refine ev_bind (spec_l2Path.is s hs) (ev_ite (fun h => ?_) (fun h => ?_))
  · exact ev_bind (spec_l2CleanText.is s h) (ev_some (by unfold cleanR; rw [if_pos h]))
  · exact ev_some (by unfold cleanR; rw [if_neg h])
theorem impl_CleanPath.is (s : ByteArray) : Ev (fun k => impl_CleanPath.f k s) (cleanR s) := by
  refine ev_bind (impl_GoodPath.is s) (ev_ite (fun h => ?_) (fun h => ?_))
  · exact ev_bind (impl_clean.is s h) (ev_some (by unfold cleanR; rw [if_pos h]))
  · exact ev_some (by unfold cleanR; rw [if_neg h])
end Go.Proofs.YtkkcpgahgehedaaDoor.PPath

