/- Texts of parts, joined. No condition. -/
import Derived.Test.YteffcglgdfhkmaaDoorGood
import Derived.Test.YteffcglgdfhkmaaDoorPFsx19
import Derived.Test.YteffcglgdfhkmaaDoorPFsx20
import Derived.Test.YteffcglgdfhkmaaDoorPFsx21
namespace Go.Proofs.YteffcglgdfhkmaaDoor.PFs
open Go.RowKit Go.Proofs.YteffcglgdfhkmaaDoorW.PrintWords Go.Proofs.YteffcglgdfhkmaaDoorW.PrintLast Go.Proofs.YteffcglgdfhkmaaDoorW.PrintMore Go.Proofs.YteffcglgdfhkmaaDoor.Aid
set_option linter.unusedSimpArgs false
set_option linter.unusedVariables false
/-! ### texts of parts -/
theorem strings_Join.is (ps : List ByteArray) (n : Nat) (hn : ps.length ≤ n) (hz : ∀ p ∈ ps, p.size ≤ 60) (hb : n ≤ 61) : strings_Join.f ps ⟨#[47]⟩ = some (mk (joinL ps)) := by
  have h := joinL_length ps 60 hz
  unfold strings_Join.f
  rw [if_pos]
  · rfl
  · refine ⟨by omega, ?_⟩
    have h2 : (Lib.join (ps.map (·.data.toList)) (⟨#[47]⟩ : ByteArray).data.toList).length = (joinL ps).length := rfl
    have : ps.length * (60 + 1) ≤ 61 * 61 := Nat.mul_le_mul (by omega) (by omega)
    omega
theorem impl_pathOf.is (ps : List ByteArray) (n : Nat) (hn : ps.length ≤ n) (hz : ∀ p ∈ ps, p.size ≤ 60) (hb : n ≤ 61) : impl_pathOf.f ps = some (pathText ps) := by
  unfold impl_pathOf.f
  rw [strings_Join.is ps n hn hz hb, Option.bind_some, if_pos]
  · rw [show (⟨#[47]⟩ : ByteArray) ++ mk (joinL ps) = pathText ps from eq_of_toList (by rw [toList_append, toList_mk, pathText, toList_mk, show (⟨#[47]⟩ : ByteArray).toList = [47] from toList_mk [47]]; rfl)]
  · rw [size_mk]
    have h := joinL_length ps 60 hz
    have : ps.length * (60 + 1) ≤ 61 * 61 := Nat.mul_le_mul (by omega) (by omega)
    omega
theorem nil_toList : (⟨#[]⟩ : ByteArray).toList = [] := toList_mk []
def slashed (ps : List ByteArray) : List UInt8 := ps.flatMap fun p => 47 :: p.toList
theorem slashed_join : ∀ (p : ByteArray) (ps : List ByteArray), slashed (p :: ps) = 47 :: joinL (p :: ps)
  | p, [] => by rw [joinL_one]; simp [slashed]
  | p, q :: ps => by
    rw [joinL_cons, slashed, List.flatMap_cons, ← slashed, slashed_join q ps]; rfl
theorem spec_l2Of.loop (l : List ByteArray) (hl : l.length ≤ 4294967283) (hz : ∀ p ∈ l, p.size ≤ 1048576) (d : Nat) : ∀ (acc : ByteArray) (i : Int), 0 ≤ i → i ≤ l.length → (acc.size : Int) ≤ i * 1048577 → (l.length : Int) - i = d →
    Ev (fun k => spec_l2Of.l0 k acc l (l.length : Int) i) (mk (acc.toList ++ slashed (l.drop i.toNat))) := by
  induction d with
  | zero =>
    intro acc i h0 h1 h2 hd
    refine Ev.step (fun k => by rw [spec_l2Of.l0, if_neg (by omega)]) (ev_some ?_)
    rw [List.drop_eq_nil_iff.mpr (by omega), slashed]; simp [mk_toList]
  | succ d ih =>
    intro acc i h0 h1 h2 hd
    have hlt : i < (l.length : Int) := by omega
    have hm := hz _ (rdOf_mem l i h0 hlt)
    rw [rdOf_drop l i h0 hlt]
    generalize hp : rdOf ByteArray.empty l i = p at hm ⊢
    have e : ((⟨#[47]⟩ : ByteArray) ++ p).toList = 47 :: p.toList := by rw [toList_append, show (⟨#[47]⟩ : ByteArray).toList = [47] from toList_mk [47]]; rfl
    have ez : ((acc ++ ((⟨#[47]⟩ : ByteArray) ++ p)).size : Int) = acc.size + 1 + p.size := by
      rw [size_eq, toList_append, e, List.length_append, List.length_cons, ← size_eq, ← size_eq]; omega
    refine Ev.step (fun k => by rw [spec_l2Of.l0, if_pos hlt, if_pos h0, if_pos hlt, hp, if_pos (by omega), if_pos (by omega), wrap_id (by omega) (by omega)]) ?_
    refine ev_eq (ih (acc ++ ((⟨#[47]⟩ : ByteArray) ++ p)) (i + 1) (by omega) (by omega) (by omega) (by omega)) ?_
    rw [toList_append, e, slashed, slashed, List.flatMap_cons, List.append_assoc]
theorem spec_l2Of.is (l : List ByteArray) (hl : l.length ≤ 4294967283) (hz : ∀ p ∈ l, p.size ≤ 1048576) : Ev (fun k => spec_l2Of.f k l) (pathText l) := by
  cases l with
  | nil => exact ev_pos rfl (ev_some rfl)
  | cons p ps =>
    refine ev_neg (by simp; omega) ?_
    refine ev_eq (spec_l2Of.loop (p :: ps) hl hz (p :: ps).length ⟨#[]⟩ 0 (by omega) (by omega) (by rw [size_eq, nil_toList]; simp) (by omega)) ?_
    rw [Int.toNat_zero, List.drop_zero, slashed_join, nil_toList]; rfl

end Go.Proofs.YteffcglgdfhkmaaDoor.PFs

/- slices.Reverse at texts. No condition. -/
namespace Go.Proofs.YteffcglgdfhkmaaDoor.PFs
open Go.RowKit Go.Proofs.YteffcglgdfhkmaaDoorW.PrintWords Go.Proofs.YteffcglgdfhkmaaDoorW.PrintLast Go.Proofs.YteffcglgdfhkmaaDoorW.PrintMore Go.Proofs.YteffcglgdfhkmaaDoor.Aid
set_option linter.unusedSimpArgs false
set_option linter.unusedVariables false
def RevAt (l x : List ByteArray) (i : Nat) : Prop := x.length = l.length ∧ ∀ m, m < l.length → x[m]? = if m < i ∨ l.length ≤ m + i then l[l.length - 1 - m]? else l[m]?
theorem rdOf_get (l : List ByteArray) (i : Int) (h0 : 0 ≤ i) (h1 : i < (l.length : Int)) : l[i.toNat]? = some (rdOf ByteArray.empty l i) := by
  have hl : i.toNat < l.length := by omega
  unfold rdOf
  rw [List.getD_eq_getElem?_getD, List.getElem?_eq_getElem hl]; rfl
theorem RevAt.step {l x : List ByteArray} {i : Nat} (h : RevAt l x i) (hi : 2 * i + 1 < l.length) : RevAt l ((x.set i (rdOf ByteArray.empty x ((l.length : Int) - 1 - i))).set (l.length - 1 - i) (rdOf ByteArray.empty x (i : Int))) (i + 1) := by
  obtain ⟨hl, hx⟩ := h
  refine ⟨by rw [List.length_set, List.length_set]; exact hl, fun m hm => ?_⟩
  have e1 : x[i]? = some (rdOf ByteArray.empty x (i : Int)) := by
    have := rdOf_get x (i : Int) (by omega) (by omega)
    rwa [show (i : Int).toNat = i by omega] at this
  have e2 : x[l.length - 1 - i]? = some (rdOf ByteArray.empty x ((l.length : Int) - 1 - i)) := by
    have := rdOf_get x ((l.length : Int) - 1 - i) (by omega) (by omega)
    rwa [show ((l.length : Int) - 1 - i).toNat = l.length - 1 - i by omega] at this
  by_cases c1 : m = l.length - 1 - i
  · subst c1
    rw [List.getElem?_set_self (by rw [List.length_set]; omega), if_pos (by omega), ← e1, hx i (by omega), if_neg (by omega)]
    congr 1; omega
  · rw [List.getElem?_set_ne (by omega)]
    by_cases c2 : m = i
    · subst c2
      rw [List.getElem?_set_self (by omega), if_pos (by omega), ← e2, hx _ (by omega), if_neg (by omega)]
    · rw [List.getElem?_set_ne (by omega), hx m hm]
      by_cases c3 : m < i ∨ l.length ≤ m + i
      · rw [if_pos c3, if_pos (by omega)]
      · rw [if_neg c3, if_neg (by omega)]
theorem RevAt.done {l x : List ByteArray} {i : Nat} (h : RevAt l x i) (hi : l.length ≤ 2 * i + 1) : x = l.reverse := by
  obtain ⟨hl, hx⟩ := h
  refine List.ext_getElem? fun m => ?_
  by_cases hm : m < l.length
  · rw [List.getElem?_reverse hm, hx m hm]
    by_cases c : m < i ∨ l.length ≤ m + i
    · rw [if_pos c]
    · rw [if_neg c]; congr 1; omega
  · rw [List.getElem?_eq_none (by omega), List.getElem?_eq_none (by rw [List.length_reverse]; omega)]
theorem rev_loop (l : List ByteArray) (hM : l.length ≤ 8796093022208) (d : Nat) : ∀ (i : Nat) (x : List ByteArray), RevAt l x i → 2 * i ≤ l.length → l.length - 2 * i ≤ d → Ev (fun k => slices_Reverse_string_string.l0 k x (i : Int) ((l.length : Int) - 1 - i)) l.reverse := by
  induction d with
  | zero =>
    intro i x h h2 hd
    have := h.done (by omega)
    subst this
    exact Ev.step (fun k => by rw [slices_Reverse_string_string.l0, if_neg (by omega)]) (Ev.now _)
  | succ d ih =>
    intro i x h h2 hd
    by_cases hlt : (i : Int) < (l.length : Int) - 1 - i
    · have hl := h.1
      have e : ((x.set ((i : Int)).toNat (rdOf ByteArray.empty x ((l.length : Int) - 1 - i))).set ((l.length : Int) - 1 - i).toNat (rdOf ByteArray.empty x (i : Int))) = ((x.set i (rdOf ByteArray.empty x ((l.length : Int) - 1 - i))).set (l.length - 1 - i) (rdOf ByteArray.empty x (i : Int))) := by
        rw [show (i : Int).toNat = i by omega, show ((l.length : Int) - 1 - i).toNat = l.length - 1 - i by omega]
      have := ih (i + 1) _ (h.step (by omega)) (by omega) (by omega)
      refine Ev.step (fun k => by rw [slices_Reverse_string_string.l0, if_pos hlt, if_pos (by omega), if_pos (by omega), if_pos (by omega), if_pos (by omega), e, wrap_id (x := (i : Int) + 1) (by omega) (by omega), wrap_id (x := (l.length : Int) - 1 - i - 1) (by omega) (by omega)]) ?_
      rw [show ((i : Int) + 1) = ((i + 1 : Nat) : Int) by omega, show (l.length : Int) - 1 - i - 1 = (l.length : Int) - 1 - ((i + 1 : Nat) : Int) by omega]
      exact this
    · have := h.done (by omega)
      subst this
      exact Ev.step (fun k => by rw [slices_Reverse_string_string.l0, if_neg (by omega)]) (Ev.now _)
theorem slices_Reverse.is (l : List ByteArray) (hM : l.length ≤ 8796093022208) : Ev (fun k => slices_Reverse_string_string.f k l) l.reverse := by
  have h := rev_loop l hM l.length 0 l ⟨rfl, fun m hm => by rw [if_neg (by omega)]⟩ (by omega) (by omega)
  unfold slices_Reverse_string_string.f
  rw [wrap_id (by omega) (by omega)]
  simpa using h
end Go.Proofs.YteffcglgdfhkmaaDoor.PFs

/- PathTo of the program and of the reference agree at every file system: no condition. -/
namespace Go.Proofs.YteffcglgdfhkmaaDoor.PFs
open Go.RowKit Go.Proofs.YteffcglgdfhkmaaDoorW.PrintWords Go.Proofs.YteffcglgdfhkmaaDoorW.PrintLast Go.Proofs.YteffcglgdfhkmaaDoorW.PrintMore Go.Proofs.YteffcglgdfhkmaaDoor.Aid Go.Proofs.YteffcglgdfhkmaaDoor.AllLoop Go.Proofs.YteffcglgdfhkmaaDoor.Loops Go.Proofs.YteffcglgdfhkmaaDoor.Put Go.Proofs.YteffcglgdfhkmaaDoor.Graph
set_option linter.unusedSimpArgs false
set_option linter.unusedVariables false
theorem impl_isGoodAt_is (ns : List S53) (room a : Int) (hn' : ns.length ≤ 1048576) {r : Bool} (hi : Ev (fun k => impl_GoodFs.f k ns room) r) (e : r = true ↔ SpecGood ns room) {q : Bool} (hq : r = true → impl_Fs_isThere.f ns room a = some q) : Ev (fun k => impl_isGoodAt.f k ns room a) (r && q) := by
  unfold impl_isGoodAt.f
  cases r with
  | true => exact ev_bind hi (ev_pos rfl (ev_bind0 (hq rfl) (Ev.now _)))
  | false => exact ev_bind hi (ev_neg (by simp) (Ev.now _))
def Found (ns : List S53) (a p : Int) (nm : ByteArray) : Prop := 0 ≤ p ∧ p < (ns.length : Int) ∧ ∃ j : Int, 0 ≤ j ∧ j < ((rd_T53 ns p).f6.length : Int) ∧ (rd_T60 (rd_T53 ns p).f6 j).f1 = a ∧ (rd_T60 (rd_T53 ns p).f6 j).f0 = nm
def NoRow (ns : List S53) (a i : Int) : Prop := ∀ i', i ≤ i' → i' < (ns.length : Int) → a ∉ row (rd_T53 ns i').f6
theorem row_mem {l : List S60} {a : Int} (h : ∀ j, 0 ≤ j → j < (l.length : Int) → (rd_T60 l j).f1 ≠ a) : a ∉ row l := fun hm => by
  obtain ⟨e, he, ee⟩ := List.mem_map.1 hm
  obtain ⟨i, hi, ei⟩ := List.mem_iff_getElem.1 he
  refine h i (by omega) (by omega) ?_
  show (l.getD (i : Int).toNat z60).f1 = a
  rw [List.getD_eq_getElem?_getD, show (i : Int).toNat = i by omega, List.getElem?_eq_getElem hi, Option.getD_some, ei]; exact ee
theorem parf_row (ns : List S53) (a i : Int) (hi0 : 0 ≤ i) (hi1 : i < (ns.length : Int)) (hl : (rd_T53 ns i).f6.length ≤ 1048576) {p : Int} {nm : ByteArray} (hp : Ev (fun k => spec_l3Parent.l0 k a ns (ns.length : Int) (wrap64 (i + 1))) p) (hq : Ev (fun k => impl_Fs_parent.l0 k a ns (ns.length : Int) (wrap64 (i + 1))) (p, nm)) (hF : Found ns a p nm ∨ NoRow ns a (i + 1)) (d : Nat) : ∀ j : Int, 0 ≤ j → j ≤ (rd_T53 ns i).f6.length → ((rd_T53 ns i).f6.length : Int) - j = d → (∀ j', 0 ≤ j' → j' < j → (rd_T60 (rd_T53 ns i).f6 j').f1 ≠ a) →
    ∃ p' nm', Ev (fun k => spec_l3Parent.l1 k a i ns (ns.length : Int) i (rd_T53 ns i).f6 ((rd_T53 ns i).f6.length : Int) j) p' ∧ Ev (fun k => impl_Fs_parent.l1 k a i ns (ns.length : Int) i (rd_T53 ns i).f6 ((rd_T53 ns i).f6.length : Int) j) (p', nm') ∧ (Found ns a p' nm' ∨ NoRow ns a i) := by
  induction d with
  | zero =>
    intro j h0 hj hd hno
    refine ⟨p, nm, Ev.step (fun k => by rw [spec_l3Parent.l1, if_neg (by omega)]) hp, Ev.step (fun k => by rw [impl_Fs_parent.l1, if_neg (by omega)]) hq, hF.imp id (fun h i' hi' hi2 => ?_)⟩
    by_cases e : i' = i
    · rw [e]; exact row_mem (fun j' a1 a2 => hno j' a1 (by omega))
    · exact h i' (by omega) hi2
  | succ d ih =>
    intro j h0 hj hd hno
    have hlt : j < ((rd_T53 ns i).f6.length : Int) := by omega
    have hw : wrap64 (j + 1) = j + 1 := wrap_id (by omega) (by omega)
    by_cases h : (rd_T60 (rd_T53 ns i).f6 j).f1 = a
    · exact ⟨i, _, Ev.step (fun k => by rw [spec_l3Parent.l1, if_pos hlt, if_pos h0, if_pos hlt, if_pos h]) (Ev.now _), Ev.step (fun k => by rw [impl_Fs_parent.l1, if_pos hlt, if_pos h0, if_pos hlt, if_pos h]) (Ev.now _), .inl ⟨hi0, hi1, j, h0, hlt, h, rfl⟩⟩
    · obtain ⟨p', nm', e1, e2, e3⟩ := ih (j + 1) (by omega) (by omega) (by omega) (fun j' a1 a2 => by
        by_cases e : j' = j
        · rw [e]; exact h
        · exact hno j' a1 (by omega))
      exact ⟨p', nm', Ev.step (fun k => by rw [spec_l3Parent.l1, if_pos hlt, if_pos h0, if_pos hlt, if_neg h, hw]) e1, Ev.step (fun k => by rw [impl_Fs_parent.l1, if_pos hlt, if_pos h0, if_pos hlt, if_neg h, hw]) e2, e3⟩
theorem parf_all (ns : List S53) (a : Int) (hn' : ns.length ≤ 1048576) (hs : ∀ v ∈ ns, v.f6.length ≤ 1048576) (d : Nat) : ∀ i : Int, 0 ≤ i → i ≤ ns.length → (ns.length : Int) - i = d →
    ∃ p nm, Ev (fun k => spec_l3Parent.l0 k a ns (ns.length : Int) i) p ∧ Ev (fun k => impl_Fs_parent.l0 k a ns (ns.length : Int) i) (p, nm) ∧ (Found ns a p nm ∨ NoRow ns a i) := by
  induction d with
  | zero =>
    intro i h0 hi hd
    exact ⟨0, _, Ev.step (fun k => by rw [spec_l3Parent.l0, if_neg (by omega)]) (Ev.now _), Ev.step (fun k => by rw [impl_Fs_parent.l0, if_neg (by omega)]) (Ev.now _), .inr (fun i' h1 h2 => by omega)⟩
  | succ d ih =>
    intro i h0 hi hd
    have hlt : i < (ns.length : Int) := by omega
    have hw : wrap64 (i + 1) = i + 1 := wrap_id (by omega) (by omega)
    obtain ⟨p, nm, e1, e2, e5⟩ := ih (i + 1) (by omega) (by omega) (by omega)
    obtain ⟨p', nm', e3, e4, e6⟩ := parf_row ns a i h0 hlt (hs _ (nd_mem ns i h0 hlt)) (by rw [hw]; exact e1) (by rw [hw]; exact e2) e5 (rd_T53 ns i).f6.length 0 (by omega) (by omega) (by omega) (fun j' a1 a2 => by omega)
    exact ⟨p', nm', Ev.step (fun k => by rw [spec_l3Parent.l0, if_pos hlt, if_pos h0, if_pos hlt]) e3, Ev.step (fun k => by rw [impl_Fs_parent.l0, if_pos hlt, if_pos h0, if_pos hlt]) e4, e6⟩
theorem row_at {l : List S60} {j : Int} (h0 : 0 ≤ j) (h1 : j < (l.length : Int)) : row l = (row l).take j.toNat ++ (rd_T60 l j).f1 :: (row l).drop (j + 1).toNat := by rw [← row_drop l j h0 h1, List.take_append_drop]
/-- One entry alone leads to a directory. -/
theorem one_entry {ns : List S53} (T : DirTree ns) {a p : Int} (hd : dir ns a) (h0 : 0 ≤ p) (h1 : p < (ns.length : Int)) {i j : Int} (hi0 : 0 ≤ i) (hij : i < j) (hj : j < ((rd_T53 ns p).f6.length : Int)) (ei : (rd_T60 (rd_T53 ns p).f6 i).f1 = a) (ej : (rd_T60 (rd_T53 ns p).f6 j).f1 = a) : False := by
  have hs := row_at (l := (rd_T53 ns p).f6) (j := j) (by omega) hj
  rw [ej] at hs
  have := T.once a hd p _ _ h0 h1 (by rw [adj_is ns p h0 h1]; exact hs)
  apply this
  rw [List.mem_take_iff_getElem]
  refine ⟨i.toNat, by rw [row_len]; omega, ?_⟩
  have hg : (row (rd_T53 ns p).f6)[i.toNat]'(by rw [row_len]; omega) = (rd_T60 (rd_T53 ns p).f6 i).f1 := by
    unfold row
    rw [List.getElem_map]
    show _ = ((rd_T53 ns p).f6.getD i.toNat z60).f1
    rw [List.getD_eq_getElem?_getD, List.getElem?_eq_getElem (by omega)]; rfl
  rw [hg, ei]
theorem name_loop (ns : List S53) (room : Int) {a p : Int} {nm : ByteArray} (l : List S60) (hl : l.length ≤ 1048576) (hone : ∀ j, 0 ≤ j → j < (l.length : Int) → (rd_T60 l j).f1 = a → (rd_T60 l j).f0 = nm) {r : List ByteArray} (hr : Ev (fun k => (spec_l3Path.f k ns room p).bind fun t => if t.length < 8796093022208 then some (t ++ [nm]) else none) r) (d : Nat) : ∀ (j : Int) (x : ByteArray), 0 ≤ j → j ≤ l.length → (l.length : Int) - j = d → (x = nm ∨ ∃ j', j ≤ j' ∧ j' < (l.length : Int) ∧ (rd_T60 l j').f1 = a) → Ev (fun k => spec_l3Path.l0 k a p x l (l.length : Int) j ns room) r := by
  induction d with
  | zero =>
    intro j x h0 hj hd hx
    rcases hx with rfl | ⟨j', h1, h2, _⟩
    · exact Ev.step (fun k => by rw [spec_l3Path.l0, if_neg (by omega)]) hr
    · omega
  | succ d ih =>
    intro j x h0 hj hd hx
    have hlt : j < (l.length : Int) := by omega
    have hw : wrap64 (j + 1) = j + 1 := wrap_id (by omega) (by omega)
    by_cases h : (rd_T60 l j).f1 = a
    · exact Ev.step (fun k => by rw [spec_l3Path.l0, if_pos hlt, if_pos h0, if_pos hlt, if_pos h, hw]) (ih (j + 1) _ (by omega) (by omega) (by omega) (.inl (hone j h0 hlt h)))
    · refine Ev.step (fun k => by rw [spec_l3Path.l0, if_pos hlt, if_pos h0, if_pos hlt, if_neg h, hw]) (ih (j + 1) _ (by omega) (by omega) (by omega) (hx.imp id fun ⟨j', h1, h2, h3⟩ => ⟨j', ?_, h2, h3⟩))
      by_cases e : j' = j
      · rw [e] at h3; exact absurd h3 h
      · omega
theorem nameB_size {s : ByteArray} (h : nameB s = true) : s.size ≤ 8 := by
  unfold nameB partB at h
  rw [Bool.and_eq_true, Bool.and_eq_true, decide_eq_true_iff] at h
  exact h.1.1.2
theorem path_up (ns : List S53) (room : Int) (hn' : ns.length ≤ 1048576) (hs : ∀ v ∈ ns, Small1 v) (h1 : All1 0 ns) (T : DirTree ns) {q : List Int} (hq : Go.Proofs.YteffcglgdfhkmaaDoor.Graph.Queue (adjOf (rowsOf ns)) (dir ns) ns.length q q.length []) (d : Nat) : ∀ (i : Nat) (a : Int), i ≤ d → q[i]? = some a →
    ∃ ps : List ByteArray, ps.length ≤ i ∧ (∀ w ∈ ps, w.size ≤ 8) ∧ Ev (fun k => spec_l3Path.f k ns room a) ps ∧ ∀ (acc : List ByteArray) (r : ByteArray), acc.length + i ≤ 8796093022200 → Ev (fun k => (slices_Reverse_string_string.f k (acc ++ ps.reverse)).bind fun t => (impl_pathOf.f t).bind fun t => some t) r → Ev (fun k => impl_Fs_pathTo.l0 k a acc ns room) r := by
  have zero : ∀ (i : Nat), ∃ ps : List ByteArray, ps.length ≤ i ∧ (∀ w ∈ ps, w.size ≤ 8) ∧ Ev (fun k => spec_l3Path.f k ns room 0) ps ∧ ∀ (acc : List ByteArray) (r : ByteArray), acc.length + i ≤ 8796093022200 → Ev (fun k => (slices_Reverse_string_string.f k (acc ++ ps.reverse)).bind fun t => (impl_pathOf.f t).bind fun t => some t) r → Ev (fun k => impl_Fs_pathTo.l0 k 0 acc ns room) r := fun i =>
    ⟨[], by simp, fun w hw => (by cases hw), Ev.step (fun k => by rw [spec_l3Path.f, if_pos rfl]) (Ev.now _), fun acc r _ hr => Ev.step (fun k => by rw [impl_Fs_pathTo.l0, if_pos rfl]) (by simpa using hr)⟩
  induction d with
  | zero =>
    intro i a hi ha
    by_cases h0 : a = 0
    · rw [h0]; exact zero i
    · obtain ⟨i', p', hlt, _, _⟩ := hq.order i a ha h0
      omega
  | succ d ih =>
    intro i a hi ha
    by_cases h0 : a = 0
    · rw [h0]; exact zero i
    · obtain ⟨i', p', hlt, hp', hap⟩ := hq.order i a ha h0
      have hpb := hq.bound p' (List.mem_of_getElem? hp')
      have hab := hq.bound a (List.mem_of_getElem? ha)
      obtain ⟨p, nm, e1, e2, e3⟩ := parf_all ns a hn' (small_lists hs) ns.length 0 (by omega) (by omega) (by omega)
      have hf : Found ns a p nm := e3.resolve_right (fun h => h p' hpb.1 hpb.2.1 (by rw [← adj_is ns p' hpb.1 hpb.2.1]; exact hap))
      obtain ⟨hp0, hp1, j, hj0, hj1, ej1, ej2⟩ := hf
      have hpa : a ∈ adjOf (rowsOf ns) p := by
        rw [adj_is ns p hp0 hp1, row_at (l := (rd_T53 ns p).f6) hj0 hj1, ej1]; simp
      have hpp : p = p' := T.one a hab.2.2 p p' hp0 hp1 hpb.1 hpb.2.1 hpa hap
      subst hpp
      have hone : ∀ j', 0 ≤ j' → j' < ((rd_T53 ns p).f6.length : Int) → (rd_T60 (rd_T53 ns p).f6 j').f1 = a → (rd_T60 (rd_T53 ns p).f6 j').f0 = nm := fun j' a1 a2 a3 => by
        rcases Int.lt_trichotomy j' j with h | h | h
        · exact (one_entry T hab.2.2 hp0 hp1 a1 h hj1 a3 ej1).elim
        · rw [h]; exact ej2
        · exact (one_entry T hab.2.2 hp0 hp1 hj0 h a2 ej1 a3).elim
      have hnm : nm.size ≤ 8 := by
        have hg := h1 p hp0 hp1
        have hdp : (rd_T53 ns p).f0 = 2 := hpb.2.2
        rcases (hg.2 (by omega)).2.2.2.2 with h | h | h
        · omega
        · have := nameB_size (h.2.2 j hj0 hj1).1
          rwa [ej2] at this
        · omega
      obtain ⟨ps, b1, b2, b3, b4⟩ := ih i' p (by omega) hp'
      refine ⟨ps ++ [nm], by rw [List.length_append]; simp; omega, fun w hw => ?_, ?_, fun acc r hacc hr => ?_⟩
      · rcases List.mem_append.1 hw with h | h
        · exact b2 w h
        · rw [List.mem_singleton.1 h]; exact hnm
      · refine Ev.step (fun k => by rw [spec_l3Path.f, if_neg h0]) (ev_bind (g := fun k => spec_l3Parent.f k ns room a) e1 (ev_pos hp0 (ev_pos hp1 ?_)))
        have hql := hq.len (by omega)
        have hil : i < q.length := (List.getElem?_eq_some_iff.1 ha).1
        exact name_loop ns room (rd_T53 ns p).f6 (hs _ (nd_mem ns p hp0 hp1)).2.1 hone (ev_bind b3 (ev_pos (by omega) (Ev.now _))) (rd_T53 ns p).f6.length 0 _ (by omega) (by omega) (by omega) (.inr ⟨j, hj0, hj1, ej1⟩)
      · refine Ev.step (fun k => by rw [impl_Fs_pathTo.l0, if_neg h0]) (ev_bind (g := fun k => impl_Fs_parent.f k ns room a) e2 (ev_pos (show acc.length < 8796093022208 by omega) ?_))
        refine b4 (acc ++ [nm]) r (by rw [List.length_append]; simp; omega) ?_
        have e : acc ++ [nm] ++ ps.reverse = acc ++ (ps ++ [nm]).reverse := by simp
        rw [e]; exact hr
theorem PathTo.same (ns : List S53) (room a : Int) (hn' : ns.length ≤ 1048576) (hs : ∀ v ∈ ns, Small1 v) : ∃ v b, Ev (fun k => spec_PathTo.f k ns room a) (v, b) ∧ Ev (fun k => impl_PathTo.f k ns room a) (v, b) := by
  obtain ⟨r, hr, hi, e⟩ := good_both ns room hn' hs
  have hj : Ev (fun k => spec_PathTo.j0 k a true ns room) ((⟨#[]⟩ : ByteArray), false) := Ev.step (fun k => by rw [spec_PathTo.j0, if_pos rfl]) (Ev.now _)
  cases r with
  | false =>
    have h2 := impl_isGoodAt_is ns room a hn' (q := false) hi e (fun h => by cases h)
    exact ⟨_, false, ev_bind hr (ev_neg (by simp) hj), ev_bind h2 (ev_neg (by simp) (Ev.now _))⟩
  | true =>
    have hg := e.1 rfl
    have hn := hg.1.1.1
    obtain ⟨q, hq, eq⟩ := spec_l3Is_same (a := a) hn hn'
    obtain ⟨q', hq', eq'⟩ := impl_Fs_isThere.is ns room a hn hn'
    have e2 : q' = q := by rw [Bool.eq_iff_iff, eq, eq']
    subst e2
    have h2 := impl_isGoodAt_is ns room a hn' hi e (fun _ => hq')
    have h1 : spec_l3Is.f ns room a = some q' := hq
    cases q' with
    | false =>
      have h3 : spec_l3IsDir.f ns room a = some false := by unfold spec_l3IsDir.f; rw [h1]; rfl
      exact ⟨_, false, ev_bind hr (ev_pos rfl (ev_bind0 h3 hj)), ev_bind h2 (ev_neg (by simp) (Ev.now _))⟩
    | true =>
      have ha := eq.1 rfl
      have h3 : spec_l3IsDir.f ns room a = some ((rd_T53 ns a).f0 == 2) := by unfold spec_l3IsDir.f; rw [h1, Option.bind_some, if_pos rfl, if_pos ha.1, if_pos ha.2.1]
      have h4 : impl_Fs_isDir.f ns room a = some ((rd_T53 ns a).f0 == 2) := by unfold impl_Fs_isDir.f; rw [if_pos ha.1, if_pos ha.2.1]
      by_cases hd : (rd_T53 ns a).f0 = 2
      · have hgi := (same_good ns room hn' hs).1 hg
        have hz := (hgi.2.2.1 0 (by omega) (by omega) (by rw [hgi.1.2.2.2]; omega)).1 rfl
        have T := tree_of ns hgi.2.1 hz (fun x h0 hx hdx => by
          have : (rd_T53 ns x).f0 = 2 := hdx
          rw [((hgi.2.2.1 x (by omega) hx (by omega)).2 h0).2 hdx]; exact Nat.le_refl _)
        obtain ⟨qq, hqq, _⟩ := queue_is ns room hn hn' hs hgi.1.2.2.2 T
        have hm := hgi.2.2.2 qq hqq a ha.1 ha.2.1 hd
        obtain ⟨i, hi', ei⟩ := List.mem_iff_getElem.1 hm
        have hql := hqq.len (by omega)
        have h40 := hgi.1.1.2
        obtain ⟨ps, b1, b2, b3, b4⟩ := path_up ns room hn' hs hgi.2.1 T hqq i i a (Nat.le_refl _) (by rw [List.getElem?_eq_getElem hi', ei])
        have hof := spec_l2Of.is ps (by omega) (fun p hp => by have := b2 p hp; omega)
        have hpo := impl_pathOf.is ps 40 (by omega) (fun p hp => by have := b2 p hp; omega) (by omega)
        have hrev := slices_Reverse.is ps.reverse (by rw [List.length_reverse]; omega)
        rw [List.reverse_reverse] at hrev
        have hto := b4 [] (pathText ps) (by simp; omega) (ev_bind hrev (ev_bind0 hpo (Ev.now _)))
        refine ⟨pathText ps, true, ev_bind hr (ev_pos rfl (ev_bind0 h3 ?_)), ev_bind h2 (ev_pos rfl (ev_bind0 h4 (ev_pos (beq_iff_eq.2 hd) (ev_bind (g := fun k => impl_Fs_pathTo.f k ns room a) hto (Ev.now _)))))⟩
        rw [beq_iff_eq.2 hd]
        exact Ev.step (fun k => by rw [spec_PathTo.j0, if_neg (by decide)]) (ev_bind b3 (ev_bind hof (Ev.now (pathText ps, true))))
      · have hd' : ((rd_T53 ns a).f0 == 2) = false := beq_eq_false_iff_ne.2 hd
        refine ⟨_, false, ev_bind hr (ev_pos rfl (ev_bind0 h3 (by rw [hd']; exact hj))), ev_bind h2 (ev_pos rfl (ev_bind0 h4 (ev_neg (by rw [hd']; simp) (Ev.now _))))⟩
end Go.Proofs.YteffcglgdfhkmaaDoor.PFs
namespace Go.Proofs.YteffcglgdfhkmaaDoor.Pure
open Go.RowKit Go.Proofs.YteffcglgdfhkmaaDoor.PFs Go.Proofs.YteffcglgdfhkmaaDoorW.PrintWords Go.Proofs.YteffcglgdfhkmaaDoor.Aid
theorem FnExactPathTo : laws_FnExactPathTo.Pure := by
  intro a n x ha hn hx
  refine Ev.rounds (r := true) ?_
  unfold laws_FnExactPathTo.f
  obtain ⟨r, hr, e⟩ := laws_szFs.is a n ha.1 (fun x hx => ⟨(ha.2 x hx).2.2.2.2.2.1, (ha.2 x hx).2.2.2.2.2.2.1, fun y hy => ((ha.2 x hx).2.2.2.2.2.2.2 y hy).1⟩) 1048576 (by omega) (by omega)
  rcases e with e | ⟨e1, e2, e3, e4⟩
  · exact ev_bind hr (ev_pos e (Ev.now _))
  refine ev_bind hr (ev_neg (by omega) ?_)
  have ta := laws_toFs.is a n e3 e4
  have oa := nodC_ok e4
  have sa := small_of e4
  have la : (a.map nodC).length ≤ 1048576 := by rw [List.length_map]; omega
  generalize a.map nodC = A at ta oa sa la
  obtain ⟨v, b, hs, ht⟩ := PathTo.same A n x la sa
  refine ev_bind ta (ev_bind hs (ev_bind ta (ev_bind ht (ev_pos rfl ?_))))
  show Ev (fun k => laws_FnExactPathTo.j0 k (b != b) a n A n) true
  rw [bne_self_eq_false]
  exact Ev.step (fun k => by rw [laws_FnExactPathTo.j0, if_neg (by decide)]) (ev_bind ta (ev_bind (laws_eqFs.same A n (by omega) oa) (ev_pos rfl (Ev.now _))))
end Go.Proofs.YteffcglgdfhkmaaDoor.Pure

