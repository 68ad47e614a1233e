/- Which texts are forms: the program's and the reference's word. No condition. -/
import Derived.Test.YtkkcpgahgehedaaNameA
import Derived.Test.YtkkcpgahgehedaaPathM
import Derived.Test.YtkkcpgahgehedaaForm
namespace Go.Proofs.Ytkkcpgahgehedaa.PForm
open Go.RowKit Go.Proofs.YtkkcpgahgehedaaW.PrintWords Go.Proofs.YtkkcpgahgehedaaW.PrintLast Go.Proofs.YtkkcpgahgehedaaW.PrintMore Go.Proofs.Ytkkcpgahgehedaa.Aid Go.Proofs.Ytkkcpgahgehedaa.Form
set_option linter.unusedSimpArgs false
set_option linter.unusedVariables false

def signB (c : Int) : Bool := nb c || decide (c = 42) || decide (c = 63)
def formB (s : ByteArray) : Bool := decide (1 ≤ s.size ∧ s.size ≤ 20) && (bytesOf s).all signB
theorem impl_isPattern_1.is (c : Int) : impl_isPattern_1.f c = some (!signB c) := by
  unfold impl_isPattern_1.f signB
  rw [impl_isNameByte.is, Option.bind_some]
  cases hn : nb c with
  | true => rfl
  | false =>
    rw [if_neg Bool.false_ne_true]
    by_cases h : c = 42
    · rw [if_pos h, decide_eq_true h]; rfl
    · rw [if_neg h, decide_eq_false h]
      by_cases h' : c = 63
      · rw [decide_eq_true h', h']; rfl
      · rw [decide_eq_false h']; simp [h']
theorem indexPattern.loop (l : List Int) (hl : l.length ≤ 9223372036854775807) (d : Nat) : ∀ i : Int, 0 ≤ i → i ≤ l.length → (l.length : Int) - i = d →
    ∃ r : Int, Ev (fun k => slices_IndexFunc_byte_byte__impl_isPattern_1.l0 k l (l.length : Int) i) r ∧ decide (r ≥ 0) = !(l.drop i.toNat).all signB := by
  induction d with
  | zero =>
    intro i h0 h1 hd
    refine ⟨-1, Ev.step (fun k => by rw [slices_IndexFunc_byte_byte__impl_isPattern_1.l0, if_neg (by omega)]) (Ev.now _), ?_⟩
    rw [show l.drop i.toNat = [] by rw [List.drop_eq_nil_iff]; omega]; rfl
  | succ d ih =>
    intro i h0 h1 hd
    have hlt : i < (l.length : Int) := by omega
    have hstep : ∀ k, slices_IndexFunc_byte_byte__impl_isPattern_1.l0 (k + 1) l (l.length : Int) i = if (!signB (rd l i)) = true then some i else slices_IndexFunc_byte_byte__impl_isPattern_1.l0 k l (l.length : Int) (i + 1) := fun k => by
      rw [slices_IndexFunc_byte_byte__impl_isPattern_1.l0, if_pos hlt, if_pos h0, if_pos hlt, impl_isPattern_1.is, wrap_id (by omega) (by omega)]; rfl
    rw [drop_list l 0 i h0 hlt, List.all_cons]
    show ∃ r, _ ∧ decide (r ≥ 0) = !(signB (rd l i) && _)
    cases hb : signB (rd l i) with
    | false => exact ⟨i, Ev.step hstep (ev_pos (by rw [hb]; rfl) (Ev.now _)), by simp [h0]⟩
    | true =>
      obtain ⟨r, h, e⟩ := ih (i + 1) (by omega) (by omega) (by omega)
      exact ⟨r, Ev.step hstep (ev_neg (by rw [hb]; simp) h), by rw [e]; rfl⟩
theorem impl_isPattern.is (s : ByteArray) : Ev (fun k => impl_isPattern.f k s) (formB s) := by
  unfold impl_isPattern.f formB
  refine ev_bind0 (impl_within.is _ _ _) ?_
  refine ev_ite (fun h => ?_) (fun h => ?_)
  · have h' : 1 ≤ s.size ∧ s.size ≤ 20 := by simp at h; omega
    obtain ⟨r, hr, e⟩ := indexPattern.loop (bytesOf s) (by rw [bytesOf_length]; omega) s.size 0 (by omega) (by rw [bytesOf_length]; omega) (by rw [bytesOf_length]; omega)
    refine ev_bind (a := decide (r ≥ 0)) (ev_bind hr (Ev.now _)) ?_
    refine ev_some ?_
    rw [e, decide_eq_true h']; simp
  · refine ev_some ?_
    have h' : ¬ (1 ≤ s.size ∧ s.size ≤ 20) := by simp at h; omega
    rw [decide_eq_false h']; rfl

theorem a_toList (s : ByteArray) (i : Int) (h0 : 0 ≤ i) (h1 : i < (s.size : Int)) : ∃ x : UInt8, ((⟨#[97]⟩ : ByteArray) ++ s.extract i.toNat (i + 1).toNat).toList = [97, x] ∧ bt s i = (x.toNat : Int) := by
  obtain ⟨x, hx, e⟩ := bt_toList s i h0 h1
  refine ⟨x, ?_, e⟩
  obtain ⟨hl, hx⟩ := List.getElem?_eq_some_iff.mp hx
  rw [toList_append, show (⟨#[97]⟩ : ByteArray).toList = [97] from toList_mk [97], toList_extract, List.drop_eq_getElem_cons hl, hx, show (i + 1).toNat - i.toNat = 1 by omega]
  simp
theorem a_name (s : ByteArray) (i : Int) (h0 : 0 ≤ i) (h1 : i < (s.size : Int)) : nameB ((⟨#[97]⟩ : ByteArray) ++ s.extract i.toNat (i + 1).toNat) = nb (bt s i) := by
  obtain ⟨x, hx, e⟩ := a_toList s i h0 h1
  unfold nameB partB dotsB
  rw [size_eq, bytesOf_eq, hx, e]
  simp [show nb 97 = true from rfl]
theorem a_size (s : ByteArray) (i : Int) (h0 : 0 ≤ i) (h1 : i < (s.size : Int)) : ((⟨#[97]⟩ : ByteArray) ++ s.extract i.toNat (i + 1).toNat).size = 2 ∧ (s.extract i.toNat (i + 1).toNat).size = 1 := by
  obtain ⟨x, hx, e⟩ := a_toList s i h0 h1
  refine ⟨by rw [size_eq, hx]; rfl, ?_⟩
  rw [ByteArray.size_extract]; omega
theorem spec_l11Form.loop (s : ByteArray) (hs : s.size ≤ 1048576) (d : Nat) : ∀ i : Int, 0 ≤ i → i ≤ s.size → (s.size : Int) - i = d →
    Ev (fun k => spec_l11Form.l0 k s i) (((bytesOf s).drop i.toNat).all signB && decide (1 ≤ s.size ∧ s.size ≤ 20)) := by
  induction d with
  | zero =>
    intro i h0 h1 hd
    refine Ev.step (fun k => by rw [spec_l11Form.l0, if_neg (by omega), spec_l1In.is]) ?_
    rw [drop_all s i (by omega)]
    refine ev_some ?_
    rw [List.all_nil, Bool.true_and]
    exact decide_eq_decide.mpr (by omega)
  | succ d ih =>
    intro i h0 h1 hd
    have hlt : i < (s.size : Int) := by omega
    obtain ⟨z1, z2⟩ := a_size s i h0 hlt
    refine Ev.step (fun k => by rw [spec_l11Form.l0, if_pos hlt, if_pos h0, wrap_id (x := i + 1) (by omega) (by omega)]) ?_
    have hi := ih (i + 1) (by omega) (by omega) (by omega)
    rw [drop_bytes s i h0 hlt, List.all_cons]
    by_cases c1 : bt s i = 42
    · refine ev_pos c1 (ev_eq hi ?_)
      rw [show signB (bt s i) = true by unfold signB; rw [c1]; rfl, Bool.true_and]
    · refine ev_neg c1 ?_
      by_cases c2 : bt s i = 63
      · refine ev_pos c2 (ev_eq hi ?_)
        rw [show signB (bt s i) = true by unfold signB; rw [c2]; rfl, Bool.true_and]
      · refine ev_neg c2 (ev_pos (by omega) (ev_pos (by omega) (ev_pos (by omega) ?_)))
        refine ev_bind (spec_l2Name.is _ (by omega)) ?_
        rw [a_name s i h0 hlt]
        have hsg : signB (bt s i) = nb (bt s i) := by unfold signB; rw [decide_eq_false c1, decide_eq_false c2]; simp
        rw [hsg]
        refine ev_ite (fun h => ?_) (fun h => ?_)
        · refine ev_eq hi ?_
          rw [h, Bool.true_and]
        · exact ev_some (by rw [Bool.eq_false_iff.mpr h]; rfl)
theorem spec_l11Form.is (s : ByteArray) (hs : s.size ≤ 1048576) : Ev (fun k => spec_l11Form.f k s) (formB s) := by
  refine ev_eq (spec_l11Form.loop s hs s.size 0 (by omega) (by omega) (by omega)) ?_
  show ((bytesOf s).all signB && _) = _
  unfold formB
  rw [Bool.and_comm]
end Go.Proofs.Ytkkcpgahgehedaa.PForm

