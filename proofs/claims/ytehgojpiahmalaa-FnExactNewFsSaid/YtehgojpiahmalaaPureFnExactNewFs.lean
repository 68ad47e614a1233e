/- NewFs of the program and of the reference agree at every room: no condition. -/
import Derived.Test.YtehgojpiahmalaaPNewFx6
import Derived.Test.YtehgojpiahmalaaAid
namespace Go.Proofs.Ytehgojpiahmalaa.PNewF
open Go.RowKit Go.Proofs.YtehgojpiahmalaaW.PrintWords Go.Proofs.YtehgojpiahmalaaW.PrintLast Go.Proofs.YtehgojpiahmalaaW.PrintMore Go.Proofs.Ytehgojpiahmalaa.Aid
set_option linter.unusedSimpArgs false
set_option linter.unusedVariables false
theorem w64 (n : Nat) (h : n ≤ 100) : wrap64 (n : Int) = n := wrap_id (by omega) (by omega)
theorem w1 : wrap64 1 = 1 := w64 1 (by omega)
theorem w2 : wrap64 2 = 2 := w64 2 (by omega)
theorem w3 : wrap64 3 = 3 := w64 3 (by omega)
theorem w4 : wrap64 4 = 4 := w64 4 (by omega)
theorem w5 : wrap64 5 = 5 := w64 5 (by omega)
theorem w6 : wrap64 6 = 6 := w64 6 (by omega)
theorem w7 : wrap64 7 = 7 := w64 7 (by omega)
theorem w54 : wrap64 54 = 54 := w64 54 (by omega)
theorem six : strOfNums [54] = (⟨#[54]⟩ : ByteArray) := by decide +kernel
theorem mark_six : ∃ t : ByteArray, ∀ k, laws_markText.f (k + 2) 6 = some t := by
  refine ⟨(⟨#[109]⟩ : ByteArray) ++ ((⟨#[54]⟩ : ByteArray) ++ (⟨#[]⟩ : ByteArray)), fun k => ?_⟩
  unfold laws_markText.f
  rw [if_neg (by omega)]
  unfold laws_markText.l0
  rw [if_pos (by omega), Option.bind_some, show Int.tmod 6 10 = 6 from rfl, show Int.tdiv 6 10 = 0 from rfl, show (48 : Int) + 6 = 54 from rfl, w54, show wrap64 0 = 0 from w64 0 (by omega), show (54 : Int) % 256 = 54 from rfl, six]
  have h1 : (⟨#[54]⟩ : ByteArray).size + (⟨#[]⟩ : ByteArray).size ≤ 9223372036854775807 := by decide
  rw [if_pos h1]
  unfold laws_markText.l0
  have h2 : 1 + ((⟨#[54]⟩ : ByteArray) ++ (⟨#[]⟩ : ByteArray)).size ≤ 9223372036854775807 := by decide
  rw [if_neg (by decide), if_pos h2]
theorem same (n : S68) (h : n.f6 = []) (a : Int) (k : Nat) : laws_eqFs.f (k + 3) [n] a [n] a = some true := by
  simp [laws_eqFs.f, laws_eqNodeS.f, laws_eqNodeS.l0, laws_eqNode.f, laws_eqEntryS.f, laws_eqEntryS.l0, rd_T68, h, w1]
theorem empty (a : Int) (k : Nat) : laws_eqFs.f (k + 3) [] a [] a = some true := by
  simp [laws_eqFs.f, laws_eqNodeS.f, laws_eqNodeS.l0]
theorem marked (n : S68) (h : n.f6 = []) {t : ByteArray} (ht : ∀ k, laws_markText.f (k + 2) 6 = some t) (a : Int) (k : Nat) : laws_markFs.f (k + 4) [n] a 1 = some (7, [(⟨1, 2, 3, 4, 5, t, []⟩ : S68)]) := by
  have ht' := ht (k + 1)
  simp [laws_markFs.f, laws_markNodeS.f, laws_markNodeS.l0, laws_markEntryS.f, rd_T68, h, w1, w2, w3, w4, w5, w6, w7, ht']
theorem held {t : ByteArray} (ht : ∀ k, laws_markText.f (k + 2) 6 = some t) (a : Int) (k : Nat) : laws_heldFs.f (k + 3) [(⟨1, 2, 3, 4, 5, t, []⟩ : S68)] a 1 = some 7 := by
  have ht' := ht k
  simp [laws_heldFs.f, laws_heldNodeS.f, laws_heldNodeS.l0, laws_heldEntryS.f, laws_heldEntryS.l0, rd_T68, w1, w2, w3, w4, w5, w6, w7, ht']
theorem markedE (a : Int) (k : Nat) : laws_markFs.f (k + 4) [] a 1 = some (1, []) := by
  simp [laws_markFs.f, laws_markNodeS.f, laws_markNodeS.l0]
theorem heldE (a : Int) (k : Nat) : laws_heldFs.f (k + 3) [] a 1 = some 1 := by
  simp [laws_heldFs.f, laws_heldNodeS.f, laws_heldNodeS.l0]
def root : S68 := ⟨2, 493, 0, 0, 0, (⟨#[]⟩ : ByteArray), ([] : List (S77))⟩
theorem both (a : Int) : (spec_NewFs.f a = some ([root], a, true) ∧ impl_NewFs.f a = some ([root], a, true)) ∨ (spec_NewFs.f a = some ([], 0, false) ∧ impl_NewFs.f a = some ([], 0, false)) := by
  unfold spec_NewFs.f spec_l1In.f impl_NewFs.f impl_isRoom.f impl_within.f
  by_cases h0 : a ≥ 0
  · rw [if_pos h0]
    by_cases h1 : a ≤ 1000
    · rw [decide_eq_true h1]; exact Or.inl ⟨rfl, rfl⟩
    · rw [decide_eq_false h1]; exact Or.inr ⟨rfl, rfl⟩
  · rw [if_neg h0]; exact Or.inr ⟨rfl, rfl⟩
theorem law {a : Int} {l m : List S68} {x e : Int} {b : Bool} (h1 : spec_NewFs.f a = some (l, x, b)) (h2 : impl_NewFs.f a = some (l, x, b)) (hq : ∀ k, laws_eqFs.f (k + 3) l x l x = some true)
    (hm : ∀ k, laws_markFs.f (k + 4) l x 1 = some (e, m)) (hh : ∀ k, laws_heldFs.f (k + 3) m x 1 = some e) (he : ¬ e < 0) : laws_FnExactNewFs.f 10 a = some true := by
  have hb : (b != b) = false := by cases b <;> rfl
  unfold laws_FnExactNewFs.f
  rw [h1, Option.bind_some, h2, Option.bind_some]
  show (laws_eqFs.f (7 + 3) l x l x).bind _ = _
  rw [hq 7, Option.bind_some, if_pos rfl]
  show laws_FnExactNewFs.j0 10 a b (b != b) l x l x = _
  rw [hb]
  rw [show (10 : Nat) = 9 + 1 from rfl, laws_FnExactNewFs.j0]
  rw [if_neg (by decide), show laws_markFs.f 9 l x 1 = some (e, m) from hm 5, Option.bind_some]
  show (laws_heldFs.f (6 + 3) m x 1).bind _ = _
  rw [hh 6, Option.bind_some, if_neg he, if_pos rfl, h2, Option.bind_some]
  show (laws_eqFs.f (6 + 3) l x l x).bind _ = _
  rw [hq 6, Option.bind_some, if_pos rfl]
  show laws_FnExactNewFs.j1 9 e (b != b) m x = _
  rw [hb]
  rw [show (9 : Nat) = 8 + 1 from rfl, laws_FnExactNewFs.j1]
  rw [if_neg (by decide), show laws_heldFs.f 8 m x 1 = some e from hh 5, Option.bind_some, if_neg he, if_pos rfl]
theorem Pure.FnExactNewFs : laws_FnExactNewFs.Pure := by
  intro a _
  obtain ⟨t, ht⟩ := mark_six
  rcases both a with ⟨h1, h2⟩ | ⟨h1, h2⟩
  · exact ⟨10, law h1 h2 (fun k => same root rfl a k) (fun k => marked root rfl ht a k) (fun k => held ht a k) (by decide)⟩
  · exact ⟨10, law h1 h2 (fun k => empty 0 k) (fun k => markedE 0 k) (fun k => heldE 0 k) (by decide)⟩
end Go.Proofs.Ytehgojpiahmalaa.PNewF

