/- What the program's IsForm computes: the row of all beginnings. No condition. -/
import Derived.Test.YtkkcpgahgehedaaPFormx4
import Derived.Test.YtkkcpgahgehedaaFormIs
import Derived.Test.YtkkcpgahgehedaaFormA
namespace Go.Proofs.Ytkkcpgahgehedaa.PForm
open Go.RowKit Go.Proofs.YtkkcpgahgehedaaW.PrintWords Go.Proofs.YtkkcpgahgehedaaW.PrintLast Go.Proofs.YtkkcpgahgehedaaW.PrintMore Go.Proofs.Ytkkcpgahgehedaa.Aid Go.Proofs.Ytkkcpgahgehedaa.Form
set_option linter.unusedSimpArgs false
set_option linter.unusedVariables false

/-- The row as far as the loop has come. -/
def shape (q t : List UInt8) (j : Nat) : List Bool := (row q t).take j ++ List.replicate (t.length + 1 - j) false
theorem shape_length {q t : List UInt8} {j : Nat} (h : j ≤ t.length + 1) : (shape q t j).length = t.length + 1 := by
  rw [shape, List.length_append, List.length_take, row_length, List.length_replicate]; omega
theorem shape_zero (q t : List UInt8) : shape q t 0 = List.replicate (t.length + 1) false := by simp [shape]
theorem shape_end (q t : List UInt8) : shape q t (t.length + 1) = row q t := by
  rw [shape, List.take_of_length_le (by rw [row_length]; omega), Nat.sub_self]; simp
theorem shape_next {q t : List UInt8} {j : Nat} (h : j ≤ t.length) : shape q t (j + 1) = (row q t).take j ++ isF q (t.take j) :: List.replicate (t.length + 1 - (j + 1)) false := by
  unfold shape
  rw [List.take_add_one, row_get q t h, List.append_assoc]; rfl
theorem shape_here {q t : List UInt8} {j : Nat} (h : j ≤ t.length) : shape q t j = (row q t).take j ++ false :: List.replicate (t.length + 1 - (j + 1)) false := by
  unfold shape
  rw [← List.replicate_succ, show t.length + 1 - (j + 1) + 1 = t.length + 1 - j by omega]
theorem shape_set {q t : List UInt8} {j : Nat} (h : j ≤ t.length) {v : Bool} (hv : isF q (t.take j) = v) : (shape q t j).set j v = shape q t (j + 1) := by
  have hl : ((row q t).take j).length = j := by rw [List.length_take, row_length]; omega
  rw [shape_here h, shape_next h, List.set_append_right _ _ (by omega), hl, Nat.sub_self, List.set_cons_zero, hv]
theorem shape_keep {q t : List UInt8} {j : Nat} (h : j ≤ t.length) (hv : isF q (t.take j) = false) : shape q t j = shape q t (j + 1) := by
  rw [shape_here h, shape_next h, hv]
theorem rd_row {p t : List UInt8} {j : Nat} (h : j ≤ t.length) : rdOf false (row p t) (j : Int) = isF p (t.take j) := by
  unfold rdOf
  rw [Int.toNat_natCast, List.getD_eq_getElem?_getD, row_get p t h]; rfl
theorem rd_shape {q t : List UInt8} {i j : Nat} (hi : i < j) (h : j ≤ t.length + 1) : rdOf false (shape q t j) (i : Int) = isF q (t.take i) := by
  unfold rdOf shape
  rw [Int.toNat_natCast, List.getD_eq_getElem?_getD, List.getElem?_append_left (by rw [List.length_take, row_length]; omega), List.getElem?_take_of_lt hi, row_get q t (by omega)]; rfl

theorem fits_round (s : ByteArray) (hs : s.size ≤ 1048576) (p : List UInt8) (c : UInt8) (x17 : List Int) (x18 x19 : Int) (k j : Nat) (hj : j ≤ s.size) :
    impl_fitsForm.l1 (k + 1) s (row p s.toList) (c.toNat : Int) (shape (p ++ [c]) s.toList j) x17 x18 x19 ((s.size : Int) + 1) (j : Int)
      = impl_fitsForm.l1 k s (row p s.toList) (c.toNat : Int) (shape (p ++ [c]) s.toList (j + 1)) x17 x18 x19 ((s.size : Int) + 1) ((j + 1 : Nat) : Int) := by
  have hz : s.size = s.toList.length := size_eq s
  have hL : (shape (p ++ [c]) s.toList j).length = s.size + 1 := by rw [shape_length (by omega), hz]
  have hR : (row p s.toList).length = s.size + 1 := by rw [row_length, hz]
  have hj' : j ≤ s.toList.length := by omega
  rw [impl_fitsForm.l1, if_pos (by omega), wrap_id (x := (j : Int) + 1) (by omega) (by omega), show ((j : Int) + 1) = ((j + 1 : Nat) : Int) by omega]
  by_cases hc : c = 42
  · subst hc
    rw [if_pos ((u8_42 42).2 rfl), if_pos (by omega), if_pos (by rw [hR]; omega), rd_row hj', Int.toNat_natCast]
    cases j with
    | zero =>
      cases hv : isF p (s.toList.take 0) with
      | true =>
        rw [if_pos rfl, if_pos (by rw [hL]; omega), shape_set hj' (by rw [snoc_star_zero, hv])]
      | false =>
        rw [if_neg Bool.false_ne_true, if_neg (by omega), if_pos (by rw [hL]; omega), shape_set hj' (by rw [snoc_star_zero, hv])]
    | succ j =>
      cases hv : isF p (s.toList.take (j + 1)) with
      | true =>
        rw [if_pos rfl, if_pos (by rw [hL]; omega), shape_set hj' (by rw [snoc_star hj', hv]; rfl)]
      | false =>
        rw [if_neg Bool.false_ne_true, if_pos (by omega), wrap_id (by omega) (by omega), show (((j + 1 : Nat) : Int) - 1) = (j : Int) by omega, if_pos (by omega), if_pos (by rw [hL]; omega), if_pos (by rw [hL]; omega),
          rd_shape (by omega) (by omega), shape_set hj' (by rw [snoc_star hj', hv]; rfl)]
  · rw [if_neg (fun h => hc ((u8_42 c).1 h))]
    cases j with
    | zero => rw [if_neg (by omega), shape_keep hj' (snoc_one_zero hc)]
    | succ j =>
      rw [if_pos (by omega), wrap_id (x := ((j + 1 : Nat) : Int) - 1) (by omega) (by omega), show (((j + 1 : Nat) : Int) - 1) = (j : Int) by omega]
      obtain ⟨x, hx, e⟩ := bt_toList s (j : Int) (by omega) (by omega)
      rw [Int.toNat_natCast] at hx
      by_cases hq : c = 63
      · subst hq
        rw [if_pos ((u8_63 63).2 rfl), if_pos (by omega), if_pos (by rw [hR]; omega), if_pos (by omega), if_pos (by rw [hL]; omega), rd_row (by omega), Int.toNat_natCast,
          shape_set hj' (by rw [snoc_one hc hx]; rfl)]
      · rw [if_neg (fun h => hq ((u8_63 c).1 h)), if_pos (by omega), if_pos (by omega), e]
        by_cases hcx : c = x
        · subst hcx
          rw [if_pos rfl, if_pos (by rw [hR]; omega), if_pos (by omega), if_pos (by rw [hL]; omega), rd_row (by omega), Int.toNat_natCast, shape_set hj' (by rw [snoc_one hc hx]; simp)]
        · rw [if_neg (fun h => hcx ((u8_same c x).1 h)), shape_keep hj' (by rw [snoc_one hc hx]; simp [hq, hcx])]
theorem fits_inner (s : ByteArray) (hs : s.size ≤ 1048576) (p : List UInt8) (c : UInt8) (x17 : List Int) (x18 x19 : Int) {r : Bool}
    (hr : Ev (fun k => impl_fitsForm.l0 k s (row (p ++ [c]) s.toList) x17 x18 (wrap64 (x19 + 1))) r) (d : Nat) : ∀ j : Nat, j + d = s.size + 1 →
    Ev (fun k => impl_fitsForm.l1 k s (row p s.toList) (c.toNat : Int) (shape (p ++ [c]) s.toList j) x17 x18 x19 ((s.size : Int) + 1) (j : Int)) r := by
  induction d with
  | zero =>
    intro j hj
    refine Ev.step (fun k => by rw [impl_fitsForm.l1, if_neg (by omega)]) ?_
    rw [show j = s.toList.length + 1 by rw [← size_eq]; omega, shape_end]; exact hr
  | succ d ih =>
    intro j hj
    exact Ev.step (fun k => fits_round s hs p c x17 x18 x19 k j (by omega)) (ih (j + 1) (by omega))
theorem fits_outer (a s : ByteArray) (ha : a.size ≤ 1048576) (hs : s.size ≤ 1048576) (d : Nat) : ∀ i : Nat, i + d = a.size →
    Ev (fun k => impl_fitsForm.l0 k s (row (a.toList.take i) s.toList) (bytesOf a) (a.size : Int) (i : Int)) (isF a.toList s.toList) := by
  have hz : s.size = s.toList.length := size_eq s
  induction d with
  | zero =>
    intro i hi
    refine Ev.step (fun k => by rw [impl_fitsForm.l0, if_neg (by omega), if_pos (by omega), if_pos (by rw [row_length]; omega), rd_row (by omega)]) ?_
    refine ev_some ?_
    rw [List.take_of_length_le (by rw [← size_eq]; omega), List.take_of_length_le (by omega)]
  | succ d ih =>
    intro i hi
    obtain ⟨c, hc, e⟩ := bt_toList a (i : Int) (by omega) (by omega)
    rw [Int.toNat_natCast] at hc
    have ht : a.toList.take (i + 1) = a.toList.take i ++ [c] := by rw [List.take_add_one, hc]; rfl
    refine Ev.step (fun k => by
      rw [impl_fitsForm.l0, if_pos (by omega), if_pos (by omega), if_pos (by rw [bytesOf_length]; omega), wrap_id (x := (s.size : Int) + 1) (by omega) (by omega), if_pos (by omega), if_pos (by omega), Option.bind_some,
        rd_bytesOf, e, List.length_replicate, show (((s.size : Int) + 1).toNat) = s.toList.length + 1 by omega, ← shape_zero (a.toList.take i ++ [c]), show ((s.toList.length + 1 : Nat) : Int) = (s.size : Int) + 1 by omega]) ?_
    refine fits_inner s hs _ c _ _ _ ?_ (s.size + 1) 0 (by omega)
    rw [wrap_id (by omega) (by omega), ← ht, show ((i : Int) + 1) = ((i + 1 : Nat) : Int) by omega]
    exact ih (i + 1) (by omega)
theorem row_nil (t : List UInt8) : (List.replicate (t.length + 1) false).set 0 true = row [] t := by
  apply List.ext_getElem?
  intro i
  by_cases hi : i ≤ t.length
  · rw [row_get [] t hi]
    cases i with
    | zero => rw [List.replicate_succ, List.set_cons_zero]; rfl
    | succ i =>
      rw [List.getElem?_set_ne (by omega), List.getElem?_replicate_of_lt (by omega)]
      congr 1
      symm
      rw [Bool.eq_false_iff]
      intro h
      have h' := congrArg List.length (isF_nil.1 h)
      rw [List.length_take, List.length_nil] at h'; omega
  · rw [List.getElem?_eq_none (by rw [List.length_set, List.length_replicate]; omega), List.getElem?_eq_none (by rw [row_length]; omega)]
theorem impl_fitsForm.is (a s : ByteArray) (ha : a.size ≤ 1048576) (hs : s.size ≤ 1048576) : Ev (fun k => impl_fitsForm.f k a s) (isF a.toList s.toList) := by
  have hz : s.size = s.toList.length := size_eq s
  unfold impl_fitsForm.f
  rw [wrap_id (x := (s.size : Int) + 1) (by omega) (by omega)]
  refine ev_pos (by omega) (ev_pos (by omega) ?_)
  refine ev_bind0 (a := List.replicate (((s.size : Int) + 1).toNat) false) rfl ?_
  refine ev_pos (by rw [List.length_replicate]; omega) (ev_pos (by omega) ?_)
  refine ev_bind0 (a := bytesOf a) rfl ?_
  rw [show (((s.size : Int) + 1).toNat) = s.toList.length + 1 by omega, show (0 : Int).toNat = 0 from rfl, row_nil, bytesOf_length]
  exact fits_outer a s ha hs a.size 0 (by omega)
end Go.Proofs.Ytkkcpgahgehedaa.PForm

