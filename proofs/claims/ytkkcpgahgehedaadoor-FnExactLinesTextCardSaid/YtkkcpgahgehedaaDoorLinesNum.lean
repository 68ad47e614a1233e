/- The decimal numeral: the library's plain function and the reference's. -/
import Derived.Test.YtkkcpgahgehedaaDoorLinesA
import Derived.Test.YtkkcpgahgehedaaDoorPLinesx6
import Derived.Lib.ItoaNum
namespace Go.Proofs.YtkkcpgahgehedaaDoor.PLines
open Go.RowKit Go.Proofs.YtkkcpgahgehedaaDoorW.PrintWords Go.Proofs.YtkkcpgahgehedaaDoorW.PrintLast Go.Proofs.YtkkcpgahgehedaaDoorW.PrintMore Go.Proofs.YtkkcpgahgehedaaDoor.Aid
set_option linter.unusedSimpArgs false
set_option linter.unusedVariables false
def num (n : Int) : ByteArray := ⟨(Lib.itoa n).toArray⟩
theorem arr_toList (l : List UInt8) : (⟨l.toArray⟩ : ByteArray).toList = l := ByteArray.toList_mk l
theorem app_toList (a b : ByteArray) : (a ++ b).toList = a.toList ++ b.toList := by
  rw [ByteArray.toList_eq, ByteArray.toList_eq, ByteArray.toList_eq, ByteArray.data_append, Array.toList_append]
theorem dec_len : ∀ u : Nat, (Lib.decDigits u).length ≤ u + 1 := by
  intro u
  induction u using Nat.strongRecOn with
  | _ u ih =>
    rw [Lib.decDigits]
    split
    · simp
    · rw [List.length_append, List.length_singleton]
      have := ih (u / 10) (by omega)
      omega
theorem num_nonneg {n : Int} (h : 0 ≤ n) : num n = ⟨(Lib.decDigits n.toNat).toArray⟩ := by unfold num Lib.itoa; rw [if_neg (by omega)]
theorem num_size {n : Int} (h : 0 ≤ n) : ((num n).size : Int) ≤ n + 1 := by
  rw [num_nonneg h, size_eq, arr_toList]
  have := dec_len n.toNat; omega
theorem one_digit : ∀ d : Fin 10, strOfNums [((48 : Int) + (d.val : Int)) % 256] = (⟨#[UInt8.ofNat (48 + d.val)]⟩ : ByteArray) := by decide +kernel
theorem digit {d : Int} (h0 : 0 ≤ d) (h1 : d < 10) : strOfNums [(wrap64 (48 + d)) % 256] = (⟨#[UInt8.ofNat (48 + d.toNat)]⟩ : ByteArray) := by
  rw [wrap_id (by omega) (by omega)]
  obtain ⟨m, rfl⟩ := Int.eq_ofNat_of_zero_le h0
  exact one_digit ⟨m, by omega⟩
theorem spec_l1Num.is (u : Nat) : ∀ n : Int, 0 ≤ n → n ≤ 9223372036854775000 → n.toNat = u → Ev (fun k => spec_l1Num.f k n) (num n) := by
  induction u using Nat.strongRecOn with
  | _ u ih =>
    intro n h0 h1 hu
    by_cases h : n < 10
    · refine Ev.step (fun k => by rw [spec_l1Num.f, if_pos h]) (ev_some ?_)
      rw [digit h0 h, num_nonneg h0, Lib.decDigits, dif_pos (by omega)]
    · have e : Int.tdiv n 10 = n / 10 := Int.tdiv_eq_ediv_of_nonneg h0
      have em : Int.tmod n 10 = n % 10 := Int.tmod_eq_emod_of_nonneg h0
      have hq : wrap64 (Int.tdiv n 10) = n / 10 := by rw [e, wrap_id (by omega) (by omega)]
      have hd : strOfNums [(wrap64 (48 + (Int.tmod n 10))) % 256] = (⟨#[UInt8.ofNat (48 + (n % 10).toNat)]⟩ : ByteArray) := by
        rw [em]; exact digit (by omega) (by omega)
      have hz := num_size (n := n / 10) (by omega)
      have h1z : (strOfNums [(wrap64 (48 + (Int.tmod n 10))) % 256]).size = 1 := by rw [hd]; rfl
      have hc : (num (n / 10)).size + (strOfNums [(wrap64 (48 + (Int.tmod n 10))) % 256]).size ≤ 9223372036854775807 := by rw [h1z]; omega
      refine Ev.step (fun k => by rw [spec_l1Num.f, if_neg h, hq]) (ev_bind (ih (n / 10).toNat (by omega) (n / 10) (by omega) (by omega) rfl) (ev_bind0 rfl (ev_pos hc (ev_some ?_))))
      rw [hd]
      refine eq_of_toList ?_
      rw [app_toList, num_nonneg h0, num_nonneg (show 0 ≤ n / 10 by omega), arr_toList, arr_toList]
      conv => rhs; rw [Lib.decDigits]
      rw [dif_neg (by omega), show (n / 10).toNat = n.toNat / 10 by omega, show (n % 10).toNat = n.toNat % 10 by omega]
      exact (arr_toList _).symm
end Go.Proofs.YtkkcpgahgehedaaDoor.PLines

