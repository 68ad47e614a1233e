/- May of the program and of the reference agree at every input: no condition. -/
import Derived.Test.YtpgdgkogllalnaaPFnExactMayx1
namespace Go.Proofs.Ytpgdgkogllalnaa.Pure
open Go.RowKit Go.Proofs.Ytpgdgkogllalnaa.PFnExactMay Go.Proofs.YtpgdgkogllalnaaW.PrintWords
theorem May_bits : ∀ b w : Fin 8, (Go.bits .andNot .i64 (w.val : Int) (b.val : Int) == 0) = (Go.bits .and .i64 (b.val : Int) (w.val : Int) == (w.val : Int)) := by decide +kernel
theorem May_low : ∀ n : Fin 512, 0 ≤ Go.bits .and .i64 (n.val : Int) 7 ∧ Go.bits .and .i64 (n.val : Int) 7 < 8 := by decide +kernel
theorem May_bits' {b w : Int} (h0 : 0 ≤ b) (h1 : b < 8) (h2 : 0 ≤ w) (h3 : w < 8) : (Go.bits .andNot .i64 w b == 0) = (Go.bits .and .i64 b w == w) := by
  obtain ⟨n, rfl⟩ := Int.eq_ofNat_of_zero_le h0
  obtain ⟨m, rfl⟩ := Int.eq_ofNat_of_zero_le h2
  exact May_bits ⟨n, by omega⟩ ⟨m, by omega⟩
theorem May_low' {n : Int} (h0 : 0 ≤ n) (h1 : n < 512) : 0 ≤ Go.bits .and .i64 n 7 ∧ Go.bits .and .i64 n 7 < 8 := by
  obtain ⟨n, rfl⟩ := Int.eq_ofNat_of_zero_le h0
  exact May_low ⟨n, by omega⟩
theorem within_is (n a b : Int) : impl_within.f n a b = some (decide (a ≤ n ∧ n ≤ b)) := by
  unfold impl_within.f
  by_cases h : n ≥ a
  · rw [if_pos h]; simp [show a ≤ n from h]
  · rw [if_neg h]; simp [show ¬ a ≤ n from h]
theorem l1In_is (n a b : Int) : spec_l1In.f n a b = some (decide (a ≤ n ∧ n ≤ b)) := by
  unfold spec_l1In.f
  by_cases h : n ≥ a
  · rw [if_pos h]; simp [show a ≤ n from h]
  · rw [if_neg h]; simp [show ¬ a ≤ n from h]
theorem may_is (c d m u g w : Int) (hm : 0 ≤ m ∧ m ≤ 511) (hw : 0 ≤ w ∧ w ≤ 7) : impl_Cred_may.f c d m u g w = spec_l1May.f c d m u g w := by
  unfold impl_Cred_may.f spec_l1May.f
  have h1 := May_low' (n := m / 8) (by omega) (by omega)
  have h2 := May_low' (n := m) (by omega) (by omega)
  rw [May_bits' (b := m / 64) (by omega) (by omega) (by omega) (by omega), May_bits' h1.1 h1.2 (by omega) (by omega), May_bits' h2.1 h2.2 (by omega) (by omega)]
theorem may_some (c d m u g w : Int) : ∃ b, spec_l1May.f c d m u g w = some b := by
  unfold spec_l1May.f
  repeat' split
  all_goals exact ⟨_, rfl⟩
theorem FnExactMay : laws_FnExactMay.Pure := by
  intro c d m u g w _ _ _ _ _ _
  unfold laws_FnExactMay.f laws_toCred.f spec_May.f impl_May.f impl_GoodCred.f spec_l1Cred.f impl_isId.f impl_isMode.f spec_l1Mode.f
  simp only [within_is, l1In_is, Option.bind_some]
  obtain ⟨b, hb⟩ := may_some c d m u g w
  by_cases h1 : 0 ≤ c ∧ c ≤ 99 <;> by_cases h2 : 0 ≤ d ∧ d ≤ 99 <;> by_cases h3 : 0 ≤ m ∧ m ≤ 511 <;> by_cases h4 : 0 ≤ u ∧ u ≤ 99 <;> by_cases h5 : 0 ≤ g ∧ g ≤ 99 <;> by_cases h6 : 0 ≤ w ∧ w ≤ 7 <;>
    (try have e := may_is c d m u g w h3 h6) <;> simp [h1, h2, h3, h4, h5, h6, hb] <;> simp_all
end Go.Proofs.Ytpgdgkogllalnaa.Pure

