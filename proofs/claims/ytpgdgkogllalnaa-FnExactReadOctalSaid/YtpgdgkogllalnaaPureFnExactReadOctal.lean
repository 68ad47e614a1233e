/- ReadOctal of the program and of the reference give the same mode for every text: no condition. -/
import Derived.Test.YtpgdgkogllalnaaPFnExactReadOctalx1
namespace Go.Proofs.Ytpgdgkogllalnaa.Pure
open Go.RowKit Go.Proofs.Ytpgdgkogllalnaa.PFnExactReadOctal Go.Proofs.YtpgdgkogllalnaaW.PrintWords
set_option linter.unusedSimpArgs false

/-- The three digits of a mode. -/
def octB (a0 : Int) : ByteArray := strOfNums ([(wrap64 (48 + (a0 / 64))) % 256, (wrap64 (48 + (Go.bits .and .i64 (a0 / 8) 7))) % 256, (wrap64 (48 + (Go.bits .and .i64 a0 7))) % 256] : List Int)
theorem octB_is (a : Int) : impl_octalText.f a = some (octB a) := rfl

/-- What the program's loop reads out of three bytes. -/
def dec1 (m b : Int) : Int := wrap64 (wrap64 (m * 8) + wrap64 (Go.bits .and .u8 b 7))
def dec (s : ByteArray) : Int := dec1 (dec1 (dec1 0 (bt s 0)) (bt s 1)) (bt s 2)

theorem octal_all : ∀ n : Fin 512, spec_l1Octal.f 3 (n.val : Int) = some (octB (n.val : Int)) ∧ dec (octB (n.val : Int)) = (n.val : Int) := by
  decide +kernel

theorem l1Octal_at {x : Int} (h0 : 0 ≤ x) (h1 : x < 512) {k : Nat} (hk : 3 ≤ k) : spec_l1Octal.f k x = some (octB x) := by
  obtain ⟨n, rfl⟩ := Int.eq_ofNat_of_zero_le h0
  exact at_rounds (spec_l1Octal.mono _) hk (octal_all ⟨n, by omega⟩).1
theorem dec_octB {x : Int} (h0 : 0 ≤ x) (h1 : x < 512) : dec (octB x) = x := by
  obtain ⟨n, rfl⟩ := Int.eq_ofNat_of_zero_le h0
  exact (octal_all ⟨n, by omega⟩).2

theorem eq_of_toList {a b : ByteArray} (h : a.toList = b.toList) : a = b := by
  rw [ByteArray.toList_eq, ByteArray.toList_eq] at h
  exact ByteArray.ext (Array.toList_inj.mp h)

theorem dig_all : ∀ n : Fin 256, 0 ≤ wrap64 (Go.bits .and .u8 (n.val : Int) 7) ∧ wrap64 (Go.bits .and .u8 (n.val : Int) 7) < 8 := by decide +kernel
theorem dec1_in {m b : Int} (hb : 0 ≤ b) (hb' : b ≤ 255) (h0 : 0 ≤ m) (h1 : m < 64) : 8 * m ≤ dec1 m b ∧ dec1 m b < 8 * m + 8 := by
  obtain ⟨n, rfl⟩ := Int.eq_ofNat_of_zero_le hb
  have h := dig_all ⟨n, by omega⟩
  simp only at h
  unfold dec1
  generalize wrap64 (Go.bits .and .u8 (n : Int) 7) = c at h
  unfold wrap64
  omega
theorem dec_in (s : ByteArray) : 0 ≤ dec s ∧ dec s < 512 := by
  unfold dec
  have h1 := dec1_in (m := 0) (bt_range s 0).1 (bt_range s 0).2 (by omega) (by omega)
  have h2 := dec1_in (m := dec1 0 (bt s 0)) (bt_range s 1).1 (bt_range s 1).2 (by omega) (by omega)
  have h3 := dec1_in (m := dec1 (dec1 0 (bt s 0)) (bt s 1)) (bt_range s 2).1 (bt_range s 2).2 (by omega) (by omega)
  omega

theorem spec_none (s : ByteArray) (d : Nat) : ∀ (k : Nat) (x : Int), 0 ≤ x → 512 - x = d → d + 3 < k → (∀ y, x ≤ y → y < 512 → octB y ≠ s) → spec_ReadOctal.l0 k s x = some (0, false) := by
  induction d with
  | zero =>
    intro k x h0 hd hk _
    obtain ⟨k, rfl⟩ : ∃ m, k = m + 1 := ⟨k - 1, by omega⟩
    simp only [spec_ReadOctal.l0]; rw [if_neg (by omega)]
  | succ d ih =>
    intro k x h0 hd hk hn
    obtain ⟨k, rfl⟩ : ∃ m, k = m + 1 := ⟨k - 1, by omega⟩
    have hlt : x < 512 := by omega
    simp only [spec_ReadOctal.l0]; rw [if_pos hlt, l1Octal_at h0 hlt (by omega)]; simp only [Option.bind_some]
    rw [if_neg (fun e => hn x (by omega) hlt (eq_of_toList e))]
    rw [show wrap64 (x + 1) = x + 1 by unfold wrap64; omega]
    exact ih k (x + 1) (by omega) (by omega) (by omega) (fun y h1 h2 => hn y (by omega) h2)

theorem spec_some (s : ByteArray) (m : Int) (hm : m < 512) (e : octB m = s) (d : Nat) : ∀ (k : Nat) (x : Int), 0 ≤ x → m - x = d → d + 3 < k → spec_ReadOctal.l0 k s x = some (m, true) := by
  induction d with
  | zero =>
    intro k x h0 hd hk
    obtain ⟨k, rfl⟩ : ∃ m, k = m + 1 := ⟨k - 1, by omega⟩
    obtain rfl : x = m := by omega
    simp only [spec_ReadOctal.l0]; rw [if_pos hm, l1Octal_at h0 hm (by omega)]; simp only [Option.bind_some]
    rw [if_pos (by rw [e])]
  | succ d ih =>
    intro k x h0 hd hk
    obtain ⟨k, rfl⟩ : ∃ m, k = m + 1 := ⟨k - 1, by omega⟩
    have hlt : x < 512 := by omega
    have hne : octB x ≠ s := fun e' => by
      have h1 := dec_octB h0 hlt
      have h2 := dec_octB (x := m) (by omega) hm
      rw [e'] at h1; rw [e] at h2
      omega
    simp only [spec_ReadOctal.l0]; rw [if_pos hlt, l1Octal_at h0 hlt (by omega)]; simp only [Option.bind_some]
    rw [if_neg (fun e => hne (eq_of_toList e))]
    rw [show wrap64 (x + 1) = x + 1 by unfold wrap64; omega]
    exact ih k (x + 1) (by omega) (by omega) (by omega)

theorem octB_size (x : Int) : (octB x).size = 3 := by unfold octB; rw [strOfNums_size]; rfl

theorem impl_reads (s : ByteArray) (h : s.size = 3) (k : Nat) : impl_ReadOctal.l0 (k + 4) s 0 0 = if (octB (dec s)).toList = s.toList then some (dec s, true) else some (0, false) := by
  have hs : (s.size : Int) = 3 := by omega
  simp only [impl_ReadOctal.l0, hs, octB_is]
  simp only [show wrap64 (0 + 1) = 1 by unfold wrap64; omega, show wrap64 (1 + 1) = 2 by unfold wrap64; omega, show wrap64 (2 + 1) = 3 by unfold wrap64; omega]
  simp [dec, dec1]

theorem spec_is (s : ByteArray) (k : Nat) (hk : 600 ≤ k) : spec_ReadOctal.f k s = if octB (dec s) = s then some (dec s, true) else some (0, false) := by
  have hd := dec_in s
  show spec_ReadOctal.l0 k s 0 = _
  by_cases e : octB (dec s) = s
  · rw [if_pos e]
    exact spec_some s (dec s) hd.2 e (dec s).toNat k 0 (by omega) (by omega) (by omega)
  · rw [if_neg e]
    refine spec_none s 512 k 0 (by omega) (by omega) (by omega) (fun y h1 h2 e' => ?_)
    have := dec_octB h1 h2
    rw [e'] at this
    rw [this] at e
    exact e e'
theorem impl_is (s : ByteArray) (k : Nat) (hk : 4 ≤ k) : impl_ReadOctal.f k s = if octB (dec s) = s then some (dec s, true) else some (0, false) := by
  obtain ⟨k, rfl⟩ : ∃ m, k = m + 4 := ⟨k - 4, by omega⟩
  unfold impl_ReadOctal.f
  by_cases h3 : s.size = 3
  · rw [if_pos (by omega), impl_reads s h3 k]
    by_cases e : octB (dec s) = s
    · rw [if_pos e, if_pos (by rw [e])]
    · rw [if_neg e, if_neg (fun e' => e (eq_of_toList e'))]
  · rw [if_neg (by omega), if_neg (fun e => h3 (by rw [← e, octB_size]))]

theorem both (s : ByteArray) : ∃ r, spec_ReadOctal.f 600 s = some r ∧ impl_ReadOctal.f 600 s = some r := by
  rw [spec_is s 600 (Nat.le_refl _), impl_is s 600 (by omega)]
  by_cases e : octB (dec s) = s
  · rw [if_pos e]; exact ⟨_, rfl, rfl⟩
  · rw [if_neg e]; exact ⟨_, rfl, rfl⟩
theorem pair_same (r : Int × Bool) : (if r.1 = r.1 then (if (r.2 != r.2) = true then some false else some true) else some false) = some true := by
  rw [if_pos rfl, bne_self_eq_false]; rfl

theorem FnExactReadOctal : laws_FnExactReadOctal.Pure := by
  intro s _
  obtain ⟨r, h1, h2⟩ := both s
  refine ⟨600, ?_⟩
  unfold laws_FnExactReadOctal.f
  by_cases hg : (s.size : Int) > 1048576
  · rw [if_pos hg]
  · rw [if_neg hg, h1, h2]
    exact pair_same r

end Go.Proofs.Ytpgdgkogllalnaa.Pure
