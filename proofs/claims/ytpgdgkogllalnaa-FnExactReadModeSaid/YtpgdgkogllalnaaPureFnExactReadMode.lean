/- ReadMode of the program and of the reference give the same mode for every text: no condition. -/
import Derived.Test.YtpgdgkogllalnaaAid
import Derived.Test.YtpgdgkogllalnaaPFnExactReadModex1
namespace Go.Proofs.Ytpgdgkogllalnaa.PFnExactReadMode
open Go.RowKit Go.Proofs.YtpgdgkogllalnaaW.PrintWords Go.Proofs.YtpgdgkogllalnaaW.PrintMore Go.Proofs.Ytpgdgkogllalnaa.Aid
set_option linter.unusedSimpArgs false
def modeB (x : Int) : ByteArray := strOfNums (impl_modeText.list x)
/-- What the program's loop reads out of bytes. -/
def decM (l : List Int) (m : Int) : Int := l.foldl (fun m c => if c = 45 then m * 2 else m * 2 + 1) m
theorem signs_all : ∀ n : Fin 512, spec_l1Signs.f 10 (n.val : Int) = some (modeB (n.val : Int)) ∧ decM ((bytesOf (modeB (n.val : Int))).take 9) 0 = (n.val : Int) := by decide +kernel
theorem spec_l1Signs.is {x : Int} (h0 : 0 ≤ x) (h1 : x < 512) : Ev (fun k => spec_l1Signs.f k x) (modeB x) := by
  obtain ⟨n, rfl⟩ := Int.eq_ofNat_of_zero_le h0
  exact Ev.of (spec_l1Signs.mono _) (signs_all ⟨n, by omega⟩).1
theorem dec_modeB {x : Int} (h0 : 0 ≤ x) (h1 : x < 512) : decM ((bytesOf (modeB x)).take 9) 0 = x := by
  obtain ⟨n, rfl⟩ := Int.eq_ofNat_of_zero_le h0
  exact (signs_all ⟨n, by omega⟩).2
theorem modeB_ne {x y : Int} (hx : 0 ≤ x ∧ x < 512) (hy : 0 ≤ y ∧ y < 512) (h : x ≠ y) : modeB x ≠ modeB y := fun e => by
  have h1 := dec_modeB hx.1 hx.2
  have h2 := dec_modeB hy.1 hy.2
  rw [e] at h1; omega
theorem spec_none (s : ByteArray) (d : Nat) : ∀ x : Int, 0 ≤ x → 512 - x = d → (∀ y, x ≤ y → y < 512 → modeB y ≠ s) → Ev (fun k => spec_ReadMode.l0 k s x) (0, false) := by
  induction d with
  | zero =>
    intro x h0 hd _
    exact Ev.step (fun k => by rw [spec_ReadMode.l0, if_neg (by omega)]) (Ev.now _)
  | succ d ih =>
    intro x h0 hd hn
    refine Ev.step (fun k => by rw [spec_ReadMode.l0, if_pos (by omega)]) ?_
    refine ev_bind (spec_l1Signs.is h0 (by omega)) (ev_neg (fun e => hn x (by omega) (by omega) (eq_of_toList e)) ?_)
    rw [wrap_id (by omega) (by omega)]
    exact ih (x + 1) (by omega) (by omega) (fun y h1 h2 => hn y (by omega) h2)
theorem spec_some (s : ByteArray) (m : Int) (hm : m < 512) (e : modeB m = s) (d : Nat) : ∀ x : Int, 0 ≤ x → m - x = d → Ev (fun k => spec_ReadMode.l0 k s x) (m, true) := by
  induction d with
  | zero =>
    intro x h0 hd
    obtain rfl : x = m := by omega
    refine Ev.step (fun k => by rw [spec_ReadMode.l0, if_pos hm]) ?_
    exact ev_bind (spec_l1Signs.is h0 (by omega)) (ev_pos (by rw [e]) (Ev.now _))
  | succ d ih =>
    intro x h0 hd
    refine Ev.step (fun k => by rw [spec_ReadMode.l0, if_pos (by omega)]) ?_
    refine ev_bind (spec_l1Signs.is h0 (by omega)) (ev_neg (fun e' => ?_) ?_)
    · exact modeB_ne (x := x) (y := m) ⟨h0, by omega⟩ ⟨by omega, hm⟩ (by omega) ((eq_of_toList e').trans e.symm)
    · rw [wrap_id (by omega) (by omega)]
      exact ih (x + 1) (by omega) (by omega)
theorem pow9 : ∀ i : Fin 10, (2 : Int) ^ i.val ≤ 512 := by decide
theorem pow8 : ∀ i : Fin 9, (2 : Int) ^ i.val ≤ 256 := by decide
theorem impl_loop (s : ByteArray) (n : Int) (hn0 : n ≤ 9) (hn1 : n ≤ s.size) (d : Nat) : ∀ (m i : Int), 0 ≤ i → i ≤ n → n - i = d → 0 ≤ m → m < 2 ^ i.toNat →
    ∃ v, v = decM (((bytesOf s).take n.toNat).drop i.toNat) m ∧ 0 ≤ v ∧ v < 512 ∧ Ev (fun k => impl_ReadMode.l0 k s m n i) (if modeB v = s then (v, true) else (0, false)) := by
  have hlen : ((bytesOf s).take n.toNat).length = n.toNat := by rw [List.length_take, bytesOf_length]; omega
  induction d with
  | zero =>
    intro m i h0 h1 hd hm0 hm1
    have hm2 : m < 512 := by
      have : i.toNat ≤ 9 := by omega
      have h2 := pow9 ⟨i.toNat, by omega⟩
      simp only at h2
      omega
    refine ⟨m, ?_, hm0, hm2, ?_⟩
    · rw [show ((bytesOf s).take n.toNat).drop i.toNat = [] by rw [List.drop_eq_nil_iff, hlen]; omega]; rfl
    · refine Ev.step (fun k => by rw [impl_ReadMode.l0, if_neg (by omega)]) ?_
      refine ev_bind0 (a := modeB m) rfl ?_
      by_cases e : modeB m = s
      · rw [if_pos e]; exact ev_pos (by rw [e]) (Ev.now _)
      · rw [if_neg e]; exact ev_neg (fun e' => e (eq_of_toList e')) (Ev.now _)
  | succ d ih =>
    intro m i h0 h1 hd hm0 hm1
    have hi : i.toNat < 9 := by omega
    have hp : (2 : Int) ^ (i + 1).toNat = 2 * 2 ^ i.toNat := by rw [show (i + 1).toNat = i.toNat + 1 by omega, Int.pow_succ, Int.mul_comm]
    have hb := pow8 ⟨i.toNat, by omega⟩
    simp only at hb
    have hdrop : ((bytesOf s).take n.toNat).drop i.toNat = bt s i :: ((bytesOf s).take n.toNat).drop (i + 1).toNat := by
      rw [drop_list _ 0 i h0 (by rw [hlen]; omega)]
      congr 1
      have := rd_bytesOf s i
      unfold rd at this
      rw [← this, List.getD_eq_getElem?_getD, List.getD_eq_getElem?_getD, List.getElem?_take_of_lt (by omega)]
    have hstep : ∀ k, impl_ReadMode.l0 (k + 1) s m n i = if bt s i = 45 then impl_ReadMode.l0 k s (m * 2) n (i + 1) else impl_ReadMode.l0 k s (m * 2 + 1) n (i + 1) := fun k => by
      rw [impl_ReadMode.l0, if_pos (by omega), if_pos h0, if_pos (by omega), wrap_id (x := m * 2) (by omega) (by omega), wrap_id (x := m * 2 + 1) (by omega) (by omega), wrap_id (x := i + 1) (by omega) (by omega)]
    rw [hdrop]
    by_cases hc : bt s i = 45
    · obtain ⟨v, e, h2, h3, h4⟩ := ih (m * 2) (i + 1) (by omega) (by omega) (by omega) (by omega) (by rw [hp]; omega)
      refine ⟨v, ?_, h2, h3, Ev.step hstep (ev_pos hc h4)⟩
      rw [e]; unfold decM; rw [List.foldl_cons, if_pos hc]
    · obtain ⟨v, e, h2, h3, h4⟩ := ih (m * 2 + 1) (i + 1) (by omega) (by omega) (by omega) (by omega) (by rw [hp]; omega)
      refine ⟨v, ?_, h2, h3, Ev.step hstep (ev_neg hc h4)⟩
      rw [e]; unfold decM; rw [List.foldl_cons, if_neg hc]
theorem take_min (s : ByteArray) : (bytesOf s).take (mn (s.size : Int) 9).toNat = (bytesOf s).take 9 := by
  unfold mn
  split
  · rfl
  · rw [List.take_of_length_le (by rw [bytesOf_length]; omega), List.take_of_length_le (by rw [bytesOf_length]; omega)]
theorem both (s : ByteArray) : ∃ r, Ev (fun k => spec_ReadMode.f k s) r ∧ Ev (fun k => impl_ReadMode.f k s) r := by
  have hm : mn (s.size : Int) 9 ≤ 9 ∧ mn (s.size : Int) 9 ≤ s.size ∧ 0 ≤ mn (s.size : Int) 9 := by unfold mn; split <;> omega
  obtain ⟨v, e, h0, h1, h⟩ := impl_loop s (mn (s.size : Int) 9) hm.1 hm.2.1 (mn (s.size : Int) 9).toNat 0 0 (by omega) hm.2.2 (by omega) (by omega) (by decide)
  refine ⟨_, ?_, h⟩
  rw [take_min, Int.toNat_zero, List.drop_zero] at e
  by_cases hv : modeB v = s
  · rw [if_pos hv]
    exact spec_some s v h1 hv v.toNat 0 (by omega) (by omega)
  · rw [if_neg hv]
    refine spec_none s 512 0 (by omega) (by omega) (fun y h2 h3 e' => hv ?_)
    have := dec_modeB h2 h3
    rw [e', ← e] at this
    rw [this, e']
theorem pair_same (r : Int × Bool) : (if r.1 = r.1 then (if (r.2 != r.2) = true then some false else some true) else some false) = some true := by
  rw [if_pos rfl, bne_self_eq_false]; rfl
end Go.Proofs.Ytpgdgkogllalnaa.PFnExactReadMode
namespace Go.Proofs.Ytpgdgkogllalnaa.Pure
open Go.RowKit Go.Proofs.Ytpgdgkogllalnaa.PFnExactReadMode Go.Proofs.YtpgdgkogllalnaaW.PrintWords Go.Proofs.Ytpgdgkogllalnaa.Aid
theorem FnExactReadMode : laws_FnExactReadMode.Pure := by
  intro s _
  refine Ev.rounds (r := true) ?_
  unfold laws_FnExactReadMode.f
  obtain ⟨r, h1, h2⟩ := both s
  refine ev_ite (fun _ => Ev.now _) (fun _ => ev_bind h1 (ev_bind h2 (ev_of (pair_same r))))
end Go.Proofs.Ytpgdgkogllalnaa.Pure

