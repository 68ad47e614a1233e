/- ChangeMode of the program and of the reference agree at every mode and text: no condition. -/
import Derived.Test.YtbhigchfeagnjaaPChmx4
import Derived.Test.YtbhigchfeagnjaaAid
import Derived.Lib.IndexLaws
namespace Go.Proofs.Ytbhigchfeagnjaa.PChm
open Go.RowKit Go.Proofs.YtbhigchfeagnjaaW.PrintWords Go.Proofs.YtbhigchfeagnjaaW.PrintLast Go.Proofs.YtbhigchfeagnjaaW.PrintMore Go.Proofs.Ytbhigchfeagnjaa.Aid
set_option linter.unusedVariables false
set_option linter.unusedSimpArgs false
/-- A text's byte. -/
def btB (s : ByteArray) (i : Int) : UInt8 := (bt s i).toNat.toUInt8
theorem bt_list (s : ByteArray) (i : Int) (h0 : 0 ≤ i) (h1 : i < (s.size : Int)) : s.data.toList[i.toNat]? = some (btB s i) := by
  have h := bt_at s i (by omega)
  rw [Lib.data_getElem? s i.toNat (by omega), btB, ← h]; simp
theorem u8_inj {a b : Int} (ha : 0 ≤ a ∧ a ≤ 255) (hb : 0 ≤ b ∧ b ≤ 255) (h : a.toNat.toUInt8 = b.toNat.toUInt8) : a = b := by
  have h := congrArg UInt8.toNat h
  simp only [Nat.toUInt8, UInt8.toNat_ofNat'] at h
  omega
theorem btB_iff (s t : ByteArray) (i j : Int) : bt s i = bt t j ↔ btB s i = btB t j := ⟨fun h => by rw [btB, btB, h], u8_inj (bt_range s i) (bt_range t j)⟩
theorem ix_cases (l : List UInt8) (c : UInt8) : (Lib.indexByte l c = -1 ∧ ∀ k : Nat, l[k]? ≠ some c) ∨ ∃ o : Nat, Lib.indexByte l c = o ∧ l[o]? = some c ∧ ∀ k : Nat, k < o → l[k]? ≠ some c := by
  have hg := Lib.indexByte_ge l c
  by_cases h : Lib.indexByte l c = -1
  · exact .inl ⟨h, Lib.indexByte_none h⟩
  · exact .inr ⟨(Lib.indexByte l c).toNat, by omega, Lib.indexByte_some (by omega)⟩
/-- What the letters of a text come to, from the i-th on. -/
def lt (of : ByteArray) (bits : List Int) (s : ByteArray) : Nat → Int → Int → Option Int
  | 0, _, n => some n
  | d + 1, i, n => if Lib.indexByte of.data.toList (btB s i) < 0 then none else if 0 ≤ Lib.indexByte (s.extract 0 i.toNat).data.toList (btB s i) then none else lt of bits s d (i + 1) (Go.bits .or .i64 n (rd bits (Lib.indexByte of.data.toList (btB s i))))
def ltA (o : Option Int) : Int × Bool := match o with | none => (0, false) | some v => (v, true)
def ltB (o : Option Int) : Int := match o with | none => -1 | some v => v
theorem ix_lt (l : List UInt8) (c : UInt8) : Lib.indexByte l c < (l.length : Int) := by
  rcases ix_cases l c with ⟨h, _⟩ | ⟨o, h, ho, _⟩
  · omega
  · have := (List.getElem?_eq_some_iff.1 ho).1
    omega
theorem impl_letters_loop (s of : ByteArray) (bits : List Int) (hl : bits.length = of.size) (hs : s.size ≤ 1048576) (d : Nat) : ∀ n i : Int, 0 ≤ i → i ≤ s.size → (s.size : Int) - i = d → Ev (fun k => impl_lettersOf.l0 k s of bits n s.size i) (ltA (lt of bits s d i n)) := by
  induction d with
  | zero =>
    intro n i h0 hi hd
    exact Ev.step (fun k => by rw [impl_lettersOf.l0, if_neg (by omega)]; rfl) (Ev.now _)
  | succ d ih =>
    intro n i h0 hi hd
    have hlt : i < (s.size : Int) := by omega
    have hx := ix_lt of.data.toList (btB s i)
    rw [data_length] at hx
    refine Ev.step (fun k => by rw [impl_lettersOf.l0, if_pos hlt, if_pos h0, if_pos hlt, wrap_id (x := i + 1) (by omega) (by omega)]) (ev_bind0 (show strings_IndexByte.f of (bt s i) = some (Lib.indexByte of.data.toList (btB s i)) from rfl) ?_)
    refine ev_ite (fun h1 => ?_) (fun h1 => ?_)
    · rw [lt, if_pos h1]; exact Ev.now _
    · refine ev_pos (by omega) (ev_bind0 (show strings_IndexByte.f (s.extract 0 i.toNat) (bt s i) = some (Lib.indexByte (s.extract 0 i.toNat).data.toList (btB s i)) from rfl) ?_)
      refine ev_ite (fun h2 => ?_) (fun h2 => ?_)
      · rw [lt, if_neg h1, if_pos h2]; exact Ev.now _
      · rw [lt, if_neg h1, if_neg h2]
        exact ev_pos (by omega) (ev_pos (by omega) (ih _ (i + 1) (by omega) (by omega) (by omega)))
theorem spec_l1_scan (s of : ByteArray) (bits : List Int) (n i : Int) (r : Int) (h0 : 0 ≤ i) (hi : i < (s.size : Int)) (ho : of.size ≤ 1048576) (K : Nat) (hK : K ≤ of.size) (hne : ∀ k : Nat, k < K → of.data.toList[k]? ≠ some (btB s i)) (hat : K < of.size → of.data.toList[K]? = some (btB s i)) (hr : Ev (fun k => spec_l1Letters.j2 k s of bits n i (K : Int)) r) (d : Nat) : ∀ j : Int, 0 ≤ j → j ≤ K → (K : Int) - j = d → Ev (fun k => spec_l1Letters.l1 k s of bits n i j) r := by
  induction d with
  | zero =>
    intro j h1 h2 hd
    obtain rfl : j = (K : Int) := by omega
    refine Ev.step (fun k => by rw [spec_l1Letters.l1]) (ev_ite (fun h3 => ev_pos h1 (ev_pos h0 (ev_pos hi (ev_pos ?_ hr)))) (fun _ => hr))
    have e := bt_list of K (by omega) h3
    rw [Int.toNat_natCast, hat (by omega)] at e
    exact (btB_iff of s K i).2 (Option.some.inj e).symm
  | succ d ih =>
    intro j h1 h2 hd
    have h3 : j < (of.size : Int) := by omega
    have e := bt_list of j h1 h3
    refine Ev.step (fun k => by rw [spec_l1Letters.l1, if_pos h3, if_pos h1, if_pos h0, if_pos hi, if_neg (fun h => hne j.toNat (by omega) (by rw [e, (btB_iff of s j i).1 h])), wrap_id (x := j + 1) (by omega) (by omega)]) (ih (j + 1) (by omega) (by omega) (by omega))
theorem pre_at (s : ByteArray) (i k : Nat) (hi : i ≤ s.size) (hk : k < i) : (s.extract 0 i).data.toList[k]? = s.data.toList[k]? := by
  have : (s.extract 0 i).data.toList = s.data.toList.take i := by
    rw [ByteArray.data_extract, Array.toList_extract]; simp [List.extract]
  rw [this, List.getElem?_take, if_pos hk]
theorem pre_len (s : ByteArray) (i : Nat) (hi : i ≤ s.size) : (s.extract 0 i).data.toList.length = i := by
  rw [data_length, ByteArray.size_extract]; omega
theorem spec_l2_scan (s of : ByteArray) (bits : List Int) (n i m : Int) (r : Int) (h0 : 0 ≤ i) (hi : i < (s.size : Int)) (hs : s.size ≤ 1048576) (hm : 0 ≤ m) (hm2 : m < (bits.length : Int)) (hr : (0 ≤ Lib.indexByte (s.extract 0 i.toNat).data.toList (btB s i) → r = -1) ∧ (¬ 0 ≤ Lib.indexByte (s.extract 0 i.toNat).data.toList (btB s i) → Ev (fun k => spec_l1Letters.l0 k s of bits (Go.bits .or .i64 n (rd bits m)) (i + 1)) r)) : Ev (fun k => spec_l1Letters.l2 k s of bits n i m 0) r := by
  obtain ⟨K, hK, hKi, hne, hat⟩ : ∃ K : Nat, (0 ≤ Lib.indexByte (s.extract 0 i.toNat).data.toList (btB s i) ↔ K < i.toNat) ∧ K ≤ i.toNat ∧ (∀ k : Nat, k < K → s.data.toList[k]? ≠ some (btB s i)) ∧ (K < i.toNat → s.data.toList[K]? = some (btB s i)) := by
    rcases ix_cases (s.extract 0 i.toNat).data.toList (btB s i) with ⟨h, hn⟩ | ⟨o, h, ho, hn⟩
    · exact ⟨i.toNat, by rw [h]; omega, by omega, fun k hk => by rw [← pre_at s i.toNat k (by omega) hk]; exact hn k, fun h => absurd h (by omega)⟩
    · have hl := (List.getElem?_eq_some_iff.1 ho).1
      rw [pre_len s i.toNat (by omega)] at hl
      exact ⟨o, by rw [h]; omega, by omega, fun k hk => by rw [← pre_at s i.toNat k (by omega) (by omega)]; exact hn k hk, fun _ => by rw [← pre_at s i.toNat o (by omega) hl]; exact ho⟩
  have L : ∀ d : Nat, ∀ j : Int, 0 ≤ j → j ≤ K → (K : Int) - j = d → Ev (fun k => spec_l1Letters.l2 k s of bits n i m j) r := by
    intro d
    induction d with
    | zero =>
      intro j h1 h2 hd
      obtain rfl : j = (K : Int) := by omega
      by_cases h3 : K < i.toNat
      · have e := bt_list s K (by omega) (by omega)
        rw [Int.toNat_natCast, hat h3] at e
        obtain rfl := hr.1 (hK.2 h3)
        exact Ev.step (fun k => by rw [spec_l1Letters.l2, if_pos (by omega), if_pos (by omega), if_pos (by omega), if_pos h0, if_pos hi, if_pos ((btB_iff s s K i).2 (Option.some.inj e).symm)]) (Ev.now _)
      · exact Ev.step (fun k => by rw [spec_l1Letters.l2, if_neg (by omega), if_pos hm, if_pos hm2, wrap_id (x := i + 1) (by omega) (by omega)]) (hr.2 (fun h => h3 (hK.1 h)))
    | succ d ih =>
      intro j h1 h2 hd
      have e := bt_list s j h1 (by omega)
      refine Ev.step (fun k => by rw [spec_l1Letters.l2, if_pos (by omega), if_pos h1, if_pos (by omega), if_pos h0, if_pos hi, if_neg (fun h => hne j.toNat (by omega) (by rw [e, (btB_iff s s j i).1 h])), wrap_id (x := j + 1) (by omega) (by omega)]) (ih (j + 1) (by omega) (by omega) (by omega))
  exact L K 0 (by omega) (by omega) (by omega)
theorem spec_letters_loop (s of : ByteArray) (bits : List Int) (hl : bits.length = of.size) (hs : s.size ≤ 1048576) (ho : of.size ≤ 1048576) (d : Nat) : ∀ n i : Int, 0 ≤ i → i ≤ s.size → (s.size : Int) - i = d → Ev (fun k => spec_l1Letters.l0 k s of bits n i) (ltB (lt of bits s d i n)) := by
  induction d with
  | zero =>
    intro n i h0 hi hd
    exact Ev.step (fun k => by rw [spec_l1Letters.l0, if_neg (by omega)]; rfl) (Ev.now _)
  | succ d ih =>
    intro n i h0 hi hd
    have hlt : i < (s.size : Int) := by omega
    refine Ev.step (fun k => by rw [spec_l1Letters.l0, if_pos hlt]) ?_
    rcases ix_cases of.data.toList (btB s i) with ⟨h, hn⟩ | ⟨o, h, hat, hn⟩
    · rw [lt, if_pos (by omega)]
      exact spec_l1_scan s of bits n i _ h0 hlt ho of.size (Nat.le_refl _) (fun k _ => hn k) (fun h => absurd h (by omega)) (Ev.step (fun k => by rw [spec_l1Letters.j2, if_pos rfl]; rfl) (Ev.now _)) of.size 0 (by omega) (by omega) (by omega)
    · have ho2 := (List.getElem?_eq_some_iff.1 hat).1
      rw [data_length] at ho2
      rw [lt, if_neg (by omega), h]
      refine spec_l1_scan s of bits n i _ h0 hlt ho o (by omega) hn (fun _ => hat) (Ev.step (fun k => by rw [spec_l1Letters.j2, if_neg (by omega)]) ?_) o 0 (by omega) (by omega) (by omega)
      refine spec_l2_scan s of bits n i o _ h0 hlt hs (by omega) (by omega) ⟨fun h2 => by rw [if_pos h2]; rfl, fun h2 => ?_⟩
      rw [if_neg h2]
      exact ih _ (i + 1) (by omega) (by omega) (by omega)
theorem or_who : ∀ (n : Fin 512) (j : Fin 4), 0 ≤ Go.bits .or .i64 (n.val : Int) (rd [448, 56, 7, 511] (j.val : Int)) ∧ Go.bits .or .i64 (n.val : Int) (rd [448, 56, 7, 511] (j.val : Int)) < 512 := by decide +kernel
theorem or_what : ∀ (n : Fin 8) (j : Fin 3), 0 ≤ Go.bits .or .i64 (n.val : Int) (rd [4, 2, 1] (j.val : Int)) ∧ Go.bits .or .i64 (n.val : Int) (rd [4, 2, 1] (j.val : Int)) < 8 ∧ Go.bits .or .i64 (73 * (n.val : Int)) (rd [292, 146, 73] (j.val : Int)) = 73 * Go.bits .or .i64 (n.val : Int) (rd [4, 2, 1] (j.val : Int)) := by decide +kernel
theorem what_73 : ∀ n : Fin 8, Go.bits .or .i64 (Go.bits .or .i64 (wrap64 ((n.val : Int) * 64)) (wrap64 ((n.val : Int) * 8))) (n.val : Int) = 73 * (n.val : Int) := by decide +kernel
theorem lt_who (s : ByteArray) (d : Nat) : ∀ i n v : Int, 0 ≤ n → n < 512 → lt (⟨#[117, 103, 111, 97]⟩ : ByteArray) [448, 56, 7, 511] s d i n = some v → 0 ≤ v ∧ v < 512 := by
  induction d with
  | zero =>
    intro i n v h0 h1 h
    obtain rfl := Option.some.inj h
    exact ⟨h0, h1⟩
  | succ d ih =>
    intro i n v h0 h1 h
    rw [lt] at h
    split at h
    · cases h
    · rename_i h2
      split at h
      · cases h
      · have hx := ix_lt (⟨#[117, 103, 111, 97]⟩ : ByteArray).data.toList (btB s i)
        rw [show ((⟨#[117, 103, 111, 97]⟩ : ByteArray).data.toList.length : Int) = 4 from rfl] at hx
        have ho := or_who ⟨n.toNat, by omega⟩ ⟨(Lib.indexByte (⟨#[117, 103, 111, 97]⟩ : ByteArray).data.toList (btB s i)).toNat, by omega⟩
        simp only [Int.toNat_of_nonneg h0, Int.toNat_of_nonneg (Int.not_lt.1 h2)] at ho
        exact ih _ _ v ho.1 ho.2 h
theorem lt_what (s : ByteArray) (d : Nat) : ∀ i n : Int, 0 ≤ n → n < 8 → lt (⟨#[114, 119, 120]⟩ : ByteArray) [292, 146, 73] s d i (73 * n) = (lt (⟨#[114, 119, 120]⟩ : ByteArray) [4, 2, 1] s d i n).map (fun v => 73 * v) ∧ ∀ v, lt (⟨#[114, 119, 120]⟩ : ByteArray) [4, 2, 1] s d i n = some v → 0 ≤ v ∧ v < 8 := by
  induction d with
  | zero =>
    intro i n h0 h1
    exact ⟨rfl, fun v h => by obtain rfl := Option.some.inj h; exact ⟨h0, h1⟩⟩
  | succ d ih =>
    intro i n h0 h1
    rw [lt, lt]
    by_cases h2 : Lib.indexByte (⟨#[114, 119, 120]⟩ : ByteArray).data.toList (btB s i) < 0
    · rw [if_pos h2, if_pos h2]; exact ⟨rfl, fun v h => by cases h⟩
    · rw [if_neg h2, if_neg h2]
      by_cases h3 : 0 ≤ Lib.indexByte (s.extract 0 i.toNat).data.toList (btB s i)
      · rw [if_pos h3, if_pos h3]; exact ⟨rfl, fun v h => by cases h⟩
      · rw [if_neg h3, if_neg h3]
        have hx := ix_lt (⟨#[114, 119, 120]⟩ : ByteArray).data.toList (btB s i)
        rw [show ((⟨#[114, 119, 120]⟩ : ByteArray).data.toList.length : Int) = 3 from rfl] at hx
        have ho := or_what ⟨n.toNat, by omega⟩ ⟨(Lib.indexByte (⟨#[114, 119, 120]⟩ : ByteArray).data.toList (btB s i)).toNat, by omega⟩
        simp only [Int.toNat_of_nonneg h0, Int.toNat_of_nonneg (Int.not_lt.1 h2)] at ho
        rw [ho.2.2]
        exact ih (i + 1) _ ho.1 ho.2.1
/-- The first sign. -/
theorem any_cases (l chars : List UInt8) : ∀ n : Nat, n ≤ l.length → (Lib.NoAny l chars n) ∨ ∃ (i : Nat) (x : UInt8), i < n ∧ l[i]? = some x ∧ chars.contains x = true ∧ Lib.NoAny l chars i
  | 0, _ => .inl (Lib.NoAny.zero _ _)
  | n + 1, h => by
    rcases any_cases l chars n (by omega) with h1 | ⟨i, x, h1, h2⟩
    · cases hc : chars.contains (l[n]'(by omega)) with
      | true => exact .inr ⟨n, _, by omega, List.getElem?_eq_getElem (by omega), hc, h1⟩
      | false => exact .inl (h1.succ (List.getElem?_eq_getElem (by omega)) hc)
    · exact .inr ⟨i, x, by omega, h2⟩
theorem sign_iff (x : Int) (hx : 0 ≤ x ∧ x ≤ 255) : ([43, 45, 61] : List UInt8).contains x.toNat.toUInt8 = true ↔ x = 43 ∨ x = 45 ∨ x = 61 := by
  have h : ([43, 45, 61] : List UInt8).contains x.toNat.toUInt8 = true ↔ x.toNat.toUInt8 = 43 ∨ x.toNat.toUInt8 = 45 ∨ x.toNat.toUInt8 = 61 := by simp
  rw [h]
  refine ⟨fun h => ?_, fun h => ?_⟩
  · rcases h with h | h | h
    · exact .inl (u8_inj hx (by omega) (h.trans rfl))
    · exact .inr (.inl (u8_inj hx (by omega) (h.trans rfl)))
    · exact .inr (.inr (u8_inj hx (by omega) (h.trans rfl)))
  · rcases h with rfl | rfl | rfl
    · exact .inl rfl
    · exact .inr (.inl rfl)
    · exact .inr (.inr rfl)
theorem spec_sign (m : Int) (s : ByteArray) (hs : s.size ≤ 1048576) (r : Int × Bool) (K : Nat) (hK : K ≤ s.size) (hno : Lib.NoAny s.data.toList [43, 45, 61] K) (hat : K < s.size → ([43, 45, 61] : List UInt8).contains (btB s K) = true) (hr : Ev (fun k => spec_ChangeMode.j1 k m s K) r) (d : Nat) : ∀ j : Int, 0 ≤ j → j ≤ K → (K : Int) - j = d → Ev (fun k => spec_ChangeMode.l0 k m s j) r := by
  induction d with
  | zero =>
    intro j h0 h1 hd
    obtain rfl : j = (K : Int) := by omega
    refine Ev.step (fun k => by rw [spec_ChangeMode.l0]) (ev_ite (fun h => ev_pos h0 ?_) (fun _ => hr))
    refine ev_ite (fun _ => hr) (fun h1 => ev_ite (fun _ => hr) (fun h2 => ev_ite (fun _ => hr) (fun h3 => ?_)))
    exact absurd ((sign_iff _ (bt_range s K)).1 (hat (by omega))) (by omega)
  | succ d ih =>
    intro j h0 h1 hd
    have e := bt_list s j h0 (by omega)
    have hn := hno j.toNat _ (by omega) e
    have hx : ¬ (bt s j = 43 ∨ bt s j = 45 ∨ bt s j = 61) := fun h => by
      rw [btB, (sign_iff _ (bt_range s j)).2 h] at hn
      cases hn
    exact Ev.step (fun k => by rw [spec_ChangeMode.l0, if_pos (by omega), if_pos h0, if_neg (fun h => hx (.inl h)), if_neg (fun h => hx (.inr (.inl h))), if_neg (fun h => hx (.inr (.inr h))), wrap_id (x := j + 1) (by omega) (by omega)]) (ih (j + 1) (by omega) (by omega) (by omega))
def modeB (m : Int) : Bool := if m ≥ 0 then decide (m ≤ 511) else false
theorem spec_mode (m : Int) : spec_l1Mode.f m = some (modeB m) := by
  unfold spec_l1Mode.f spec_l1In.f modeB
  split <;> rfl
theorem impl_mode (m : Int) : impl_isMode.f m = some (modeB m) := by
  unfold impl_isMode.f impl_within.f modeB
  split <;> rfl
/-- The text has a sign at K, behind at least one letter. -/
theorem both_at (m : Int) (s : ByteArray) (hs : s.size ≤ 1048576) (K : Nat) (h1 : 1 ≤ K) (hK : K < s.size) : ∃ r, Ev (fun k => spec_ChangeMode.j2 k m s K false) r ∧ Ev (fun k => impl_ChangeMode.j0 k m s K false) r := by
  have a1 : (s.extract 0 K).size = K := by rw [ByteArray.size_extract]; omega
  have a2 : (s.extract (K + 1) s.size).size = s.size - (K + 1) := by rw [ByteArray.size_extract]; omega
  have W1 := spec_letters_loop (s.extract 0 K) ⟨#[117, 103, 111, 97]⟩ [448, 56, 7, 511] rfl (by omega) (by show 4 ≤ _; omega) (s.extract 0 K).size 0 0 (by omega) (by omega) (by omega)
  have W2 := impl_letters_loop (s.extract 0 K) ⟨#[117, 103, 111, 97]⟩ [448, 56, 7, 511] rfl (by omega) (s.extract 0 K).size 0 0 (by omega) (by omega) (by omega)
  have X1 := spec_letters_loop (s.extract (K + 1) s.size) ⟨#[114, 119, 120]⟩ [292, 146, 73] rfl (by omega) (by show 3 ≤ _; omega) (s.extract (K + 1) s.size).size 0 0 (by omega) (by omega) (by omega)
  have X2 := impl_letters_loop (s.extract (K + 1) s.size) ⟨#[114, 119, 120]⟩ [4, 2, 1] rfl (by omega) (s.extract (K + 1) s.size).size 0 0 (by omega) (by omega) (by omega)
  have L1 := lt_who (s.extract 0 K) (s.extract 0 K).size 0 0
  have L2 := lt_what (s.extract (K + 1) s.size) (s.extract (K + 1) s.size).size 0 0 (by omega) (by omega)
  rw [show (73 : Int) * 0 = 0 from rfl] at L2
  rw [L2.1] at X1
  generalize lt (⟨#[117, 103, 111, 97]⟩ : ByteArray) [448, 56, 7, 511] (s.extract 0 K) (s.extract 0 K).size 0 0 = o1 at W1 W2 L1
  have L2 := L2.2
  generalize lt (⟨#[114, 119, 120]⟩ : ByteArray) [4, 2, 1] (s.extract (K + 1) s.size) (s.extract (K + 1) s.size).size 0 0 = o2 at X1 X2 L2
  have hw : wrap64 ((K : Int) + 1) = (K : Int) + 1 := wrap_id (by omega) (by omega)
  have hw2 : ((K : Int) + 1).toNat = K + 1 := by omega
  have S : ∀ r, Ev (fun k => if ltB o1 < 0 then spec_ChangeMode.j3 k m s K (ltB o1) (ltB (o2.map (fun v => 73 * v))) true else spec_ChangeMode.j3 k m s K (ltB o1) (ltB (o2.map (fun v => 73 * v))) (decide (ltB (o2.map (fun v => 73 * v)) < 0))) r → Ev (fun k => spec_ChangeMode.j2 k m s K false) r := fun r h => by
    refine Ev.step (fun k => by rw [spec_ChangeMode.j2, if_neg (by simp), if_pos (by omega), if_pos (by omega), hw, hw2, Int.toNat_natCast]) ?_
    exact ev_bind (g := fun k => spec_l1Letters.f k _ _ _) W1 (ev_pos (by omega) (ev_pos (by omega) (ev_bind (g := fun k => spec_l1Letters.f k _ _ _) X1 h)))
  have I : ∀ r, Ev (fun k => if (ltA o1).2 = true then impl_ChangeMode.j1 k m s K (ltA o1).1 (ltA o2).1 (!(ltA o2).2) else impl_ChangeMode.j1 k m s K (ltA o1).1 (ltA o2).1 true) r → Ev (fun k => impl_ChangeMode.j0 k m s K false) r := fun r h => by
    refine Ev.step (fun k => by rw [impl_ChangeMode.j0, if_neg (by simp), if_pos (by omega), if_pos (by omega), hw, hw2, Int.toNat_natCast]) ?_
    exact ev_bind (g := fun k => impl_lettersOf.f k _ _ _) W2 (ev_pos (by omega) (ev_pos (by omega) (ev_bind (g := fun k => impl_lettersOf.f k _ _ _) X2 h)))
  have no1 : ∀ a b, Ev (fun k => spec_ChangeMode.j3 k m s K a b true) (0, false) := fun a b => Ev.step (fun k => by rw [spec_ChangeMode.j3, if_pos rfl]) (Ev.now _)
  have no2 : ∀ a b, Ev (fun k => impl_ChangeMode.j1 k m s K a b true) (0, false) := fun a b => Ev.step (fun k => by rw [impl_ChangeMode.j1, if_pos rfl]) (Ev.now _)
  cases o1 with
  | none => exact ⟨(0, false), S _ (ev_pos (show (-1 : Int) < 0 by decide) (no1 _ _)), I _ (ev_neg (show ¬ (false = true) by simp) (no2 _ _))⟩
  | some v =>
    have hv := L1 v (by omega) (by omega) rfl
    cases o2 with
    | none => exact ⟨(0, false), S _ (ev_neg (show ¬ v < 0 by omega) (no1 _ _)), I _ (ev_pos (show true = true from rfl) (no2 _ _))⟩
    | some u =>
      have hu := L2 u rfl
      have h73 := what_73 ⟨u.toNat, by omega⟩
      simp only [Int.toNat_of_nonneg hu.1] at h73
      have hd : decide (73 * u < 0) = false := decide_eq_false (by omega)
      refine ⟨if bt s K = 43 then (Go.bits .or .i64 m (Go.bits .and .i64 v (73 * u)), true) else if bt s K = 45 then (Go.bits .andNot .i64 m (Go.bits .and .i64 v (73 * u)), true) else (Go.bits .or .i64 (Go.bits .andNot .i64 m v) (Go.bits .and .i64 v (73 * u)), true), S _ (ev_neg (show ¬ v < 0 by omega) ?_), I _ (ev_pos (show true = true from rfl) ?_)⟩
      · show Ev (fun k => spec_ChangeMode.j3 k m s K v (73 * u) (decide (73 * u < 0))) _
        rw [hd]
        refine Ev.step (fun k => by rw [spec_ChangeMode.j3, if_neg (by simp), if_pos (by omega), if_pos (by omega)]) ?_
        refine ev_ite (fun h => ?_) (fun h => ?_)
        · rw [if_pos h]; exact Ev.now _
        · rw [if_neg h]
          refine ev_ite (fun h => ?_) (fun h => ?_)
          · rw [if_pos h]; exact Ev.now _
          · rw [if_neg h]; exact Ev.now _
      · show Ev (fun k => impl_ChangeMode.j1 k m s K v u false) _
        refine Ev.step (fun k => by rw [impl_ChangeMode.j1, if_neg (by simp), if_pos (by omega), if_pos (by omega), h73]) ?_
        refine ev_ite (fun h => ?_) (fun h => ?_)
        · rw [if_pos h]; exact Ev.now _
        · rw [if_neg h]
          refine ev_ite (fun h => ?_) (fun h => ?_)
          · rw [if_pos h]; exact Ev.now _
          · rw [if_neg h]; exact Ev.now _
theorem ChangeMode.same (m : Int) (s : ByteArray) (hs : s.size ≤ 1048576) : ∃ r, Ev (fun k => spec_ChangeMode.f k m s) r ∧ Ev (fun k => impl_ChangeMode.f k m s) r := by
  have no1 : ∀ x, Ev (fun k => spec_ChangeMode.j2 k m s x true) (0, false) := fun a => Ev.step (fun k => by rw [spec_ChangeMode.j2, if_pos rfl]) (Ev.now _)
  have no2 : ∀ x, Ev (fun k => impl_ChangeMode.j0 k m s x true) (0, false) := fun a => Ev.step (fun k => by rw [impl_ChangeMode.j0, if_pos rfl]) (Ev.now _)
  have hA : ∀ z, Lib.indexAny s.data.toList [43, 45, 61] = z → strings_IndexAny.f s (⟨#[43, 45, 61]⟩ : ByteArray) = some z := fun z h => by
    unfold strings_IndexAny.f; rw [if_pos ⟨rfl, by omega⟩, h]
  have J1 : ∀ (K : Nat) (b : Bool) r, (b = true ↔ K = 0 ∨ K = s.size) → (modeB m = true → Ev (fun k => spec_ChangeMode.j2 k m s K b) r) → (modeB m = false → r = (0, false)) → Ev (fun k => spec_ChangeMode.j1 k m s K) r := fun K b r hb h1 h2 => by
    refine Ev.step (fun k => by rw [spec_ChangeMode.j1]) (ev_bind0 (spec_mode m) ?_)
    refine ev_ite (fun h => ?_) (fun h => ?_)
    · refine ev_ite (fun h3 => ?_) (fun h3 => ?_)
      · rw [← hb.2 (.inl (by omega))]; exact h1 h
      · rw [show ((K : Int) == (s.size : Int)) = b from ?_]
        · exact h1 h
        · cases b with
          | true => rw [beq_iff_eq]; have := hb.1 rfl; omega
          | false => rw [beq_eq_false_iff_ne]; intro e; exact absurd (hb.2 (.inr (by omega))) (by simp)
    · rw [h2 (by simpa using h)]; exact no1 _
  rcases any_cases s.data.toList [43, 45, 61] s.size (by rw [data_length]; omega) with hno | ⟨i, x, hi, hx, hc, hno⟩
  · have e := Lib.indexAny_none (s := s.data.toList) (chars := [43, 45, 61]) (by rw [data_length]; exact hno)
    refine ⟨(0, false), spec_sign m s hs _ s.size (Nat.le_refl _) hno (fun h => absurd h (by omega)) ?_ s.size 0 (by omega) (by omega) (by omega), ev_bind0 (hA _ e) (ev_bind0 (impl_mode m) ?_)⟩
    · exact J1 s.size true _ (by simp) (fun _ => no1 _) (fun _ => rfl)
    · exact ev_ite (fun _ => no2 _) (fun _ => no2 _)
  · have e := Lib.indexAny_hit hno hx hc
    have hx2 := bt_list s i (by omega) (by omega)
    rw [Int.toNat_natCast, hx] at hx2
    have hat : ([43, 45, 61] : List UInt8).contains (btB s i) = true := by rw [← Option.some.inj hx2]; exact hc
    have fin : ∀ r, Ev (fun k => spec_ChangeMode.j1 k m s i) r → Ev (fun k => spec_ChangeMode.f k m s) r := fun r h => spec_sign m s hs _ i (by omega) hno (fun _ => hat) h i 0 (by omega) (by omega) (by omega)
    by_cases h0 : i = 0
    · subst h0
      refine ⟨(0, false), fin _ (J1 0 true _ (by simp) (fun _ => no1 _) (fun _ => rfl)), ev_bind0 (hA _ e) (ev_bind0 (impl_mode m) ?_)⟩
      exact ev_ite (fun _ => no2 _) (fun _ => no2 _)
    · have hd : decide ((i : Int) < 1) = false := decide_eq_false (by omega)
      obtain ⟨r, r1, r2⟩ := both_at m s hs i (by omega) hi
      cases hm : modeB m with
      | true =>
        refine ⟨r, fin _ (J1 i false _ (by simp; omega) (fun _ => r1) (fun h => by rw [hm] at h; cases h)), ev_bind0 (hA _ e) (ev_bind0 (impl_mode m) (ev_pos hm ?_))⟩
        rw [hd]; exact r2
      | false => exact ⟨(0, false), fin _ (J1 i false _ (by simp; omega) (fun h => by rw [hm] at h; cases h) (fun _ => rfl)), ev_bind0 (hA _ e) (ev_bind0 (impl_mode m) (ev_neg (by rw [hm]; simp) (no2 _)))⟩
end Go.Proofs.Ytbhigchfeagnjaa.PChm
namespace Go.Proofs.Ytbhigchfeagnjaa.Pure
open Go.RowKit Go.Proofs.Ytbhigchfeagnjaa.PChm Go.Proofs.YtbhigchfeagnjaaW.PrintWords Go.Proofs.Ytbhigchfeagnjaa.Aid
theorem FnExactChangeMode : laws_FnExactChangeMode.Pure := by
  intro m s _ _
  refine Ev.rounds (r := true) ?_
  unfold laws_FnExactChangeMode.f
  refine ev_ite (fun _ => Ev.now _) (fun h1 => ?_)
  obtain ⟨r, r1, r2⟩ := ChangeMode.same m s (by omega)
  refine ev_bind r1 (ev_bind r2 ?_)
  exact ev_pos rfl (ev_neg (by rw [bne_self_eq_false]; exact Bool.false_ne_true) (Ev.now _))
end Go.Proofs.Ytbhigchfeagnjaa.Pure

