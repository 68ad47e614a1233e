-- Written by a program of this session (wip/print2) out of the translation. Lean checks it.
import Derived.Test.YtbhigchfeagnjaaPChmx0
namespace Go.Proofs.Ytbhigchfeagnjaa.PChm
open Go.RowKit Go.Proofs.YtbhigchfeagnjaaW.PrintWords Go.Proofs.YtbhigchfeagnjaaW.PrintLast Go.Proofs.YtbhigchfeagnjaaW.PrintMore
attribute [local go_sem] max2_int min2_int max_two min_two max_three min_three max_four min_four   -- for this text's walks alone
set_option linter.unusedVariables false
set_option linter.unusedSimpArgs false

/-! ### strings_IndexAny: function 19 -/
theorem encode_far {r : Int} (hv : Utf8.valid r = true) (h0 : 128 ≤ r) : (∃ b0 b1, Utf8.encode r = ⟨#[b0, b1]⟩ ∧ 128 ≤ b1.toNat) ∨ (∃ b0 b1 b2, Utf8.encode r = ⟨#[b0, b1, b2]⟩ ∧ 128 ≤ b2.toNat) ∨ (∃ b0 b1 b2 b3, Utf8.encode r = ⟨#[b0, b1, b2, b3]⟩) := by
  have hb : ∀ n : Nat, n < 64 → 128 ≤ (UInt8.ofNat (0x80 + n)).toNat := fun n hn => by rw [UInt8.toNat_ofNat']; omega
  unfold Utf8.encode
  simp only [hv, if_true]
  rw [if_neg (by omega)]
  split
  · exact .inl ⟨_, _, rfl, hb _ (Nat.mod_lt _ (by omega))⟩
  · split
    · exact .inr (.inl ⟨_, _, _, rfl, hb _ (Nat.mod_lt _ (by omega))⟩)
    · exact .inr (.inr ⟨_, _, _, _, rfl⟩)
theorem noByte {x : UInt8} {l : List UInt8} (h : l.contains x = false) : ¬ ((0 : Int) ≤ Lib.indexByte l x) := by
  have := Lib.contains_iff_indexByte l x
  rw [h] at this
  exact of_decide_eq_false this.symm
theorem sign_small : ∀ i (hi : i < (⟨#[43, 45, 61]⟩ : ByteArray).size), ((⟨#[43, 45, 61]⟩ : ByteArray)[i]'hi).toNat < 128
  | 0, _ => by show (43 : UInt8).toNat < 128; decide
  | 1, _ => by show (45 : UInt8).toNat < 128; decide
  | 2, _ => by show (61 : UInt8).toNat < 128; decide
  | n + 3, hi => absurd hi (by show ¬ (n + 3 < 3); omega)
set_option maxHeartbeats 8000000 in
set_option maxRecDepth 1000000 in
theorem runeErr (w : World) : Calls Try.prog 22 #[.string ⟨#[43, 45, 61]⟩, .int .i32 65533] w fun e w' => e = .returned (.int .i64 (-1)) ∧ Below w.heap.size w w' := by
  go_enter Try.func22, Try.ntmps22
  go_wp2
  go_loopg [5, 6] 3 (fun g _ _ wx => ∃ i : Nat, i + g = 3 ∧ wx = w.iter ⟨#[43, 45, 61]⟩ i)
  case atStart => exact ⟨0, by omega, rfl⟩
  case round =>
    obtain ⟨i, hig, rfl⟩ := hrel
    cases gk with
    | zero =>
      obtain rfl : i = 3 := by omega
      have hnx := run_next_end (P := Try.prog) w ⟨#[43, 45, 61]⟩ 3
      go_wp2
      go_ret
      exact ⟨rfl, (Below.refl _ _).alloc (Nat.le_refl _) _⟩
    | succ g =>
      have hi : i < (⟨#[43, 45, 61]⟩ : ByteArray).size := by show i < 3; omega
      have hx128 := sign_small i hi
      obtain ⟨x, hx⟩ : ∃ x : UInt8, (⟨#[43, 45, 61]⟩ : ByteArray)[i]'hi = x := ⟨_, rfl⟩
      rw [hx] at hx128
      have hnx := fun ty => run_next_ascii (P := Try.prog) w ⟨#[43, 45, 61]⟩ i ty hi (by rw [hx]; exact hx128)
      rw [hx] at hnx
      have hne : ((x.toNat : Int) == 65533) = false := beq_eq_false_iff_ne.2 (by omega)
      go_wp2
      go_roundg g
      case measure => omega
      case rel => exact ⟨i + 1, by omega, rfl⟩
set_option maxHeartbeats 8000000 in
set_option maxRecDepth 1000000 in
theorem runeFar2 (r : Int) (b0 b1 : UInt8) (hE : Utf8.encode r = ⟨#[b0, b1]⟩) (hb : 128 ≤ b1.toNat) (h0 : 128 ≤ r) (hne : r ≠ 65533) (hv : Lib.validRune r = true) (w : World) : Calls Try.prog 22 #[.string ⟨#[43, 45, 61]⟩, .int .i32 r] w fun e w' => e = .returned (.int .i64 (-1)) ∧ Below w.heap.size w w' := by
  have k1 : decide (0 ≤ r) = true := decide_eq_true (by omega)
  have k2 : decide (r < 128) = false := decide_eq_false (by omega)
  have k3 : (r == 65533) = false := beq_eq_false_iff_ne.2 hne
  have kb : ((((⟨#[43, 45, 61]⟩ : ByteArray)[1]'(by show 1 < 3; omega)).toNat : Int) != (((⟨#[b0, b1]⟩ : ByteArray)[1]'(by show 1 < 2; omega)).toNat : Int)) = true := by
    show ((45 : Int) != (b1.toNat : Int)) = true
    exact bne_iff_ne.2 (by omega)
  have kd : decide (Lib.indexByte [61] ((⟨#[b0, b1]⟩ : ByteArray)[1]'(by show 1 < 2; omega)) < 0) = true := decide_eq_true (by
    have := noByte (x := b1) (l := [61]) (by rw [Bool.eq_false_iff]; intro hc; have e : b1 = 61 := (by simpa using hc); exact absurd (show 128 ≤ (61 : UInt8).toNat from e ▸ hb) (by decide))
    show Lib.indexByte [61] b1 < 0
    omega)
  go_enter Try.func22, Try.ntmps22
  go_wp2_with (go_at_call 27; refine (Try.utf8_ValidRune _ _).mono ?_; rintro e w' ⟨rfl, hw⟩; rw [hw, hv])
  subst hw
  go_step3
  go_wp2
  go_loopg [9] 1 (fun _ v9 wx => v9 = .int .i64 1 ∧ wx = w')
  case atStart => exact ⟨by simp, rfl⟩
  case round =>
    obtain ⟨rfl, rfl⟩ := hrel
    go_wp2
    go_step3
    go_wp2
    go_region
    go_wp2
    go_region_with (go_at_call 26; refine (Try.strings_IndexByte _ _ _).mono ?_; rintro e w' ⟨rfl, hw⟩)
    all_goals go_wp2
    all_goals (repeat rw [Exit.noGoto_ret])
    all_goals simp only [Exit.inBlock, Exit.then, Exit.noGoto_ret]
    all_goals go_ret
    all_goals exact ⟨rfl, by repeat (first | exact Below.refl _ _ | apply Below.drew)⟩
set_option maxHeartbeats 8000000 in
set_option maxRecDepth 1000000 in
theorem runeFar3 (r : Int) (b0 b1 b2 : UInt8) (hE : Utf8.encode r = ⟨#[b0, b1, b2]⟩) (hb : 128 ≤ b2.toNat) (h0 : 128 ≤ r) (hne : r ≠ 65533) (hv : Lib.validRune r = true) (w : World) : Calls Try.prog 22 #[.string ⟨#[43, 45, 61]⟩, .int .i32 r] w fun e w' => e = .returned (.int .i64 (-1)) ∧ Below w.heap.size w w' := by
  have k1 : decide (0 ≤ r) = true := decide_eq_true (by omega)
  have k2 : decide (r < 128) = false := decide_eq_false (by omega)
  have k3 : (r == 65533) = false := beq_eq_false_iff_ne.2 hne
  have kb : ((((⟨#[43, 45, 61]⟩ : ByteArray)[2]'(by show 2 < 3; omega)).toNat : Int) != (((⟨#[b0, b1, b2]⟩ : ByteArray)[2]'(by show 2 < 3; omega)).toNat : Int)) = true := by
    show ((61 : Int) != (b2.toNat : Int)) = true
    exact bne_iff_ne.2 (by omega)
  have kd : decide (Lib.indexByte [] ((⟨#[b0, b1, b2]⟩ : ByteArray)[2]'(by show 2 < 3; omega)) < 0) = true := decide_eq_true (by
    have := noByte (x := b2) (l := []) (by rfl)
    show Lib.indexByte [] b2 < 0
    omega)
  go_enter Try.func22, Try.ntmps22
  go_wp2_with (go_at_call 27; refine (Try.utf8_ValidRune _ _).mono ?_; rintro e w' ⟨rfl, hw⟩; rw [hw, hv])
  subst hw
  go_step3
  go_wp2
  go_loopg [9] 1 (fun _ v9 wx => v9 = .int .i64 2 ∧ wx = w')
  case atStart => exact ⟨by simp, rfl⟩
  case round =>
    obtain ⟨rfl, rfl⟩ := hrel
    go_wp2
    go_step3
    go_wp2
    go_region
    go_wp2
    go_region_with (go_at_call 26; refine (Try.strings_IndexByte _ _ _).mono ?_; rintro e w' ⟨rfl, hw⟩)
    all_goals go_wp2
    all_goals (repeat rw [Exit.noGoto_ret])
    all_goals simp only [Exit.inBlock, Exit.then, Exit.noGoto_ret]
    all_goals go_ret
    all_goals exact ⟨rfl, by repeat (first | exact Below.refl _ _ | apply Below.drew)⟩
set_option maxHeartbeats 8000000 in
set_option maxRecDepth 1000000 in
theorem runeFar4 (r : Int) (b0 b1 b2 b3 : UInt8) (hE : Utf8.encode r = ⟨#[b0, b1, b2, b3]⟩) (h0 : 128 ≤ r) (hne : r ≠ 65533) (hv : Lib.validRune r = true) (w : World) : Calls Try.prog 22 #[.string ⟨#[43, 45, 61]⟩, .int .i32 r] w fun e w' => e = .returned (.int .i64 (-1)) ∧ Below w.heap.size w w' := by
  have k1 : decide (0 ≤ r) = true := decide_eq_true (by omega)
  have k2 : decide (r < 128) = false := decide_eq_false (by omega)
  have k3 : (r == 65533) = false := beq_eq_false_iff_ne.2 hne
  go_enter Try.func22, Try.ntmps22
  go_wp2_with (go_at_call 27; refine (Try.utf8_ValidRune _ _).mono ?_; rintro e w' ⟨rfl, hw⟩; rw [hw, hv])
  subst hw
  go_step3
  go_wp2
  go_loopg [9] 1 (fun _ v9 wx => v9 = .int .i64 3 ∧ wx = w')
  case atStart => exact ⟨by simp, rfl⟩
  case round =>
    obtain ⟨rfl, rfl⟩ := hrel
    go_wp2
    repeat rw [Exit.noGoto_ret]
    simp only [Exit.inBlock, Exit.then, Exit.noGoto_ret]
    go_ret
    exact ⟨rfl, Below.refl _ _⟩
set_option maxHeartbeats 8000000 in
set_option maxRecDepth 1000000 in
theorem runeFar (r : Int) (h0 : 128 ≤ r) (w : World) (hlen : r ≤ 2147483647) : Calls Try.prog 22 #[.string ⟨#[43, 45, 61]⟩, .int .i32 r] w fun e w' => e = .returned (.int .i64 (-1)) ∧ Below w.heap.size w w' := by
  by_cases hne : r = 65533
  · subst hne; exact runeErr w
  cases hv : Lib.validRune r with
  | false =>
    have k1 : decide (0 ≤ r) = true := decide_eq_true (by omega)
    have k2 : decide (r < 128) = false := decide_eq_false (by omega)
    have k3 : (r == 65533) = false := beq_eq_false_iff_ne.2 hne
    go_enter Try.func22, Try.ntmps22
    go_wp2_with (go_at_call 27; refine (Try.utf8_ValidRune _ _).mono ?_; rintro e w' ⟨rfl, hw⟩; rw [hw, hv])
    go_ret
    exact ⟨rfl, Below.refl _ _⟩
  | true =>
    have hv2 : Utf8.valid r = true := by
      have : (0 ≤ r ∧ r < 0xD800) ∨ (0xDFFF < r ∧ r ≤ 0x10FFFF) := of_decide_eq_true hv
      unfold Utf8.valid
      simp only [Bool.and_eq_true, Bool.or_eq_true, decide_eq_true_eq]
      omega
    rcases encode_far hv2 h0 with ⟨b0, b1, hE, hb⟩ | ⟨b0, b1, b2, hE, hb⟩ | ⟨b0, b1, b2, b3, hE⟩
    · exact runeFar2 r b0 b1 hE hb h0 hne hv w
    · exact runeFar3 r b0 b1 b2 hE hb h0 hne hv w
    · exact runeFar4 r b0 b1 b2 b3 hE h0 hne hv w
/-- What decoding one rune passes over is ASCII no more. -/
theorem decode_over (s : ByteArray) (pos : Nat) (h : pos < s.size) (ha : 128 ≤ (s[pos]'h).toNat) : pos + (Utf8.decode s pos).2 ≤ s.size ∧ ∀ j, pos ≤ j → (hj : j < s.size) → j < pos + (Utf8.decode s pos).2 → 128 ≤ (s[j]'hj).toNat := by
  have hn : ¬ (s[pos]'h).toNat < 128 := by omega
  have hg : ∀ k, (hk : pos + k < s.size) → (s.get! (pos + k)).toNat = (s[pos + k]'hk).toNat := fun k hk => by rw [show s.get! (pos + k) = s[pos + k]'hk from by simp [ByteArray.get!, getElem!_pos, hk]; rfl]
  have hc : ∀ k, (decide (pos + k < s.size) && ((s.get! (pos + k)).toNat / 64 == 2)) = true → ∃ hk : pos + k < s.size, 128 ≤ (s[pos + k]'hk).toNat := fun k hk => by
    rw [Bool.and_eq_true, decide_eq_true_iff, beq_iff_eq] at hk
    exact ⟨hk.1, by have := hg k hk.1; omega⟩
  have h1 : pos + 1 ≤ s.size ∧ ∀ j, pos ≤ j → (hj : j < s.size) → j < pos + 1 → 128 ≤ (s[j]'hj).toNat := by
    refine ⟨by omega, fun j h1 hj h2 => ?_⟩
    have e : j = pos := by omega
    subst e
    exact ha
  have two : ∀ {n : Nat} {m : Nat}, m = n + 1 → (∃ hk : pos + n < s.size, 128 ≤ (s[pos + n]'hk).toNat) → (pos + n ≤ s.size ∧ ∀ j, pos ≤ j → (hj : j < s.size) → j < pos + n → 128 ≤ (s[j]'hj).toNat) → pos + m ≤ s.size ∧ ∀ j, pos ≤ j → (hj : j < s.size) → j < pos + m → 128 ≤ (s[j]'hj).toNat := fun {n m} e ⟨hk, hb⟩ h => ⟨by omega, fun j a hj b => by
    by_cases e2 : j = pos + n
    · subst e2; exact hb
    · exact h.2 j a hj (by omega)⟩
  simp only [Utf8.decode, get_at s pos h, hn, if_false]
  split
  · rename_i hh
    rw [Bool.and_eq_true] at hh
    split
    · exact two rfl (hc 1 hh.2) h1
    · exact h1
  · split
    · rename_i hh
      rw [Bool.and_eq_true, Bool.and_eq_true] at hh
      split
      · exact two rfl (hc 2 hh.2) (two rfl (hc 1 hh.1.2) h1)
      · exact h1
    · split
      · rename_i hh
        rw [Bool.and_eq_true, Bool.and_eq_true, Bool.and_eq_true] at hh
        split
        · exact two rfl (hc 3 hh.2) (two rfl (hc 2 hh.1.2) (two rfl (hc 1 hh.1.1.2) h1))
        · exact h1
      · exact h1
/-- None of "+-=" stands where decoding passes a far rune. -/
theorem noAny_far {s : ByteArray} {i : Nat} (h : Lib.NoAny s.data.toList [43, 45, 61] i) (hi : i < s.size) (ha : 128 ≤ (s[i]'hi).toNat) : Lib.NoAny s.data.toList [43, 45, 61] (i + (Utf8.decode s i).2) := fun j b hj hb => by
  by_cases e : j < i
  · exact h j b e hb
  · have hd := decode_over s i hi ha
    have hjs : j < s.size := by omega
    have h2 := hd.2 j (by omega) hjs hj
    rw [Lib.data_getElem? s j hjs] at hb
    rw [Option.some.inj hb] at h2
    rw [Bool.eq_false_iff]
    intro hc
    have hc : b = 43 ∨ b = 45 ∨ b = 61 := by simpa using hc
    rcases hc with rfl | rfl | rfl <;> exact absurd h2 (by decide)
open Go.Lib in
set_option maxHeartbeats 8000000 in
set_option maxRecDepth 1000000 in
/-- strings.IndexAny of a text of at most 8 bytes, whatever they are, at "+-=". -/
theorem indexAny_at (s : ByteArray) (w : World) (h8 : s.size ≤ 8) : Calls Try.prog 19 #[.string s, .string ⟨#[43, 45, 61]⟩] w fun e w' => e = .returned (.int .i64 (Lib.indexAny s.data.toList [43, 45, 61])) ∧ Below w.heap.size w w' := by
  have hn1 : ((3 : Int) == 1) = false := rfl
  have h8z : decide ((8 : Int) < (s.size : Int)) = false := decide_eq_false (by omega)
  go_enter Try.func19, Try.ntmps19
  go_wp2_with (go_at_call 23; refine (Try.strings_shouldUseASCIISet _ _).mono ?_; rintro e w' ⟨rfl, hw⟩; rw [hw, h8z])
  go_loopg [9, 10] s.size (fun g _ _ wx => ∃ i : Nat, i ≤ s.size ∧ s.size ≤ i + g ∧ wx.heap[w.heap.size]? = some (.stringIter s i) ∧ Below w.heap.size w wx ∧ Lib.NoAny s.data.toList [43, 45, 61] i)
  case atStart => exact ⟨0, by omega, by omega, by simp [World.iter_heap], (Below.refl _ _).alloc (Nat.le_refl _) _, Lib.NoAny.zero _ _⟩
  case round =>
    obtain ⟨i, his, hig, hk, hB, hno⟩ := hrel
    have HN : Aside (Lib.NoAny s.data.toList [43, 45, 61] i) := hno
    clear hno
    by_cases hi : i < s.size
    · obtain ⟨g, rfl⟩ : ∃ g, gk = g + 1 := ⟨gk - 1, by omega⟩
      obtain ⟨x, hx⟩ : ∃ x : UInt8, s[i]'hi = x := ⟨_, rfl⟩
      have hxl : s.data.toList[i]? = some x := by rw [← hx]; exact Lib.data_getElem? s i hi
      have Hx : Aside (s.data.toList[i]? = some x) := hxl
      clear hxl
      by_cases hx128 : x.toNat < 128
      · have hnx := fun ty => run_next_ascii_at (P := Try.prog) wr w.heap.size s i ty hk hi (by rw [hx]; exact hx128)
        rw [hx] at hnx
        have hk2 := iterAt_heap wr w.heap.size s i (i + 1) hk
        have hB2 := below_iterAt hB (Nat.le_refl _) s (i + 1)
        obtain ⟨wy, hwy⟩ : ∃ wy, wr.iterAt w.heap.size s (i + 1) = wy := ⟨_, rfl⟩
        rw [hwy] at hnx hk2 hB2
        have hcon := Lib.contains_iff_indexByte [43, 45, 61] x
        have hback : ((x.toNat : Int)).toNat.toUInt8 = x := by simp
        cases hin : ([43, 45, 61] : List UInt8).contains x
        · rw [hin] at hcon
          have hlt : ¬ ((0 : Int) ≤ Lib.indexByte [43, 45, 61] x) := of_decide_eq_false hcon.symm
          clear hcon
          go_wp2_with (go_at_call 22; refine (Try.strings_IndexRune_ascii _ _ _ (by omega) (by omega)).mono ?_; rintro e w' ⟨rfl, hw⟩; rw [hw, hback])
          go_roundg g
          case measure => omega
          case rel => exact ⟨i + 1, by omega, by omega, hk2, hB2, HN.out.succ Hx.out hin⟩
        · rw [hin] at hcon
          have hge : (0 : Int) ≤ Lib.indexByte [43, 45, 61] x := of_decide_eq_true hcon.symm
          clear hcon
          go_wp2_with (go_at_call 22; refine (Try.strings_IndexRune_ascii _ _ _ (by omega) (by omega)).mono ?_; rintro e w' ⟨rfl, hw⟩; rw [hw, hback])
          go_ret
          exact ⟨by rw [Lib.indexAny_hit HN.out Hx.out hin]; rfl, hB2⟩
      · have hfar : 128 ≤ (s[i]'hi).toNat := by rw [hx]; omega
        have hnx := fun ty => run_next_any_at (P := Try.prog) wr w.heap.size s i ty hk hi
        have hk2 := iterAt_heap wr w.heap.size s i (i + (Utf8.decode s i).2) hk
        have hB2 := below_iterAt hB (Nat.le_refl _) s (i + (Utf8.decode s i).2)
        have hd := decode_high s i hi hfar
        have hle := decode_le s i
        have hov := decode_over s i hi hfar
        have hno2 : Aside _ := noAny_far HN.out hi hfar
        obtain ⟨wy, hwy⟩ : ∃ wy, wr.iterAt w.heap.size s (i + (Utf8.decode s i).2) = wy := ⟨_, rfl⟩
        rw [hwy] at hnx hk2 hB2
        obtain ⟨r, hr⟩ : ∃ r, (Utf8.decode s i).1 = r := ⟨_, rfl⟩
        rw [hr] at hnx hd hle
        have hov1 := hov.1
        clear hov
        obtain ⟨d, hdd⟩ : ∃ d, (Utf8.decode s i).2 = d := ⟨_, rfl⟩
        rw [hdd] at hd hov1 hk2
        have hd1 := hd.1
        have hd2 := hd.2
        clear hd
        rw [hdd] at hno2
        go_wp2_with (go_at_call 22; refine (runeFar (r : Int) (by omega) _ (by omega)).mono ?_; rintro e w' ⟨rfl, hw⟩)
        go_roundg g
        case measure => omega
        case rel => exact ⟨i + d, by omega, by omega, by rw [hw.block _ (Array.getElem?_eq_some_iff.1 hk2).1]; exact hk2, hB2.trans ⟨hw.os, hw.tape, hw.output, hw.size, fun j hj => hw.block j (Nat.lt_trans hj (Array.getElem?_eq_some_iff.1 hk2).1)⟩, hno2.out⟩
    · obtain rfl : i = s.size := by omega
      have hnx := run_next_end_at (P := Try.prog) wr w.heap.size s s.size
      have hnx := fun ty => hnx ty hk hi
      go_wp2
      go_ret
      exact ⟨by rw [Lib.indexAny_none (by rw [← Lib.size_eq]; exact HN.out)]; rfl, hB⟩
/-- strings.IndexAny at "+-=". -/
def strings_IndexAny.f (a0 : ByteArray) (a1 : ByteArray) : Option Int := if a1 = (⟨#[43, 45, 61]⟩ : ByteArray) ∧ a0.size < 4294967281 then some (Lib.indexAny a0.data.toList [43, 45, 61]) else none
set_option maxHeartbeats 1000000 in
theorem strings_IndexAny.calls (a0 : ByteArray) (a1 : ByteArray) (r : Int) (w : World) (h : strings_IndexAny.f a0 a1 = some r) :
    Calls Try.prog 19 #[.string a0, .string a1] w fun e w' => e = .returned (.int .i64 r) ∧ Below w.heap.size w w' := by
  unfold strings_IndexAny.f at h
  split at h
  · rename_i hb
    obtain rfl := Option.some.inj h
    obtain ⟨rfl, hs⟩ := hb
    by_cases h8 : a0.size ≤ 8
    · exact indexAny_at a0 w h8
    · refine (Try.strings_IndexAny_long (zero_of_info (P := Try.prog) (n := 256) (by kernel_rfl)).1 a0 ⟨#[43, 45, 61]⟩ w (by show 2 ≤ 3; omega) (by omega) hs (by show 3 < 4294967281; omega) (fun j b hj => ?_)).mono fun e w' ⟨he, hw⟩ => ⟨he, ?_⟩
      · have hm := List.mem_of_getElem? hj
        have hm : b = 43 ∨ b = 45 ∨ b = 61 := by simpa using hm
        rcases hm with rfl | rfl | rfl <;> decide
      · rw [hw]; exact ((Below.refl _ _).alloc (Nat.le_refl _) _).alloc (by simp) _
  · cases h

/-! ### impl_within: function 13 -/
def impl_within.f (a0 : Int) (a1 : Int) (a2 : Int) : Option (Bool) := if a0 ≥ a1 then (some (decide (a0 ≤ a2))) else (some false)
set_option maxHeartbeats 8000000 in
set_option maxRecDepth 100000 in
theorem impl_within.calls (a0 : Int) (a1 : Int) (a2 : Int) (r : Bool) (w : World) (h : impl_within.f a0 a1 a2 = some r) :
    Calls Try.prog 13 #[.int .i64 a0, .int .i64 a1, .int .i64 a2] w fun e w' => e = .returned (.bool r) ∧ Drawn0 w w' := by
  have H : (if a0 ≥ a1 then (some (decide (a0 ≤ a2))) else (some false)) = some r := h
  clear h
  by_cases c4 : a0 ≥ a1
  · rw [if_pos c4] at H
    have c4b0 : decide (a1 ≤ a0) = true := decide_eq_true c4
    clear c4
    obtain rfl := Option.some.inj H
    go_enter Try.func13, Try.ntmps13
    go_wp2
    go_ret
    exact ⟨by first | rfl | (simp; done) | (simp [*]; done), by repeat (first | exact Drawn0.refl _ | apply Drawn0.step)⟩
  · rw [if_neg c4] at H
    have c4b0 : decide (a1 ≤ a0) = false := decide_eq_false c4
    clear c4
    obtain rfl := Option.some.inj H
    go_enter Try.func13, Try.ntmps13
    go_wp2
    go_ret
    exact ⟨by first | rfl | (simp; done) | (simp [*]; done), by repeat (first | exact Drawn0.refl _ | apply Drawn0.step)⟩

/-! ### impl_isMode: function 20 -/
def impl_isMode.f (a0 : Int) : Option (Bool) := (impl_within.f a0 0 511).bind fun t112 => (some t112)
set_option maxHeartbeats 8000000 in
set_option maxRecDepth 100000 in
theorem impl_isMode.calls (a0 : Int) (r : Bool) (w : World) (h : impl_isMode.f a0 = some r) :
    Calls Try.prog 20 #[.int .i64 a0] w fun e w' => e = .returned (.bool r) ∧ Drawn0 w w' := by
  have H : ((impl_within.f a0 0 511).bind fun t112 => (some t112)) = some r := h
  clear h
  replace H := Option.bind_eq_some_iff.mp H
  obtain ⟨t112, A20, H⟩ := H
  replace H : (some t112) = some r := H
  have A2 := Aside0.mk A20
  clear A20
  obtain rfl := Option.some.inj H
  go_enter Try.func20, Try.ntmps20
  go_wp2_with (first | ((with_reducible refine gate_callee (f := 13) rfl ?_); refine goesL_ (some 4) rfl rfl Try.func13 (by kernel_rfl) rfl #[.int .i64 a0, .int .i64 0, .int .i64 511] rfl (by (try simp only [List.map_toArray, List.map_cons, List.map_nil]); first | done | rfl | (simp only [List.length_drop, List.length_take]; rfl)) ?_; (with_reducible refine (impl_within.calls a0 0 511 t112 _ A2.out).mono ?_); rintro e w' ⟨rfl, ⟨nd, rfl⟩⟩; refine ⟨_, rfl, ?_⟩))
  go_ret
  exact ⟨by first | rfl | (simp; done) | (simp [*]; done), by repeat (first | exact Drawn0.refl _ | apply Drawn0.step)⟩

/-! ### strings_IndexByte: function 26 -/
/-- strings.IndexByte. -/
def strings_IndexByte.f (a0 : ByteArray) (a1 : Int) : Option Int := some (Lib.indexByte a0.data.toList a1.toNat.toUInt8)
set_option maxHeartbeats 1000000 in
theorem strings_IndexByte.calls (a0 : ByteArray) (a1 : Int) (r : Int) (w : World) (h : strings_IndexByte.f a0 a1 = some r) :
    Calls Try.prog 26 #[.string a0, .int .u8 a1] w fun e w' => e = .returned (.int .i64 r) ∧ Drawn0 w w' := by
  obtain rfl := Option.some.inj h
  exact (Try.strings_IndexByte a0 a1 w).mono (fun e w' ⟨he, hw⟩ => ⟨he, by rw [hw]; exact Drawn0.refl w⟩)

/-! ### impl_lettersOf: function 21 -/
def impl_lettersOf.l0 : Nat → ByteArray → ByteArray → List Int → Int → Int → Int → Option (Int × Bool)
  | 0, _, _, _, _, _, _ => none
  | k + 1, x0, x1, x2, x8, x12, x13 => if x13 < x12 then (if 0 ≤ x13 then (if x13 < (x0.size : Int) then ((strings_IndexByte.f x1 (bt x0 x13)).bind fun t113 => (if t113 < 0 then (some (0, false)) else (if x13 ≤ (x0.size : Int) then ((strings_IndexByte.f (x0.extract 0 (x13 : Int).toNat) (bt x0 x13)).bind fun t114 => (if t114 ≥ 0 then (some (0, false)) else (if 0 ≤ t113 then (if t113 < (x2.length : Int) then (impl_lettersOf.l0 k x0 x1 x2 (Go.bits .or .i64 x8 (rd x2 t113)) x12 (wrap64 (x13 + 1))) else (none)) else (none)))) else (none)))) else (none)) else (none)) else (some (x8, true))
def impl_lettersOf.f (k : Nat) (a0 : ByteArray) (a1 : ByteArray) (l2 : List Int) : Option (Int × Bool) := impl_lettersOf.l0 k a0 a1 l2 0 (a0.size : Int) 0
theorem impl_lettersOf.mono_l : ∀ k, (∀ y0 y1 y2 y3 y4 y5, LeO (impl_lettersOf.l0 k y0 y1 y2 y3 y4 y5) (impl_lettersOf.l0 (k + 1) y0 y1 y2 y3 y4 y5))
  | 0 => fun _ _ _ _ _ _ r h => by simp [impl_lettersOf.l0] at h
  | k + 1 => by
    have ih0 := impl_lettersOf.mono_l k
    · intro y0 y1 y2 y3 y4 y5
      unfold impl_lettersOf.l0
      repeat' first
      | (with_reducible exact ih0 _ _ _ _ _ _)
      | (with_reducible exact LeO.refl _)
      | (with_reducible exact LeO.none _)
      | (with_reducible refine LeO.ite ?_ ?_)
      | (with_reducible refine LeO.bind ?_ (fun _ => ?_))
      | exact ih0 _ _ _ _ _ _
      | exact LeO.none _
      | refine LeO.ite ?_ ?_
      | refine LeO.bind ?_ (fun _ => ?_)
theorem impl_lettersOf.mono : ∀ a0 a1 a2 k, LeO (impl_lettersOf.f k a0 a1 a2) (impl_lettersOf.f (k + 1) a0 a1 a2) := by
  intro a0 a1 a2 k
  have ih0 := impl_lettersOf.mono_l k
  unfold impl_lettersOf.f
  repeat' first
      | (with_reducible exact ih0 _ _ _ _ _ _)
      | (with_reducible exact LeO.refl _)
      | (with_reducible exact LeO.none _)
      | (with_reducible refine LeO.ite ?_ ?_)
      | (with_reducible refine LeO.bind ?_ (fun _ => ?_))
      | exact ih0 _ _ _ _ _ _
      | exact LeO.none _
      | refine LeO.ite ?_ ?_
      | refine LeO.bind ?_ (fun _ => ?_)
set_option maxHeartbeats 8000000 in
set_option maxRecDepth 100000 in
theorem impl_lettersOf.calls (k : Nat) (a0 : ByteArray) (a1 : ByteArray) (A2 : Option Addr) (c2 : Nat) (l2 : List Int) (r1 : Int) (r2 : Bool) (w : World) (hr2 : Kd.C (Kd.int .i64) w A2 l2.length l2) (hc2 : l2.length ≤ c2) (h : impl_lettersOf.f k a0 a1 l2 = some (r1, r2)) :
    Calls Try.prog 21 #[.string a0, .string a1, .slice A2 l2.length c2] w fun e w' => e = .returned (.tuple #[.int .i64 r1, .bool r2]) ∧ Drawn0 w w' := by
  have HR2 := Aside0.mk hr2
  have HC2 := Aside0.mk hc2
  clear hr2 hc2
  have H : (impl_lettersOf.l0 k a0 a1 l2 0 (a0.size : Int) 0) = some (r1, r2) := h
  clear h
  have H' := Aside0.mk H
  clear H
  go_enter Try.func21, Try.ntmps21
  go_wp2
  repeat (go_quiet (fail); try go_wp2)
  go_loopg [8, 13] k (fun kq v8 v13 w' => ∃ (x8_1 : Int) (x13_1 : Int), v8 = .int .i64 x8_1 ∧ v13 = .int .i64 x13_1 ∧ Aside0 (impl_lettersOf.l0 kq a0 a1 l2 x8_1 (a0.size : Int) x13_1 = some (r1, r2)) ∧ Aside0 (kq ≤ k) ∧ Drawn0 w w')
  case atStart => exact ⟨(0), (0), (by first | rfl | (simp; done) | (simp [*]; done)), (by first | rfl | (simp; done) | (simp [*]; done)), H', ⟨Nat.le_refl _⟩, by repeat (first | exact Drawn0.refl _ | apply Drawn0.step)⟩
  case round =>
    clear H'
    try clear c2
    try clear p2
    obtain ⟨x8_1, x13_1, rfl, rfl, HA, HK1, ⟨m1, rfl⟩⟩ := hrel
    cases gk with
    | zero => exact absurd HA.out (by simp [impl_lettersOf.l0])
    | succ k1 =>
      have H := HA.out
      clear HA
      simp only [impl_lettersOf.l0] at H
      by_cases c4 : x13_1 < (a0.size : Int)
      · rw [if_pos c4] at H
        have c4b0 : decide (x13_1 < (a0.size : Int)) = true := decide_eq_true c4
        clear c4
        by_cases c5 : 0 ≤ x13_1
        · rw [if_pos c5] at H
          have c5b0 : decide (0 ≤ x13_1) = true := decide_eq_true c5
          clear c5
          by_cases c6 : x13_1 < (a0.size : Int)
          · rw [if_pos c6] at H
            have c6b0 : decide (x13_1 < (a0.size : Int)) = true := decide_eq_true c6
            clear c6
            replace H := Option.bind_eq_some_iff.mp H
            obtain ⟨t113, A80, H⟩ := H
            replace H : (if t113 < 0 then (some (0, false)) else (if x13_1 ≤ (a0.size : Int) then ((strings_IndexByte.f (a0.extract 0 (x13_1 : Int).toNat) (bt a0 x13_1)).bind fun t114 => (if t114 ≥ 0 then (some (0, false)) else (if 0 ≤ t113 then (if t113 < (l2.length : Int) then (impl_lettersOf.l0 k1 a0 a1 l2 (Go.bits .or .i64 x8_1 (rd l2 t113)) (a0.size : Int) (wrap64 (x13_1 + 1))) else (none)) else (none)))) else (none))) = some (r1, r2) := H
            have A8 := Aside0.mk A80
            clear A80
            by_cases c9 : t113 < 0
            · rw [if_pos c9] at H
              have c9b0 : decide (t113 < 0) = true := decide_eq_true c9
              clear c9
              simp only [Option.some.injEq, Prod.mk.injEq] at H
              obtain ⟨rfl, rfl⟩ := H
              have p7 : 0 ≤ (x13_1 : Int) := of_decide_eq_true (by first | (with_reducible assumption) | assumption)
              have q7 : x13_1 < (a0.size : Int) := of_decide_eq_true (by first | (with_reducible assumption) | assumption)
              have hx7 := bt_at a0 x13_1
              replace p7 := eq_true p7
              replace q7 := eq_true q7
              go_wp2_with (first | (go_at_call 26; (with_reducible refine (strings_IndexByte.calls a1 (bt a0 x13_1) t113 _ A8.out).mono ?_); rintro e w' ⟨rfl, ⟨nd, rfl⟩⟩; (try first | exact ⟨rfl, _, World.drewN_drewN _ _ _⟩ | exact ⟨rfl, _, Eq.trans (World.drewN_drewN _ _ _) (congrArg (World.drewN _) (Nat.add_assoc _ _ _))⟩)))
              repeat (go_quiet (first | (go_at_call 26; (with_reducible refine (strings_IndexByte.calls a1 (bt a0 x13_1) t113 _ A8.out).mono ?_); rintro e w' ⟨rfl, ⟨nd, rfl⟩⟩; (try first | exact ⟨rfl, _, World.drewN_drewN _ _ _⟩ | exact ⟨rfl, _, Eq.trans (World.drewN_drewN _ _ _) (congrArg (World.drewN _) (Nat.add_assoc _ _ _))⟩))); try go_wp2_with (first | (go_at_call 26; (with_reducible refine (strings_IndexByte.calls a1 (bt a0 x13_1) t113 _ A8.out).mono ?_); rintro e w' ⟨rfl, ⟨nd, rfl⟩⟩; (try first | exact ⟨rfl, _, World.drewN_drewN _ _ _⟩ | exact ⟨rfl, _, Eq.trans (World.drewN_drewN _ _ _) (congrArg (World.drewN _) (Nat.add_assoc _ _ _))⟩))))
              go_ret2
              exact ⟨by first | rfl | (simp; done) | (simp [*]; done), by repeat (first | exact Drawn0.refl _ | apply Drawn0.step)⟩
            · rw [if_neg c9] at H
              have c9b0 : decide (t113 < 0) = false := decide_eq_false c9
              clear c9
              have c10b0 := eq_true (of_decide_eq_true (by first | (with_reducible assumption) | assumption) : 0 ≤ x13_1)
              by_cases c11 : x13_1 ≤ (a0.size : Int)
              · rw [if_pos c11] at H
                have c11b0 := eq_true c11
                have c11b1 : decide (x13_1 ≤ (a0.size : Int)) = true := decide_eq_true c11
                clear c11
                replace H := Option.bind_eq_some_iff.mp H
                obtain ⟨t114, A130, H⟩ := H
                replace H : (if t114 ≥ 0 then (some (0, false)) else (if 0 ≤ t113 then (if t113 < (l2.length : Int) then (impl_lettersOf.l0 k1 a0 a1 l2 (Go.bits .or .i64 x8_1 (rd l2 t113)) (a0.size : Int) (wrap64 (x13_1 + 1))) else (none)) else (none))) = some (r1, r2) := H
                have A13 := Aside0.mk A130
                clear A130
                by_cases c14 : t114 ≥ 0
                · rw [if_pos c14] at H
                  have c14b0 : decide (0 ≤ t114) = true := decide_eq_true c14
                  clear c14
                  simp only [Option.some.injEq, Prod.mk.injEq] at H
                  obtain ⟨rfl, rfl⟩ := H
                  have p7 : 0 ≤ (x13_1 : Int) := of_decide_eq_true (by first | (with_reducible assumption) | assumption)
                  have q7 : x13_1 < (a0.size : Int) := of_decide_eq_true (by first | (with_reducible assumption) | assumption)
                  have hx7 := bt_at a0 x13_1
                  replace p7 := eq_true p7
                  replace q7 := eq_true q7
                  go_wp2_with (first | (go_at_call 26; (with_reducible refine (strings_IndexByte.calls a1 (bt a0 x13_1) t113 _ A8.out).mono ?_); rintro e w' ⟨rfl, ⟨nd, rfl⟩⟩; (try first | exact ⟨rfl, _, World.drewN_drewN _ _ _⟩ | exact ⟨rfl, _, Eq.trans (World.drewN_drewN _ _ _) (congrArg (World.drewN _) (Nat.add_assoc _ _ _))⟩); have p12 : 0 ≤ (x13_1 : Int) := of_decide_eq_true (by first | (with_reducible assumption) | assumption); have q12 : x13_1 < (a0.size : Int) := of_decide_eq_true (by first | (with_reducible assumption) | assumption); have hx12 := bt_at a0 x13_1; replace p12 := eq_true p12; replace q12 := eq_true q12) | (go_at_call 26; (with_reducible refine (strings_IndexByte.calls (a0.extract 0 (x13_1 : Int).toNat) (bt a0 x13_1) t114 _ A13.out).mono ?_); rintro e w' ⟨rfl, ⟨nd, rfl⟩⟩; (try first | exact ⟨rfl, _, World.drewN_drewN _ _ _⟩ | exact ⟨rfl, _, Eq.trans (World.drewN_drewN _ _ _) (congrArg (World.drewN _) (Nat.add_assoc _ _ _))⟩)))
                  repeat (go_quiet (first | (go_at_call 26; (with_reducible refine (strings_IndexByte.calls a1 (bt a0 x13_1) t113 _ A8.out).mono ?_); rintro e w' ⟨rfl, ⟨nd, rfl⟩⟩; (try first | exact ⟨rfl, _, World.drewN_drewN _ _ _⟩ | exact ⟨rfl, _, Eq.trans (World.drewN_drewN _ _ _) (congrArg (World.drewN _) (Nat.add_assoc _ _ _))⟩); have p12 : 0 ≤ (x13_1 : Int) := of_decide_eq_true (by first | (with_reducible assumption) | assumption); have q12 : x13_1 < (a0.size : Int) := of_decide_eq_true (by first | (with_reducible assumption) | assumption); have hx12 := bt_at a0 x13_1; replace p12 := eq_true p12; replace q12 := eq_true q12) | (go_at_call 26; (with_reducible refine (strings_IndexByte.calls (a0.extract 0 (x13_1 : Int).toNat) (bt a0 x13_1) t114 _ A13.out).mono ?_); rintro e w' ⟨rfl, ⟨nd, rfl⟩⟩; (try first | exact ⟨rfl, _, World.drewN_drewN _ _ _⟩ | exact ⟨rfl, _, Eq.trans (World.drewN_drewN _ _ _) (congrArg (World.drewN _) (Nat.add_assoc _ _ _))⟩))); try go_wp2_with (first | (go_at_call 26; (with_reducible refine (strings_IndexByte.calls a1 (bt a0 x13_1) t113 _ A8.out).mono ?_); rintro e w' ⟨rfl, ⟨nd, rfl⟩⟩; (try first | exact ⟨rfl, _, World.drewN_drewN _ _ _⟩ | exact ⟨rfl, _, Eq.trans (World.drewN_drewN _ _ _) (congrArg (World.drewN _) (Nat.add_assoc _ _ _))⟩); have p12 : 0 ≤ (x13_1 : Int) := of_decide_eq_true (by first | (with_reducible assumption) | assumption); have q12 : x13_1 < (a0.size : Int) := of_decide_eq_true (by first | (with_reducible assumption) | assumption); have hx12 := bt_at a0 x13_1; replace p12 := eq_true p12; replace q12 := eq_true q12) | (go_at_call 26; (with_reducible refine (strings_IndexByte.calls (a0.extract 0 (x13_1 : Int).toNat) (bt a0 x13_1) t114 _ A13.out).mono ?_); rintro e w' ⟨rfl, ⟨nd, rfl⟩⟩; (try first | exact ⟨rfl, _, World.drewN_drewN _ _ _⟩ | exact ⟨rfl, _, Eq.trans (World.drewN_drewN _ _ _) (congrArg (World.drewN _) (Nat.add_assoc _ _ _))⟩))))
                  go_ret2
                  exact ⟨by first | rfl | (simp; done) | (simp [*]; done), by repeat (first | exact Drawn0.refl _ | apply Drawn0.step)⟩
                · rw [if_neg c14] at H
                  have c14b0 : decide (0 ≤ t114) = false := decide_eq_false c14
                  clear c14
                  by_cases c15 : 0 ≤ t113
                  · rw [if_pos c15] at H
                    have c15b0 : decide (0 ≤ t113) = true := decide_eq_true c15
                    clear c15
                    by_cases c16 : t113 < (l2.length : Int)
                    · rw [if_pos c16] at H
                      have c16b0 : decide (t113 < (l2.length : Int)) = true := decide_eq_true c16
                      clear c16
                      have H' := Aside0.mk H
                      clear H
                      have p7 : 0 ≤ (x13_1 : Int) := of_decide_eq_true (by first | (with_reducible assumption) | assumption)
                      have q7 : x13_1 < (a0.size : Int) := of_decide_eq_true (by first | (with_reducible assumption) | assumption)
                      have hx7 := bt_at a0 x13_1
                      replace p7 := eq_true p7
                      replace q7 := eq_true q7
                      go_wp2_with (first | (go_at_call 26; (with_reducible refine (strings_IndexByte.calls a1 (bt a0 x13_1) t113 _ A8.out).mono ?_); rintro e w' ⟨rfl, ⟨nd, rfl⟩⟩; (try first | exact ⟨rfl, _, World.drewN_drewN _ _ _⟩ | exact ⟨rfl, _, Eq.trans (World.drewN_drewN _ _ _) (congrArg (World.drewN _) (Nat.add_assoc _ _ _))⟩); have p12 : 0 ≤ (x13_1 : Int) := of_decide_eq_true (by first | (with_reducible assumption) | assumption); have q12 : x13_1 < (a0.size : Int) := of_decide_eq_true (by first | (with_reducible assumption) | assumption); have hx12 := bt_at a0 x13_1; replace p12 := eq_true p12; replace q12 := eq_true q12) | (go_at_call 26; (with_reducible refine (strings_IndexByte.calls (a0.extract 0 (x13_1 : Int).toNat) (bt a0 x13_1) t114 _ A13.out).mono ?_); rintro e w' ⟨rfl, ⟨nd, rfl⟩⟩; (try first | exact ⟨rfl, _, World.drewN_drewN _ _ _⟩ | exact ⟨rfl, _, Eq.trans (World.drewN_drewN _ _ _) (congrArg (World.drewN _) (Nat.add_assoc _ _ _))⟩); have p115 : 0 ≤ (t113 : Int) := of_decide_eq_true (by first | (with_reducible assumption) | assumption); have q115 : t113 < (l2.length : Int) := of_decide_eq_true (by first | (with_reducible assumption) | assumption); obtain ⟨ad115, e115, hx115_0⟩ := Kd.at_int HR2.out t113 p115 q115; cases e115; replace p115 := eq_true p115; replace q115 := eq_true q115))
                      repeat (go_quiet (first | (go_at_call 26; (with_reducible refine (strings_IndexByte.calls a1 (bt a0 x13_1) t113 _ A8.out).mono ?_); rintro e w' ⟨rfl, ⟨nd, rfl⟩⟩; (try first | exact ⟨rfl, _, World.drewN_drewN _ _ _⟩ | exact ⟨rfl, _, Eq.trans (World.drewN_drewN _ _ _) (congrArg (World.drewN _) (Nat.add_assoc _ _ _))⟩); have p12 : 0 ≤ (x13_1 : Int) := of_decide_eq_true (by first | (with_reducible assumption) | assumption); have q12 : x13_1 < (a0.size : Int) := of_decide_eq_true (by first | (with_reducible assumption) | assumption); have hx12 := bt_at a0 x13_1; replace p12 := eq_true p12; replace q12 := eq_true q12) | (go_at_call 26; (with_reducible refine (strings_IndexByte.calls (a0.extract 0 (x13_1 : Int).toNat) (bt a0 x13_1) t114 _ A13.out).mono ?_); rintro e w' ⟨rfl, ⟨nd, rfl⟩⟩; (try first | exact ⟨rfl, _, World.drewN_drewN _ _ _⟩ | exact ⟨rfl, _, Eq.trans (World.drewN_drewN _ _ _) (congrArg (World.drewN _) (Nat.add_assoc _ _ _))⟩); have p115 : 0 ≤ (t113 : Int) := of_decide_eq_true (by first | (with_reducible assumption) | assumption); have q115 : t113 < (l2.length : Int) := of_decide_eq_true (by first | (with_reducible assumption) | assumption); obtain ⟨ad115, e115, hx115_0⟩ := Kd.at_int HR2.out t113 p115 q115; cases e115; replace p115 := eq_true p115; replace q115 := eq_true q115)); try go_wp2_with (first | (go_at_call 26; (with_reducible refine (strings_IndexByte.calls a1 (bt a0 x13_1) t113 _ A8.out).mono ?_); rintro e w' ⟨rfl, ⟨nd, rfl⟩⟩; (try first | exact ⟨rfl, _, World.drewN_drewN _ _ _⟩ | exact ⟨rfl, _, Eq.trans (World.drewN_drewN _ _ _) (congrArg (World.drewN _) (Nat.add_assoc _ _ _))⟩); have p12 : 0 ≤ (x13_1 : Int) := of_decide_eq_true (by first | (with_reducible assumption) | assumption); have q12 : x13_1 < (a0.size : Int) := of_decide_eq_true (by first | (with_reducible assumption) | assumption); have hx12 := bt_at a0 x13_1; replace p12 := eq_true p12; replace q12 := eq_true q12) | (go_at_call 26; (with_reducible refine (strings_IndexByte.calls (a0.extract 0 (x13_1 : Int).toNat) (bt a0 x13_1) t114 _ A13.out).mono ?_); rintro e w' ⟨rfl, ⟨nd, rfl⟩⟩; (try first | exact ⟨rfl, _, World.drewN_drewN _ _ _⟩ | exact ⟨rfl, _, Eq.trans (World.drewN_drewN _ _ _) (congrArg (World.drewN _) (Nat.add_assoc _ _ _))⟩); have p115 : 0 ≤ (t113 : Int) := of_decide_eq_true (by first | (with_reducible assumption) | assumption); have q115 : t113 < (l2.length : Int) := of_decide_eq_true (by first | (with_reducible assumption) | assumption); obtain ⟨ad115, e115, hx115_0⟩ := Kd.at_int HR2.out t113 p115 q115; cases e115; replace p115 := eq_true p115; replace q115 := eq_true q115)))
                      go_roundg k1
                      case measure => have := HK1.out; omega
                      case rel => exact ⟨(Go.bits .or .i64 x8_1 (rd l2 t113)), (wrap64 (x13_1 + 1)), (by first | rfl | (simp; done) | (simp [*]; done)), (by first | rfl | (simp; done) | (simp [*]; done)), H', ⟨by have := HK1.out; omega⟩, by repeat (first | exact Drawn0.refl _ | apply Drawn0.step)⟩
                    · rw [if_neg c16] at H
                      exact absurd H (by simp)
                  · rw [if_neg c15] at H
                    exact absurd H (by simp)
              · rw [if_neg c11] at H
                exact absurd H (by simp)
          · rw [if_neg c6] at H
            exact absurd H (by simp)
        · rw [if_neg c5] at H
          exact absurd H (by simp)
      · rw [if_neg c4] at H
        have c4b0 : decide (x13_1 < (a0.size : Int)) = false := decide_eq_false c4
        clear c4
        simp only [Option.some.injEq, Prod.mk.injEq] at H
        obtain ⟨rfl, rfl⟩ := H
        go_wp2
        repeat (go_quiet (fail); try go_wp2)
        go_ret2
        exact ⟨by first | rfl | (simp; done) | (simp [*]; done), by repeat (first | exact Drawn0.refl _ | apply Drawn0.step)⟩

/-! ### impl_ChangeMode: function 11 -/
mutual
def impl_ChangeMode.j0 : Nat → Int → ByteArray → Int → Bool → Option (Int × Bool)
  | 0, _, _, _, _ => none
  | k + 1, x0, x1, x6, x20 => if x20 = true then (some (0, false)) else (if 0 ≤ x6 then (if x6 ≤ (x1.size : Int) then ((impl_lettersOf.f k (x1.extract 0 (x6 : Int).toNat) (⟨#[117, 103, 111, 97]⟩ : ByteArray) (([448, 56, 7, 511] : List Int))).bind fun bt121 => (if 0 ≤ (wrap64 (x6 + 1)) then (if (wrap64 (x6 + 1)) ≤ (x1.size : Int) then ((impl_lettersOf.f k (x1.extract ((wrap64 (x6 + 1)) : Int).toNat x1.size) (⟨#[114, 119, 120]⟩ : ByteArray) (([4, 2, 1] : List Int))).bind fun bt126 => (if bt121.2 = true then (impl_ChangeMode.j1 k x0 x1 x6 bt121.1 bt126.1 (!bt126.2)) else (impl_ChangeMode.j1 k x0 x1 x6 bt121.1 bt126.1 true))) else (none)) else (none))) else (none)) else (none))
def impl_ChangeMode.j1 : Nat → Int → ByteArray → Int → Int → Int → Bool → Option (Int × Bool)
  | 0, _, _, _, _, _, _ => none
  | k + 1, x0, x1, x6, x7, x9, x43 => if x43 = true then (some (0, false)) else (if 0 ≤ x6 then (if x6 < (x1.size : Int) then (if (bt x1 x6) = 43 then (some (Go.bits .or .i64 x0 (Go.bits .and .i64 x7 (Go.bits .or .i64 (Go.bits .or .i64 (wrap64 (x9 * 64)) (wrap64 (x9 * 8))) x9)), true)) else (if (bt x1 x6) = 45 then (some (Go.bits .andNot .i64 x0 (Go.bits .and .i64 x7 (Go.bits .or .i64 (Go.bits .or .i64 (wrap64 (x9 * 64)) (wrap64 (x9 * 8))) x9)), true)) else (some (Go.bits .or .i64 (Go.bits .andNot .i64 x0 x7) (Go.bits .and .i64 x7 (Go.bits .or .i64 (Go.bits .or .i64 (wrap64 (x9 * 64)) (wrap64 (x9 * 8))) x9)), true)))) else (none)) else (none))
end
def impl_ChangeMode.f (k : Nat) (a0 : Int) (a1 : ByteArray) : Option (Int × Bool) := (strings_IndexAny.f a1 (⟨#[43, 45, 61]⟩ : ByteArray)).bind fun t116 => ((impl_isMode.f a0).bind fun t117 => (if t117 = true then (impl_ChangeMode.j0 k a0 a1 t116 (decide (t116 < 1))) else (impl_ChangeMode.j0 k a0 a1 t116 true)))
theorem impl_ChangeMode.mono_l : ∀ k, (∀ y0 y1 y2 y3, LeO (impl_ChangeMode.j0 k y0 y1 y2 y3) (impl_ChangeMode.j0 (k + 1) y0 y1 y2 y3)) ∧ (∀ y0 y1 y2 y3 y4 y5, LeO (impl_ChangeMode.j1 k y0 y1 y2 y3 y4 y5) (impl_ChangeMode.j1 (k + 1) y0 y1 y2 y3 y4 y5))
  | 0 => ⟨fun _ _ _ _ r h => by simp [impl_ChangeMode.j0] at h, fun _ _ _ _ _ _ r h => by simp [impl_ChangeMode.j1] at h⟩
  | k + 1 => by
    obtain ⟨ih0, ih1⟩ := impl_ChangeMode.mono_l k
    refine ⟨?_, ?_⟩
    · intro y0 y1 y2 y3
      unfold impl_ChangeMode.j0
      repeat' first
      | (with_reducible exact ih0 _ _ _ _)
      | (with_reducible exact ih1 _ _ _ _ _ _)
      | (with_reducible exact impl_lettersOf.mono _ _ _ _)
      | (with_reducible exact LeO.refl _)
      | (with_reducible exact LeO.none _)
      | (with_reducible refine LeO.ite ?_ ?_)
      | (with_reducible refine LeO.bind ?_ (fun _ => ?_))
      | exact ih0 _ _ _ _
      | exact ih1 _ _ _ _ _ _
      | exact impl_lettersOf.mono _ _ _ _
      | exact LeO.none _
      | refine LeO.ite ?_ ?_
      | refine LeO.bind ?_ (fun _ => ?_)
    · intro y0 y1 y2 y3 y4 y5
      unfold impl_ChangeMode.j1
      repeat' first
      | (with_reducible exact ih0 _ _ _ _)
      | (with_reducible exact ih1 _ _ _ _ _ _)
      | (with_reducible exact impl_lettersOf.mono _ _ _ _)
      | (with_reducible exact LeO.refl _)
      | (with_reducible exact LeO.none _)
      | (with_reducible refine LeO.ite ?_ ?_)
      | (with_reducible refine LeO.bind ?_ (fun _ => ?_))
      | exact ih0 _ _ _ _
      | exact ih1 _ _ _ _ _ _
      | exact impl_lettersOf.mono _ _ _ _
      | exact LeO.none _
      | refine LeO.ite ?_ ?_
      | refine LeO.bind ?_ (fun _ => ?_)
theorem impl_ChangeMode.mono : ∀ a0 a1 k, LeO (impl_ChangeMode.f k a0 a1) (impl_ChangeMode.f (k + 1) a0 a1) := by
  intro a0 a1 k
  obtain ⟨ih0, ih1⟩ := impl_ChangeMode.mono_l k
  unfold impl_ChangeMode.f
  repeat' first
      | (with_reducible exact ih0 _ _ _ _)
      | (with_reducible exact ih1 _ _ _ _ _ _)
      | (with_reducible exact impl_lettersOf.mono _ _ _ _)
      | (with_reducible exact LeO.refl _)
      | (with_reducible exact LeO.none _)
      | (with_reducible refine LeO.ite ?_ ?_)
      | (with_reducible refine LeO.bind ?_ (fun _ => ?_))
      | exact ih0 _ _ _ _
      | exact ih1 _ _ _ _ _ _
      | exact impl_lettersOf.mono _ _ _ _
      | exact LeO.none _
      | refine LeO.ite ?_ ?_
      | refine LeO.bind ?_ (fun _ => ?_)
set_option maxHeartbeats 8000000 in
set_option maxRecDepth 100000 in
theorem impl_ChangeMode.calls (k : Nat) (a0 : Int) (a1 : ByteArray) (r1 : Int) (r2 : Bool) (w : World) (h : impl_ChangeMode.f k a0 a1 = some (r1, r2)) :
    Calls Try.prog 11 #[.int .i64 a0, .string a1] w fun e w' => e = .returned (.tuple #[.int .i64 r1, .bool r2]) ∧ Below w.heap.size w w' := by
  have HB := Aside0.mk (Below.refl w.heap.size w)
  have H : ((strings_IndexAny.f a1 (⟨#[43, 45, 61]⟩ : ByteArray)).bind fun t116 => ((impl_isMode.f a0).bind fun t117 => (if t117 = true then (impl_ChangeMode.j0 k a0 a1 t116 (decide (t116 < 1))) else (impl_ChangeMode.j0 k a0 a1 t116 true)))) = some (r1, r2) := h
  clear h
  replace H := Option.bind_eq_some_iff.mp H
  obtain ⟨t116, A30, H⟩ := H
  replace H : ((impl_isMode.f a0).bind fun t117 => (if t117 = true then (impl_ChangeMode.j0 k a0 a1 t116 (decide (t116 < 1))) else (impl_ChangeMode.j0 k a0 a1 t116 true))) = some (r1, r2) := H
  have A3 := Aside0.mk A30
  clear A30
  have HC4 := Aside0.mk H
  clear H
  go_enter Try.func11, Try.ntmps11
  go_upto_region 2 with (first | ((with_reducible refine gate_callee (f := 19) rfl ?_); refine goesL_ (some 13) rfl rfl Try.func19 (by kernel_rfl) rfl #[.string a1, .string (⟨#[43, 45, 61]⟩ : ByteArray)] rfl (by (try simp only [List.map_toArray, List.map_cons, List.map_nil]); first | done | rfl | (simp only [List.length_drop, List.length_take]; rfl)) ?_; (with_reducible refine (strings_IndexAny.calls a1 (⟨#[43, 45, 61]⟩ : ByteArray) t116 _ A3.out).mono ?_); rintro e w5 ⟨rfl, hb⟩; refine ⟨_, rfl, ?_⟩; have n0_ := Aside0.mk (below_step (by repeat (first | (with_reducible first | exact HB.out | apply below_alloc | apply pw_below_drewN | apply below_drew1) | exact HB.out)) hb); clear HB; have HB := n0_; clear n0_; (try clear hb); (try clear hb2); (try clear hk); (try clear hi)))
  (try simp only [Act.put, List.setIfInBounds_toArray, List.set_cons_zero, List.set_cons_succ])
  go_cut [20] (fun v20 wc => ∃ (kq : Nat) (x20_3 : Bool), v20 = .bool x20_3 ∧ Aside0 (impl_ChangeMode.j0 kq a0 a1 t116 x20_3 = some (r1, r2)) ∧ Aside0 (kq ≤ k) ∧ Aside0 (Below w.heap.size w wc))
  case first =>
    have H := HC4.out
    clear HC4
    replace H := Option.bind_eq_some_iff.mp H
    obtain ⟨t117, A60, H⟩ := H
    replace H : (if t117 = true then (impl_ChangeMode.j0 k a0 a1 t116 (decide (t116 < 1))) else (impl_ChangeMode.j0 k a0 a1 t116 true)) = some (r1, r2) := H
    have A6 := Aside0.mk A60
    clear A60
    by_cases c7 : t117 = true
    · subst c7
      have H1 : (impl_ChangeMode.j0 k a0 a1 t116 (decide (t116 < 1))) = some (r1, r2) := by rw [if_pos rfl] at H; exact H
      clear H
      have H := H1
      clear H1
      have H' := Aside0.mk H
      clear H
      go_wp2_with (first | ((with_reducible refine gate_callee (f := 20) rfl ?_); refine goesL_ (some 15) rfl rfl Try.func20 (by kernel_rfl) rfl #[.int .i64 a0] rfl (by (try simp only [List.map_toArray, List.map_cons, List.map_nil]); first | done | rfl | (simp only [List.length_drop, List.length_take]; rfl)) ?_; (with_reducible refine (impl_isMode.calls a0 true _ A6.out).mono ?_); rintro e w' ⟨rfl, ⟨nd, rfl⟩⟩; refine ⟨_, rfl, ?_⟩))
      go_meet
      case rel => exact ⟨_, (decide (t116 < 1)), (by first | rfl | (simp; done) | (simp [*]; done)), H', ⟨by first | omega | exact Nat.le_refl _⟩, ⟨by repeat (first | (with_reducible first | exact HB.out | apply below_alloc | apply pw_below_drewN | apply below_drew1) | exact HB.out)⟩⟩
    · replace c7 := Bool.eq_false_iff.mpr c7
      subst c7
      have H1 : (impl_ChangeMode.j0 k a0 a1 t116 true) = some (r1, r2) := by rw [if_neg (show ¬ (false = true) by decide)] at H; exact H
      clear H
      have H := H1
      clear H1
      have H' := Aside0.mk H
      clear H
      go_wp2_with (first | ((with_reducible refine gate_callee (f := 20) rfl ?_); refine goesL_ (some 15) rfl rfl Try.func20 (by kernel_rfl) rfl #[.int .i64 a0] rfl (by (try simp only [List.map_toArray, List.map_cons, List.map_nil]); first | done | rfl | (simp only [List.length_drop, List.length_take]; rfl)) ?_; (with_reducible refine (impl_isMode.calls a0 false _ A6.out).mono ?_); rintro e w' ⟨rfl, ⟨nd, rfl⟩⟩; refine ⟨_, rfl, ?_⟩))
      go_meet
      case rel => exact ⟨_, (true), (by first | rfl | (simp; done) | (simp [*]; done)), H', ⟨by first | omega | exact Nat.le_refl _⟩, ⟨by repeat (first | (with_reducible first | exact HB.out | apply below_alloc | apply pw_below_drewN | apply below_drew1) | exact HB.out)⟩⟩
  case rest =>
    clear HC4
    try clear c1
    try clear c2
    try clear p2
    try clear c7
    obtain ⟨kq, x20_3, rfl, HA, HJ3, HB⟩ := hcut
    cases kq with
    | zero => exact absurd HA.out (by simp [impl_ChangeMode.j0])
    | succ kj3 =>
      have H := HA.out
      clear HA
      simp only [impl_ChangeMode.j0] at H
      by_cases c8 : x20_3 = true
      · subst c8
        have H1 : (some (0, false)) = some (r1, r2) := by rw [if_pos rfl] at H; exact H
        clear H
        have H := H1
        clear H1
        simp only [Option.some.injEq, Prod.mk.injEq] at H
        obtain ⟨rfl, rfl⟩ := H
        go_wp2
        go_ret2
        exact ⟨by first | rfl | (simp [errW_none, errW_some] <;> rfl) | (simp [errW_none, errW_some]; exact isEmpty_ne _) | (simp [*, errW_none, errW_some] <;> rfl), by repeat (first | (with_reducible first | exact HB.out | apply below_alloc | apply pw_below_drewN | apply below_drew1) | exact HB.out)⟩
      · replace c8 := Bool.eq_false_iff.mpr c8
        subst c8
        have H1 : (if 0 ≤ t116 then (if t116 ≤ (a1.size : Int) then ((impl_lettersOf.f kj3 (a1.extract 0 (t116 : Int).toNat) (⟨#[117, 103, 111, 97]⟩ : ByteArray) (([448, 56, 7, 511] : List Int))).bind fun bt121 => (if 0 ≤ (wrap64 (t116 + 1)) then (if (wrap64 (t116 + 1)) ≤ (a1.size : Int) then ((impl_lettersOf.f kj3 (a1.extract ((wrap64 (t116 + 1)) : Int).toNat a1.size) (⟨#[114, 119, 120]⟩ : ByteArray) (([4, 2, 1] : List Int))).bind fun bt126 => (if bt121.2 = true then (impl_ChangeMode.j1 kj3 a0 a1 t116 bt121.1 bt126.1 (!bt126.2)) else (impl_ChangeMode.j1 kj3 a0 a1 t116 bt121.1 bt126.1 true))) else (none)) else (none))) else (none)) else (none)) = some (r1, r2) := by rw [if_neg (show ¬ (false = true) by decide)] at H; exact H
        clear H
        have H := H1
        clear H1
        by_cases c9 : 0 ≤ t116
        · rw [if_pos c9] at H
          have c9b0 := eq_true c9
          have c9b1 : decide (0 ≤ t116) = true := decide_eq_true c9
          clear c9
          by_cases c10 : t116 ≤ (a1.size : Int)
          · rw [if_pos c10] at H
            have c10b0 := eq_true c10
            have c10b1 : decide (t116 ≤ (a1.size : Int)) = true := decide_eq_true c10
            clear c10
            obtain ⟨y118, hy118⟩ : ∃ y_ : List Int, y_ = (([448, 56, 7, 511] : List Int)) := ⟨_, rfl⟩
            replace H : ((impl_lettersOf.f kj3 (a1.extract 0 (t116 : Int).toNat) (⟨#[117, 103, 111, 97]⟩ : ByteArray) y118).bind fun bt121 => (if 0 ≤ (wrap64 (t116 + 1)) then (if (wrap64 (t116 + 1)) ≤ (a1.size : Int) then ((impl_lettersOf.f kj3 (a1.extract ((wrap64 (t116 + 1)) : Int).toNat a1.size) (⟨#[114, 119, 120]⟩ : ByteArray) (([4, 2, 1] : List Int))).bind fun bt126 => (if bt121.2 = true then (impl_ChangeMode.j1 kj3 a0 a1 t116 bt121.1 bt126.1 (!bt126.2)) else (impl_ChangeMode.j1 kj3 a0 a1 t116 bt121.1 bt126.1 true))) else (none)) else (none))) = some (r1, r2) := by first | (rw [hy118]; with_reducible exact H) | (have H2_ := (Option.bind_some _ _).symm.trans H; rw [hy118]; with_reducible exact H2_) | (have H2_ := (Option.bind_some _ _).symm.trans H; with_reducible exact H2_) | with_reducible exact H | (rw [hy118]; exact H) | exact H
            have Ny118 := Aside0.mk hy118
            clear hy118
            replace H := Option.bind_eq_some_iff.mp H
            obtain ⟨⟨t121, t122⟩, A110, H⟩ := H
            replace H : (if 0 ≤ (wrap64 (t116 + 1)) then (if (wrap64 (t116 + 1)) ≤ (a1.size : Int) then ((impl_lettersOf.f kj3 (a1.extract ((wrap64 (t116 + 1)) : Int).toNat a1.size) (⟨#[114, 119, 120]⟩ : ByteArray) (([4, 2, 1] : List Int))).bind fun bt126 => (if t122 = true then (impl_ChangeMode.j1 kj3 a0 a1 t116 t121 bt126.1 (!bt126.2)) else (impl_ChangeMode.j1 kj3 a0 a1 t116 t121 bt126.1 true))) else (none)) else (none)) = some (r1, r2) := H
            have A11 := Aside0.mk A110
            clear A110
            obtain ⟨ji12, hji12⟩ : ∃ j_ : Int, (wrap64 (t116 + 1)) = j_ := ⟨_, rfl⟩
            replace H : (if 0 ≤ (ji12) then (if (ji12) ≤ (a1.size : Int) then ((impl_lettersOf.f kj3 (a1.extract ((ji12) : Int).toNat a1.size) (⟨#[114, 119, 120]⟩ : ByteArray) (([4, 2, 1] : List Int))).bind fun bt126 => (if t122 = true then (impl_ChangeMode.j1 kj3 a0 a1 t116 t121 bt126.1 (!bt126.2)) else (impl_ChangeMode.j1 kj3 a0 a1 t116 t121 bt126.1 true))) else (none)) else (none)) = some (r1, r2) := by first | (rw [hji12] at H; exact H) | (simp only [hji12] at H ⊢; exact H)
            (try rw [hji12] at A11)
            have hji12w : (IntKind.i64.wrap (t116 + 1)) = ji12 := (i64_w _).trans hji12
            by_cases c13 : 0 ≤ (ji12)
            · rw [if_pos c13] at H
              have c13b0 := eq_true c13
              have c13b1 : decide (0 ≤ (ji12)) = true := decide_eq_true c13
              clear c13
              by_cases c14 : (ji12) ≤ (a1.size : Int)
              · rw [if_pos c14] at H
                have c14b0 := eq_true c14
                have c14b1 : decide ((ji12) ≤ (a1.size : Int)) = true := decide_eq_true c14
                clear c14
                obtain ⟨y123, hy123⟩ : ∃ y_ : List Int, y_ = (([4, 2, 1] : List Int)) := ⟨_, rfl⟩
                replace H : ((impl_lettersOf.f kj3 (a1.extract ((ji12) : Int).toNat a1.size) (⟨#[114, 119, 120]⟩ : ByteArray) y123).bind fun bt126 => (if t122 = true then (impl_ChangeMode.j1 kj3 a0 a1 t116 t121 bt126.1 (!bt126.2)) else (impl_ChangeMode.j1 kj3 a0 a1 t116 t121 bt126.1 true))) = some (r1, r2) := by first | (rw [hy123]; with_reducible exact H) | (have H2_ := (Option.bind_some _ _).symm.trans H; rw [hy123]; with_reducible exact H2_) | (have H2_ := (Option.bind_some _ _).symm.trans H; with_reducible exact H2_) | with_reducible exact H | (rw [hy123]; exact H) | exact H
                have Ny123 := Aside0.mk hy123
                clear hy123
                replace H := Option.bind_eq_some_iff.mp H
                obtain ⟨⟨t126, t127⟩, A150, H⟩ := H
                replace H : (if t122 = true then (impl_ChangeMode.j1 kj3 a0 a1 t116 t121 t126 (!t127)) else (impl_ChangeMode.j1 kj3 a0 a1 t116 t121 t126 true)) = some (r1, r2) := H
                have A15 := Aside0.mk A150
                clear A150
                have HC16 := Aside0.mk H
                clear H
                go_upto_region 6 with (first | ((with_reducible refine gate_dst (N := 25) rfl ?_); refine Kd.R_lit (Kd.int .i64) _ 3 ?hg (N := 25) ?hd (xs := ([448, 56, 7, 511] : List Int)) (inner := [.int .i64 448, .int .i64 56, .int .i64 7, .int .i64 511]) (ok := fun _ => True) (okp := fun _ => True) ?hr ?hp (fun _ hk => hk) trivial (Below.refl _ _) (Nat.le_refl _) (by simp) ?_; (case hd => rfl); (case hg => rfl); (case hr => first | (go_simp; done) | (go_simp; rfl)); (case hp => exact (Reps.one (show Kd.M (Kd.int .i64) _ _ _ 448 [.int .i64 448] from rfl) (Reps.one (show Kd.M (Kd.int .i64) _ _ _ 56 [.int .i64 56] from rfl) (Reps.one (show Kd.M (Kd.int .i64) _ _ _ 7 [.int .i64 7] from rfl) (Reps.one (show Kd.M (Kd.int .i64) _ _ _ 511 [.int .i64 511] from rfl) (Reps.none _ _)))))); intro v119 w17 ho18 hb hg_ hnew_; clear hg_ hnew_; (first | rw [← Ny118.out] at ho18 | (simp only [Int.reduceToNat] at ho18; rw [← Ny118.out] at ho18)); have n0_ := Aside0.mk (Kd.R_lower ho18 (below_size (by repeat (first | (with_reducible first | exact HB.out | apply below_alloc | apply pw_below_drewN | apply below_drew1) | exact HB.out)))); have n1_ := Aside0.mk (below_step (by repeat (first | (with_reducible first | exact HB.out | apply below_alloc | apply pw_below_drewN | apply below_drew1) | exact HB.out)) hb); clear HB; have HO120 := n0_; have HB := n1_; clear n0_ n1_; clear hb ho18; obtain ⟨Ao19, co19, eo19⟩ := Kd.R_slice HO120.out; subst eo19) | ((with_reducible refine gate_callee (f := 21) rfl ?_); refine goesL_ (some 26) rfl rfl Try.func21 (by kernel_rfl) rfl #[.string (a1.extract 0 (t116 : Int).toNat), .string (⟨#[117, 103, 111, 97]⟩ : ByteArray), .slice Ao19 y118.length co19] rfl (by (try simp only [List.map_toArray, List.map_cons, List.map_nil]); first | done | rfl | (simp only [List.length_drop, List.length_take]; rfl)) ?_; (with_reducible refine (impl_lettersOf.calls kj3 (a1.extract 0 (t116 : Int).toNat) (⟨#[117, 103, 111, 97]⟩ : ByteArray) _ _ y118 t121 t122 _ ?side1 ?side2 A11.out).mono ?_); (case side1 => repeat (first | exact (Kd.R_reads' HO120.out).2.2 | (with_reducible refine Kd.C_alloc ?_ _) | (with_reducible refine Kd.C_drewN ?_ _) | (with_reducible refine Kd.C_drew ?_))); (case side2 => exact (Kd.R_reads' HO120.out).2.1); rintro e w' ⟨rfl, ⟨nd, rfl⟩⟩; refine ⟨_, rfl, ?_⟩) | ((with_reducible refine gate_dst (N := 34) rfl ?_); refine Kd.R_lit (Kd.int .i64) _ 3 ?hg (N := 34) ?hd (xs := ([4, 2, 1] : List Int)) (inner := [.int .i64 4, .int .i64 2, .int .i64 1]) (ok := fun _ => True) (okp := fun _ => True) ?hr ?hp (fun _ hk => hk) trivial (Below.refl _ _) (Nat.le_refl _) (by simp) ?_; (case hd => rfl); (case hg => rfl); (case hr => first | (go_simp; done) | (go_simp; rfl)); (case hp => exact (Reps.one (show Kd.M (Kd.int .i64) _ _ _ 4 [.int .i64 4] from rfl) (Reps.one (show Kd.M (Kd.int .i64) _ _ _ 2 [.int .i64 2] from rfl) (Reps.one (show Kd.M (Kd.int .i64) _ _ _ 1 [.int .i64 1] from rfl) (Reps.none _ _))))); intro v124 w20 ho21 hb hg_ hnew_; clear hg_ hnew_; (first | rw [← Ny123.out] at ho21 | (simp only [Int.reduceToNat] at ho21; rw [← Ny123.out] at ho21)); have n0_ := Aside0.mk (Kd.R_elder' (by (with_reducible repeat (first | apply Kd.R_alloc | apply Kd.R_drewN | apply Kd.R_drew)); exact HO120.out) (Kd.R_base ho21) hb); have n1_ := Aside0.mk (Kd.R_lower (Kd.R_new' ho21 (Kd.R_lt (by (with_reducible repeat (first | apply Kd.R_alloc | apply Kd.R_drewN | apply Kd.R_drew)); exact HO120.out))) (below_size (by repeat (first | (with_reducible first | exact HB.out | apply below_alloc | apply pw_below_drewN | apply below_drew1) | exact HB.out)))); have n2_ := Aside0.mk (below_step (by repeat (first | (with_reducible first | exact HB.out | apply below_alloc | apply pw_below_drewN | apply below_drew1) | exact HB.out)) hb); clear HO120; clear HB; have HO120 := n0_; have HO125 := n1_; have HB := n2_; clear n0_ n1_ n2_; clear hb ho21; obtain ⟨Ao22, co22, eo22⟩ := Kd.R_slice HO125.out; subst eo22) | ((with_reducible refine gate_callee (f := 21) rfl ?_); refine goesL_ (some 35) rfl rfl Try.func21 (by kernel_rfl) rfl #[.string (a1.extract ((ji12) : Int).toNat a1.size), .string (⟨#[114, 119, 120]⟩ : ByteArray), .slice Ao22 y123.length co22] rfl (by (try simp only [List.map_toArray, List.map_cons, List.map_nil]); first | done | (simp only [hji12]; rfl) | rfl | (simp only [List.length_drop, List.length_take]; rfl)) ?_; (with_reducible refine (impl_lettersOf.calls kj3 (a1.extract ((ji12) : Int).toNat a1.size) (⟨#[114, 119, 120]⟩ : ByteArray) _ _ y123 t126 t127 _ ?side1 ?side2 A15.out).mono ?_); (case side1 => repeat (first | exact (Kd.R_reads' HO125.out).2.2 | (with_reducible refine Kd.C_alloc ?_ _) | (with_reducible refine Kd.C_drewN ?_ _) | (with_reducible refine Kd.C_drew ?_))); (case side2 => exact (Kd.R_reads' HO125.out).2.1); rintro e w' ⟨rfl, ⟨nd, rfl⟩⟩; refine ⟨_, rfl, ?_⟩))
                (try simp only [Act.put, List.setIfInBounds_toArray, List.set_cons_zero, List.set_cons_succ])
                go_cut [43] (fun v43 wc => ∃ (kq : Nat) (x43_15 : Bool), v43 = .bool x43_15 ∧ Aside0 (impl_ChangeMode.j1 kq a0 a1 t116 t121 t126 x43_15 = some (r1, r2)) ∧ Aside0 (kq ≤ kj3) ∧ Aside0 (Below w.heap.size w wc))
                case first =>
                  have H := HC16.out
                  clear HC16
                  by_cases c23 : t122 = true
                  · subst c23
                    have H1 : (impl_ChangeMode.j1 kj3 a0 a1 t116 t121 t126 (!t127)) = some (r1, r2) := by rw [if_pos rfl] at H; exact H
                    clear H
                    have H := H1
                    clear H1
                    have H' := Aside0.mk H
                    clear H
                    go_wp2
                    go_meet
                    case rel => exact ⟨_, (!t127), (by first | rfl | (simp; done) | (simp [*]; done)), (by first | exact H' | (simp only [hji12]; exact H') | (simp only [hji12]; exact H')), ⟨by have := HJ3.out; first | omega | exact Nat.le_refl _⟩, ⟨by repeat (first | (with_reducible first | exact HB.out | apply below_alloc | apply pw_below_drewN | apply below_drew1) | exact HB.out)⟩⟩
                  · replace c23 := Bool.eq_false_iff.mpr c23
                    subst c23
                    have H1 : (impl_ChangeMode.j1 kj3 a0 a1 t116 t121 t126 true) = some (r1, r2) := by rw [if_neg (show ¬ (false = true) by decide)] at H; exact H
                    clear H
                    have H := H1
                    clear H1
                    have H' := Aside0.mk H
                    clear H
                    go_wp2
                    go_meet
                    case rel => exact ⟨_, (true), (by first | rfl | (simp; done) | (simp [*]; done)), (by first | exact H' | (simp only [hji12]; exact H') | (simp only [hji12]; exact H')), ⟨by have := HJ3.out; first | omega | exact Nat.le_refl _⟩, ⟨by repeat (first | (with_reducible first | exact HB.out | apply below_alloc | apply pw_below_drewN | apply below_drew1) | exact HB.out)⟩⟩
                case rest =>
                  clear HC16
                  try clear c1
                  try clear c2
                  try clear p2
                  try clear p6
                  try clear c7
                  try clear c8
                  try clear c9
                  try clear c9b0
                  try clear c9b1
                  try clear c10
                  try clear c10b0
                  try clear c10b1
                  try clear c11
                  try clear c13
                  try clear c13b0
                  try clear c13b1
                  try clear c14
                  try clear c14b0
                  try clear c14b1
                  try clear c19
                  try clear c20
                  try clear c21
                  try clear c23
                  try clear p2
                  obtain ⟨kq, x43_15, rfl, HA, HJ15, HB⟩ := hcut
                  cases kq with
                  | zero => exact absurd HA.out (by simp [impl_ChangeMode.j1])
                  | succ kj15 =>
                    have H := HA.out
                    clear HA
                    simp only [impl_ChangeMode.j1] at H
                    by_cases c24 : x43_15 = true
                    · subst c24
                      have H1 : (some (0, false)) = some (r1, r2) := by rw [if_pos rfl] at H; exact H
                      clear H
                      have H := H1
                      clear H1
                      simp only [Option.some.injEq, Prod.mk.injEq] at H
                      obtain ⟨rfl, rfl⟩ := H
                      go_wp2
                      go_ret2
                      exact ⟨by first | rfl | (simp [errW_none, errW_some] <;> rfl) | (simp [errW_none, errW_some]; exact isEmpty_ne _) | (simp only [← hji12]; first | rfl | (simp [errW_none, errW_some] <;> rfl)) | (simp [*, errW_none, errW_some] <;> rfl), by repeat (first | (with_reducible first | exact HB.out | apply below_alloc | apply pw_below_drewN | apply below_drew1) | exact HB.out)⟩
                    · replace c24 := Bool.eq_false_iff.mpr c24
                      subst c24
                      have H1 : (if 0 ≤ t116 then (if t116 < (a1.size : Int) then (if (bt a1 t116) = 43 then (some (Go.bits .or .i64 a0 (Go.bits .and .i64 t121 (Go.bits .or .i64 (Go.bits .or .i64 (wrap64 (t126 * 64)) (wrap64 (t126 * 8))) t126)), true)) else (if (bt a1 t116) = 45 then (some (Go.bits .andNot .i64 a0 (Go.bits .and .i64 t121 (Go.bits .or .i64 (Go.bits .or .i64 (wrap64 (t126 * 64)) (wrap64 (t126 * 8))) t126)), true)) else (some (Go.bits .or .i64 (Go.bits .andNot .i64 a0 t121) (Go.bits .and .i64 t121 (Go.bits .or .i64 (Go.bits .or .i64 (wrap64 (t126 * 64)) (wrap64 (t126 * 8))) t126)), true)))) else (none)) else (none)) = some (r1, r2) := by rw [if_neg (show ¬ (false = true) by decide)] at H; exact H
                      clear H
                      have H := H1
                      clear H1
                      by_cases c25 : 0 ≤ t116
                      · rw [if_pos c25] at H
                        have c25b0 : decide (0 ≤ t116) = true := decide_eq_true c25
                        clear c25
                        by_cases c26 : t116 < (a1.size : Int)
                        · rw [if_pos c26] at H
                          have c26b0 : decide (t116 < (a1.size : Int)) = true := decide_eq_true c26
                          clear c26
                          by_cases c28 : (bt a1 t116) = 43
                          · rw [if_pos c28] at H
                            have c28b0 : ((bt a1 t116) == 43) = true := beq_iff_eq.mpr c28
                            have c28b1 : ((bt a1 t116) != 43) = false := bne_eq_false_iff_eq.mpr c28
                            clear c28
                            simp only [Option.some.injEq, Prod.mk.injEq] at H
                            obtain ⟨rfl, rfl⟩ := H
                            have p27 : 0 ≤ (t116 : Int) := of_decide_eq_true (by first | (with_reducible assumption) | assumption)
                            have q27 : t116 < (a1.size : Int) := of_decide_eq_true (by first | (with_reducible assumption) | assumption)
                            have hx27 := bt_at a1 t116
                            replace p27 := eq_true p27
                            replace q27 := eq_true q27
                            go_wp2
                            go_ret2
                            exact ⟨by first | rfl | (simp [errW_none, errW_some] <;> rfl) | (simp [errW_none, errW_some]; exact isEmpty_ne _) | (simp only [← hji12]; first | rfl | (simp [errW_none, errW_some] <;> rfl)) | (simp [*, errW_none, errW_some] <;> rfl), by repeat (first | (with_reducible first | exact HB.out | apply below_alloc | apply pw_below_drewN | apply below_drew1) | exact HB.out)⟩
                          · rw [if_neg c28] at H
                            have c28b0 : ((bt a1 t116) == 43) = false := beq_eq_false_iff_ne.mpr c28
                            have c28b1 : ((bt a1 t116) != 43) = true := bne_iff_ne.mpr c28
                            by_cases c29 : (bt a1 t116) = 45
                            · rw [if_pos c29] at H
                              have c29b0 : ((bt a1 t116) == 45) = true := beq_iff_eq.mpr c29
                              have c29b1 : ((bt a1 t116) != 45) = false := bne_eq_false_iff_eq.mpr c29
                              clear c29
                              simp only [Option.some.injEq, Prod.mk.injEq] at H
                              obtain ⟨rfl, rfl⟩ := H
                              have p27 : 0 ≤ (t116 : Int) := of_decide_eq_true (by first | (with_reducible assumption) | assumption)
                              have q27 : t116 < (a1.size : Int) := of_decide_eq_true (by first | (with_reducible assumption) | assumption)
                              have hx27 := bt_at a1 t116
                              replace p27 := eq_true p27
                              replace q27 := eq_true q27
                              go_wp2
                              go_ret2
                              exact ⟨by first | rfl | (simp [errW_none, errW_some] <;> rfl) | (simp [errW_none, errW_some]; exact isEmpty_ne _) | (simp only [← hji12]; first | rfl | (simp [errW_none, errW_some] <;> rfl)) | (simp [*, errW_none, errW_some] <;> rfl), by repeat (first | (with_reducible first | exact HB.out | apply below_alloc | apply pw_below_drewN | apply below_drew1) | exact HB.out)⟩
                            · rw [if_neg c29] at H
                              have c29b0 : ((bt a1 t116) == 45) = false := beq_eq_false_iff_ne.mpr c29
                              have c29b1 : ((bt a1 t116) != 45) = true := bne_iff_ne.mpr c29
                              simp only [Option.some.injEq, Prod.mk.injEq] at H
                              obtain ⟨rfl, rfl⟩ := H
                              have p27 : 0 ≤ (t116 : Int) := of_decide_eq_true (by first | (with_reducible assumption) | assumption)
                              have q27 : t116 < (a1.size : Int) := of_decide_eq_true (by first | (with_reducible assumption) | assumption)
                              have hx27 := bt_at a1 t116
                              replace p27 := eq_true p27
                              replace q27 := eq_true q27
                              go_wp2
                              go_ret2
                              exact ⟨by first | rfl | (simp [errW_none, errW_some] <;> rfl) | (simp [errW_none, errW_some]; exact isEmpty_ne _) | (simp only [← hji12]; first | rfl | (simp [errW_none, errW_some] <;> rfl)) | (simp [*, errW_none, errW_some] <;> rfl), by repeat (first | (with_reducible first | exact HB.out | apply below_alloc | apply pw_below_drewN | apply below_drew1) | exact HB.out)⟩
                        · rw [if_neg c26] at H
                          exact absurd H (by simp)
                      · rw [if_neg c25] at H
                        exact absurd H (by simp)
              · rw [if_neg c14] at H
                exact absurd H (by simp)
            · rw [if_neg c13] at H
              exact absurd H (by simp)
          · rw [if_neg c10] at H
            exact absurd H (by simp)
        · rw [if_neg c9] at H
          exact absurd H (by simp)

end Go.Proofs.Ytbhigchfeagnjaa.PChm
