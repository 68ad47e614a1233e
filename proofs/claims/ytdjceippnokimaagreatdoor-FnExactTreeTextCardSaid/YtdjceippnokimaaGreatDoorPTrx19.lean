import Derived.Test.YtdjceippnokimaaGreatDoorPTrx0
import Derived.Test.YtdjceippnokimaaGreatDoorPTrx18
namespace Go.Proofs.YtdjceippnokimaaGreatDoor.PTr
open Go.RowKit Go.Proofs.YtdjceippnokimaaGreatDoorW.PrintWords Go.Proofs.YtdjceippnokimaaGreatDoorW.PrintLast Go.Proofs.YtdjceippnokimaaGreatDoorW.PrintMore
attribute [local go_sem] max2_int min2_int max_two min_two max_three min_three max_four min_four   -- for this text's walks alone
set_option linter.unusedVariables false
set_option linter.unusedSimpArgs false
set_option maxHeartbeats 8000000
set_option maxRecDepth 100000
/-! ### impl_Fs_wayText: function 45 -/
def impl_Fs_wayText.f (l0_0 : List (S65)) (a0_1 : Int) (a1_0 : ByteArray) (a1_1 : Int) : Option (ByteArray) := if 0 ≤ a1_1 then (if a1_1 < (l0_0.length : Int) then ((impl_kindSign.f ((rd_T65 l0_0 a1_1).f0)).bind fun t438 => ((impl_modeText.f ((rd_T65 l0_0 a1_1).f1)).bind fun t439 => (if t438.size + t439.size ≤ 9223372036854775807 then (if t438.size + t439.size + 1 ≤ 9223372036854775807 then ((strconv_Itoa.f ((rd_T65 l0_0 a1_1).f2)).bind fun t440 => (if t438.size + t439.size + 1 + t440.size ≤ 9223372036854775807 then (if t438.size + t439.size + 1 + t440.size + 1 ≤ 9223372036854775807 then ((strconv_Itoa.f ((rd_T65 l0_0 a1_1).f3)).bind fun t441 => (if t438.size + t439.size + 1 + t440.size + 1 + t441.size ≤ 9223372036854775807 then (if t438.size + t439.size + 1 + t440.size + 1 + t441.size + 1 ≤ 9223372036854775807 then ((strconv_Itoa.f ((rd_T65 l0_0 a1_1).f4)).bind fun t442 => (if t438.size + t439.size + 1 + t440.size + 1 + t441.size + 1 + t442.size ≤ 9223372036854775807 then (if t438.size + t439.size + 1 + t440.size + 1 + t441.size + 1 + t442.size + 1 ≤ 9223372036854775807 then (if t438.size + t439.size + 1 + t440.size + 1 + t441.size + 1 + t442.size + 1 + a1_0.size ≤ 9223372036854775807 then (if ((rd_T65 l0_0 a1_1).f0) = 2 then (if t438.size + t439.size + 1 + t440.size + 1 + t441.size + 1 + t442.size + 1 + a1_0.size + 1 ≤ 9223372036854775807 then (some ((((((((((t438 ++ t439) ++ (⟨#[32]⟩ : ByteArray)) ++ t440) ++ (⟨#[32]⟩ : ByteArray)) ++ t441) ++ (⟨#[32]⟩ : ByteArray)) ++ t442) ++ (⟨#[32]⟩ : ByteArray)) ++ a1_0) ++ (⟨#[10]⟩ : ByteArray))) else (none)) else (if 1 + ((rd_T65 l0_0 a1_1).f5).size ≤ 9223372036854775807 then (if t438.size + t439.size + 1 + t440.size + 1 + t441.size + 1 + t442.size + 1 + a1_0.size + (1 + ((rd_T65 l0_0 a1_1).f5).size) ≤ 9223372036854775807 then (if t438.size + t439.size + 1 + t440.size + 1 + t441.size + 1 + t442.size + 1 + a1_0.size + (1 + ((rd_T65 l0_0 a1_1).f5).size) + 1 ≤ 9223372036854775807 then (some (((((((((((t438 ++ t439) ++ (⟨#[32]⟩ : ByteArray)) ++ t440) ++ (⟨#[32]⟩ : ByteArray)) ++ t441) ++ (⟨#[32]⟩ : ByteArray)) ++ t442) ++ (⟨#[32]⟩ : ByteArray)) ++ a1_0) ++ ((⟨#[32]⟩ : ByteArray) ++ ((rd_T65 l0_0 a1_1).f5))) ++ (⟨#[10]⟩ : ByteArray))) else (none)) else (none)) else (none))) else (none)) else (none)) else (none))) else (none)) else (none))) else (none)) else (none))) else (none)) else (none)))) else (none)) else (none)
def impl_Fs_wayText.T2 : Bool × List (List Nat × List Nat) := (true, [([], []), ([0], [0]), ([1], [1]), ([], []), ([3], [3]), ([4, 2], [4]), ([2, 5], [2, 5]), ([6], [6]), ([], []), ([8], [8]), ([9, 5], [9]), ([7, 10], [7, 10]), ([11], [11]), ([], []), ([13], [13]), ([14, 10], [14]), ([12, 15], [12, 15]), ([16], [16]), ([], []), ([18], [18]), ([19, 15], [19]), ([17, 20], [17, 20]), ([21], [21]), ([], []), ([23], [23]), ([22, 24], [22, 24]), ([25, 20, 0, 1, 2, 3, 4, 5, 6, 7, 8, 9, 10, 11, 12, 13, 14, 15, 16, 17, 18, 19, 20, 21, 22, 23, 24, 25], [25])])
def impl_Fs_wayText.B2 : List Nat := [0, 1, 3, 0, 8, 31, 63, 127, 0, 256, 831, 2047, 4095, 0, 8192, 26431, 65535, 131071, 0, 262144, 845631, 2097151, 4194303, 0, 8388608, 33554431, 67108863]
theorem impl_Fs_wayText.tab2 : rtab .any (opsOf Tryz.f45 2) = impl_Fs_wayText.T2 := by kernel_rfl
theorem impl_Fs_wayText.bits2 : waitsOk impl_Fs_wayText.T2.2 impl_Fs_wayText.B2 = true := by kernel_rfl
theorem impl_Fs_wayText.calls (A0_0 : Option Addr) (c0_0 : Nat) (l0_0 : List (S65)) (a0_1 : Int) (a1_0 : ByteArray) (a1_1 : Int) (r : ByteArray) (w : World) (hr0_0 : Kd.C k65 w A0_0 l0_0.length l0_0) (hc0_0 : l0_0.length ≤ c0_0) (htab : Lib.TabIs Tryz.prog w "internal/strconv.uint64pow10" .u64 Lib.pow10Tab) (h : impl_Fs_wayText.f l0_0 a0_1 a1_0 a1_1 = some r) :
  Calls Tryz.prog 45 #[.agg #[.slice A0_0 l0_0.length c0_0, .int .i64 a0_1], .agg #[.string a1_0, .int .i64 a1_1]] w fun e w' => e = .returned (.string r) ∧ Below w.heap.size w w' := by
 have HTAB := Aside0.mk htab
 clear htab
 have hu30 := Tryz.underlying30
 have hu75 := Tryz.underlying75
 have hu65 := Tryz.underlying65
 have HR0_0 := Aside0.mk hr0_0
 have HC0_0 := Aside0.mk hc0_0
 clear hr0_0 hc0_0
 have HB := Aside0.mk (Below.refl w.heap.size w)
 have H : (if 0 ≤ a1_1 then (if a1_1 < (l0_0.length : Int) then ((impl_kindSign.f ((rd_T65 l0_0 a1_1).f0)).bind fun t438 => ((impl_modeText.f ((rd_T65 l0_0 a1_1).f1)).bind fun t439 => (if t438.size + t439.size ≤ 9223372036854775807 then (if t438.size + t439.size + 1 ≤ 9223372036854775807 then ((strconv_Itoa.f ((rd_T65 l0_0 a1_1).f2)).bind fun t440 => (if t438.size + t439.size + 1 + t440.size ≤ 9223372036854775807 then (if t438.size + t439.size + 1 + t440.size + 1 ≤ 9223372036854775807 then ((strconv_Itoa.f ((rd_T65 l0_0 a1_1).f3)).bind fun t441 => (if t438.size + t439.size + 1 + t440.size + 1 + t441.size ≤ 9223372036854775807 then (if t438.size + t439.size + 1 + t440.size + 1 + t441.size + 1 ≤ 9223372036854775807 then ((strconv_Itoa.f ((rd_T65 l0_0 a1_1).f4)).bind fun t442 => (if t438.size + t439.size + 1 + t440.size + 1 + t441.size + 1 + t442.size ≤ 9223372036854775807 then (if t438.size + t439.size + 1 + t440.size + 1 + t441.size + 1 + t442.size + 1 ≤ 9223372036854775807 then (if t438.size + t439.size + 1 + t440.size + 1 + t441.size + 1 + t442.size + 1 + a1_0.size ≤ 9223372036854775807 then (if ((rd_T65 l0_0 a1_1).f0) = 2 then (if t438.size + t439.size + 1 + t440.size + 1 + t441.size + 1 + t442.size + 1 + a1_0.size + 1 ≤ 9223372036854775807 then (some ((((((((((t438 ++ t439) ++ (⟨#[32]⟩ : ByteArray)) ++ t440) ++ (⟨#[32]⟩ : ByteArray)) ++ t441) ++ (⟨#[32]⟩ : ByteArray)) ++ t442) ++ (⟨#[32]⟩ : ByteArray)) ++ a1_0) ++ (⟨#[10]⟩ : ByteArray))) else (none)) else (if 1 + ((rd_T65 l0_0 a1_1).f5).size ≤ 9223372036854775807 then (if t438.size + t439.size + 1 + t440.size + 1 + t441.size + 1 + t442.size + 1 + a1_0.size + (1 + ((rd_T65 l0_0 a1_1).f5).size) ≤ 9223372036854775807 then (if t438.size + t439.size + 1 + t440.size + 1 + t441.size + 1 + t442.size + 1 + a1_0.size + (1 + ((rd_T65 l0_0 a1_1).f5).size) + 1 ≤ 9223372036854775807 then (some (((((((((((t438 ++ t439) ++ (⟨#[32]⟩ : ByteArray)) ++ t440) ++ (⟨#[32]⟩ : ByteArray)) ++ t441) ++ (⟨#[32]⟩ : ByteArray)) ++ t442) ++ (⟨#[32]⟩ : ByteArray)) ++ a1_0) ++ ((⟨#[32]⟩ : ByteArray) ++ ((rd_T65 l0_0 a1_1).f5))) ++ (⟨#[10]⟩ : ByteArray))) else (none)) else (none)) else (none))) else (none)) else (none)) else (none))) else (none)) else (none))) else (none)) else (none))) else (none)) else (none)))) else (none)) else (none)) = some r := h
 clear h
 by_cases c3 : 0 ≤ a1_1
 ·rw [if_pos c3] at H
  have c3b0 := decide_eq_true c3
  clear c3
  obtain ⟨c4, H⟩ := iN H
  have c4b0 := decide_eq_true c4
  clear c4
  obtain ⟨t438, A5, H⟩ := bS H
  try dsimp only at H
  obtain ⟨t439, A6, H⟩ := bS H
  try dsimp only at H
  obtain ⟨c7, H⟩ := iN H
  have c7b0 := eq_true c7
  have c7b1 := decide_eq_true c7
  try have c7b2 : (9223372036854775807 < t438.size + t439.size) = False := eq_false (Nat.not_lt.2 c7)
  obtain ⟨c8, H⟩ := iN H
  have c8b0 := eq_true c8
  have c8b1 := decide_eq_true c8
  try have c8b2 : (9223372036854775807 < t438.size + t439.size + 1) = False := eq_false (Nat.not_lt.2 c8)
  obtain ⟨t440, A9, H⟩ := bS H
  try dsimp only at H
  obtain ⟨c10, H⟩ := iN H
  have c10b0 := eq_true c10
  have c10b1 := decide_eq_true c10
  try have c10b2 : (9223372036854775807 < t438.size + t439.size + 1 + t440.size) = False := eq_false (Nat.not_lt.2 c10)
  obtain ⟨c11, H⟩ := iN H
  have c11b0 := eq_true c11
  have c11b1 := decide_eq_true c11
  try have c11b2 : (9223372036854775807 < t438.size + t439.size + 1 + t440.size + 1) = False := eq_false (Nat.not_lt.2 c11)
  obtain ⟨t441, A12, H⟩ := bS H
  try dsimp only at H
  obtain ⟨c13, H⟩ := iN H
  have c13b0 := eq_true c13
  have c13b1 := decide_eq_true c13
  try have c13b2 : (9223372036854775807 < t438.size + t439.size + 1 + t440.size + 1 + t441.size) = False := eq_false (Nat.not_lt.2 c13)
  obtain ⟨c14, H⟩ := iN H
  have c14b0 := eq_true c14
  have c14b1 := decide_eq_true c14
  try have c14b2 : (9223372036854775807 < t438.size + t439.size + 1 + t440.size + 1 + t441.size + 1) = False := eq_false (Nat.not_lt.2 c14)
  obtain ⟨t442, A15, H⟩ := bS H
  try dsimp only at H
  obtain ⟨c16, H⟩ := iN H
  have c16b0 := eq_true c16
  have c16b1 := decide_eq_true c16
  try have c16b2 : (9223372036854775807 < t438.size + t439.size + 1 + t440.size + 1 + t441.size + 1 + t442.size) = False := eq_false (Nat.not_lt.2 c16)
  obtain ⟨c17, H⟩ := iN H
  have c17b0 := eq_true c17
  have c17b1 := decide_eq_true c17
  try have c17b2 : (9223372036854775807 < t438.size + t439.size + 1 + t440.size + 1 + t441.size + 1 + t442.size + 1) = False := eq_false (Nat.not_lt.2 c17)
  obtain ⟨c18, H⟩ := iN H
  have c18b0 := eq_true c18
  have c18b1 := decide_eq_true c18
  try have c18b2 : (9223372036854775807 < t438.size + t439.size + 1 + t440.size + 1 + t441.size + 1 + t442.size + 1 + a1_0.size) = False := eq_false (Nat.not_lt.2 c18)
  by_cases c19 : ((rd_T65 l0_0 a1_1).f0) = 2
  ·rw [if_pos c19] at H
   have c19b0 := beq_iff_eq.mpr c19
   have c19b1 := bne_eq_false_iff_eq.mpr c19
   clear c19
   obtain ⟨c20, H⟩ := iN H
   have c20b0 := eq_true c20
   have c20b1 := decide_eq_true c20
   try have c20b2 : (9223372036854775807 < t438.size + t439.size + 1 + t440.size + 1 + t441.size + 1 + t442.size + 1 + a1_0.size + 1) = False := eq_false (Nat.not_lt.2 c20)
   obtain rfl := Option.some.inj H
   go_enter Tryz.func45, Tryz.ntmps45
   try go_wp2_with (first | ((with_reducible refine gd 2 rfl ?_); refine bxE 2 #[.slice A0_0 l0_0.length c0_0, .int .i64 a0_1] 30 ?_; intro gb434 hg w21 hbox hb; have BK434 := Aside0.mk hbox; have GW434 := nGB hg; have GE434 := nGB hg; replace HB := nSB hb; clear hb hbox hg) | ((with_reducible refine gd 3 rfl ?_); refine bxE 3 #[.string a1_0, .int .i64 a1_1] 75 ?_; intro gb435 hg w22 hbox hb; have BK435 := Aside0.mk hbox; have GW435 := nGC hg; have GE435 := nGC hg; replace HB := nSC hb; have NB434_435 := nL BK434 hg; have NB435_434 := nH BK434 hg; replace BK434 := nK BK434 hb; clear hb hbox hg; have hnb23 := NB434_435.out; have hnc23 := NB435_434.out; have hcz24 := cb2 BK434; have hcz25 := cb2 BK435; have p436 : 0 ≤ (a1_1 : Int) := sO; have q436 : a1_1 < (l0_0.length : Int) := sO; obtain ⟨ad436, A436_6, c436_6, e436, hx436_0, hx436_1, hx436_2, hx436_3, hx436_4, hx436_5, hx436_6, hl436_6, hi436_6⟩ := ab65 HR0_0.out HB a1_1 p436 q436; cases e436; have HR436_6 := Aside0.mk hi436_6; have HC436_6 := Aside0.mk hl436_6; clear hi436_6 hl436_6; replace p436 := eq_true p436; replace q436 := eq_true q436) | ((with_reducible refine gd 5 rfl ?_); refine bxE 5 #[.int .i64 0, .int .i64 0, .int .i64 0, .int .i64 0, .int .i64 0, .string (⟨#[]⟩ : ByteArray), .slice none 0 0] 65 ?_; intro gb437 hg w26 hbox hb; have BK437 := Aside0.mk hbox; have GW437 := nGC hg; have GE437 := nGC hg; replace HB := nSC hb; have NB434_437 := nL BK434 hg; have NB437_434 := nH BK434 hg; replace BK434 := nK BK434 hb; have NB435_437 := nL BK435 hg; have NB437_435 := nH BK435 hg; replace BK435 := nK BK435 hb; clear hb hbox hg; have hnb27 := NB437_434.out; have hnc27 := NB434_437.out; have hnb28 := NB437_435.out; have hnc28 := NB435_437.out; have hcz29 := cb7 BK437))
   have n0_ : Aside0 ((((((((w26.setCell ⟨gb437, 0, none⟩ (.int .i64 ((rd_T65 l0_0 a1_1).f0))).setCell ⟨gb437, 1, none⟩ (.int .i64 ((rd_T65 l0_0 a1_1).f1))).setCell ⟨gb437, 2, none⟩ (.int .i64 ((rd_T65 l0_0 a1_1).f2))).setCell ⟨gb437, 3, none⟩ (.int .i64 ((rd_T65 l0_0 a1_1).f3))).setCell ⟨gb437, 4, none⟩ (.int .i64 ((rd_T65 l0_0 a1_1).f4))).setCell ⟨gb437, 5, none⟩ (.string ((rd_T65 l0_0 a1_1).f5))).setCell ⟨gb437, 6, none⟩ (.slice A436_6 ((rd_T65 l0_0 a1_1).f6).length c436_6)).heap[gb434]? = some (.cells #[.slice (some ad436) l0_0.length c0_0, .int .i64 a0_1] 30 (0, 0))) := ⟨sX BK434⟩
   have n1_ : Aside0 ((((((((w26.setCell ⟨gb437, 0, none⟩ (.int .i64 ((rd_T65 l0_0 a1_1).f0))).setCell ⟨gb437, 1, none⟩ (.int .i64 ((rd_T65 l0_0 a1_1).f1))).setCell ⟨gb437, 2, none⟩ (.int .i64 ((rd_T65 l0_0 a1_1).f2))).setCell ⟨gb437, 3, none⟩ (.int .i64 ((rd_T65 l0_0 a1_1).f3))).setCell ⟨gb437, 4, none⟩ (.int .i64 ((rd_T65 l0_0 a1_1).f4))).setCell ⟨gb437, 5, none⟩ (.string ((rd_T65 l0_0 a1_1).f5))).setCell ⟨gb437, 6, none⟩ (.slice A436_6 ((rd_T65 l0_0 a1_1).f6).length c436_6)).heap[gb435]? = some (.cells #[.string a1_0, .int .i64 a1_1] 75 (0, 0))) := ⟨sX BK435⟩
   have n2_ : Aside0 ((((((((w26.setCell ⟨gb437, 0, none⟩ (.int .i64 ((rd_T65 l0_0 a1_1).f0))).setCell ⟨gb437, 1, none⟩ (.int .i64 ((rd_T65 l0_0 a1_1).f1))).setCell ⟨gb437, 2, none⟩ (.int .i64 ((rd_T65 l0_0 a1_1).f2))).setCell ⟨gb437, 3, none⟩ (.int .i64 ((rd_T65 l0_0 a1_1).f3))).setCell ⟨gb437, 4, none⟩ (.int .i64 ((rd_T65 l0_0 a1_1).f4))).setCell ⟨gb437, 5, none⟩ (.string ((rd_T65 l0_0 a1_1).f5))).setCell ⟨gb437, 6, none⟩ (.slice A436_6 ((rd_T65 l0_0 a1_1).f6).length c436_6)).heap[gb437]? = some (.cells #[.int .i64 ((rd_T65 l0_0 a1_1).f0), .int .i64 ((rd_T65 l0_0 a1_1).f1), .int .i64 ((rd_T65 l0_0 a1_1).f2), .int .i64 ((rd_T65 l0_0 a1_1).f3), .int .i64 ((rd_T65 l0_0 a1_1).f4), .string ((rd_T65 l0_0 a1_1).f5), .slice A436_6 ((rd_T65 l0_0 a1_1).f6).length c436_6] 65 (0, 0))) := ⟨sX BK437⟩
   have n3_ : Aside0 (Below w.heap.size w (((((((w26.setCell ⟨gb437, 0, none⟩ (.int .i64 ((rd_T65 l0_0 a1_1).f0))).setCell ⟨gb437, 1, none⟩ (.int .i64 ((rd_T65 l0_0 a1_1).f1))).setCell ⟨gb437, 2, none⟩ (.int .i64 ((rd_T65 l0_0 a1_1).f2))).setCell ⟨gb437, 3, none⟩ (.int .i64 ((rd_T65 l0_0 a1_1).f3))).setCell ⟨gb437, 4, none⟩ (.int .i64 ((rd_T65 l0_0 a1_1).f4))).setCell ⟨gb437, 5, none⟩ (.string ((rd_T65 l0_0 a1_1).f5))).setCell ⟨gb437, 6, none⟩ (.slice A436_6 ((rd_T65 l0_0 a1_1).f6).length c436_6))) := ⟨sC⟩
   (try clear BK434)
   (try clear BK435)
   (try clear BK437)
   (try clear HB)
   generalize (((((((w26.setCell ⟨gb437, 0, none⟩ (.int .i64 ((rd_T65 l0_0 a1_1).f0))).setCell ⟨gb437, 1, none⟩ (.int .i64 ((rd_T65 l0_0 a1_1).f1))).setCell ⟨gb437, 2, none⟩ (.int .i64 ((rd_T65 l0_0 a1_1).f2))).setCell ⟨gb437, 3, none⟩ (.int .i64 ((rd_T65 l0_0 a1_1).f3))).setCell ⟨gb437, 4, none⟩ (.int .i64 ((rd_T65 l0_0 a1_1).f4))).setCell ⟨gb437, 5, none⟩ (.string ((rd_T65 l0_0 a1_1).f5))).setCell ⟨gb437, 6, none⟩ (.slice A436_6 ((rd_T65 l0_0 a1_1).f6).length c436_6)) = w30 at n0_ n1_ n2_ n3_ ⊢
   have BK434 := n0_
   have BK435 := n1_
   have BK437 := n2_
   have HB := n3_
   clear n0_ n1_ n2_ n3_
   have n0_ := Aside0.mk (blk_drew BK434.out)
   have n1_ := Aside0.mk (blk_drew BK435.out)
   have n2_ := Aside0.mk (blk_drew BK437.out)
   have n3_ := Aside0.mk (below_drew1 HB.out)
   clear BK434
   clear BK435
   clear BK437
   clear HB
   have BK434 := n0_
   have BK435 := n1_
   have BK437 := n2_
   have HB := n3_
   clear n0_ n1_ n2_ n3_
   refine st9 27 [] (cz0 BK437) (cz1 BK437) (cz2 BK437) (cz3 BK437) (cz4 BK437) (cz5 BK437) (cz6 BK437) (cz0 BK435) (cz1 BK435) (fun hHeld => ?_); refine with_tabW impl_Fs_wayText.tab2 impl_Fs_wayText.bits2 (fun HT_ HW_ => ?_)
   generalize w30.drew = w31 at BK434 BK435 BK437 HB hHeld ⊢
   refine pu 0 13 ?_
   refine pu 3 16 ?_
   refine pu 8 21 ?_
   refine pu 13 26 ?_
   refine pu 18 31 ?_
   refine pu 23 36 ?_
   refine tk9 1 14 ?_
   refine tk9 4 17 ?_
   refine tk9 9 22 ?_
   refine tk9 14 27 ?_
   refine tk9 19 32 ?_
   refine tk9 24 37 ?_
   refine on 2 15 (fun K hK => ?_)
   refine gC Tryz.func74 #[.int .i64 ((rd_T65 l0_0 a1_1).f0)] ?_
   with_reducible refine (impl_kindSign.calls ((rd_T65 l0_0 a1_1).f0) t438 _ A5.out).mono ?_
   rintro e w' ⟨rfl, ⟨nd, rfl⟩⟩
   refine ⟨_, rfl, ?_⟩
   refine hK.out _ _ ⟨cz0 BK437, cz1 BK437, cz2 BK437, cz3 BK437, cz4 BK437, cz5 BK437, cz6 BK437, cz0 BK435, cz1 BK435⟩ (fun hHeld => ?_)
   clear hK K
   refine nm ?_
   refine on 5 18 (fun K hK => ?_)
   refine gC Tryz.func75 #[.int .i64 ((rd_T65 l0_0 a1_1).f1)] ?_
   with_reducible refine (impl_modeText.calls ((rd_T65 l0_0 a1_1).f1) t439 _ A6.out).mono ?_
   rintro e w32 ⟨rfl, hb⟩
   refine ⟨_, rfl, ?_⟩
   have n0_ := nK BK434 hb
   have n1_ := nK BK435 hb
   have n2_ := nK BK437 hb
   have n3_ := nSC hb
   clear BK434
   clear BK435
   clear BK437
   clear HB
   have BK434 := n0_
   have BK435 := n1_
   have BK437 := n2_
   have HB := n3_
   clear n0_ n1_ n2_ n3_
   (try clear hb)
   (try clear hb2)
   (try clear hk)
   (try clear hi)
   refine hK.out _ _ ⟨cz0 BK437, cz1 BK437, cz2 BK437, cz3 BK437, cz4 BK437, cz5 BK437, cz6 BK437, cz0 BK435, cz1 BK435⟩ (fun hHeld => ?_)
   clear hK K
   refine nm ?_
   refine pu 6 19 ?_
   refine pu 7 20 ?_
   refine on 10 23 (fun K hK => ?_)
   refine gC Tryz.func76 #[.int .i64 ((rd_T65 l0_0 a1_1).f2)] ?_
   with_reducible refine (strconv_Itoa.calls ((rd_T65 l0_0 a1_1).f2) t440 _ ?side1 A9.out).mono ?_
   (case side1 => exact tab_below HTAB.out sC)
   rintro e w33 ⟨rfl, hb⟩
   refine ⟨_, rfl, ?_⟩
   have n0_ := nK BK434 hb
   have n1_ := nK BK435 hb
   have n2_ := nK BK437 hb
   have n3_ := nSC hb
   clear BK434
   clear BK435
   clear BK437
   clear HB
   have BK434 := n0_
   have BK435 := n1_
   have BK437 := n2_
   have HB := n3_
   clear n0_ n1_ n2_ n3_
   (try clear hb)
   (try clear hb2)
   (try clear hk)
   (try clear hi)
   refine hK.out _ _ ⟨cz0 BK437, cz1 BK437, cz2 BK437, cz3 BK437, cz4 BK437, cz5 BK437, cz6 BK437, cz0 BK435, cz1 BK435⟩ (fun hHeld => ?_)
   clear hK K
   refine nm ?_
   refine pu 11 24 ?_
   refine pu 12 25 ?_
   refine on 15 28 (fun K hK => ?_)
   refine gC Tryz.func76 #[.int .i64 ((rd_T65 l0_0 a1_1).f3)] ?_
   with_reducible refine (strconv_Itoa.calls ((rd_T65 l0_0 a1_1).f3) t441 _ ?side1 A12.out).mono ?_
   (case side1 => exact tab_below HTAB.out sC)
   rintro e w34 ⟨rfl, hb⟩
   refine ⟨_, rfl, ?_⟩
   have n0_ := nK BK434 hb
   have n1_ := nK BK435 hb
   have n2_ := nK BK437 hb
   have n3_ := nSC hb
   clear BK434
   clear BK435
   clear BK437
   clear HB
   have BK434 := n0_
   have BK435 := n1_
   have BK437 := n2_
   have HB := n3_
   clear n0_ n1_ n2_ n3_
   (try clear hb)
   (try clear hb2)
   (try clear hk)
   (try clear hi)
   refine hK.out _ _ ⟨cz0 BK437, cz1 BK437, cz2 BK437, cz3 BK437, cz4 BK437, cz5 BK437, cz6 BK437, cz0 BK435, cz1 BK435⟩ (fun hHeld => ?_)
   clear hK K
   refine nm ?_
   refine pu 16 29 ?_
   refine pu 17 30 ?_
   refine on 20 33 (fun K hK => ?_)
   refine gC Tryz.func76 #[.int .i64 ((rd_T65 l0_0 a1_1).f4)] ?_
   with_reducible refine (strconv_Itoa.calls ((rd_T65 l0_0 a1_1).f4) t442 _ ?side1 A15.out).mono ?_
   (case side1 => exact tab_below HTAB.out sC)
   rintro e w35 ⟨rfl, hb⟩
   refine ⟨_, rfl, ?_⟩
   have n0_ := nK BK434 hb
   have n1_ := nK BK435 hb
   have n2_ := nK BK437 hb
   have n3_ := nSC hb
   clear BK434
   clear BK435
   clear BK437
   clear HB
   have BK434 := n0_
   have BK435 := n1_
   have BK437 := n2_
   have HB := n3_
   clear n0_ n1_ n2_ n3_
   (try clear hb)
   (try clear hb2)
   (try clear hk)
   (try clear hi)
   refine hK.out _ _ ⟨cz0 BK437, cz1 BK437, cz2 BK437, cz3 BK437, cz4 BK437, cz5 BK437, cz6 BK437, cz0 BK435, cz1 BK435⟩ (fun hHeld => ?_)
   clear hK K
   refine nm ?_
   refine pu 21 34 ?_
   refine pu 22 35 ?_
   refine pu 25 38 ?_
   refine pu 26 6 ?_
   refine dn ?_
   have hcz36 := cb7 BK437
   try go_wp2
   go_ret
   exact ⟨sE, sC⟩
  ·rw [if_neg c19] at H
   have c19b0 := beq_eq_false_iff_ne.mpr c19
   have c19b1 := bne_iff_ne.mpr c19
   obtain ⟨c37, H⟩ := iN H
   have c37b0 := eq_true c37
   have c37b1 := decide_eq_true c37
   try have c37b2 : (9223372036854775807 < 1 + ((rd_T65 l0_0 a1_1).f5).size) = False := eq_false (Nat.not_lt.2 c37)
   obtain ⟨c38, H⟩ := iN H
   have c38b0 := eq_true c38
   have c38b1 := decide_eq_true c38
   try have c38b2 : (9223372036854775807 < t438.size + t439.size + 1 + t440.size + 1 + t441.size + 1 + t442.size + 1 + a1_0.size + (1 + ((rd_T65 l0_0 a1_1).f5).size)) = False := eq_false (Nat.not_lt.2 c38)
   obtain ⟨c39, H⟩ := iN H
   have c39b0 := eq_true c39
   have c39b1 := decide_eq_true c39
   try have c39b2 : (9223372036854775807 < t438.size + t439.size + 1 + t440.size + 1 + t441.size + 1 + t442.size + 1 + a1_0.size + (1 + ((rd_T65 l0_0 a1_1).f5).size) + 1) = False := eq_false (Nat.not_lt.2 c39)
   obtain rfl := Option.some.inj H
   go_enter Tryz.func45, Tryz.ntmps45
   try go_wp2_with (first | ((with_reducible refine gd 2 rfl ?_); refine bxE 2 #[.slice A0_0 l0_0.length c0_0, .int .i64 a0_1] 30 ?_; intro gb434 hg w40 hbox hb; have BK434 := Aside0.mk hbox; have GW434 := nGB hg; have GE434 := nGB hg; replace HB := nSB hb; clear hb hbox hg) | ((with_reducible refine gd 3 rfl ?_); refine bxE 3 #[.string a1_0, .int .i64 a1_1] 75 ?_; intro gb435 hg w41 hbox hb; have BK435 := Aside0.mk hbox; have GW435 := nGC hg; have GE435 := nGC hg; replace HB := nSC hb; have NB434_435 := nL BK434 hg; have NB435_434 := nH BK434 hg; replace BK434 := nK BK434 hb; clear hb hbox hg; have hnb42 := NB434_435.out; have hnc42 := NB435_434.out; have hcz43 := cb2 BK434; have hcz44 := cb2 BK435; have p436 : 0 ≤ (a1_1 : Int) := sO; have q436 : a1_1 < (l0_0.length : Int) := sO; obtain ⟨ad436, A436_6, c436_6, e436, hx436_0, hx436_1, hx436_2, hx436_3, hx436_4, hx436_5, hx436_6, hl436_6, hi436_6⟩ := ab65 HR0_0.out HB a1_1 p436 q436; cases e436; have HR436_6 := Aside0.mk hi436_6; have HC436_6 := Aside0.mk hl436_6; clear hi436_6 hl436_6; replace p436 := eq_true p436; replace q436 := eq_true q436) | ((with_reducible refine gd 5 rfl ?_); refine bxE 5 #[.int .i64 0, .int .i64 0, .int .i64 0, .int .i64 0, .int .i64 0, .string (⟨#[]⟩ : ByteArray), .slice none 0 0] 65 ?_; intro gb437 hg w45 hbox hb; have BK437 := Aside0.mk hbox; have GW437 := nGC hg; have GE437 := nGC hg; replace HB := nSC hb; have NB434_437 := nL BK434 hg; have NB437_434 := nH BK434 hg; replace BK434 := nK BK434 hb; have NB435_437 := nL BK435 hg; have NB437_435 := nH BK435 hg; replace BK435 := nK BK435 hb; clear hb hbox hg; have hnb46 := NB437_434.out; have hnc46 := NB434_437.out; have hnb47 := NB437_435.out; have hnc47 := NB435_437.out; have hcz48 := cb7 BK437))
   have n0_ : Aside0 ((((((((w45.setCell ⟨gb437, 0, none⟩ (.int .i64 ((rd_T65 l0_0 a1_1).f0))).setCell ⟨gb437, 1, none⟩ (.int .i64 ((rd_T65 l0_0 a1_1).f1))).setCell ⟨gb437, 2, none⟩ (.int .i64 ((rd_T65 l0_0 a1_1).f2))).setCell ⟨gb437, 3, none⟩ (.int .i64 ((rd_T65 l0_0 a1_1).f3))).setCell ⟨gb437, 4, none⟩ (.int .i64 ((rd_T65 l0_0 a1_1).f4))).setCell ⟨gb437, 5, none⟩ (.string ((rd_T65 l0_0 a1_1).f5))).setCell ⟨gb437, 6, none⟩ (.slice A436_6 ((rd_T65 l0_0 a1_1).f6).length c436_6)).heap[gb434]? = some (.cells #[.slice (some ad436) l0_0.length c0_0, .int .i64 a0_1] 30 (0, 0))) := ⟨sX BK434⟩
   have n1_ : Aside0 ((((((((w45.setCell ⟨gb437, 0, none⟩ (.int .i64 ((rd_T65 l0_0 a1_1).f0))).setCell ⟨gb437, 1, none⟩ (.int .i64 ((rd_T65 l0_0 a1_1).f1))).setCell ⟨gb437, 2, none⟩ (.int .i64 ((rd_T65 l0_0 a1_1).f2))).setCell ⟨gb437, 3, none⟩ (.int .i64 ((rd_T65 l0_0 a1_1).f3))).setCell ⟨gb437, 4, none⟩ (.int .i64 ((rd_T65 l0_0 a1_1).f4))).setCell ⟨gb437, 5, none⟩ (.string ((rd_T65 l0_0 a1_1).f5))).setCell ⟨gb437, 6, none⟩ (.slice A436_6 ((rd_T65 l0_0 a1_1).f6).length c436_6)).heap[gb435]? = some (.cells #[.string a1_0, .int .i64 a1_1] 75 (0, 0))) := ⟨sX BK435⟩
   have n2_ : Aside0 ((((((((w45.setCell ⟨gb437, 0, none⟩ (.int .i64 ((rd_T65 l0_0 a1_1).f0))).setCell ⟨gb437, 1, none⟩ (.int .i64 ((rd_T65 l0_0 a1_1).f1))).setCell ⟨gb437, 2, none⟩ (.int .i64 ((rd_T65 l0_0 a1_1).f2))).setCell ⟨gb437, 3, none⟩ (.int .i64 ((rd_T65 l0_0 a1_1).f3))).setCell ⟨gb437, 4, none⟩ (.int .i64 ((rd_T65 l0_0 a1_1).f4))).setCell ⟨gb437, 5, none⟩ (.string ((rd_T65 l0_0 a1_1).f5))).setCell ⟨gb437, 6, none⟩ (.slice A436_6 ((rd_T65 l0_0 a1_1).f6).length c436_6)).heap[gb437]? = some (.cells #[.int .i64 ((rd_T65 l0_0 a1_1).f0), .int .i64 ((rd_T65 l0_0 a1_1).f1), .int .i64 ((rd_T65 l0_0 a1_1).f2), .int .i64 ((rd_T65 l0_0 a1_1).f3), .int .i64 ((rd_T65 l0_0 a1_1).f4), .string ((rd_T65 l0_0 a1_1).f5), .slice A436_6 ((rd_T65 l0_0 a1_1).f6).length c436_6] 65 (0, 0))) := ⟨sX BK437⟩
   have n3_ : Aside0 (Below w.heap.size w (((((((w45.setCell ⟨gb437, 0, none⟩ (.int .i64 ((rd_T65 l0_0 a1_1).f0))).setCell ⟨gb437, 1, none⟩ (.int .i64 ((rd_T65 l0_0 a1_1).f1))).setCell ⟨gb437, 2, none⟩ (.int .i64 ((rd_T65 l0_0 a1_1).f2))).setCell ⟨gb437, 3, none⟩ (.int .i64 ((rd_T65 l0_0 a1_1).f3))).setCell ⟨gb437, 4, none⟩ (.int .i64 ((rd_T65 l0_0 a1_1).f4))).setCell ⟨gb437, 5, none⟩ (.string ((rd_T65 l0_0 a1_1).f5))).setCell ⟨gb437, 6, none⟩ (.slice A436_6 ((rd_T65 l0_0 a1_1).f6).length c436_6))) := ⟨sC⟩
   (try clear BK434)
   (try clear BK435)
   (try clear BK437)
   (try clear HB)
   generalize (((((((w45.setCell ⟨gb437, 0, none⟩ (.int .i64 ((rd_T65 l0_0 a1_1).f0))).setCell ⟨gb437, 1, none⟩ (.int .i64 ((rd_T65 l0_0 a1_1).f1))).setCell ⟨gb437, 2, none⟩ (.int .i64 ((rd_T65 l0_0 a1_1).f2))).setCell ⟨gb437, 3, none⟩ (.int .i64 ((rd_T65 l0_0 a1_1).f3))).setCell ⟨gb437, 4, none⟩ (.int .i64 ((rd_T65 l0_0 a1_1).f4))).setCell ⟨gb437, 5, none⟩ (.string ((rd_T65 l0_0 a1_1).f5))).setCell ⟨gb437, 6, none⟩ (.slice A436_6 ((rd_T65 l0_0 a1_1).f6).length c436_6)) = w49 at n0_ n1_ n2_ n3_ ⊢
   have BK434 := n0_
   have BK435 := n1_
   have BK437 := n2_
   have HB := n3_
   clear n0_ n1_ n2_ n3_
   have n0_ := Aside0.mk (blk_drew BK434.out)
   have n1_ := Aside0.mk (blk_drew BK435.out)
   have n2_ := Aside0.mk (blk_drew BK437.out)
   have n3_ := Aside0.mk (below_drew1 HB.out)
   clear BK434
   clear BK435
   clear BK437
   clear HB
   have BK434 := n0_
   have BK435 := n1_
   have BK437 := n2_
   have HB := n3_
   clear n0_ n1_ n2_ n3_
   refine st9 27 [] (cz0 BK437) (cz1 BK437) (cz2 BK437) (cz3 BK437) (cz4 BK437) (cz5 BK437) (cz6 BK437) (cz0 BK435) (cz1 BK435) (fun hHeld => ?_); refine with_tabW impl_Fs_wayText.tab2 impl_Fs_wayText.bits2 (fun HT_ HW_ => ?_)
   generalize w49.drew = w50 at BK434 BK435 BK437 HB hHeld ⊢
   refine pu 0 13 ?_
   refine pu 3 16 ?_
   refine pu 8 21 ?_
   refine pu 13 26 ?_
   refine pu 18 31 ?_
   refine pu 23 36 ?_
   refine tk9 1 14 ?_
   refine tk9 4 17 ?_
   refine tk9 9 22 ?_
   refine tk9 14 27 ?_
   refine tk9 19 32 ?_
   refine tk9 24 37 ?_
   refine on 2 15 (fun K hK => ?_)
   refine gC Tryz.func74 #[.int .i64 ((rd_T65 l0_0 a1_1).f0)] ?_
   with_reducible refine (impl_kindSign.calls ((rd_T65 l0_0 a1_1).f0) t438 _ A5.out).mono ?_
   rintro e w' ⟨rfl, ⟨nd, rfl⟩⟩
   refine ⟨_, rfl, ?_⟩
   refine hK.out _ _ ⟨cz0 BK437, cz1 BK437, cz2 BK437, cz3 BK437, cz4 BK437, cz5 BK437, cz6 BK437, cz0 BK435, cz1 BK435⟩ (fun hHeld => ?_)
   clear hK K
   refine nm ?_
   refine on 5 18 (fun K hK => ?_)
   refine gC Tryz.func75 #[.int .i64 ((rd_T65 l0_0 a1_1).f1)] ?_
   with_reducible refine (impl_modeText.calls ((rd_T65 l0_0 a1_1).f1) t439 _ A6.out).mono ?_
   rintro e w51 ⟨rfl, hb⟩
   refine ⟨_, rfl, ?_⟩
   have n0_ := nK BK434 hb
   have n1_ := nK BK435 hb
   have n2_ := nK BK437 hb
   have n3_ := nSC hb
   clear BK434
   clear BK435
   clear BK437
   clear HB
   have BK434 := n0_
   have BK435 := n1_
   have BK437 := n2_
   have HB := n3_
   clear n0_ n1_ n2_ n3_
   (try clear hb)
   (try clear hb2)
   (try clear hk)
   (try clear hi)
   refine hK.out _ _ ⟨cz0 BK437, cz1 BK437, cz2 BK437, cz3 BK437, cz4 BK437, cz5 BK437, cz6 BK437, cz0 BK435, cz1 BK435⟩ (fun hHeld => ?_)
   clear hK K
   refine nm ?_
   refine pu 6 19 ?_
   refine pu 7 20 ?_
   refine on 10 23 (fun K hK => ?_)
   refine gC Tryz.func76 #[.int .i64 ((rd_T65 l0_0 a1_1).f2)] ?_
   with_reducible refine (strconv_Itoa.calls ((rd_T65 l0_0 a1_1).f2) t440 _ ?side1 A9.out).mono ?_
   (case side1 => exact tab_below HTAB.out sC)
   rintro e w52 ⟨rfl, hb⟩
   refine ⟨_, rfl, ?_⟩
   have n0_ := nK BK434 hb
   have n1_ := nK BK435 hb
   have n2_ := nK BK437 hb
   have n3_ := nSC hb
   clear BK434
   clear BK435
   clear BK437
   clear HB
   have BK434 := n0_
   have BK435 := n1_
   have BK437 := n2_
   have HB := n3_
   clear n0_ n1_ n2_ n3_
   (try clear hb)
   (try clear hb2)
   (try clear hk)
   (try clear hi)
   refine hK.out _ _ ⟨cz0 BK437, cz1 BK437, cz2 BK437, cz3 BK437, cz4 BK437, cz5 BK437, cz6 BK437, cz0 BK435, cz1 BK435⟩ (fun hHeld => ?_)
   clear hK K
   refine nm ?_
   refine pu 11 24 ?_
   refine pu 12 25 ?_
   refine on 15 28 (fun K hK => ?_)
   refine gC Tryz.func76 #[.int .i64 ((rd_T65 l0_0 a1_1).f3)] ?_
   with_reducible refine (strconv_Itoa.calls ((rd_T65 l0_0 a1_1).f3) t441 _ ?side1 A12.out).mono ?_
   (case side1 => exact tab_below HTAB.out sC)
   rintro e w53 ⟨rfl, hb⟩
   refine ⟨_, rfl, ?_⟩
   have n0_ := nK BK434 hb
   have n1_ := nK BK435 hb
   have n2_ := nK BK437 hb
   have n3_ := nSC hb
   clear BK434
   clear BK435
   clear BK437
   clear HB
   have BK434 := n0_
   have BK435 := n1_
   have BK437 := n2_
   have HB := n3_
   clear n0_ n1_ n2_ n3_
   (try clear hb)
   (try clear hb2)
   (try clear hk)
   (try clear hi)
   refine hK.out _ _ ⟨cz0 BK437, cz1 BK437, cz2 BK437, cz3 BK437, cz4 BK437, cz5 BK437, cz6 BK437, cz0 BK435, cz1 BK435⟩ (fun hHeld => ?_)
   clear hK K
   refine nm ?_
   refine pu 16 29 ?_
   refine pu 17 30 ?_
   refine on 20 33 (fun K hK => ?_)
   refine gC Tryz.func76 #[.int .i64 ((rd_T65 l0_0 a1_1).f4)] ?_
   with_reducible refine (strconv_Itoa.calls ((rd_T65 l0_0 a1_1).f4) t442 _ ?side1 A15.out).mono ?_
   (case side1 => exact tab_below HTAB.out sC)
   rintro e w54 ⟨rfl, hb⟩
   refine ⟨_, rfl, ?_⟩
   have n0_ := nK BK434 hb
   have n1_ := nK BK435 hb
   have n2_ := nK BK437 hb
   have n3_ := nSC hb
   clear BK434
   clear BK435
   clear BK437
   clear HB
   have BK434 := n0_
   have BK435 := n1_
   have BK437 := n2_
   have HB := n3_
   clear n0_ n1_ n2_ n3_
   (try clear hb)
   (try clear hb2)
   (try clear hk)
   (try clear hi)
   refine hK.out _ _ ⟨cz0 BK437, cz1 BK437, cz2 BK437, cz3 BK437, cz4 BK437, cz5 BK437, cz6 BK437, cz0 BK435, cz1 BK435⟩ (fun hHeld => ?_)
   clear hK K
   refine nm ?_
   refine pu 21 34 ?_
   refine pu 22 35 ?_
   refine pu 25 38 ?_
   refine pu 26 6 ?_
   refine dn ?_
   have hcz55 := cb7 BK437
   try go_wp2
   go_ret
   exact ⟨sE, sC⟩
 ·rw [if_neg c3] at H
  exact absurd H (by simp)
end Go.Proofs.YtdjceippnokimaaGreatDoor.PTr
