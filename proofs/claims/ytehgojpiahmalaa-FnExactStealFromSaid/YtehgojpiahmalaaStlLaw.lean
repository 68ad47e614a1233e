/- The law of StealFrom, walked where both sides answer alike: it returns true. No condition beyond the answers' own. -/
import Derived.Test.YtehgojpiahmalaaPStlx4
namespace Go.Proofs.Ytehgojpiahmalaa.PStl
open Go.RowKit Go.Proofs.YtehgojpiahmalaaW.PrintWords Go.Proofs.YtehgojpiahmalaaW.PrintLast Go.Proofs.YtehgojpiahmalaaW.PrintMore
attribute [local go_sem] max2_int min2_int max_two min_two max_three min_three max_four min_four   -- for this text's walks alone
set_option linter.unusedVariables false
set_option linter.unusedSimpArgs false
set_option maxHeartbeats 8000000 in
set_option maxRecDepth 100000 in
theorem law_neg (k : Nat) (A0 : Option Addr) (c0 : Nat) (l0 : List (List Int)) (a1 : Int) (s : Int) (w : World) (hr0 : Kd.C (Kd.slice 3 (Kd.int .i64)) w A0 l0.length l0) (hc0 : l0.length ≤ c0) (hs : laws_szIntSS.f k l0 1048576 = some s) (hn : s < 0) :
    Calls Try.prog 5 #[.slice A0 l0.length c0, .int .i64 a1] w fun e w' => e = .returned (.bool true) ∧ Below w.heap.size w w' := by
  have HC := Aside0.mk hr0
  have hn' : decide (s < 0) = true := decide_eq_true hn
  go_enter Try.func5, Try.ntmps5
  go_wp2_with (go_at_call 9; refine (laws_szIntSS.calls k A0 c0 l0 1048576 s _ HC.out hc0 hs).mono ?_; rintro e w1 ⟨rfl, hd⟩)
  go_ret
  exact ⟨rfl, hd.below⟩
set_option maxHeartbeats 16000000 in
set_option maxRecDepth 100000 in
theorem law_true (k : Nat) (A0 : Option Addr) (c0 : Nat) (l0 : List (List Int)) (a1 : Int) (s n1 n2 : Int) (R1 M1 M2 : List (List Int)) (R2 : Int) (R3 : Bool) (w : World) (hr0 : Kd.C (Kd.slice 3 (Kd.int .i64)) w A0 l0.length l0) (hc0 : l0.length ≤ c0) (hs : laws_szIntSS.f k l0 1048576 = some s) (hn : ¬ s < 0)
    (hto : laws_toIntSS.f k l0 = some l0) (hsp : spec_StealFrom.f k l0 a1 = some (R1, R2, R3)) (him : impl_StealFrom.f k l0 a1 = some (R1, R2, R3)) (heR : laws_eqIntSS.f k R1 R1 = some true) (heX : laws_eqIntSS.f k l0 l0 = some true)
    (hm1 : laws_markIntSS.f k l0 1 = some (n1, M1)) (hn1 : ¬ n1 < 0) (hm2 : laws_markIntSS.f k R1 1 = some (n2, M2)) (hh : laws_heldIntSS.f k M2 1 = some n2) (hn2 : ¬ n2 < 0) :
    Calls Try.prog 5 #[.slice A0 l0.length c0, .int .i64 a1] w fun e w' => e = .returned (.bool true) ∧ Below w.heap.size w w' := by
  have HC := Aside0.mk hr0
  clear hr0
  have hn' : decide (s < 0) = false := decide_eq_false hn
  have hn1' : decide (n1 < 0) = false := decide_eq_false hn1
  have hn2' : decide (n2 < 0) = false := decide_eq_false hn2
  have hx2 : (R2 != R2) = false := by simp
  have hx3 : (R3 != R3) = false := by simp
  have hx4 : (n2 != n2) = false := by simp
  have Bw := Aside0.mk (Below.refl w.heap.size w)
  have t1 : True := trivial
  have t2 : True := trivial
  have t3 : True := trivial
  have t4 : True := trivial
  have t5 : True := trivial
  have t6 : True := trivial
  have t7 : True := trivial
  have t8 : True := trivial
  have t9 : True := trivial
  have t10 : True := trivial
  have t11 : True := trivial
  have t12 : True := trivial
  have t13 : True := trivial
  have t14 : True := trivial
  have t15 : True := trivial
  have t16 : True := trivial
  go_enter Try.func5, Try.ntmps5
  go_wp2_with (first
    | (go_at_call 9; (have t1_ := t1; clear t1; refine (laws_szIntSS.calls k A0 c0 l0 1048576 s _ (Kd.C_below HC.out Bw.out) hc0 hs).mono ?_; rintro e W1 ⟨rfl, hd1⟩; have BW1 := Aside0.mk (Bw.out.trans (Below.mono hd1.below Bw.out.size)); clear Bw ))
    | (go_at_call 11; (have t2_ := t2; clear t2; refine (laws_toIntSS.calls k A0 c0 l0 l0 _ (Kd.C_below HC.out BW1.out) hc0 hto).mono ?_; rintro e W2 ⟨v2, rfl, hS2, hb2⟩; obtain ⟨Aa, ca, rfl, hla, hCa⟩ := Kd.S_reads hS2; have HCa := Aside0.mk hCa; have HLa := Aside0.mk hla; clear hla hCa; have BW2 := Aside0.mk (BW1.out.trans (Below.mono hb2 BW1.out.size)); clear BW1 ))
    | (go_at_call 16; (have t3_ := t3; clear t3; refine (spec_StealFrom.calls k Aa ca l0 a1 R1 R2 R3 _ HCa.out HLa.out hsp).mono ?_; rintro e W3 ⟨u3, rfl, hN3, hb3⟩; obtain ⟨Au, cu, rfl, hlu, _⟩ := Kd.N_reads hN3; have HLu := Aside0.mk hlu; clear hlu; have BW3 := Aside0.mk (BW2.out.trans (Below.mono hb3 BW2.out.size)); clear BW2 ; have BW3s := Aside0.mk BW3.out.size; have FUW3 := Aside0.mk (Kd.F_mono (ok' := fun k_ => k_ < W3.heap.size) (Kd.F_bound (Kd.N_F hN3)) (fun k_ hk_ => hk_.2)); clear HCa HLa))
    | (go_at_call 11; (have t4_ := t4; clear t4; refine (laws_toIntSS.calls k A0 c0 l0 l0 _ (Kd.C_below HC.out BW3.out) hc0 hto).mono ?_; rintro e W4 ⟨v4, rfl, hS4, hb4⟩; obtain ⟨Ax, cx, rfl, hlx, hCx⟩ := Kd.S_reads hS4; have HCx := Aside0.mk hCx; have HLx := Aside0.mk hlx; clear hlx hCx; have hb4s := Aside0.mk hb4.size; have BW4 := Aside0.mk (BW3.out.trans (Below.mono hb4 BW3.out.size)); have FUW4 := Aside0.mk (Kd.F_below FUW3.out hb4); clear BW3 FUW3; have SXW4 := Aside0.mk (Kd.S_lower (Kd.S_mono (ok' := fun k_ => W3.heap.size ≤ k_ ∧ k_ < W4.heap.size) (Kd.S_bound hS4) (fun k_ hk_ => ⟨hk_.2.1, hk_.2.2.1⟩)) BW3s.out)))
    | (go_at_call 17; (have t5_ := t5; clear t5; refine (impl_StealFrom.calls k Ax cx l0 a1 R1 R2 R3 _ HCx.out HLx.out him).mono ?_; rintro e W5 ⟨v5, rfl, hS5, hb5⟩; obtain ⟨Ag, cg, rfl, hlg, hCg⟩ := Kd.S_reads hS5; have HCg := Aside0.mk hCg; have HLg := Aside0.mk hlg; clear hlg hCg; have BW5 := Aside0.mk (BW4.out.trans (Below.mono hb5 BW4.out.size)); have FUW5 := Aside0.mk (Kd.F_below FUW4.out hb5); have SXW5 := Aside0.mk (Kd.S_below SXW4.out hb5); clear BW4 FUW4 SXW4; have BW4s := Aside0.mk (show w.heap.size ≤ W4.heap.size from Nat.le_trans BW3s.out hb4s.out); have SGW5 := Aside0.mk (Kd.S_lower (Kd.S_mono (ok' := fun k_ => W4.heap.size ≤ k_ ∧ k_ < W5.heap.size) (Kd.S_bound hS5) (fun k_ hk_ => ⟨hk_.2.1, hk_.2.2.1⟩)) BW4s.out)))
    | (go_at_call 13; (have t6_ := t6; clear t6; refine (laws_eqIntSS.calls k Ag cg R1 Au cu R1 true _ (Kd.S_reads' SGW5.out).2.2 HLg.out (Kd.F_now FUW5.out) HLu.out heR).mono ?_; rintro e W6 ⟨rfl, hd6⟩; have BW6 := Aside0.mk (BW5.out.trans (Below.mono hd6.below BW5.out.size)); have FUW6 := Aside0.mk (Kd.F_below FUW5.out hd6.below); have SXW6 := Aside0.mk (Kd.S_below SXW5.out hd6.below); have SGW6 := Aside0.mk (Kd.S_below SGW5.out hd6.below); clear BW5 FUW5 SXW5 SGW5))
    | (go_at_call 11; (have t7_ := t7; clear t7; refine (laws_toIntSS.calls k A0 c0 l0 l0 _ (Kd.C_below HC.out BW6.out) hc0 hto).mono ?_; rintro e W7 ⟨v7, rfl, hS7, hb7⟩; obtain ⟨Ay, cy, rfl, hly, hCy⟩ := Kd.S_reads hS7; have HCy := Aside0.mk hCy; have HLy := Aside0.mk hly; clear hly hCy; have BW7 := Aside0.mk (BW6.out.trans (Below.mono hb7 BW6.out.size)); have FUW7 := Aside0.mk (Kd.F_below FUW6.out hb7); have SXW7 := Aside0.mk (Kd.S_below SXW6.out hb7); have SGW7 := Aside0.mk (Kd.S_below SGW6.out hb7); clear BW6 FUW6 SXW6 SGW6))
    | (go_at_call 13; (have t8_ := t8; clear t8; refine (laws_eqIntSS.calls k Ax cx l0 Ay cy l0 true _ (Kd.S_reads' SXW7.out).2.2 HLx.out HCy.out HLy.out heX).mono ?_; rintro e W8 ⟨rfl, hd8⟩; have BW8 := Aside0.mk (BW7.out.trans (Below.mono hd8.below BW7.out.size)); have FUW8 := Aside0.mk (Kd.F_below FUW7.out hd8.below); have SXW8 := Aside0.mk (Kd.S_below SXW7.out hd8.below); have SGW8 := Aside0.mk (Kd.S_below SGW7.out hd8.below); clear BW7 FUW7 SXW7 SGW7))
    | (go_at_call 18; (have t9_ := t9; clear t9; refine (laws_markIntSS.calls k (fun k_ => W3.heap.size ≤ k_ ∧ k_ < W4.heap.size) _ l0 1 n1 M1 w _ BW8.out SXW8.out hm1).mono ?_; rintro e W9 ⟨rfl, _, hB9, hK9⟩; have BW9 := Aside0.mk hB9; have FUW9 := Aside0.mk (Kd.F_kept FUW8.out hK9 (fun k_ h1_ h2_ => absurd h2_.1 (Nat.not_le.2 h1_))); have SGW9 := Aside0.mk (Kd.S_step SGW8.out (fun k_ hk_ hlt_ => hK9.2 k_ hlt_ (fun h2_ => absurd h2_.2 (Nat.not_lt.2 hk_.1)))); clear BW8 FUW8 SGW8 SXW8))
    | (go_at_call 13; (have t10_ := t10; clear t10; refine (laws_eqIntSS.calls k Ag cg R1 Au cu R1 true _ (Kd.S_reads' SGW9.out).2.2 HLg.out (Kd.F_now FUW9.out) HLu.out heR).mono ?_; rintro e W10 ⟨rfl, hd10⟩; have BW10 := Aside0.mk (BW9.out.trans (Below.mono hd10.below BW9.out.size)); have FUW10 := Aside0.mk (Kd.F_below FUW9.out hd10.below); have SGW10 := Aside0.mk (Kd.S_below SGW9.out hd10.below); clear BW9 FUW9 SGW9))
    | (go_at_call 18; (have t11_ := t11; clear t11; refine (laws_markIntSS.calls k (fun k_ => W4.heap.size ≤ k_ ∧ k_ < W5.heap.size) _ R1 1 n2 M2 w _ BW10.out SGW10.out hm2).mono ?_; rintro e W11 ⟨rfl, hS11, hB11, hK11⟩; have BW11 := Aside0.mk hB11; have FUW11 := Aside0.mk (Kd.F_kept FUW10.out hK11 (fun k_ h1_ h2_ => absurd (Nat.lt_of_lt_of_le h1_ hb4s.out) (Nat.not_lt.2 h2_.1))); have SMW11 := Aside0.mk hS11; obtain ⟨hlm, hlm2, _⟩ := Kd.S_reads' hS11; have HLm := Aside0.mk hlm; have HLm2 := Aside0.mk hlm2; clear BW10 FUW10 SGW10 hlm hlm2))
    | (go_at_call 19; (have t12_ := t12; clear t12; refine ((show Calls Try.prog 19 #[.slice Ag R1.length cg, .int .i64 1] _ _ from by rw [HLm.out]; exact laws_heldIntSS.calls k Ag cg M2 1 n2 _ (Kd.S_reads' SMW11.out).2.2 (by rw [← HLm.out]; exact HLg.out) hh)).mono ?_; rintro e W12 ⟨rfl, hd12⟩; have BW12 := Aside0.mk (BW11.out.trans (Below.mono hd12.below BW11.out.size)); have FUW12 := Aside0.mk (Kd.F_below FUW11.out hd12.below); have SMW12 := Aside0.mk (Kd.S_below SMW11.out hd12.below); clear BW11 FUW11 SMW11))
    | (go_at_call 11; (have t13_ := t13; clear t13; refine (laws_toIntSS.calls k A0 c0 l0 l0 _ (Kd.C_below HC.out BW12.out) hc0 hto).mono ?_; rintro e W13 ⟨v13, rfl, hS13, hb13⟩; obtain ⟨Az, cz, rfl, hlz, hCz⟩ := Kd.S_reads hS13; have HCz := Aside0.mk hCz; have HLz := Aside0.mk hlz; clear hlz hCz; have BW13 := Aside0.mk (BW12.out.trans (Below.mono hb13 BW12.out.size)); have FUW13 := Aside0.mk (Kd.F_below FUW12.out hb13); have SMW13 := Aside0.mk (Kd.S_below SMW12.out hb13); clear BW12 FUW12 SMW12))
    | (go_at_call 17; (have t14_ := t14; clear t14; refine (impl_StealFrom.calls k Az cz l0 a1 R1 R2 R3 _ HCz.out HLz.out him).mono ?_; rintro e W14 ⟨v14, rfl, hS14, hb14⟩; obtain ⟨Ah, ch, rfl, hlh, hCh⟩ := Kd.S_reads hS14; have HCh := Aside0.mk hCh; have HLh := Aside0.mk hlh; clear hlh hCh; have BW14 := Aside0.mk (BW13.out.trans (Below.mono hb14 BW13.out.size)); have FUW14 := Aside0.mk (Kd.F_below FUW13.out hb14); have SMW14 := Aside0.mk (Kd.S_below SMW13.out hb14); clear BW13 FUW13 SMW13))
    | (go_at_call 13; (have t15_ := t15; clear t15; refine (laws_eqIntSS.calls k Ah ch R1 Au cu R1 true _ HCh.out HLh.out (Kd.F_now FUW14.out) HLu.out heR).mono ?_; rintro e W15 ⟨rfl, hd15⟩; have BW15 := Aside0.mk (BW14.out.trans (Below.mono hd15.below BW14.out.size)); have FUW15 := Aside0.mk (Kd.F_below FUW14.out hd15.below); have SMW15 := Aside0.mk (Kd.S_below SMW14.out hd15.below); clear BW14 FUW14 SMW14))
    | (go_at_call 19; (have t16_ := t16; clear t16; refine ((show Calls Try.prog 19 #[.slice Ag R1.length cg, .int .i64 1] _ _ from by rw [HLm.out]; exact laws_heldIntSS.calls k Ag cg M2 1 n2 _ (Kd.S_reads' SMW15.out).2.2 (by rw [← HLm.out]; exact HLg.out) hh)).mono ?_; rintro e W16 ⟨rfl, hd16⟩; have BW16 := Aside0.mk (BW15.out.trans (Below.mono hd16.below BW15.out.size)); have FUW16 := Aside0.mk (Kd.F_below FUW15.out hd16.below); have SMW16 := Aside0.mk (Kd.S_below SMW15.out hd16.below); clear BW15 FUW15 SMW15)))

  go_ret
  exact ⟨rfl, BW16.out⟩
end Go.Proofs.Ytehgojpiahmalaa.PStl
