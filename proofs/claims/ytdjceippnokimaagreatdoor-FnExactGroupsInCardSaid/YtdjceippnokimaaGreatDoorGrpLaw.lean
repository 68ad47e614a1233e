/- The law of GroupsIn, walked where both sides answer alike: it returns true. No condition beyond the answers' own. -/
import Derived.Test.YtdjceippnokimaaGreatDoorPGrpx19
namespace Go.Proofs.YtdjceippnokimaaGreatDoor.PGrp
open Go.RowKit Go.Proofs.YtdjceippnokimaaGreatDoorW.PrintWords Go.Proofs.YtdjceippnokimaaGreatDoorW.PrintLast Go.Proofs.YtdjceippnokimaaGreatDoorW.PrintMore
attribute [local go_sem] max2_int min2_int max_two min_two max_three min_three max_four min_four   -- for this text's walks alone
set_option linter.unusedVariables false
set_option linter.unusedSimpArgs false
structure S24 where
  f0 : List S61
  f1 : Int
def k24 : Kd S24 := Kd.iso (Kd.pair (Kd.slice 61 k61) (Kd.int .i64)) (fun x : S24 => (x.f0, x.f1))
theorem k24_open {w : World} {x : S24} {cs : List Value} (h : k24.K w x cs) : ∃ A0 c0, cs = [.slice A0 x.f0.length c0, .int .i64 x.f1] ∧ x.f0.length ≤ c0 ∧ k61.C w A0 x.f0.length x.f0 := by
  obtain ⟨_, _, rfl, ⟨A0, c0, rfl, l0, g0⟩, rfl⟩ := h
  exact ⟨A0, c0, rfl, l0, g0⟩
theorem gr_marked {base b : Nat} {ok : Nat → Prop} {v : Value} {xs : List (List ByteArray)} {w w' : World} (hm : Marked b w w') (h : Kd.S (Kd.slice 9 Kd.string) 49 w base ok v xs) : Kd.S (Kd.slice 9 Kd.string) 49 w' base ok v xs :=
  Kd.S_mono (Kd.S_move (Kd.S_bound h) (fun k hk => by
    obtain ⟨_, _, hlt, q, hmem, cells, hc⟩ := hk
    have hq : q = 49 ∨ q = 9 := by
      rcases List.mem_cons.1 hmem with h1 | h1
      · exact .inl h1
      · exact .inr (List.mem_singleton.1 h1)
    rcases hq with rfl | rfl <;> rw [hm.blk hc (by decide) (by decide), hc])) (fun _ hk => hk.1)
set_option maxHeartbeats 8000000 in
set_option maxRecDepth 100000 in
theorem law_neg (k : Nat) (A0 : Option Addr) (c0 : Nat) (l0 : List S61) (a0 a1 : Int) (s : Int) (w : World) (hr0 : Kd.C k61 w A0 l0.length l0) (hc0 : l0.length ≤ c0) (hs : laws_szFs.f k l0 a0 1048576 = some s) (hn : s < 0) :
    Calls Tryz.prog 4 #[.agg #[.slice A0 l0.length c0, .int .i64 a0], .int .i64 a1] w fun e w' => e = .returned (.bool true) ∧ Below w.heap.size w w' := by
  have hu24 := Tryz.underlying24
  have HC := Aside0.mk hr0
  have hn' : decide (s < 0) = true := decide_eq_true hn
  have Bw := Aside0.mk (Below.refl w.heap.size w)
  have t1 : True := trivial
  go_enter Tryz.func4, Tryz.ntmps4
  go_wp2_with (first
    | ((with_reducible refine gd 2 rfl ?_); refine bxE 2 #[.slice A0 l0.length c0, .int .i64 a0] 24 ?_; intro g2 hg W1 hbox hb; have K2W1 := Aside0.mk hbox; have BW1 := Aside0.mk (below_step Bw.out hb); clear hb hbox hg Bw; have hK2W1 := cb2 K2W1)
    | (go_at_call 6; (have t1_ := t1; clear t1; refine (laws_szFs.calls k A0 c0 l0 a0 1048576 s _ (Kd.C_below HC.out BW1.out) hc0 hs).mono ?_; rintro e W2 ⟨rfl, hd⟩; clear hK2W1; have BW2 := Aside0.mk (below_step BW1.out hd); have K2W2 := Aside0.mk (blk_below K2W1.out hd); clear BW1 K2W1; clear hd; have hK2W2 := cb2 K2W2)))
  go_ret
  exact ⟨rfl, BW2.out⟩
set_option maxHeartbeats 16000000 in
set_option maxRecDepth 100000 in
theorem law_true (k : Nat) (A0 : Option Addr) (c0 : Nat) (l0 : List S61) (a0 a1 : Int) (s n0 n2 : Int) (NS : List S65) (RM : Int) (R1 M2 : List (List ByteArray)) (R2 : Bool) (w : World) (hr0 : Kd.C k61 w A0 l0.length l0) (hc0 : l0.length ≤ c0) (hs : laws_szFs.f k l0 a0 1048576 = some s) (hn : ¬ s < 0)
    (hto : laws_toFs.f k l0 a0 = some (NS, RM)) (hsp : spec_GroupsIn.f k NS RM a1 = some (R1, R2)) (him : impl_GroupsIn.f k NS RM a1 = some (R1, R2)) (heR : laws_eqStringSS.f k R1 R1 = some true) (heF : laws_eqFs.f k NS RM NS RM = some true)
    (hmF : laws_markFs.f k NS RM 1 = some n0) (hn0 : ¬ n0 < 0) (hm2 : laws_markStringSS.f k R1 1 = some (n2, M2)) (hh : laws_heldStringSS.f k M2 1 = some n2) (hn2 : ¬ n2 < 0) :
    Calls Tryz.prog 4 #[.agg #[.slice A0 l0.length c0, .int .i64 a0], .int .i64 a1] w fun e w' => e = .returned (.bool true) ∧ Below w.heap.size w w' := by
  have hu24 := Tryz.underlying24
  have hu30 := Tryz.underlying30
  have HC := Aside0.mk hr0
  clear hr0
  have hn' : decide (s < 0) = false := decide_eq_false hn
  have hn0' : decide (n0 < 0) = false := decide_eq_false hn0
  have hn2' : decide (n2 < 0) = false := decide_eq_false hn2
  have hx2 : (R2 != R2) = false := by simp
  have hx4 : (n2 != n2) = false := by simp
  have Bw := Aside0.mk (Below.refl w.heap.size w)
  have t1 : True := trivial
  have t2 : True := trivial
  have t3 : True := trivial
  have t4 : True := trivial
  have t5 : True := trivial
  have t6 : True := trivial
  go_enter Tryz.func4, Tryz.ntmps4
  go_wp2_with (first
    | ((with_reducible refine gd 2 rfl ?_); refine bxE 2 #[.slice A0 l0.length c0, .int .i64 a0] 24 ?_; intro g2 hg W1 hbox hb; have K2W1 := Aside0.mk hbox; have BW1 := Aside0.mk (below_step Bw.out hb); clear hb hbox hg Bw; have hK2W1 := cb2 K2W1)
    | (go_at_call 6; (have t1_ := t1; clear t1; refine (laws_szFs.calls k A0 c0 l0 a0 1048576 s _ (Kd.C_below HC.out BW1.out) hc0 hs).mono ?_; rintro e W2 ⟨rfl, hd⟩; clear hK2W1; have BW2 := Aside0.mk (below_step BW1.out hd); have K2W2 := Aside0.mk (blk_below K2W1.out hd); clear BW1 K2W1; clear hd; have hK2W2 := cb2 K2W2))
    | (go_at_call 8; (have t2_ := t2; clear t2; refine (laws_toFs.calls k A0 c0 l0 a0 NS RM _ (Kd.C_below HC.out BW2.out) hc0 hto).mono ?_; rintro e W3 ⟨va, rfl, hSa, hb⟩; clear hK2W2; obtain ⟨Aa, ca, rfl⟩ := Kd.S_slice hSa; have SAW3 := Aside0.mk (Kd.S_lower hSa (below_size BW2.out)); have BW3 := Aside0.mk (below_step BW2.out hb); have K2W3 := Aside0.mk (blk_below K2W2.out hb); clear BW2 K2W2; clear hb hSa; have hK2W3 := cb2 K2W3))
    | (go_at_call 11; (have t3_ := t3; clear t3; refine (spec_GroupsIn.calls k Aa ca NS RM a1 R1 R2 _ (Kd.S_reads' SAW3.out).2.2 (Kd.S_reads' SAW3.out).2.1 hsp).mono ?_; rintro e W4 ⟨vu, rfl, hSu, hb⟩; clear hK2W3; obtain ⟨Au, cu, rfl⟩ := Kd.S_slice hSu; have SUW4 := Aside0.mk (Kd.S_lower (Kd.S_mono (ok' := fun k_ => k_ < W4.heap.size) (Kd.S_bound hSu) (fun k_ hk_ => hk_.2.2.1)) (below_size BW3.out)); have BW4 := Aside0.mk (below_step BW3.out hb); have K2W4 := Aside0.mk (blk_below K2W3.out hb); clear BW3 K2W3 SAW3; have Z4 := Aside0.mk (Nat.le_refl W4.heap.size); have Z2 := Aside0.mk (blk_lt K2W4.out); clear hb hSu; have hK2W4 := cb2 K2W4))
    | (go_at_call 8; (have t4_ := t4; clear t4; refine (laws_toFs.calls k A0 c0 l0 a0 NS RM _ (Kd.C_below HC.out BW4.out) hc0 hto).mono ?_; rintro e W5 ⟨vn, rfl, hSn, hb⟩; clear hK2W4; obtain ⟨An, cn, rfl⟩ := Kd.S_slice hSn; have SNW5 := Aside0.mk (Kd.S_lower hSn (below_size BW4.out)); have BW5 := Aside0.mk (below_step BW4.out hb); have K2W5 := Aside0.mk (blk_below K2W4.out hb); have SUW5 := Aside0.mk (Kd.S_below SUW4.out hb); clear BW4 K2W4 SUW4; replace Z4 := Aside0.mk (Nat.le_trans Z4.out hb.size); clear hb hSn; have hK2W5 := cb2 K2W5))
    | (go_at_call 12; (have t5_ := t5; clear t5; have hb6 := Aside0.mk (below_alloc (Below.refl W5.heap.size W5) (.cells #[.slice An NS.length cn, .int .i64 RM] 30)); refine (impl_GroupsIn.calls k An cn NS RM a1 R1 R2 _ ?s1 (Kd.S_reads' SNW5.out).2.1 him).mono ?_; (case s1 => exact Kd.C_below (Kd.S_reads' SNW5.out).2.2 hb6.out); rintro e W7 ⟨vg, rfl, hSg, hb⟩; clear hK2W5; have Y7 := Aside0.mk (below_step hb6.out hb); have BW7 := Aside0.mk (below_step BW5.out Y7.out); have SUW7 := Aside0.mk (Kd.S_below SUW5.out Y7.out); have SNW7 := Aside0.mk (Kd.S_below SNW5.out Y7.out); have K2W7 := Aside0.mk (blk_below K2W5.out Y7.out); have K8W7 := Aside0.mk (show W7.heap[W5.heap.size]? = some (.cells #[.slice An NS.length cn, .int .i64 RM] 30 (0, 0)) from blk_below (g := W5.heap.size) (heap_alloc_new W5 _) hb); obtain ⟨Ag, cg, rfl⟩ := Kd.S_slice hSg; have SGW7 := Aside0.mk (Kd.S_lower (Kd.S_mono (ok' := fun k_ => W4.heap.size ≤ k_ ∧ k_ < W7.heap.size) (Kd.S_bound hSg) (fun k_ hk_ => ⟨Nat.le_trans Z4.out (Nat.le_trans (below_size hb6.out) hk_.2.1), hk_.2.2.1⟩)) (Nat.le_trans (below_size BW5.out) (below_size hb6.out))); clear hb hSg hb6 BW5 SUW5 SNW5 K2W5 Y7; have hK2W7 := cb2 K2W7; have hK8W7 := cb2 K8W7))
    | (go_at_call 13; (have t6_ := t6; clear t6; refine (laws_eqStringSS.calls k Ag cg R1 Au cu R1 true _ (Kd.S_reads' SGW7.out).2.2 (Kd.S_reads' SGW7.out).2.1 (Kd.S_reads' SUW7.out).2.2 (Kd.S_reads' SUW7.out).2.1 heR).mono ?_; rintro e W8 ⟨rfl, hd⟩; clear hK2W7 hK8W7; have BW8 := Aside0.mk (below_step BW7.out hd.below); have K2W8 := Aside0.mk (blk_below K2W7.out hd.below); have SUW8 := Aside0.mk (Kd.S_below SUW7.out hd.below); have SNW8 := Aside0.mk (Kd.S_below SNW7.out hd.below); have K8W8 := Aside0.mk (blk_below K8W7.out hd.below); have SGW8 := Aside0.mk (Kd.S_below SGW7.out hd.below); clear BW7 K2W7 SUW7 SNW7 K8W7 SGW7; clear hd; have hK2W8 := cb2 K2W8; have hK8W8 := cb2 K8W8)))
  have D8 := Aside0.mk (below_drew1 (Below.refl W8.heap.size W8))
  have BW9 := Aside0.mk (below_step BW8.out D8.out)
  have K2W9 := Aside0.mk (blk_below K2W8.out D8.out)
  have K8W9 := Aside0.mk (blk_below K8W8.out D8.out)
  have SUW9 := Aside0.mk (Kd.S_below SUW8.out D8.out)
  have SNW9 := Aside0.mk (Kd.S_below SNW8.out D8.out)
  have SGW9 := Aside0.mk (Kd.S_below SGW8.out D8.out)
  clear BW8 K2W8 K8W8 SUW8 SNW8 SGW8 D8 hK2W8 hK8W8
  refine start_ (n := 5) (S := fun w' => w'.cell? ⟨W5.heap.size, 0, none⟩ = some (.slice An NS.length cn) ∧ w'.cell? ⟨W5.heap.size, 1, none⟩ = some (.int .i64 RM) ∧ w'.cell? ⟨g2, 0, none⟩ = some (.slice A0 l0.length c0) ∧ w'.cell? ⟨g2, 1, none⟩ = some (.int .i64 a0)) (ds := []) #[false, false, false, false, false] (by kernel_rfl) rfl rfl ⟨(blk_cell K8W9.out 0).trans rfl, (blk_cell K8W9.out 1).trans rfl, (blk_cell K2W9.out 0).trans rfl, (blk_cell K2W9.out 1).trans rfl⟩ (fun hHeld => ?_)
  generalize W8.drew = W9 at BW9 K2W9 K8W9 SUW9 SNW9 SGW9 hHeld ⊢
  refine take_ (i := 0) (N := some 45) (v := ?_) (a' := ?_) #[true, false, false, false, false] rfl rfl (by kernel_rfl) (fun _ _ _ h => h) (Or.inl ⟨by rfl, ?_⟩) hHeld ?_ ?_
  rotate_left
  · rintro w' ⟨s0, s1, s2, s3⟩
    go_simp
    with_reducible rfl
  rotate_left
  · simp only [Act.put, List.setIfInBounds_toArray, List.set_cons_zero, List.set_cons_succ, i64_w, i32_w]
    rfl
  refine take_ (i := 1) (N := some 46) (v := ?_) (a' := ?_) #[true, true, false, false, false] rfl rfl (by kernel_rfl) (fun _ _ _ h => h) (Or.inl ⟨by rfl, ?_⟩) hHeld ?_ ?_
  rotate_left
  · rintro w' ⟨s0, s1, s2, s3⟩
    go_simp
    with_reducible rfl
  rotate_left
  · simp only [Act.put, List.setIfInBounds_toArray, List.set_cons_zero, List.set_cons_succ, i64_w, i32_w]
    rfl
  refine one_ (i := 2) (N := some 47) #[true, true, true, false, false] rfl rfl (by kernel_rfl) (by decide) (fun K hK => ?_)
  refine goes_ Tryz.func8 (by kernel_rfl) rfl #[.agg #[.slice A0 l0.length c0, .int .i64 a0]] (by rfl) rfl rfl (by (try simp only [List.map_toArray, List.map_cons, List.map_nil]); first | done | rfl) ?_
  with_reducible refine (laws_toFs.calls k _ _ l0 a0 NS RM _ ?side1 ?side2 hto).mono ?_
  (case side1 => exact (Kd.C_below HC.out BW9.out))
  (case side2 => exact hc0)
  rintro e W10 ⟨vm, rfl, hSm, hb⟩
  refine ⟨_, rfl, ?_⟩
  obtain ⟨Am, cm, rfl⟩ := Kd.S_slice hSm
  have SMW10 := Aside0.mk hSm
  have BW10 := Aside0.mk (below_step BW9.out hb)
  have K2W10 := Aside0.mk (blk_below K2W9.out hb)
  have K8W10 := Aside0.mk (blk_below K8W9.out hb)
  have SUW10 := Aside0.mk (Kd.S_below SUW9.out hb)
  have SNW10 := Aside0.mk (Kd.S_below SNW9.out hb)
  have SGW10 := Aside0.mk (Kd.S_below SGW9.out hb)
  clear BW9 K2W9 K8W9 SUW9 SNW9 SGW9 hb hSm
  refine hK.out _ _ ⟨(blk_cell K8W10.out 0).trans rfl, (blk_cell K8W10.out 1).trans rfl, (blk_cell K2W10.out 0).trans rfl, (blk_cell K2W10.out 1).trans rfl⟩ (fun hHeld => ?_)
  clear hK K
  refine norm_ (a' := ?_) ?_ ?_
  rotate_left
  · show Act.put _ (some 47) _ = _
    simp only [Act.put, List.setIfInBounds_toArray, List.set_cons_zero, List.set_cons_succ, i64_w, i32_w]
    rfl
  refine one_ (i := 3) (N := some 48) #[true, true, true, true, false] rfl rfl (by kernel_rfl) (by decide) (fun K hK => ?_)
  refine goes_ Tryz.func10 (by kernel_rfl) rfl #[.agg #[.slice An NS.length cn, .int .i64 RM], .agg #[.slice Am NS.length cm, .int .i64 RM]] (by rfl) rfl rfl (by (try simp only [List.map_toArray, List.map_cons, List.map_nil]); first | done | rfl) ?_
  with_reducible refine (laws_eqFs.calls k _ _ NS RM _ _ NS RM true _ ?side1 ?side2 ?side3 ?side4 heF).mono ?_
  (case side1 => exact (Kd.S_reads' SNW10.out).2.2)
  (case side2 => exact (Kd.S_reads' SNW10.out).2.1)
  (case side3 => exact (Kd.S_reads' SMW10.out).2.2)
  (case side4 => exact (Kd.S_reads' SMW10.out).2.1)
  rintro e W11 ⟨rfl, hb⟩
  refine ⟨_, rfl, ?_⟩
  have BW11 := Aside0.mk (below_step BW10.out hb)
  have K2W11 := Aside0.mk (blk_below K2W10.out hb)
  have K8W11 := Aside0.mk (blk_below K8W10.out hb)
  have SUW11 := Aside0.mk (Kd.S_below SUW10.out hb)
  have SNW11 := Aside0.mk (Kd.S_below SNW10.out hb)
  have SGW11 := Aside0.mk (Kd.S_below SGW10.out hb)
  clear BW10 K2W10 K8W10 SUW10 SNW10 SGW10 SMW10 hb
  refine hK.out _ _ ⟨(blk_cell K8W11.out 0).trans rfl, (blk_cell K8W11.out 1).trans rfl, (blk_cell K2W11.out 0).trans rfl, (blk_cell K2W11.out 1).trans rfl⟩ (fun hHeld => ?_)
  clear hK K
  refine norm_ (a' := ?_) ?_ ?_
  rotate_left
  · show Act.put _ (some 48) _ = _
    simp only [Act.put, List.setIfInBounds_toArray, List.set_cons_zero, List.set_cons_succ, i64_w, i32_w]
    rfl
  refine pure_ (i := 4) (N := some 49) (v := ?_) (a' := ?_) #[true, true, true, true, true] rfl rfl (by kernel_rfl) (fun _ _ _ h => h) (Or.inl ⟨by rfl, ?_⟩) ?_ ?_
  rotate_left
  · intro w'
    go_simp
    with_reducible rfl
  rotate_left
  · simp only [Act.put, List.setIfInBounds_toArray, List.set_cons_zero, List.set_cons_succ, i64_w, i32_w]
    rfl
  refine done_ (by kernel_rfl) ?_
  clear hHeld
  have hK2W11 := cb2 K2W11
  have hK8W11 := cb2 K8W11
  have t9 : True := trivial
  have t10 : True := trivial
  have t11 : True := trivial
  have t12 : True := trivial
  have t13 : True := trivial
  have t14 : True := trivial
  have t15 : True := trivial
  have t16 : True := trivial
  go_wp2_with (first
    | (go_at_call 14; (have t9_ := t9; clear t9; refine (laws_markFs.marks k An cn NS RM 1 n0 w.heap.size _ (below_size BW11.out) (Nod.of_S SNW11.out) hmF).mono ?_; rintro e W12 ⟨rfl, hm⟩; clear hK2W11 hK8W11; have BW12 := Aside0.mk (Below.trans BW11.out hm.below); have K2W12 := Aside0.mk (hm.blk K2W11.out); have SUW12 := Aside0.mk (gr_marked hm SUW11.out); have SGW12 := Aside0.mk (gr_marked hm SGW11.out); clear hm BW11 K2W11 K8W11 SUW11 SGW11 SNW11; have hK2W12 := cb2 K2W12))
    | (go_at_call 13; (have t10_ := t10; clear t10; refine (laws_eqStringSS.calls k Ag cg R1 Au cu R1 true _ (Kd.S_reads' SGW12.out).2.2 (Kd.S_reads' SGW12.out).2.1 (Kd.S_reads' SUW12.out).2.2 (Kd.S_reads' SUW12.out).2.1 heR).mono ?_; rintro e W13 ⟨rfl, hd⟩; clear hK2W12; have BW13 := Aside0.mk (below_step BW12.out hd.below); have K2W13 := Aside0.mk (blk_below K2W12.out hd.below); have SUW13 := Aside0.mk (Kd.S_below SUW12.out hd.below); have SGW13 := Aside0.mk (Kd.S_below SGW12.out hd.below); clear BW12 K2W12 SUW12 SGW12; clear hd; have hK2W13 := cb2 K2W13))
    | (go_at_call 15; (have t11_ := t11; clear t11; refine (laws_markStringSS.calls k (fun k_ => W4.heap.size ≤ k_ ∧ k_ < W7.heap.size) _ R1 1 n2 M2 w _ BW13.out SGW13.out hm2).mono ?_; rintro e W14 ⟨rfl, hS14, hB14, hK14⟩; clear hK2W13; have BW14 := Aside0.mk hB14; have SUW14 := Aside0.mk (Kd.S_step SUW13.out (fun k_ hk_ hlt_ => hK14.2 k_ hlt_ (fun h2_ => absurd hk_ (Nat.not_lt.2 h2_.1)))); have K2W14 := Aside0.mk (show W14.heap[g2]? = some (.cells #[.slice A0 l0.length c0, .int .i64 a0] 24 (0, 0)) from (hK14.2 g2 (blk_lt K2W13.out) (fun h2_ => absurd Z2.out (Nat.not_lt.2 h2_.1))).trans K2W13.out); obtain ⟨hlm, hlm2, _⟩ := Kd.S_reads' hS14; have SMW14 := Aside0.mk (show Kd.S (Kd.slice 9 Kd.string) 49 W14 w.heap.size _ (.slice Ag M2.length cg) M2 by rw [← hlm]; exact hS14); have HLm := Aside0.mk hlm; clear BW13 SUW13 SGW13 K2W13 hlm hlm2 hS14 hB14 hK14; have hK2W14 := cb2 K2W14))
    | (go_at_call 16; (have t12_ := t12; clear t12; refine ((show Calls Tryz.prog 16 #[.slice Ag R1.length cg, .int .i64 1] _ _ from by rw [HLm.out]; exact laws_heldStringSS.calls k Ag cg M2 1 n2 _ (Kd.S_reads' SMW14.out).2.2 (Kd.S_reads' SMW14.out).2.1 hh)).mono ?_; rintro e W15 ⟨rfl, hd⟩; clear hK2W14; have BW15 := Aside0.mk (below_step BW14.out hd); have K2W15 := Aside0.mk (blk_below K2W14.out hd); have SUW15 := Aside0.mk (Kd.S_below SUW14.out hd); have SMW15 := Aside0.mk (Kd.S_below SMW14.out hd); clear BW14 K2W14 SUW14 SMW14; clear hd; have hK2W15 := cb2 K2W15))
    | (go_at_call 8; (have t13_ := t13; clear t13; refine (laws_toFs.calls k A0 c0 l0 a0 NS RM _ (Kd.C_below HC.out BW15.out) hc0 hto).mono ?_; rintro e W16 ⟨vp, rfl, hSp, hb⟩; clear hK2W15; obtain ⟨Ap, cp, rfl⟩ := Kd.S_slice hSp; have SPW16 := Aside0.mk (Kd.S_lower hSp (below_size BW15.out)); have BW16 := Aside0.mk (below_step BW15.out hb); have K2W16 := Aside0.mk (blk_below K2W15.out hb); have SUW16 := Aside0.mk (Kd.S_below SUW15.out hb); have SMW16 := Aside0.mk (Kd.S_below SMW15.out hb); clear BW15 K2W15 SUW15 SMW15; clear hb hSp; have hK2W16 := cb2 K2W16))
    | (go_at_call 12; (have t14_ := t14; clear t14; refine (impl_GroupsIn.calls k Ap cp NS RM a1 R1 R2 _ (Kd.S_reads' SPW16.out).2.2 (Kd.S_reads' SPW16.out).2.1 him).mono ?_; rintro e W17 ⟨vh, rfl, hSh, hb⟩; clear hK2W16; obtain ⟨Ah, ch, rfl⟩ := Kd.S_slice hSh; have SHW17 := Aside0.mk (Kd.S_lower hSh (below_size BW16.out)); have BW17 := Aside0.mk (below_step BW16.out hb); have K2W17 := Aside0.mk (blk_below K2W16.out hb); have SUW17 := Aside0.mk (Kd.S_below SUW16.out hb); have SMW17 := Aside0.mk (Kd.S_below SMW16.out hb); have SPW17 := Aside0.mk (Kd.S_below SPW16.out hb); clear BW16 K2W16 SUW16 SMW16 SPW16; clear hb hSh; have hK2W17 := cb2 K2W17))
    | (go_at_call 13; (have t15_ := t15; clear t15; refine (laws_eqStringSS.calls k Ah ch R1 Au cu R1 true _ (Kd.S_reads' SHW17.out).2.2 (Kd.S_reads' SHW17.out).2.1 (Kd.S_reads' SUW17.out).2.2 (Kd.S_reads' SUW17.out).2.1 heR).mono ?_; rintro e W18 ⟨rfl, hd⟩; clear hK2W17; have BW18 := Aside0.mk (below_step BW17.out hd.below); have K2W18 := Aside0.mk (blk_below K2W17.out hd.below); have SUW18 := Aside0.mk (Kd.S_below SUW17.out hd.below); have SMW18 := Aside0.mk (Kd.S_below SMW17.out hd.below); have SPW18 := Aside0.mk (Kd.S_below SPW17.out hd.below); have SHW18 := Aside0.mk (Kd.S_below SHW17.out hd.below); clear BW17 K2W17 SUW17 SMW17 SPW17 SHW17; clear hd; have hK2W18 := cb2 K2W18))
    | (go_at_call 16; (have t16_ := t16; clear t16; refine ((show Calls Tryz.prog 16 #[.slice Ag R1.length cg, .int .i64 1] _ _ from by rw [HLm.out]; exact laws_heldStringSS.calls k Ag cg M2 1 n2 _ (Kd.S_reads' SMW18.out).2.2 (Kd.S_reads' SMW18.out).2.1 hh)).mono ?_; rintro e W19 ⟨rfl, hd⟩; clear hK2W18; have BW19 := Aside0.mk (below_step BW18.out hd); have K2W19 := Aside0.mk (blk_below K2W18.out hd); have SUW19 := Aside0.mk (Kd.S_below SUW18.out hd); have SMW19 := Aside0.mk (Kd.S_below SMW18.out hd); have SPW19 := Aside0.mk (Kd.S_below SPW18.out hd); have SHW19 := Aside0.mk (Kd.S_below SHW18.out hd); clear BW18 K2W18 SUW18 SMW18 SPW18 SHW18; clear hd; have hK2W19 := cb2 K2W19)))
  go_ret
  exact ⟨rfl, BW19.out⟩
end Go.Proofs.YtdjceippnokimaaGreatDoor.PGrp
