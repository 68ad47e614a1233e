/- The row of FnExactSameTree: for every input the law returns true; each argument reads as it read. It rests on Pure (plain Lean) and on the law's printed contract. -/
import Derived.Test.YtdjceippnokimaaGreatDoorRows
import Derived.Test.YtdjceippnokimaaGreatDoorPSatx25
import Derived.Test.YtdjceippnokimaaGreatDoorPureFnExactSameTree
import Derived.Test.YtdjceippnokimaaGreatDoorOpen
import Derived.WalkKit
import Derived.ProofKit
import Derived.OpenShut
import Derived.ShutString
import Derived.ChangeOld
import Derived.Below
import Derived.SizedLaws
import Derived.Carry
import Derived.Test.YtdjceippnokimaaGreatDoorTab
import Derived.Test.YtdjceippnokimaaGreatDoorCards
import Derived.Test.YtdjceippnokimaaGreatDoorTie
import Derived.SevenTiedAt
import Derived.LaidMore
import Derived.Lay
import Derived.Stop.Joined
namespace Go.Proofs.YtdjceippnokimaaGreatDoor.fnExactSameTree
open Go.ChangeShapes Go.WideShapes Go.ChangeAt Go.RowKit Go.Proofs.YtdjceippnokimaaGreatDoor Go.Proofs.YtdjceippnokimaaGreatDoorW.PrintWords Go.Proofs.YtdjceippnokimaaGreatDoor.PSat
open Go.ChangeMaps (open_string shut_string)
set_option linter.unusedVariables false
set_option linter.unusedSimpArgs false
theorem own : ownKnob Tryz.prog.godebug = none := by kernel_rfl
theorem laidOut : laidOutB Tryz.prog = true := by kernel_rfl
theorem opens3 : Open.Opens Tryz.prog 3 (Kd.int .i64) (fun v => (Lit.int .i64 v).wf = true) := Open.opens_int Tryz.underlying3
theorem opens9 : Open.Opens Tryz.prog 9 Kd.string (fun v => v.size ≤ 9223372036854775807) := Open.opens_string Tryz.underlying9
theorem opens114 : Open.Opens Tryz.prog 114 k114 (fun v => (v.f0.size ≤ 9223372036854775807 ∧ (Lit.int .i64 v.f1).wf = true)) := Open.opens_iso (f := fun x : S114 => (x.f0, x.f1)) (fun v => ⟨v.1, v.2⟩) (fun _ => rfl) (Open.opens_struct Tryz.underlying114 (by kernel_rfl) (Open.opensF_cons rfl (by kernel_rfl) opens9 (Open.opensF_one rfl (by kernel_rfl) opens3)))
theorem opens59 : Open.Opens Tryz.prog 59 (Kd.slice 114 k114) (fun v => (v.length ≤ 9223372036854775807 ∧ ∀ e10_ ∈ v, (e10_.f0.size ≤ 9223372036854775807 ∧ (Lit.int .i64 e10_.f1).wf = true))) := Open.opens_slice Tryz.underlying59 (by kernel_rfl) opens114
theorem opens61 : Open.Opens Tryz.prog 61 k61 (fun v => ((Lit.int .i64 v.f0).wf = true ∧ ((Lit.int .i64 v.f1).wf = true ∧ ((Lit.int .i64 v.f2).wf = true ∧ ((Lit.int .i64 v.f3).wf = true ∧ ((Lit.int .i64 v.f4).wf = true ∧ (v.f5.size ≤ 9223372036854775807 ∧ (v.f6.length ≤ 9223372036854775807 ∧ ∀ e9_ ∈ v.f6, (e9_.f0.size ≤ 9223372036854775807 ∧ (Lit.int .i64 e9_.f1).wf = true))))))))) := Open.opens_iso (f := fun x : S61 => (x.f0, x.f1, x.f2, x.f3, x.f4, x.f5, x.f6)) (fun v => ⟨v.1, v.2.1, v.2.2.1, v.2.2.2.1, v.2.2.2.2.1, v.2.2.2.2.2.1, v.2.2.2.2.2.2⟩) (fun _ => rfl) (Open.opens_struct Tryz.underlying61 (by kernel_rfl) (Open.opensF_cons rfl (by kernel_rfl) opens3 (Open.opensF_cons rfl (by kernel_rfl) opens3 (Open.opensF_cons rfl (by kernel_rfl) opens3 (Open.opensF_cons rfl (by kernel_rfl) opens3 (Open.opensF_cons rfl (by kernel_rfl) opens3 (Open.opensF_cons rfl (by kernel_rfl) opens9 (Open.opensF_one rfl (by kernel_rfl) opens59))))))))
theorem opens22 : Open.Opens Tryz.prog 22 (Kd.slice 61 k61) (fun v => (v.length ≤ 9223372036854775807 ∧ ∀ e7_ ∈ v, ((Lit.int .i64 e7_.f0).wf = true ∧ ((Lit.int .i64 e7_.f1).wf = true ∧ ((Lit.int .i64 e7_.f2).wf = true ∧ ((Lit.int .i64 e7_.f3).wf = true ∧ ((Lit.int .i64 e7_.f4).wf = true ∧ (e7_.f5.size ≤ 9223372036854775807 ∧ (e7_.f6.length ≤ 9223372036854775807 ∧ ∀ e8_ ∈ e7_.f6, (e8_.f0.size ≤ 9223372036854775807 ∧ (Lit.int .i64 e8_.f1).wf = true)))))))))) := Open.opens_slice Tryz.underlying22 (by kernel_rfl) opens61
theorem opens24 : Open.Opens Tryz.prog 24 k24 (fun v => ((v.f0.length ≤ 9223372036854775807 ∧ ∀ e5_ ∈ v.f0, ((Lit.int .i64 e5_.f0).wf = true ∧ ((Lit.int .i64 e5_.f1).wf = true ∧ ((Lit.int .i64 e5_.f2).wf = true ∧ ((Lit.int .i64 e5_.f3).wf = true ∧ ((Lit.int .i64 e5_.f4).wf = true ∧ (e5_.f5.size ≤ 9223372036854775807 ∧ (e5_.f6.length ≤ 9223372036854775807 ∧ ∀ e6_ ∈ e5_.f6, (e6_.f0.size ≤ 9223372036854775807 ∧ (Lit.int .i64 e6_.f1).wf = true))))))))) ∧ (Lit.int .i64 v.f1).wf = true)) := Open.opens_iso (f := fun x : S24 => (x.f0, x.f1)) (fun v => ⟨v.1, v.2⟩) (fun _ => rfl) (Open.opens_struct Tryz.underlying24 (by kernel_rfl) (Open.opensF_cons rfl (by kernel_rfl) opens22 (Open.opensF_one rfl (by kernel_rfl) opens3)))
set_option maxRecDepth 100000 in
theorem lifted (os : Os) (started : os.Started) (H : Type) (enc : TypeId × Value → H) :
    ReturnsInHanded {} Tryz.checked os 3 .any (fun w args => (Rows.fnExactSameTreeSpec.pre enc Tryz.prog Tryz.f3 Rows.fnExactSameTreeRow.domain false w args ∧ laidMetH Tryz.prog Rows.fnExactSameTreeRow.laid w) ∧ sizedMet enc Tryz.prog Tryz.f3 (OpenSpec.ofChange Rows.fnExactSameTreeSpec) false w args) (Rows.fnExactSameTreeSpec.post enc Tryz.prog Tryz.f3 false true false false) := by
  refine returnsInHanded_of_change_and (C := Tryz.checked) (X := fun w _ => laidMetH Tryz.prog Rows.fnExactSameTreeRow.laid w) (fun _ _ _ hh h => h.of_heap hh) own started (by kernel_rfl) Tryz.func3
    (ChangeSpec.witness_shaped (enc := enc) (C := Tryz.checked) (os := os) (X := fun w _ => laidMetH Tryz.prog Rows.fnExactSameTreeRow.laid w) false (World.laidAll Tryz.prog os Rows.fnExactSameTreeRow.laid) #[.agg #[.slice none 0 0, .int .i64 0], .int .i64 0, .agg #[.slice none 0 0, .int .i64 0], .int .i64 0] 8 (World.laidAll_os _ _ _)
      (World.shaped_of_ZipB (by kernel_rfl) (by kernel_rfl)) (by kernel_rfl) (by kernel_rfl) (by kernel_rfl)
      (by rw [MakeChecks.laidMetH_plain _ _ _ (by kernel_rfl)]; exact laidMet_laidAll _ (by kernel_rfl) (by kernel_rfl))) ?_
  intro W base args ds gs before hval0 hW hcnd hsz0 hL _
  have hval : ∀ (j : Nat) t v, Tryz.f3.params[j]? = some t → args[j]? = some v → Value.okWide Tryz.prog W .any base t v := hval0
  have hW' := hW
  obtain ⟨p, q, hA0, hV, rfl, hfz, hnd⟩ := hW
  have hA : DataW.TrodAll enc Tryz.prog W 0 (fun _ => true) true Tryz.f3.params.toList args.toList ds p := hA0
  rw [Tryz.params3] at hA hval
  obtain ⟨v0, vs0, d0, ds0, p0, q0, hargs, rfl, rfl, h0, r0⟩ := trodAll_cons hA
  obtain ⟨v1, vs1, d1, ds1, p1, q1, rfl, rfl, rfl, h1, r1⟩ := trodAll_cons r0
  obtain ⟨v2, vs2, d2, ds2, p2, q2, rfl, rfl, rfl, h2, r2⟩ := trodAll_cons r1
  obtain ⟨v3, vs3, d3, ds3, p3, q3, rfl, rfl, rfl, h3, r3⟩ := trodAll_cons r2
  obtain ⟨rfl, rfl, rfl⟩ := trodAll_nil r3
  obtain rfl : args = #[v0, v1, v2, v3] := by cases args; simp_all
  obtain ⟨rfl, rfl⟩ := trodVars_none hV
  have k0 := h0
  have lt0 : ∀ x ∈ p0, x.block < W.heap.size := by obtain ⟨m, hm⟩ := k0; exact DataW.trod_lt m _ _ _ hm
  obtain ⟨cs0, rfl⟩ := Open.okWide_struct Tryz.underlying24 (hval 0 24 v0 rfl rfl)
  obtain ⟨m0, hm0⟩ := h0
  obtain ⟨x0, hK0, g0⟩ := opens24 _ _ _ _ _ _ _ _ _ hm0
  have hK0' := k24_open hK0
  obtain ⟨A0_0, c0_0, e0, hc0_0, hr0_0⟩ := hK0'
  obtain rfl : cs0 = #[.slice A0_0 x0.f0.length c0_0, .int .i64 x0.f1] := by cases cs0; simpa [Value.cells] using e0
  clear e0 hK0
  have k1 := h1
  have lt1 : ∀ x ∈ p1, x.block < W.heap.size := by obtain ⟨m, hm⟩ := k1; exact DataW.trod_lt m _ _ _ hm
  obtain ⟨a1, rfl, rfl, rfl, w1⟩ := open_int Tryz.underlying3 (hval 1 3 v1 rfl rfl) h1
  have k2 := h2
  have lt2 : ∀ x ∈ p2, x.block < W.heap.size := by obtain ⟨m, hm⟩ := k2; exact DataW.trod_lt m _ _ _ hm
  obtain ⟨cs2, rfl⟩ := Open.okWide_struct Tryz.underlying24 (hval 2 24 v2 rfl rfl)
  obtain ⟨m2, hm2⟩ := h2
  obtain ⟨x2, hK2, g2⟩ := opens24 _ _ _ _ _ _ _ _ _ hm2
  have hK2' := k24_open hK2
  obtain ⟨A2_0, c2_0, e2, hc2_0, hr2_0⟩ := hK2'
  obtain rfl : cs2 = #[.slice A2_0 x2.f0.length c2_0, .int .i64 x2.f1] := by cases cs2; simpa [Value.cells] using e2
  clear e2 hK2
  have k3 := h3
  have lt3 : ∀ x ∈ p3, x.block < W.heap.size := by obtain ⟨m, hm⟩ := k3; exact DataW.trod_lt m _ _ _ hm
  obtain ⟨a3, rfl, rfl, rfl, w3⟩ := open_int Tryz.underlying3 (hval 3 3 v3 rfl rfl) h3
  clear hA0 hval0 hsz0
  obtain ⟨k, hp⟩ := Pure.FnExactSameTree x0.f0 x0.f1 a1 x2.f0 x2.f1 a3 g0.1 g0.2 w1 g2.1 g2.2 w3
  have htab := Tab.of_laid (by rw [MakeChecks.laidMetH_plain _ _ _ (by kernel_rfl)] at hL; exact hL)
  refine (laws_FnExactSameTree.calls k _ _ x0.f0 x0.f1 a1 _ _ x2.f0 x2.f1 a3 true W hr0_0 hc0_0 hr2_0 hc2_0 htab hp).mono fun e W' ⟨he, bel⟩ => ?_
  subst he
  exact ⟨_, rfl, _, _, _, [], _, [], hW', trodAll_mk1 (shut_bool Tryz.underlying4 _), (trodAll_cons_mk (Below.trod laidOut (by kernel_rfl) (of_decide_eq_true (by kernel_rfl)) k0 bel lt0) (trodAll_cons_mk (Below.trod laidOut (by kernel_rfl) (of_decide_eq_true (by kernel_rfl)) k1 bel lt1) (trodAll_cons_mk (Below.trod laidOut (by kernel_rfl) (of_decide_eq_true (by kernel_rfl)) k2 bel lt2) (trodAll_cons_mk (Below.trod laidOut (by kernel_rfl) (of_decide_eq_true (by kernel_rfl)) k3 bel lt3) trodAll_mk0)))), rfl, bel.frame _, fun h => by cases h⟩
theorem over : Rows.fnExactSameTreeRow.holds Tryz.pinned (OpenSpec.ofChange Rows.fnExactSameTreeSpec) :=
  OpenClaim.holds_of_wide 3 Tryz.f3 rfl rfl rfl rfl rfl rfl rfl ⟨rfl, rfl, rfl, rfl, rfl⟩ rfl rfl rfl rfl rfl (by kernel_rfl) Tryz.func3 (by kernel_rfl)
    (of_decide_eq_true (by kernel_rfl)) (by unfold Func.isWrapper; first | (rw [if_pos (by decide +kernel)]; kernel_rfl) | (rw [if_neg (by decide +kernel)]; exact ⟨rfl, rfl⟩))
    (fun os started H enc _ => lifted os started H enc)
theorem proved : Rows.FnExactSameTreeSaid := over
#print axioms proved
theorem card : Rows.FnExactSameTreeCardSaid :=
  Claim7.holds_tied_plain_at .later [] [.data, .data, .data, .data, .pinned] true (true, "5df7089b80cdd715c9ddb3112652c14cb277386bae92126dd9e168da07626e90") false
    over (fun _ h => by cases h) (by kernel_rfl) (fun _ h => by cases h) fnExactSameTree_row_tie rfl ⟨rfl, rfl⟩ (by kernel_rfl) rfl
    (fun f fn hf hfn => by
      obtain rfl : f = 3 := Option.some.inj ((show Tryz.prog.funcNamed "loop.example/g00756/laws.FnExactSameTree" = some 3 by kernel_rfl).symm.trans hf) |>.symm
      obtain rfl : fn = Tryz.f3 := (Option.some.inj (Tryz.func3.symm.trans hfn)).symm
      exact ⟨by kernel_rfl, fun j t ht => by
        rw [Tryz.params3] at ht
        have hm : t ∈ [24, 3, 24, 3] := by simpa using Array.mem_of_getElem? ht
        have hall : ([24, 3, 24, 3].all fun u => !Tryz.prog.wantsStandIn u) = true := by kernel_rfl
        exact (show Tryz.prog.wantsStandIn t = false by simpa using List.all_eq_true.1 hall t hm)⟩)
    (by kernel_rfl)
#print axioms card
end Go.Proofs.YtdjceippnokimaaGreatDoor.fnExactSameTree
namespace Go.Proofs.YtdjceippnokimaaGreatDoor
/-- The row, under a short name, for the claim. -/
theorem fnExactSameTree_holds : Rows.FnExactSameTreeCardSaid := fnExactSameTree.card
end Go.Proofs.YtdjceippnokimaaGreatDoor
