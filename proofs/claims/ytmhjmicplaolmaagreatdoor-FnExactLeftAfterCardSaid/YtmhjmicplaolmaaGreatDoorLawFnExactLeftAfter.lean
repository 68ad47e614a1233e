/- The row of FnExactLeftAfter: for every input the law returns true; each argument reads as it read. It rests on Pure (plain Lean) and on the law's printed contract. -/
import Derived.Test.YtmhjmicplaolmaaGreatDoorRows
import Derived.Test.YtmhjmicplaolmaaGreatDoorPRmx27
import Derived.Test.YtmhjmicplaolmaaGreatDoorPureFnExactLeftAfter
import Derived.Test.YtmhjmicplaolmaaGreatDoorOpen
import Derived.WalkKit
import Derived.ProofKit
import Derived.OpenShut
import Derived.ShutString
import Derived.ChangeOld
import Derived.Below
import Derived.SizedLaws
import Derived.Carry
import Derived.Test.YtmhjmicplaolmaaGreatDoorCards
import Derived.Test.YtmhjmicplaolmaaGreatDoorTie
import Derived.SevenTiedAt
import Derived.LaidMore
import Derived.Lay
import Derived.Stop.Joined
namespace Go.Proofs.YtmhjmicplaolmaaGreatDoor.fnExactLeftAfter
open Go.ChangeShapes Go.WideShapes Go.ChangeAt Go.RowKit Go.Proofs.YtmhjmicplaolmaaGreatDoor Go.Proofs.YtmhjmicplaolmaaGreatDoorW.PrintWords Go.Proofs.YtmhjmicplaolmaaGreatDoor.PRm
open Go.ChangeMaps (open_string shut_string)
set_option linter.unusedVariables false
set_option linter.unusedSimpArgs false
theorem own : ownKnob Tryz.prog.godebug = none := by kernel_rfl
theorem laidOut : laidOutB Tryz.prog = true := by kernel_rfl
theorem opens3 : Open.Opens Tryz.prog 3 (Kd.int .i64) (fun v => (Lit.int .i64 v).wf = true) := Open.opens_int Tryz.underlying3
theorem opens9 : Open.Opens Tryz.prog 9 Kd.string (fun v => v.size ≤ 9223372036854775807) := Open.opens_string Tryz.underlying9
theorem opens119 : Open.Opens Tryz.prog 119 k119 (fun v => (v.f0.size ≤ 9223372036854775807 ∧ (Lit.int .i64 v.f1).wf = true)) := Open.opens_iso (f := fun x : S119 => (x.f0, x.f1)) (fun v => ⟨v.1, v.2⟩) (fun _ => rfl) (Open.opens_struct Tryz.underlying119 (by kernel_rfl) (Open.opensF_cons rfl (by kernel_rfl) opens9 (Open.opensF_one rfl (by kernel_rfl) opens3)))
theorem opens68 : Open.Opens Tryz.prog 68 (Kd.slice 119 k119) (fun v => (v.length ≤ 9223372036854775807 ∧ ∀ e16_ ∈ v, (e16_.f0.size ≤ 9223372036854775807 ∧ (Lit.int .i64 e16_.f1).wf = true))) := Open.opens_slice Tryz.underlying68 (by kernel_rfl) opens119
theorem opens70 : Open.Opens Tryz.prog 70 k70 (fun v => ((Lit.int .i64 v.f0).wf = true ∧ ((Lit.int .i64 v.f1).wf = true ∧ ((Lit.int .i64 v.f2).wf = true ∧ ((Lit.int .i64 v.f3).wf = true ∧ ((Lit.int .i64 v.f4).wf = true ∧ (v.f5.size ≤ 9223372036854775807 ∧ (v.f6.length ≤ 9223372036854775807 ∧ ∀ e15_ ∈ v.f6, (e15_.f0.size ≤ 9223372036854775807 ∧ (Lit.int .i64 e15_.f1).wf = true))))))))) := Open.opens_iso (f := fun x : S70 => (x.f0, x.f1, x.f2, x.f3, x.f4, x.f5, x.f6)) (fun v => ⟨v.1, v.2.1, v.2.2.1, v.2.2.2.1, v.2.2.2.2.1, v.2.2.2.2.2.1, v.2.2.2.2.2.2⟩) (fun _ => rfl) (Open.opens_struct Tryz.underlying70 (by kernel_rfl) (Open.opensF_cons rfl (by kernel_rfl) opens3 (Open.opensF_cons rfl (by kernel_rfl) opens3 (Open.opensF_cons rfl (by kernel_rfl) opens3 (Open.opensF_cons rfl (by kernel_rfl) opens3 (Open.opensF_cons rfl (by kernel_rfl) opens3 (Open.opensF_cons rfl (by kernel_rfl) opens9 (Open.opensF_one rfl (by kernel_rfl) opens68))))))))
theorem opens22 : Open.Opens Tryz.prog 22 (Kd.slice 70 k70) (fun v => (v.length ≤ 9223372036854775807 ∧ ∀ e13_ ∈ v, ((Lit.int .i64 e13_.f0).wf = true ∧ ((Lit.int .i64 e13_.f1).wf = true ∧ ((Lit.int .i64 e13_.f2).wf = true ∧ ((Lit.int .i64 e13_.f3).wf = true ∧ ((Lit.int .i64 e13_.f4).wf = true ∧ (e13_.f5.size ≤ 9223372036854775807 ∧ (e13_.f6.length ≤ 9223372036854775807 ∧ ∀ e14_ ∈ e13_.f6, (e14_.f0.size ≤ 9223372036854775807 ∧ (Lit.int .i64 e14_.f1).wf = true)))))))))) := Open.opens_slice Tryz.underlying22 (by kernel_rfl) opens70
theorem opens24 : Open.Opens Tryz.prog 24 k24 (fun v => ((v.f0.length ≤ 9223372036854775807 ∧ ∀ e11_ ∈ v.f0, ((Lit.int .i64 e11_.f0).wf = true ∧ ((Lit.int .i64 e11_.f1).wf = true ∧ ((Lit.int .i64 e11_.f2).wf = true ∧ ((Lit.int .i64 e11_.f3).wf = true ∧ ((Lit.int .i64 e11_.f4).wf = true ∧ (e11_.f5.size ≤ 9223372036854775807 ∧ (e11_.f6.length ≤ 9223372036854775807 ∧ ∀ e12_ ∈ e11_.f6, (e12_.f0.size ≤ 9223372036854775807 ∧ (Lit.int .i64 e12_.f1).wf = true))))))))) ∧ (Lit.int .i64 v.f1).wf = true)) := Open.opens_iso (f := fun x : S24 => (x.f0, x.f1)) (fun v => ⟨v.1, v.2⟩) (fun _ => rfl) (Open.opens_struct Tryz.underlying24 (by kernel_rfl) (Open.opensF_cons rfl (by kernel_rfl) opens22 (Open.opensF_one rfl (by kernel_rfl) opens3)))
theorem opens26 : Open.Opens Tryz.prog 26 k26 (fun v => ((Lit.int .i64 v.f0).wf = true ∧ (Lit.int .i64 v.f1).wf = true)) := Open.opens_iso (f := fun x : S26 => (x.f0, x.f1)) (fun v => ⟨v.1, v.2⟩) (fun _ => rfl) (Open.opens_struct Tryz.underlying26 (by kernel_rfl) (Open.opensF_cons rfl (by kernel_rfl) opens3 (Open.opensF_one rfl (by kernel_rfl) opens3)))
set_option maxRecDepth 100000 in
theorem lifted (os : Os) (started : os.Started) (H : Type) (enc : TypeId × Value → H) :
    ReturnsInHanded {} Tryz.checked os 4 .any (fun w args => (Rows.fnExactLeftAfterSpec.pre enc Tryz.prog Tryz.f4 Rows.fnExactLeftAfterRow.domain false w args ∧ laidMetH Tryz.prog Rows.fnExactLeftAfterRow.laid w) ∧ sizedMet enc Tryz.prog Tryz.f4 (OpenSpec.ofChange Rows.fnExactLeftAfterSpec) false w args) (Rows.fnExactLeftAfterSpec.post enc Tryz.prog Tryz.f4 false true false false) := by
  refine returnsInHanded_of_change_and (C := Tryz.checked) (X := fun w _ => laidMetH Tryz.prog Rows.fnExactLeftAfterRow.laid w) (fun _ _ _ hh h => h.of_heap hh) own started (by kernel_rfl) Tryz.func4
    (ChangeSpec.witness_shaped (enc := enc) (C := Tryz.checked) (os := os) (X := fun w _ => laidMetH Tryz.prog Rows.fnExactLeftAfterRow.laid w) false (World.laidAll Tryz.prog os Rows.fnExactLeftAfterRow.laid) #[.agg #[.slice none 0 0, .int .i64 0], .agg #[.int .i64 0, .int .i64 0], .int .i64 0] 8 (World.laidAll_os _ _ _)
      (World.shaped_of_ZipB (by kernel_rfl) (by kernel_rfl)) (by kernel_rfl) (by kernel_rfl) (by kernel_rfl)
      (by rw [MakeChecks.laidMetH_plain _ _ _ (by kernel_rfl)]; exact laidMet_laidAll _ (by kernel_rfl) (by kernel_rfl))) ?_
  intro W base args ds gs before hval0 hW hcnd hsz0 hL _
  have hval : ∀ (j : Nat) t v, Tryz.f4.params[j]? = some t → args[j]? = some v → Value.okWide Tryz.prog W .any base t v := hval0
  have hW' := hW
  obtain ⟨p, q, hA0, hV, rfl, hfz, hnd⟩ := hW
  have hA : DataW.TrodAll enc Tryz.prog W 0 (fun _ => true) true Tryz.f4.params.toList args.toList ds p := hA0
  rw [Tryz.params4] at hA hval
  obtain ⟨v0, vs0, d0, ds0, p0, q0, hargs, rfl, rfl, h0, r0⟩ := trodAll_cons hA
  obtain ⟨v1, vs1, d1, ds1, p1, q1, rfl, rfl, rfl, h1, r1⟩ := trodAll_cons r0
  obtain ⟨v2, vs2, d2, ds2, p2, q2, rfl, rfl, rfl, h2, r2⟩ := trodAll_cons r1
  obtain ⟨rfl, rfl, rfl⟩ := trodAll_nil r2
  obtain rfl : args = #[v0, v1, v2] := by cases args; simp_all
  obtain ⟨rfl, rfl⟩ := trodVars_none hV
  have k0 := h0
  have lt0 : ∀ x ∈ p0, x.block < W.heap.size := by obtain ⟨m, hm⟩ := k0; exact DataW.trod_lt m _ _ _ hm
  obtain ⟨cs0, rfl⟩ := Open.okWide_struct Tryz.underlying24 (hval 0 24 v0 rfl rfl)
  obtain ⟨m0, hm0⟩ := h0
  obtain ⟨x0, hK0, g0⟩ := opens24 _ _ _ _ _ _ _ _ _ hm0
  have hK0' := k24_open hK0
  obtain ⟨A0_0, c0_0, e0, hc0_0, hr0_0⟩ := hK0'
  obtain rfl : cs0 = #[.slice A0_0 x0.f0.length c0_0, .int .i64 x0.f1] := by cases cs0; simpa [Value.cells] using e0
  clear e0 hK0
  have k1 := h1
  have lt1 : ∀ x ∈ p1, x.block < W.heap.size := by obtain ⟨m, hm⟩ := k1; exact DataW.trod_lt m _ _ _ hm
  obtain ⟨cs1, rfl⟩ := Open.okWide_struct Tryz.underlying26 (hval 1 26 v1 rfl rfl)
  obtain ⟨m1, hm1⟩ := h1
  obtain ⟨x1, hK1, g1⟩ := opens26 _ _ _ _ _ _ _ _ _ hm1
  have hK1' := k26_open hK1
  have e1 := hK1'
  obtain rfl : cs1 = #[.int .i64 x1.f0, .int .i64 x1.f1] := by cases cs1; simpa [Value.cells] using e1
  clear e1 hK1 hK1'
  have k2 := h2
  have lt2 : ∀ x ∈ p2, x.block < W.heap.size := by obtain ⟨m, hm⟩ := k2; exact DataW.trod_lt m _ _ _ hm
  obtain ⟨a2, rfl, rfl, rfl, w2⟩ := open_int Tryz.underlying3 (hval 2 3 v2 rfl rfl) h2
  clear hA0 hval0 hsz0
  obtain ⟨k, hp⟩ := Pure.FnExactLeftAfter x0.f0 x0.f1 x1.f0 x1.f1 a2 g0.1 g0.2 g1.1 g1.2 w2
  refine (laws_FnExactLeftAfter.calls k _ _ x0.f0 x0.f1 x1.f0 x1.f1 a2 true W hr0_0 hc0_0 hp).mono fun e W' ⟨he, bel⟩ => ?_
  subst he
  exact ⟨_, rfl, _, _, _, [], _, [], hW', trodAll_mk1 (shut_bool Tryz.underlying4 _), (trodAll_cons_mk (Below.trod laidOut (by kernel_rfl) (of_decide_eq_true (by kernel_rfl)) k0 bel lt0) (trodAll_cons_mk (Below.trod laidOut (by kernel_rfl) (of_decide_eq_true (by kernel_rfl)) k1 bel lt1) (trodAll_cons_mk (Below.trod laidOut (by kernel_rfl) (of_decide_eq_true (by kernel_rfl)) k2 bel lt2) trodAll_mk0))), rfl, bel.frame _, fun h => by cases h⟩
theorem over : Rows.fnExactLeftAfterRow.holds Tryz.pinned (OpenSpec.ofChange Rows.fnExactLeftAfterSpec) :=
  OpenClaim.holds_of_wide 4 Tryz.f4 rfl rfl rfl rfl rfl rfl rfl ⟨rfl, rfl, rfl, rfl, rfl⟩ rfl rfl rfl rfl rfl (by kernel_rfl) Tryz.func4 (by kernel_rfl)
    (of_decide_eq_true (by kernel_rfl)) (by unfold Func.isWrapper; first | (rw [if_pos (by decide +kernel)]; kernel_rfl) | (rw [if_neg (by decide +kernel)]; exact ⟨rfl, rfl⟩))
    (fun os started H enc _ => lifted os started H enc)
theorem proved : Rows.FnExactLeftAfterSaid := over
#print axioms proved
theorem card : Rows.FnExactLeftAfterCardSaid :=
  Claim7.holds_tied_plain_at .later [] [.data, .pinned] true (true, "9bb5d80e6222f74157937ebb922c5fb023f13a07224af413e732b7549cb21791") false
    over (fun _ h => by cases h) (by kernel_rfl) (fun _ h => by cases h) fnExactLeftAfter_row_tie rfl ⟨rfl, rfl⟩ (by kernel_rfl) rfl
    (fun f fn hf hfn => by
      obtain rfl : f = 4 := Option.some.inj ((show Tryz.prog.funcNamed "loop.example/g00756/laws.FnExactLeftAfter" = some 4 by kernel_rfl).symm.trans hf) |>.symm
      obtain rfl : fn = Tryz.f4 := (Option.some.inj (Tryz.func4.symm.trans hfn)).symm
      exact ⟨by kernel_rfl, fun j t ht => by
        rw [Tryz.params4] at ht
        have hm : t ∈ [24, 26, 3] := by simpa using Array.mem_of_getElem? ht
        have hall : ([24, 26, 3].all fun u => !Tryz.prog.wantsStandIn u) = true := by kernel_rfl
        exact (show Tryz.prog.wantsStandIn t = false by simpa using List.all_eq_true.1 hall t hm)⟩)
    (by kernel_rfl)
#print axioms card
end Go.Proofs.YtmhjmicplaolmaaGreatDoor.fnExactLeftAfter
namespace Go.Proofs.YtmhjmicplaolmaaGreatDoor
/-- The row, under a short name, for the claim. -/
theorem fnExactLeftAfter_holds : Rows.FnExactLeftAfterCardSaid := fnExactLeftAfter.card
end Go.Proofs.YtmhjmicplaolmaaGreatDoor
