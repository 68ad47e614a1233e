/- The row of FnExactSameFs: for every input the law returns true; each argument reads as it read. It rests on Pure (plain Lean) and on the law's printed contract. -/
import Derived.Test.YtehgojpiahmalaaRows
import Derived.Test.YtehgojpiahmalaaPSamex7
import Derived.Test.YtehgojpiahmalaaPureFnExactSameFs
import Derived.Test.YtehgojpiahmalaaOpen
import Derived.WalkKit
import Derived.ProofKit
import Derived.OpenShut
import Derived.ShutString
import Derived.ChangeOld
import Derived.Below
import Derived.SizedLaws
import Derived.Carry
namespace Go.Proofs.Ytehgojpiahmalaa.fnExactSameFs
open Go.ChangeShapes Go.WideShapes Go.ChangeAt Go.RowKit Go.Proofs.Ytehgojpiahmalaa Go.Proofs.YtehgojpiahmalaaW.PrintWords Go.Proofs.Ytehgojpiahmalaa.PSame
open Go.ChangeMaps (open_string shut_string)
set_option linter.unusedVariables false
set_option linter.unusedSimpArgs false
theorem own : ownKnob Try.prog.godebug = none := by kernel_rfl
theorem laidOut : laidOutB Try.prog = true := by kernel_rfl
theorem opens3 : Open.Opens Try.prog 3 (Kd.int .i64) (fun v => (Lit.int .i64 v).wf = true) := Open.opens_int Try.underlying3
theorem opens9 : Open.Opens Try.prog 9 Kd.string (fun v => v.size ≤ 9223372036854775807) := Open.opens_string Try.underlying9
theorem opens109 : Open.Opens Try.prog 109 k109 (fun v => (v.f0.size ≤ 9223372036854775807 ∧ (Lit.int .i64 v.f1).wf = true)) := Open.opens_iso (f := fun x : S109 => (x.f0, x.f1)) (fun v => ⟨v.1, v.2⟩) (fun _ => rfl) (Open.opens_struct Try.underlying109 (by kernel_rfl) (Open.opensF_cons rfl (by kernel_rfl) opens9 (Open.opensF_one rfl (by kernel_rfl) opens3)))
theorem opens91 : Open.Opens Try.prog 91 (Kd.slice 109 k109) (fun v => (v.length ≤ 9223372036854775807 ∧ ∀ e10_ ∈ v, (e10_.f0.size ≤ 9223372036854775807 ∧ (Lit.int .i64 e10_.f1).wf = true))) := Open.opens_slice Try.underlying91 (by kernel_rfl) opens109
theorem opens93 : Open.Opens Try.prog 93 k93 (fun v => ((Lit.int .i64 v.f0).wf = true ∧ ((Lit.int .i64 v.f1).wf = true ∧ ((Lit.int .i64 v.f2).wf = true ∧ ((Lit.int .i64 v.f3).wf = true ∧ ((Lit.int .i64 v.f4).wf = true ∧ (v.f5.size ≤ 9223372036854775807 ∧ (v.f6.length ≤ 9223372036854775807 ∧ ∀ e9_ ∈ v.f6, (e9_.f0.size ≤ 9223372036854775807 ∧ (Lit.int .i64 e9_.f1).wf = true))))))))) := Open.opens_iso (f := fun x : S93 => (x.f0, x.f1, x.f2, x.f3, x.f4, x.f5, x.f6)) (fun v => ⟨v.1, v.2.1, v.2.2.1, v.2.2.2.1, v.2.2.2.2.1, v.2.2.2.2.2.1, v.2.2.2.2.2.2⟩) (fun _ => rfl) (Open.opens_struct Try.underlying93 (by kernel_rfl) (Open.opensF_cons rfl (by kernel_rfl) opens3 (Open.opensF_cons rfl (by kernel_rfl) opens3 (Open.opensF_cons rfl (by kernel_rfl) opens3 (Open.opensF_cons rfl (by kernel_rfl) opens3 (Open.opensF_cons rfl (by kernel_rfl) opens3 (Open.opensF_cons rfl (by kernel_rfl) opens9 (Open.opensF_one rfl (by kernel_rfl) opens91))))))))
theorem opens41 : Open.Opens Try.prog 41 (Kd.slice 93 k93) (fun v => (v.length ≤ 9223372036854775807 ∧ ∀ e7_ ∈ v, ((Lit.int .i64 e7_.f0).wf = true ∧ ((Lit.int .i64 e7_.f1).wf = true ∧ ((Lit.int .i64 e7_.f2).wf = true ∧ ((Lit.int .i64 e7_.f3).wf = true ∧ ((Lit.int .i64 e7_.f4).wf = true ∧ (e7_.f5.size ≤ 9223372036854775807 ∧ (e7_.f6.length ≤ 9223372036854775807 ∧ ∀ e8_ ∈ e7_.f6, (e8_.f0.size ≤ 9223372036854775807 ∧ (Lit.int .i64 e8_.f1).wf = true)))))))))) := Open.opens_slice Try.underlying41 (by kernel_rfl) opens93
theorem opens43 : Open.Opens Try.prog 43 k43 (fun v => ((v.f0.length ≤ 9223372036854775807 ∧ ∀ e5_ ∈ v.f0, ((Lit.int .i64 e5_.f0).wf = true ∧ ((Lit.int .i64 e5_.f1).wf = true ∧ ((Lit.int .i64 e5_.f2).wf = true ∧ ((Lit.int .i64 e5_.f3).wf = true ∧ ((Lit.int .i64 e5_.f4).wf = true ∧ (e5_.f5.size ≤ 9223372036854775807 ∧ (e5_.f6.length ≤ 9223372036854775807 ∧ ∀ e6_ ∈ e5_.f6, (e6_.f0.size ≤ 9223372036854775807 ∧ (Lit.int .i64 e6_.f1).wf = true))))))))) ∧ (Lit.int .i64 v.f1).wf = true)) := Open.opens_iso (f := fun x : S43 => (x.f0, x.f1)) (fun v => ⟨v.1, v.2⟩) (fun _ => rfl) (Open.opens_struct Try.underlying43 (by kernel_rfl) (Open.opensF_cons rfl (by kernel_rfl) opens41 (Open.opensF_one rfl (by kernel_rfl) opens3)))
set_option maxRecDepth 100000 in
theorem lifted (os : Os) (started : os.Started) (H : Type) (enc : TypeId × Value → H) :
    ReturnsInHanded {} Try.checked os 7 .any (Rows.fnExactSameFsSpec.pre6 enc Try.prog Try.f7 Rows.fnExactSameFsRow.domain false) (Rows.fnExactSameFsSpec.post enc Try.prog Try.f7 false true false false) := by
  refine returnsInHanded_of_change_sized (C := Try.checked) own started (by kernel_rfl) Try.func7
    (ChangeSpec.witness6 (enc := enc) (C := Try.checked) false ⟨#[], #[.agg #[.slice none 0 0, .int .i64 0], .agg #[.slice none 0 0, .int .i64 0]], []⟩ 8 (by kernel_rfl) (by kernel_rfl) (by kernel_rfl) (by kernel_rfl)) ?_
  intro W base args ds gs before hval0 hW hcnd hsz0 _
  have hval : ∀ (j : Nat) t v, Try.f7.params[j]? = some t → args[j]? = some v → Value.okWide Try.prog W .any base t v := hval0
  have hW' := hW
  obtain ⟨p, q, hA0, hV, rfl, hfz, hnd⟩ := hW
  have hA : DataW.TrodAll enc Try.prog W 0 (fun _ => true) true Try.f7.params.toList args.toList ds p := hA0
  rw [Try.params7] at hA hval
  obtain ⟨v0, vs0, d0, ds0, p0, q0, hargs, rfl, rfl, h0, r0⟩ := trodAll_cons hA
  obtain ⟨v1, vs1, d1, ds1, p1, q1, rfl, rfl, rfl, h1, r1⟩ := trodAll_cons r0
  obtain ⟨rfl, rfl, rfl⟩ := trodAll_nil r1
  obtain rfl : args = #[v0, v1] := by cases args; simp_all
  obtain ⟨rfl, rfl⟩ := trodVars_none hV
  have k0 := h0
  have lt0 : ∀ x ∈ p0, x.block < W.heap.size := by obtain ⟨m, hm⟩ := k0; exact DataW.trod_lt m _ _ _ hm
  obtain ⟨cs0, rfl⟩ := Open.okWide_struct Try.underlying43 (hval 0 43 v0 rfl rfl)
  obtain ⟨m0, hm0⟩ := h0
  obtain ⟨x0, hK0, g0⟩ := opens43 _ _ _ _ _ _ _ _ _ hm0
  have hK0' := k43_open hK0
  obtain ⟨A0_0, c0_0, e0, hc0_0, hr0_0⟩ := hK0'
  obtain rfl : cs0 = #[.slice A0_0 x0.f0.length c0_0, .int .i64 x0.f1] := by cases cs0; simpa [Value.cells] using e0
  clear e0 hK0
  have k1 := h1
  have lt1 : ∀ x ∈ p1, x.block < W.heap.size := by obtain ⟨m, hm⟩ := k1; exact DataW.trod_lt m _ _ _ hm
  obtain ⟨cs1, rfl⟩ := Open.okWide_struct Try.underlying43 (hval 1 43 v1 rfl rfl)
  obtain ⟨m1, hm1⟩ := h1
  obtain ⟨x1, hK1, g1⟩ := opens43 _ _ _ _ _ _ _ _ _ hm1
  have hK1' := k43_open hK1
  obtain ⟨A1_0, c1_0, e1, hc1_0, hr1_0⟩ := hK1'
  obtain rfl : cs1 = #[.slice A1_0 x1.f0.length c1_0, .int .i64 x1.f1] := by cases cs1; simpa [Value.cells] using e1
  clear e1 hK1
  clear hA0 hval0 hsz0
  obtain ⟨k, hp⟩ := Pure.FnExactSameFs x0.f0 x0.f1 x1.f0 x1.f1 g0.1 g0.2 g1.1 g1.2
  refine (laws_FnExactSameFs.calls k _ _ x0.f0 x0.f1 _ _ x1.f0 x1.f1 true W hr0_0 hc0_0 hr1_0 hc1_0 hp).mono fun e W' ⟨he, bel⟩ => ?_
  subst he
  exact ⟨_, rfl, _, _, _, [], _, [], hW', trodAll_mk1 (shut_bool Try.underlying4 _), (trodAll_cons_mk (Below.trod laidOut (by kernel_rfl) (of_decide_eq_true (by kernel_rfl)) k0 bel lt0) (trodAll_cons_mk (Below.trod laidOut (by kernel_rfl) (of_decide_eq_true (by kernel_rfl)) k1 bel lt1) trodAll_mk0)), rfl, bel.frame _, fun h => by cases h⟩
theorem over : Rows.fnExactSameFsRow.holds Try.pinned (OpenSpec.ofChange Rows.fnExactSameFsSpec) :=
  OpenClaim.holds_of_wide 7 Try.f7 rfl rfl rfl rfl rfl rfl rfl ⟨rfl, rfl, rfl, rfl, rfl⟩ rfl rfl rfl rfl rfl (by kernel_rfl) Try.func7 (by kernel_rfl)
    (of_decide_eq_true (by kernel_rfl)) (by unfold Func.isWrapper; first | (rw [if_pos (by decide +kernel)]; kernel_rfl) | (rw [if_neg (by decide +kernel)]; exact ⟨rfl, rfl⟩))
    (fun os started H enc _ => lifted os started H enc)
theorem proved : Rows.FnExactSameFsSaid := over
#print axioms proved
end Go.Proofs.Ytehgojpiahmalaa.fnExactSameFs
namespace Go.Proofs.Ytehgojpiahmalaa
/-- The row, under a short name, for the claim. -/
theorem fnExactSameFs_holds : Rows.FnExactSameFsSaid := fnExactSameFs.proved
end Go.Proofs.Ytehgojpiahmalaa
