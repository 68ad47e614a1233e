/- The row of FnExactSortFaults: for every input the law returns true; each argument reads as it read. It rests on Pure (plain Lean) and on the law's printed contract. -/
import Derived.Test.YtehgojpiahmalaaRows
import Derived.Test.YtehgojpiahmalaaPSrtx8
import Derived.Test.YtehgojpiahmalaaPureFnExactSortFaults
import Derived.Test.YtehgojpiahmalaaOpen
import Derived.WalkKit
import Derived.ProofKit
import Derived.OpenShut
import Derived.ShutString
import Derived.ChangeOld
import Derived.Below
import Derived.SizedLaws
import Derived.Carry
namespace Go.Proofs.Ytehgojpiahmalaa.fnExactSortFaults
open Go.ChangeShapes Go.WideShapes Go.ChangeAt Go.RowKit Go.Proofs.Ytehgojpiahmalaa Go.Proofs.YtehgojpiahmalaaW.PrintWords Go.Proofs.Ytehgojpiahmalaa.PSrt
open Go.ChangeMaps (open_string shut_string)
set_option linter.unusedVariables false
set_option linter.unusedSimpArgs false
theorem own : ownKnob Try.prog.godebug = none := by kernel_rfl
theorem laidOut : laidOutB Try.prog = true := by kernel_rfl
theorem opens9 : Open.Opens Try.prog 9 Kd.string (fun v => v.size ≤ 9223372036854775807) := Open.opens_string Try.underlying9
theorem opens3 : Open.Opens Try.prog 3 (Kd.int .i64) (fun v => (Lit.int .i64 v).wf = true) := Open.opens_int Try.underlying3
theorem opens80 : Open.Opens Try.prog 80 k80 (fun v => (v.f0.size ≤ 9223372036854775807 ∧ (Lit.int .i64 v.f1).wf = true)) := Open.opens_iso (f := fun x : S80 => (x.f0, x.f1)) (fun v => ⟨v.1, v.2⟩) (fun _ => rfl) (Open.opens_struct Try.underlying80 (by kernel_rfl) (Open.opensF_cons rfl (by kernel_rfl) opens9 (Open.opensF_one rfl (by kernel_rfl) opens3)))
theorem opens47 : Open.Opens Try.prog 47 (Kd.slice 80 k80) (fun v => (v.length ≤ 9223372036854775807 ∧ ∀ e2_ ∈ v, (e2_.f0.size ≤ 9223372036854775807 ∧ (Lit.int .i64 e2_.f1).wf = true))) := Open.opens_slice Try.underlying47 (by kernel_rfl) opens80
set_option maxRecDepth 100000 in
theorem lifted (os : Os) (started : os.Started) (H : Type) (enc : TypeId × Value → H) :
    ReturnsInHanded {} Try.checked os 8 .any (Rows.fnExactSortFaultsSpec.pre6 enc Try.prog Try.f8 Rows.fnExactSortFaultsRow.domain false) (Rows.fnExactSortFaultsSpec.post enc Try.prog Try.f8 false true false false) := by
  refine returnsInHanded_of_change_sized (C := Try.checked) own started (by kernel_rfl) Try.func8
    (ChangeSpec.witness6 (enc := enc) (C := Try.checked) false ⟨#[], #[.slice none 0 0], []⟩ 8 (by kernel_rfl) (by kernel_rfl) (by kernel_rfl) (by kernel_rfl)) ?_
  intro W base args ds gs before hval0 hW hcnd hsz0 _
  have hval : ∀ (j : Nat) t v, Try.f8.params[j]? = some t → args[j]? = some v → Value.okWide Try.prog W .any base t v := hval0
  have hW' := hW
  obtain ⟨p, q, hA0, hV, rfl, hfz, hnd⟩ := hW
  have hA : DataW.TrodAll enc Try.prog W 0 (fun _ => true) true Try.f8.params.toList args.toList ds p := hA0
  rw [Try.params8] at hA hval
  obtain ⟨v0, vs0, d0, ds0, p0, q0, hargs, rfl, rfl, h0, r0⟩ := trodAll_cons hA
  obtain ⟨rfl, rfl, rfl⟩ := trodAll_nil r0
  obtain rfl : args = #[v0] := by cases args; simp_all
  obtain ⟨rfl, rfl⟩ := trodVars_none hV
  have k0 := h0
  have lt0 : ∀ x ∈ p0, x.block < W.heap.size := by obtain ⟨m, hm⟩ := k0; exact DataW.trod_lt m _ _ _ hm
  obtain ⟨A0, n0, c0, rfl⟩ := okWide_slice Try.underlying47 (hval 0 47 v0 rfl rfl)
  obtain ⟨m0, hm0⟩ := h0
  obtain ⟨l0, ⟨A0', c0', e0, hc0, hr0⟩, g0⟩ := opens47 _ _ _ _ _ _ _ _ _ hm0
  obtain ⟨rfl, rfl, rfl⟩ : A0 = A0' ∧ n0 = l0.length ∧ c0 = c0' := by simpa [Value.cells] using e0
  clear e0
  clear hA0 hval0 hsz0
  obtain ⟨k, hp⟩ := Pure.FnExactSortFaults l0 g0
  refine (laws_FnExactSortFaults.calls k _ _ l0 true W hr0 hc0 hp).mono fun e W' ⟨he, bel⟩ => ?_
  subst he
  exact ⟨_, rfl, _, _, _, [], _, [], hW', trodAll_mk1 (shut_bool Try.underlying4 _), (trodAll_cons_mk (Below.trod laidOut (by kernel_rfl) (of_decide_eq_true (by kernel_rfl)) k0 bel lt0) trodAll_mk0), rfl, bel.frame _, fun h => by cases h⟩
theorem over : Rows.fnExactSortFaultsRow.holds Try.pinned (OpenSpec.ofChange Rows.fnExactSortFaultsSpec) :=
  OpenClaim.holds_of_wide 8 Try.f8 rfl rfl rfl rfl rfl rfl rfl ⟨rfl, rfl, rfl, rfl, rfl⟩ rfl rfl rfl rfl rfl (by kernel_rfl) Try.func8 (by kernel_rfl)
    (of_decide_eq_true (by kernel_rfl)) (by unfold Func.isWrapper; first | (rw [if_pos (by decide +kernel)]; kernel_rfl) | (rw [if_neg (by decide +kernel)]; exact ⟨rfl, rfl⟩))
    (fun os started H enc _ => lifted os started H enc)
theorem proved : Rows.FnExactSortFaultsSaid := over
#print axioms proved
end Go.Proofs.Ytehgojpiahmalaa.fnExactSortFaults
namespace Go.Proofs.Ytehgojpiahmalaa
/-- The row, under a short name, for the claim. -/
theorem fnExactSortFaults_holds : Rows.FnExactSortFaultsSaid := fnExactSortFaults.proved
end Go.Proofs.Ytehgojpiahmalaa
