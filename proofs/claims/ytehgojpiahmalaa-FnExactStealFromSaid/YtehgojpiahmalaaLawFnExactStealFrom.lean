/- The row of FnExactStealFrom: for every input the law returns true; each argument reads as it read. It rests on 'law' (the law's walk and what both sides answer). -/
import Derived.Test.YtehgojpiahmalaaRows
import Derived.Test.YtehgojpiahmalaaStlLaw
import Derived.Test.YtehgojpiahmalaaPureFnExactStealFrom
import Derived.Test.YtehgojpiahmalaaOpen
import Derived.WalkKit
import Derived.ProofKit
import Derived.OpenShut
import Derived.ShutString
import Derived.ChangeOld
import Derived.Below
import Derived.SizedLaws
import Derived.Carry
namespace Go.Proofs.Ytehgojpiahmalaa.fnExactStealFrom
open Go.ChangeShapes Go.WideShapes Go.ChangeAt Go.RowKit Go.Proofs.Ytehgojpiahmalaa Go.Proofs.YtehgojpiahmalaaW.PrintWords Go.Proofs.Ytehgojpiahmalaa.PStl
open Go.ChangeMaps (open_string shut_string)
set_option linter.unusedVariables false
set_option linter.unusedSimpArgs false
theorem own : ownKnob Try.prog.godebug = none := by kernel_rfl
theorem laidOut : laidOutB Try.prog = true := by kernel_rfl
theorem opens3 : Open.Opens Try.prog 3 (Kd.int .i64) (fun v => (Lit.int .i64 v).wf = true) := Open.opens_int Try.underlying3
theorem opens57 : Open.Opens Try.prog 57 (Kd.slice 3 (Kd.int .i64)) (fun v => (v.length ≤ 9223372036854775807 ∧ ∀ e10_ ∈ v, (Lit.int .i64 e10_).wf = true)) := Open.opens_slice Try.underlying57 (by kernel_rfl) opens3
theorem opens22 : Open.Opens Try.prog 22 (Kd.slice 57 (Kd.slice 3 (Kd.int .i64))) (fun v => (v.length ≤ 9223372036854775807 ∧ ∀ e8_ ∈ v, (e8_.length ≤ 9223372036854775807 ∧ ∀ e9_ ∈ e8_, (Lit.int .i64 e9_).wf = true))) := Open.opens_slice Try.underlying22 (by kernel_rfl) opens57
set_option maxRecDepth 100000 in
theorem lifted (os : Os) (started : os.Started) (H : Type) (enc : TypeId × Value → H) :
    ReturnsInHanded {} Try.checked os 5 .any (Rows.fnExactStealFromSpec.pre6 enc Try.prog Try.f5 Rows.fnExactStealFromRow.domain false) (Rows.fnExactStealFromSpec.post enc Try.prog Try.f5 false true false false) := by
  refine returnsInHanded_of_change_sized (C := Try.checked) own started (by kernel_rfl) Try.func5
    (ChangeSpec.witness6 (enc := enc) (C := Try.checked) false ⟨#[], #[.slice none 0 0, .int .i64 0], []⟩ 8 (by kernel_rfl) (by kernel_rfl) (by kernel_rfl) (by kernel_rfl)) ?_
  intro W base args ds gs before hval0 hW hcnd hsz0 _
  have hval : ∀ (j : Nat) t v, Try.f5.params[j]? = some t → args[j]? = some v → Value.okWide Try.prog W .any base t v := hval0
  have hW' := hW
  obtain ⟨p, q, hA0, hV, rfl, hfz, hnd⟩ := hW
  have hA : DataW.TrodAll enc Try.prog W 0 (fun _ => true) true Try.f5.params.toList args.toList ds p := hA0
  rw [Try.params5] at hA hval
  obtain ⟨v0, vs0, d0, ds0, p0, q0, hargs, rfl, rfl, h0, r0⟩ := trodAll_cons hA
  obtain ⟨v1, vs1, d1, ds1, p1, q1, rfl, rfl, rfl, h1, r1⟩ := trodAll_cons r0
  obtain ⟨rfl, rfl, rfl⟩ := trodAll_nil r1
  obtain rfl : args = #[v0, v1] := by cases args; simp_all
  obtain ⟨rfl, rfl⟩ := trodVars_none hV
  have k0 := h0
  have lt0 : ∀ x ∈ p0, x.block < W.heap.size := by obtain ⟨m, hm⟩ := k0; exact DataW.trod_lt m _ _ _ hm
  obtain ⟨A0, n0, c0, rfl⟩ := okWide_slice Try.underlying22 (hval 0 22 v0 rfl rfl)
  obtain ⟨m0, hm0⟩ := h0
  obtain ⟨l0, ⟨A0', c0', e0, hc0, hr0⟩, g0⟩ := opens22 _ _ _ _ _ _ _ _ _ hm0
  obtain ⟨rfl, rfl, rfl⟩ : A0 = A0' ∧ n0 = l0.length ∧ c0 = c0' := by simpa [Value.cells] using e0
  clear e0
  have k1 := h1
  have lt1 : ∀ x ∈ p1, x.block < W.heap.size := by obtain ⟨m, hm⟩ := k1; exact DataW.trod_lt m _ _ _ hm
  obtain ⟨a1, rfl, rfl, rfl, w1⟩ := open_int Try.underlying3 (hval 1 3 v1 rfl rfl) h1
  clear hA0 hval0 hsz0
  refine (law _ _ l0 a1 W hr0 hc0 g0.1 (fun e_ he_ => (g0.2 e_ he_).1)).mono fun e W' ⟨he, bel⟩ => ?_
  subst he
  exact ⟨_, rfl, _, _, _, [], _, [], hW', trodAll_mk1 (shut_bool Try.underlying4 _), (trodAll_cons_mk (Below.trod laidOut (by kernel_rfl) (of_decide_eq_true (by kernel_rfl)) k0 bel lt0) (trodAll_cons_mk (Below.trod laidOut (by kernel_rfl) (of_decide_eq_true (by kernel_rfl)) k1 bel lt1) trodAll_mk0)), rfl, bel.frame _, fun h => by cases h⟩
theorem over : Rows.fnExactStealFromRow.holds Try.pinned (OpenSpec.ofChange Rows.fnExactStealFromSpec) :=
  OpenClaim.holds_of_wide 5 Try.f5 rfl rfl rfl rfl rfl rfl rfl ⟨rfl, rfl, rfl, rfl, rfl⟩ rfl rfl rfl rfl rfl (by kernel_rfl) Try.func5 (by kernel_rfl)
    (of_decide_eq_true (by kernel_rfl)) (by unfold Func.isWrapper; first | (rw [if_pos (by decide +kernel)]; kernel_rfl) | (rw [if_neg (by decide +kernel)]; exact ⟨rfl, rfl⟩))
    (fun os started H enc _ => lifted os started H enc)
theorem proved : Rows.FnExactStealFromSaid := over
#print axioms proved
end Go.Proofs.Ytehgojpiahmalaa.fnExactStealFrom
namespace Go.Proofs.Ytehgojpiahmalaa
/-- The row, under a short name, for the claim. -/
theorem fnExactStealFrom_holds : Rows.FnExactStealFromSaid := fnExactStealFrom.proved
end Go.Proofs.Ytehgojpiahmalaa
