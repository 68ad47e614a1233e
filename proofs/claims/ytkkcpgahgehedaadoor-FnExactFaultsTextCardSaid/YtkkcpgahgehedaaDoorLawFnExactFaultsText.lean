/- The row of FnExactFaultsText: for every input the law returns true; each argument reads as it read. It rests on Pure (plain Lean) and on the law's printed contract. -/
import Derived.Test.YtkkcpgahgehedaaDoorRows
import Derived.Test.YtkkcpgahgehedaaDoorPFaultsx5
import Derived.Test.YtkkcpgahgehedaaDoorPureFnExactFaultsText
import Derived.Test.YtkkcpgahgehedaaDoorOpen
import Derived.WalkKit
import Derived.ProofKit
import Derived.OpenShut
import Derived.ShutString
import Derived.ChangeOld
import Derived.Below
import Derived.SizedLaws
import Derived.Carry
import Derived.Test.YtkkcpgahgehedaaDoorCards
import Derived.Test.YtkkcpgahgehedaaDoorTie
import Derived.SevenTiedAt
import Derived.LaidMore
import Derived.Lay
import Derived.Stop.Joined
namespace Go.Proofs.YtkkcpgahgehedaaDoor.fnExactFaultsText
open Go.ChangeShapes Go.WideShapes Go.ChangeAt Go.RowKit Go.Proofs.YtkkcpgahgehedaaDoor Go.Proofs.YtkkcpgahgehedaaDoorW.PrintWords Go.Proofs.YtkkcpgahgehedaaDoor.PFaults
open Go.ChangeMaps (open_string shut_string)
set_option linter.unusedVariables false
set_option linter.unusedSimpArgs false
theorem own : ownKnob Tryd.prog.godebug = none := by kernel_rfl
theorem laidOut : laidOutB Tryd.prog = true := by kernel_rfl
theorem opens9 : Open.Opens Tryd.prog 9 Kd.string (fun v => v.size ≤ 9223372036854775807) := Open.opens_string Tryd.underlying9
theorem opens3 : Open.Opens Tryd.prog 3 (Kd.int .i64) (fun v => (Lit.int .i64 v).wf = true) := Open.opens_int Tryd.underlying3
theorem opens69 : Open.Opens Tryd.prog 69 k69 (fun v => (v.f0.size ≤ 9223372036854775807 ∧ (Lit.int .i64 v.f1).wf = true)) := Open.opens_iso (f := fun x : S69 => (x.f0, x.f1)) (fun v => ⟨v.1, v.2⟩) (fun _ => rfl) (Open.opens_struct Tryd.underlying69 (by kernel_rfl) (Open.opensF_cons rfl (by kernel_rfl) opens9 (Open.opensF_one rfl (by kernel_rfl) opens3)))
theorem opens44 : Open.Opens Tryd.prog 44 (Kd.slice 69 k69) (fun v => (v.length ≤ 9223372036854775807 ∧ ∀ e2_ ∈ v, (e2_.f0.size ≤ 9223372036854775807 ∧ (Lit.int .i64 e2_.f1).wf = true))) := Open.opens_slice Tryd.underlying44 (by kernel_rfl) opens69
set_option maxRecDepth 100000 in
theorem lifted (os : Os) (started : os.Started) (H : Type) (enc : TypeId × Value → H) :
    ReturnsInHanded {} Tryd.checked os 13 .any (fun w args => (Rows.fnExactFaultsTextSpec.pre enc Tryd.prog Tryd.f13 Rows.fnExactFaultsTextRow.domain false w args ∧ laidMetH Tryd.prog Rows.fnExactFaultsTextRow.laid w) ∧ sizedMet enc Tryd.prog Tryd.f13 (OpenSpec.ofChange Rows.fnExactFaultsTextSpec) false w args) (Rows.fnExactFaultsTextSpec.post enc Tryd.prog Tryd.f13 false true false false) := by
  refine returnsInHanded_of_change_and (C := Tryd.checked) (X := fun w _ => laidMetH Tryd.prog Rows.fnExactFaultsTextRow.laid w) (fun _ _ _ hh h => h.of_heap hh) own started (by kernel_rfl) Tryd.func13
    (ChangeSpec.witness_shaped (enc := enc) (C := Tryd.checked) (os := os) (X := fun w _ => laidMetH Tryd.prog Rows.fnExactFaultsTextRow.laid w) false (World.laidAll Tryd.prog os Rows.fnExactFaultsTextRow.laid) #[.slice none 0 0] 8 (World.laidAll_os _ _ _)
      (World.shaped_of_ZipB (by kernel_rfl) (by kernel_rfl)) (by kernel_rfl) (by kernel_rfl) (by kernel_rfl)
      (by rw [MakeChecks.laidMetH_plain _ _ _ (by kernel_rfl)]; exact laidMet_laidAll _ (by kernel_rfl) (by kernel_rfl))) ?_
  intro W base args ds gs before hval0 hW hcnd hsz0 hL _
  have hval : ∀ (j : Nat) t v, Tryd.f13.params[j]? = some t → args[j]? = some v → Value.okWide Tryd.prog W .any base t v := hval0
  have hW' := hW
  obtain ⟨p, q, hA0, hV, rfl, hfz, hnd⟩ := hW
  have hA : DataW.TrodAll enc Tryd.prog W 0 (fun _ => true) true Tryd.f13.params.toList args.toList ds p := hA0
  rw [Tryd.params13] at hA hval
  obtain ⟨v0, vs0, d0, ds0, p0, q0, hargs, rfl, rfl, h0, r0⟩ := trodAll_cons hA
  obtain ⟨rfl, rfl, rfl⟩ := trodAll_nil r0
  obtain rfl : args = #[v0] := by cases args; simp_all
  obtain ⟨rfl, rfl⟩ := trodVars_none hV
  have k0 := h0
  have lt0 : ∀ x ∈ p0, x.block < W.heap.size := by obtain ⟨m, hm⟩ := k0; exact DataW.trod_lt m _ _ _ hm
  obtain ⟨A0, n0, c0, rfl⟩ := okWide_slice Tryd.underlying44 (hval 0 44 v0 rfl rfl)
  obtain ⟨m0, hm0⟩ := h0
  obtain ⟨l0, ⟨A0', c0', e0, hc0, hr0⟩, g0⟩ := opens44 _ _ _ _ _ _ _ _ _ hm0
  obtain ⟨rfl, rfl, rfl⟩ : A0 = A0' ∧ n0 = l0.length ∧ c0 = c0' := by simpa [Value.cells] using e0
  clear e0
  clear hA0 hval0 hsz0
  obtain ⟨k, hp⟩ := Pure.FnExactFaultsText l0 g0
  refine (laws_FnExactFaultsText.calls k _ _ l0 true W hr0 hc0 hp).mono fun e W' ⟨he, bel⟩ => ?_
  subst he
  exact ⟨_, rfl, _, _, _, [], _, [], hW', trodAll_mk1 (shut_bool Tryd.underlying4 _), (trodAll_cons_mk (Below.trod laidOut (by kernel_rfl) (of_decide_eq_true (by kernel_rfl)) k0 bel lt0) trodAll_mk0), rfl, bel.frame _, fun h => by cases h⟩
theorem over : Rows.fnExactFaultsTextRow.holds Tryd.pinned (OpenSpec.ofChange Rows.fnExactFaultsTextSpec) :=
  OpenClaim.holds_of_wide 13 Tryd.f13 rfl rfl rfl rfl rfl rfl rfl ⟨rfl, rfl, rfl, rfl, rfl⟩ rfl rfl rfl rfl rfl (by kernel_rfl) Tryd.func13 (by kernel_rfl)
    (of_decide_eq_true (by kernel_rfl)) (by unfold Func.isWrapper; first | (rw [if_pos (by decide +kernel)]; kernel_rfl) | (rw [if_neg (by decide +kernel)]; exact ⟨rfl, rfl⟩))
    (fun os started H enc _ => lifted os started H enc)
theorem proved : Rows.FnExactFaultsTextSaid := over
#print axioms proved
theorem card : Rows.FnExactFaultsTextCardSaid :=
  Claim7.holds_tied_plain_at .later [] [.data, .pinned] true (true, "70d008f758ff335c451e4c305d633ed905bd085bac1dc7a9a2957950dc335400") false
    over (fun _ h => by cases h) (by kernel_rfl) (fun _ h => by cases h) fnExactFaultsText_row_tie rfl ⟨rfl, rfl⟩ (by kernel_rfl) rfl
    (fun f fn hf hfn => by
      obtain rfl : f = 13 := Option.some.inj ((show Tryd.prog.funcNamed "loop.example/g00756/laws.FnExactFaultsText" = some 13 by kernel_rfl).symm.trans hf) |>.symm
      obtain rfl : fn = Tryd.f13 := (Option.some.inj (Tryd.func13.symm.trans hfn)).symm
      exact ⟨by kernel_rfl, fun j t ht => by
        rw [Tryd.params13] at ht
        have hm : t ∈ [44] := by simpa using Array.mem_of_getElem? ht
        have hall : ([44].all fun u => !Tryd.prog.wantsStandIn u) = true := by kernel_rfl
        exact (show Tryd.prog.wantsStandIn t = false by simpa using List.all_eq_true.1 hall t hm)⟩)
    (by kernel_rfl)
#print axioms card
end Go.Proofs.YtkkcpgahgehedaaDoor.fnExactFaultsText
namespace Go.Proofs.YtkkcpgahgehedaaDoor
/-- The row, under a short name, for the claim. -/
theorem fnExactFaultsText_holds : Rows.FnExactFaultsTextCardSaid := fnExactFaultsText.card
end Go.Proofs.YtkkcpgahgehedaaDoor
