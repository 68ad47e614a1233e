/- The row of FnExactStatText: for every input the law returns true; each argument reads as it read. It rests on Pure (plain Lean) and on the law's printed contract. -/
import Derived.Test.YtehgojpiahmalaaDoorRows
import Derived.Test.YtehgojpiahmalaaDoorPStatx3
import Derived.Test.YtehgojpiahmalaaDoorPureFnExactStatText
import Derived.Test.YtehgojpiahmalaaDoorOpen
import Derived.WalkKit
import Derived.ProofKit
import Derived.OpenShut
import Derived.ShutString
import Derived.ChangeOld
import Derived.Below
import Derived.SizedLaws
import Derived.Carry
import Derived.Test.YtehgojpiahmalaaDoorTab
import Derived.Test.YtehgojpiahmalaaDoorCards
import Derived.Test.YtehgojpiahmalaaDoorTie
import Derived.SevenTiedAt
import Derived.LaidMore
import Derived.Lay
import Derived.Stop.Joined
namespace Go.Proofs.YtehgojpiahmalaaDoor.fnExactStatText
open Go.ChangeShapes Go.WideShapes Go.ChangeAt Go.RowKit Go.Proofs.YtehgojpiahmalaaDoor Go.Proofs.YtehgojpiahmalaaDoorW.PrintWords Go.Proofs.YtehgojpiahmalaaDoor.PStat
open Go.ChangeMaps (open_string shut_string)
set_option linter.unusedVariables false
set_option linter.unusedSimpArgs false
theorem own : ownKnob Tryd.prog.godebug = none := by kernel_rfl
theorem laidOut : laidOutB Tryd.prog = true := by kernel_rfl
theorem opens3 : Open.Opens Tryd.prog 3 (Kd.int .i64) (fun v => (Lit.int .i64 v).wf = true) := Open.opens_int Tryd.underlying3
theorem opens23 : Open.Opens Tryd.prog 23 k23 (fun v => ((Lit.int .i64 v.f0).wf = true ∧ ((Lit.int .i64 v.f1).wf = true ∧ ((Lit.int .i64 v.f2).wf = true ∧ ((Lit.int .i64 v.f3).wf = true ∧ ((Lit.int .i64 v.f4).wf = true ∧ ((Lit.int .i64 v.f5).wf = true ∧ ((Lit.int .i64 v.f6).wf = true ∧ (Lit.int .i64 v.f7).wf = true)))))))) := Open.opens_iso (f := fun x : S23 => (x.f0, x.f1, x.f2, x.f3, x.f4, x.f5, x.f6, x.f7)) (fun v => ⟨v.1, v.2.1, v.2.2.1, v.2.2.2.1, v.2.2.2.2.1, v.2.2.2.2.2.1, v.2.2.2.2.2.2.1, v.2.2.2.2.2.2.2⟩) (fun _ => rfl) (Open.opens_struct Tryd.underlying23 (by kernel_rfl) (Open.opensF_cons rfl (by kernel_rfl) opens3 (Open.opensF_cons rfl (by kernel_rfl) opens3 (Open.opensF_cons rfl (by kernel_rfl) opens3 (Open.opensF_cons rfl (by kernel_rfl) opens3 (Open.opensF_cons rfl (by kernel_rfl) opens3 (Open.opensF_cons rfl (by kernel_rfl) opens3 (Open.opensF_cons rfl (by kernel_rfl) opens3 (Open.opensF_one rfl (by kernel_rfl) opens3)))))))))
set_option maxRecDepth 100000 in
theorem lifted (os : Os) (started : os.Started) (H : Type) (enc : TypeId × Value → H) :
    ReturnsInHanded {} Tryd.checked os 3 .any (fun w args => (Rows.fnExactStatTextSpec.pre enc Tryd.prog Tryd.f3 Rows.fnExactStatTextRow.domain false w args ∧ laidMetH Tryd.prog Rows.fnExactStatTextRow.laid w) ∧ sizedMet enc Tryd.prog Tryd.f3 (OpenSpec.ofChange Rows.fnExactStatTextSpec) false w args) (Rows.fnExactStatTextSpec.post enc Tryd.prog Tryd.f3 false true false false) := by
  refine returnsInHanded_of_change_and (C := Tryd.checked) (X := fun w _ => laidMetH Tryd.prog Rows.fnExactStatTextRow.laid w) (fun _ _ _ hh h => h.of_heap hh) own started (by kernel_rfl) Tryd.func3
    (ChangeSpec.witness_shaped (enc := enc) (C := Tryd.checked) (os := os) (X := fun w _ => laidMetH Tryd.prog Rows.fnExactStatTextRow.laid w) false (World.laidAll Tryd.prog os Rows.fnExactStatTextRow.laid) #[.agg #[.int .i64 0, .int .i64 0, .int .i64 0, .int .i64 0, .int .i64 0, .int .i64 0, .int .i64 0, .int .i64 0]] 8 (World.laidAll_os _ _ _)
      (World.shaped_of_ZipB (by kernel_rfl) (by kernel_rfl)) (by kernel_rfl) (by kernel_rfl) (by kernel_rfl)
      (by rw [MakeChecks.laidMetH_plain _ _ _ (by kernel_rfl)]; exact laidMet_laidAll _ (by kernel_rfl) (by kernel_rfl))) ?_
  intro W base args ds gs before hval0 hW hcnd hsz0 hL _
  have hval : ∀ (j : Nat) t v, Tryd.f3.params[j]? = some t → args[j]? = some v → Value.okWide Tryd.prog W .any base t v := hval0
  have hW' := hW
  obtain ⟨p, q, hA0, hV, rfl, hfz, hnd⟩ := hW
  have hA : DataW.TrodAll enc Tryd.prog W 0 (fun _ => true) true Tryd.f3.params.toList args.toList ds p := hA0
  rw [Tryd.params3] at hA hval
  obtain ⟨v0, vs0, d0, ds0, p0, q0, hargs, rfl, rfl, h0, r0⟩ := trodAll_cons hA
  obtain ⟨rfl, rfl, rfl⟩ := trodAll_nil r0
  obtain rfl : args = #[v0] := by cases args; simp_all
  obtain ⟨rfl, rfl⟩ := trodVars_none hV
  have k0 := h0
  have lt0 : ∀ x ∈ p0, x.block < W.heap.size := by obtain ⟨m, hm⟩ := k0; exact DataW.trod_lt m _ _ _ hm
  obtain ⟨cs0, rfl⟩ := Open.okWide_struct Tryd.underlying23 (hval 0 23 v0 rfl rfl)
  obtain ⟨m0, hm0⟩ := h0
  obtain ⟨x0, hK0, g0⟩ := opens23 _ _ _ _ _ _ _ _ _ hm0
  have hK0' := k23_open hK0
  have e0 := hK0'
  obtain rfl : cs0 = #[.int .i64 x0.f0, .int .i64 x0.f1, .int .i64 x0.f2, .int .i64 x0.f3, .int .i64 x0.f4, .int .i64 x0.f5, .int .i64 x0.f6, .int .i64 x0.f7] := by cases cs0; simpa [Value.cells] using e0
  clear e0 hK0 hK0'
  clear hA0 hval0 hsz0
  obtain ⟨k, hp⟩ := Pure.FnExactStatText x0.f0 x0.f1 x0.f2 x0.f3 x0.f4 x0.f5 x0.f6 x0.f7 g0.1 g0.2.1 g0.2.2.1 g0.2.2.2.1 g0.2.2.2.2.1 g0.2.2.2.2.2.1 g0.2.2.2.2.2.2.1 g0.2.2.2.2.2.2.2
  have htab := Tab.of_laid (by rw [MakeChecks.laidMetH_plain _ _ _ (by kernel_rfl)] at hL; exact hL)
  refine (laws_FnExactStatText.calls k x0.f0 x0.f1 x0.f2 x0.f3 x0.f4 x0.f5 x0.f6 x0.f7 true W htab hp).mono fun e W' ⟨he, bel⟩ => ?_
  subst he
  exact ⟨_, rfl, _, _, _, [], _, [], hW', trodAll_mk1 (shut_bool Tryd.underlying4 _), (trodAll_cons_mk (Below.trod laidOut (by kernel_rfl) (of_decide_eq_true (by kernel_rfl)) k0 bel lt0) trodAll_mk0), rfl, bel.frame _, fun h => by cases h⟩
theorem over : Rows.fnExactStatTextRow.holds Tryd.pinned (OpenSpec.ofChange Rows.fnExactStatTextSpec) :=
  OpenClaim.holds_of_wide 3 Tryd.f3 rfl rfl rfl rfl rfl rfl rfl ⟨rfl, rfl, rfl, rfl, rfl⟩ rfl rfl rfl rfl rfl (by kernel_rfl) Tryd.func3 (by kernel_rfl)
    (of_decide_eq_true (by kernel_rfl)) (by unfold Func.isWrapper; first | (rw [if_pos (by decide +kernel)]; kernel_rfl) | (rw [if_neg (by decide +kernel)]; exact ⟨rfl, rfl⟩))
    (fun os started H enc _ => lifted os started H enc)
theorem proved : Rows.FnExactStatTextSaid := over
#print axioms proved
theorem card : Rows.FnExactStatTextCardSaid :=
  Claim7.holds_tied_plain_at .later [] [.data, .data, .data] true (true, "f1ec2ec9712a26564c9c58db54b04b662637f66261d4051b2506e4de9b9638f0") false
    over (fun _ h => by cases h) (by kernel_rfl) (fun _ h => by cases h) fnExactStatText_row_tie rfl ⟨rfl, rfl⟩ (by kernel_rfl) rfl
    (fun f fn hf hfn => by
      obtain rfl : f = 3 := Option.some.inj ((show Tryd.prog.funcNamed "loop.example/g00756/laws.FnExactStatText" = some 3 by kernel_rfl).symm.trans hf) |>.symm
      obtain rfl : fn = Tryd.f3 := (Option.some.inj (Tryd.func3.symm.trans hfn)).symm
      exact ⟨by kernel_rfl, fun j t ht => by
        rw [Tryd.params3] at ht
        have hm : t ∈ [23] := by simpa using Array.mem_of_getElem? ht
        have hall : ([23].all fun u => !Tryd.prog.wantsStandIn u) = true := by kernel_rfl
        exact (show Tryd.prog.wantsStandIn t = false by simpa using List.all_eq_true.1 hall t hm)⟩)
    (by kernel_rfl)
#print axioms card
end Go.Proofs.YtehgojpiahmalaaDoor.fnExactStatText
namespace Go.Proofs.YtehgojpiahmalaaDoor
/-- The row, under a short name, for the claim. -/
theorem fnExactStatText_holds : Rows.FnExactStatTextCardSaid := fnExactStatText.card
end Go.Proofs.YtehgojpiahmalaaDoor
