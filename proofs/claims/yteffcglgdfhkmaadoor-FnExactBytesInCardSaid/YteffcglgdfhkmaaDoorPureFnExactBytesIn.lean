/- BytesIn of the program and of the reference agree at every file system: no condition. -/
import Derived.Test.YteffcglgdfhkmaaDoorGood
import Derived.Test.YteffcglgdfhkmaaDoorPFsx15
namespace Go.Proofs.YteffcglgdfhkmaaDoor.PFs
open Go.RowKit Go.Proofs.YteffcglgdfhkmaaDoorW.PrintWords Go.Proofs.YteffcglgdfhkmaaDoorW.PrintLast Go.Proofs.YteffcglgdfhkmaaDoorW.PrintMore Go.Proofs.YteffcglgdfhkmaaDoor.Aid Go.Proofs.YteffcglgdfhkmaaDoor.AllLoop Go.Proofs.YteffcglgdfhkmaaDoor.Loops Go.Proofs.YteffcglgdfhkmaaDoor.Put Go.Proofs.YteffcglgdfhkmaaDoor.Graph
set_option linter.unusedSimpArgs false
set_option linter.unusedVariables false
theorem BytesIn.same (ns : List S53) (room : Int) (hn' : ns.length ≤ 1048576) (hs : ∀ v ∈ ns, Small1 v) : ∃ v b, Ev (fun k => spec_BytesIn.f k ns room) (v, b) ∧ Ev (fun k => impl_BytesIn.f k ns room) (v, b) := by
  obtain ⟨r, hr, hi, e⟩ := good_both ns room hn' hs
  cases r with
  | true => exact ⟨sumW ns, true, ev_bind hr (ev_pos rfl (ev_bind (spec_l3Bytes.is ns room hn') (Ev.now _))), ev_bind hi (ev_pos rfl (ev_bind (impl_Fs_bytesIn.is ns room hn') (Ev.now _)))⟩
  | false => exact ⟨0, false, ev_bind hr (ev_neg (by simp) (Ev.now _)), ev_bind hi (ev_neg (by simp) (Ev.now _))⟩
end Go.Proofs.YteffcglgdfhkmaaDoor.PFs
namespace Go.Proofs.YteffcglgdfhkmaaDoor.Pure
open Go.RowKit Go.Proofs.YteffcglgdfhkmaaDoor.PFs Go.Proofs.YteffcglgdfhkmaaDoorW.PrintWords Go.Proofs.YteffcglgdfhkmaaDoor.Aid
theorem FnExactBytesIn : laws_FnExactBytesIn.Pure := by
  intro a n ha hn
  refine Ev.rounds (r := true) ?_
  unfold laws_FnExactBytesIn.f
  obtain ⟨r, hr, e⟩ := laws_szFs.is a n ha.1 (fun x hx => ⟨(ha.2 x hx).2.2.2.2.2.1, (ha.2 x hx).2.2.2.2.2.2.1, fun y hy => ((ha.2 x hx).2.2.2.2.2.2.2 y hy).1⟩) 1048576 (by omega) (by omega)
  rcases e with e | ⟨e1, e2, e3, e4⟩
  · exact ev_bind hr (ev_pos e (Ev.now _))
  refine ev_bind hr (ev_neg (by omega) ?_)
  have ta := laws_toFs.is a n e3 e4
  have oa := nodC_ok e4
  have sa := small_of e4
  have la : (a.map nodC).length ≤ 1048576 := by rw [List.length_map]; omega
  generalize a.map nodC = A at ta oa sa la
  obtain ⟨v, b, hs, ht⟩ := BytesIn.same A n la sa
  refine ev_bind ta (ev_bind hs (ev_bind ta (ev_bind ht (ev_pos rfl ?_))))
  show Ev (fun k => laws_FnExactBytesIn.j0 k (b != b) a n A n) true
  rw [bne_self_eq_false]
  exact Ev.step (fun k => by rw [laws_FnExactBytesIn.j0, if_neg (by decide)]) (ev_bind ta (ev_bind (laws_eqFs.same A n (by omega) oa) (ev_pos rfl (Ev.now _))))
end Go.Proofs.YteffcglgdfhkmaaDoor.Pure

