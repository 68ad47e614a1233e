/- FreeNode of the program and of the reference agree at every file system: no condition. -/
import Derived.Test.YteffcglgdfhkmaaDoorGood
import Derived.Test.YteffcglgdfhkmaaDoorPFsx16
import Derived.Test.YteffcglgdfhkmaaDoorPFsx17
namespace Go.Proofs.YteffcglgdfhkmaaDoor.PFs
open Go.RowKit Go.Proofs.YteffcglgdfhkmaaDoorW.PrintWords Go.Proofs.YteffcglgdfhkmaaDoorW.PrintLast Go.Proofs.YteffcglgdfhkmaaDoorW.PrintMore Go.Proofs.YteffcglgdfhkmaaDoor.Aid Go.Proofs.YteffcglgdfhkmaaDoor.AllLoop Go.Proofs.YteffcglgdfhkmaaDoor.Loops Go.Proofs.YteffcglgdfhkmaaDoor.Put Go.Proofs.YteffcglgdfhkmaaDoor.Graph
set_option linter.unusedSimpArgs false
set_option linter.unusedVariables false
theorem free_loop (ns : List S53) (room : Int) (hn' : ns.length ≤ 1048576) (d : Nat) : ∀ i : Int, 0 ≤ i → i ≤ ns.length → (ns.length : Int) - i = d →
    ∃ r s : Int, Ev (fun k => spec_l3Free.l0 k ns (ns.length : Int) i ns room) r ∧ Ev (fun k => impl_Node__impl_Fs_free_1.l0 k ns (ns.length : Int) i) s ∧ ((s = -1 ∧ r = if (ns.length : Int) = 40 then -1 else (ns.length : Int)) ∨ (0 ≤ s ∧ s < (ns.length : Int) ∧ r = s)) := by
  induction d with
  | zero =>
    intro i h0 hi hd
    by_cases h : (ns.length : Int) = 40
    · exact ⟨-1, -1, Ev.step (fun k => by rw [spec_l3Free.l0, if_neg (by omega)]) (ev_pos h (Ev.now _)), Ev.step (fun k => by rw [impl_Node__impl_Fs_free_1.l0, if_neg (by omega)]) (Ev.now _), .inl ⟨rfl, by rw [if_pos h]⟩⟩
    · exact ⟨_, -1, Ev.step (fun k => by rw [spec_l3Free.l0, if_neg (by omega)]) (ev_neg h (Ev.now _)), Ev.step (fun k => by rw [impl_Node__impl_Fs_free_1.l0, if_neg (by omega)]) (Ev.now _), .inl ⟨rfl, by rw [if_neg h]⟩⟩
  | succ d ih =>
    intro i h0 hi hd
    have hlt : i < (ns.length : Int) := by omega
    have hw : wrap64 (i + 1) = i + 1 := wrap_id (by omega) (by omega)
    have hfr : impl_Fs_free_1.f (rd_T53 ns i).f0 (rd_T53 ns i).f1 (rd_T53 ns i).f2 (rd_T53 ns i).f3 (rd_T53 ns i).f4 (rd_T53 ns i).f5 (rd_T53 ns i).f6 = some ((rd_T53 ns i).f0 == 0) := rfl
    by_cases h : (rd_T53 ns i).f0 = 0
    · exact ⟨i, i, Ev.step (fun k => by rw [spec_l3Free.l0, if_pos hlt, if_pos h0, if_pos hlt, if_pos h]) (Ev.now _), Ev.step (fun k => by rw [impl_Node__impl_Fs_free_1.l0, if_pos hlt, if_pos h0, if_pos hlt]) (ev_bind0 hfr (ev_pos (beq_iff_eq.2 h) (Ev.now _))), .inr ⟨h0, hlt, rfl⟩⟩
    · obtain ⟨r, s, hr, hs, e⟩ := ih (i + 1) (by omega) (by omega) (by omega)
      exact ⟨r, s, Ev.step (fun k => by rw [spec_l3Free.l0, if_pos hlt, if_pos h0, if_pos hlt, if_neg h, hw]) hr, Ev.step (fun k => by rw [impl_Node__impl_Fs_free_1.l0, if_pos hlt, if_pos h0, if_pos hlt, hw]) (ev_bind0 hfr (ev_neg (fun h' => h (beq_iff_eq.1 h')) hs)), e⟩
theorem FreeNode.same (ns : List S53) (room : Int) (hn' : ns.length ≤ 1048576) (hs : ∀ v ∈ ns, Small1 v) : ∃ v b, Ev (fun k => spec_FreeNode.f k ns room) (v, b) ∧ Ev (fun k => impl_FreeNode.f k ns room) (v, b) := by
  obtain ⟨r, hr, hi, e⟩ := good_both ns room hn' hs
  cases r with
  | false => exact ⟨0, false, ev_bind hr (ev_neg (by simp) (Ev.now _)), ev_bind hi (ev_neg (by simp) (Ev.now _))⟩
  | true =>
    have hg := (e.1 rfl).1.1
    obtain ⟨f, s, hf, hsx, ef⟩ := free_loop ns room hn' ns.length 0 (by omega) (by omega) (by omega)
    have hf' : Ev (fun k => spec_l3Free.f k ns room) f := hf
    rcases ef with ⟨e1, e2⟩ | ⟨e1, e2, e3⟩
    · have him : Ev (fun k => impl_Fs_free.f k ns room) ((ns.length : Int), decide ((ns.length : Int) < 40)) := ev_bind hsx (ev_pos (by omega) (Ev.now _))
      by_cases h : (ns.length : Int) = 40
      · rw [if_pos h] at e2
        refine ⟨0, false, ev_bind hr (ev_pos rfl (ev_bind hf' (ev_pos (by omega) (Ev.now _)))), ev_bind hi (ev_pos rfl (ev_bind him (ev_neg ?_ (Ev.now _))))⟩
        show ¬ decide ((ns.length : Int) < 40) = true
        rw [decide_eq_true_iff]; omega
      · rw [if_neg h] at e2
        refine ⟨f, true, ev_bind hr (ev_pos rfl (ev_bind hf' (ev_neg (by omega) (ev_bind hf' (Ev.now _))))), ev_bind hi (ev_pos rfl (ev_bind him (ev_pos ?_ (ev_some ?_))))⟩
        · show decide ((ns.length : Int) < 40) = true
          rw [decide_eq_true_iff]; omega
        · show ((ns.length : Int), true) = (f, true)
          rw [e2]
    · have him : Ev (fun k => impl_Fs_free.f k ns room) (s, decide (s < 40)) := ev_bind hsx (ev_neg (by omega) (Ev.now _))
      refine ⟨f, true, ev_bind hr (ev_pos rfl (ev_bind hf' (ev_neg (by omega) (ev_bind hf' (Ev.now _))))), ev_bind hi (ev_pos rfl (ev_bind him (ev_pos ?_ (ev_some ?_))))⟩
      · show decide (s < 40) = true
        rw [decide_eq_true_iff]; omega
      · show (s, true) = (f, true)
        rw [e3]
end Go.Proofs.YteffcglgdfhkmaaDoor.PFs
namespace Go.Proofs.YteffcglgdfhkmaaDoor.Pure
open Go.RowKit Go.Proofs.YteffcglgdfhkmaaDoor.PFs Go.Proofs.YteffcglgdfhkmaaDoorW.PrintWords Go.Proofs.YteffcglgdfhkmaaDoor.Aid
theorem FnExactFreeNode : laws_FnExactFreeNode.Pure := by
  intro a n ha hn
  refine Ev.rounds (r := true) ?_
  unfold laws_FnExactFreeNode.f
  obtain ⟨r, hr, e⟩ := laws_szFs.is a n ha.1 (fun x hx => ⟨(ha.2 x hx).2.2.2.2.2.1, (ha.2 x hx).2.2.2.2.2.2.1, fun y hy => ((ha.2 x hx).2.2.2.2.2.2.2 y hy).1⟩) 1048576 (by omega) (by omega)
  rcases e with e | ⟨e1, e2, e3, e4⟩
  · exact ev_bind hr (ev_pos e (Ev.now _))
  refine ev_bind hr (ev_neg (by omega) ?_)
  have ta := laws_toFs.is a n e3 e4
  have oa := nodC_ok e4
  have sa := small_of e4
  have la : (a.map nodC).length ≤ 1048576 := by rw [List.length_map]; omega
  generalize a.map nodC = A at ta oa sa la
  obtain ⟨v, b, hs, ht⟩ := FreeNode.same A n la sa
  refine ev_bind ta (ev_bind hs (ev_bind ta (ev_bind ht (ev_pos rfl ?_))))
  show Ev (fun k => laws_FnExactFreeNode.j0 k (b != b) a n A n) true
  rw [bne_self_eq_false]
  exact Ev.step (fun k => by rw [laws_FnExactFreeNode.j0, if_neg (by decide)]) (ev_bind ta (ev_bind (laws_eqFs.same A n (by omega) oa) (ev_pos rfl (Ev.now _))))
end Go.Proofs.YteffcglgdfhkmaaDoor.Pure

