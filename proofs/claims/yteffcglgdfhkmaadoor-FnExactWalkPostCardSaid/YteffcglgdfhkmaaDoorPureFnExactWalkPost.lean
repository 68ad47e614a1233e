/- WalkPost of the program and of the reference agree at every file system: no condition. -/
import Derived.Test.YteffcglgdfhkmaaDoorWalks
import Derived.Test.YteffcglgdfhkmaaDoorPWkx20
namespace Go.Proofs.YteffcglgdfhkmaaDoor.PWk
open Go.RowKit Go.Proofs.YteffcglgdfhkmaaDoorW.PrintWords Go.Proofs.YteffcglgdfhkmaaDoorW.PrintLast Go.Proofs.YteffcglgdfhkmaaDoorW.PrintMore Go.Proofs.YteffcglgdfhkmaaDoor.Aid
theorem WalkPost.same (ns : List S53) (room a : Int) (hn' : ns.length ≤ 1048576) (hs : ∀ v ∈ ns, Small1 v) : ∃ (v : List ByteArray) (b : Bool), Ev (fun k => spec_WalkPost.f k ns room a) (v, b) ∧ Ev (fun k => impl_WalkPost.f k ns room a) (v, b) ∧ v.length ≤ 41943041 := by
  rcases ways_at ns room a hn' hs with ⟨h1, h2⟩ | ⟨h1, h2, _, _, _, _, _, d, _, _, h⟩
  · have hw : Ev (fun k => impl_walked.f k ns room a true) ([], false) := ev_bind h2 (ev_neg (by simp) (Ev.now _))
    exact ⟨[], false, ev_bind h1 (ev_neg (by simp) (Ev.now _)), ev_bind (g := fun k => impl_walked.f k ns room a true) hw (ev_some rfl), by simp⟩
  · obtain ⟨h3, h4, hl, _⟩ := h true
    generalize wl ns true d (⟨#[46]⟩ : ByteArray) a = L at h3 h4 hl
    have hwd := walked_loop L (by omega) L.length 0 [] (by omega) (by omega) (by omega) (by simp)
    rw [show (0 : Int).toNat = 0 from rfl, List.drop_zero, List.nil_append] at hwd
    have hw : Ev (fun k => impl_walked.f k ns room a true) (L.map (fun w => w.f0), true) := ev_bind h2 (ev_pos rfl (ev_bind h4 hwd))
    exact ⟨L.map (fun w => w.f0), true, ev_bind h1 (ev_pos rfl (ev_bind h3 (Ev.now _))), ev_bind (g := fun k => impl_walked.f k ns room a true) hw (ev_some rfl), by rw [List.length_map]; exact hl⟩
end Go.Proofs.YteffcglgdfhkmaaDoor.PWk
namespace Go.Proofs.YteffcglgdfhkmaaDoor.Pure
open Go.RowKit Go.Proofs.YteffcglgdfhkmaaDoor.PWk Go.Proofs.YteffcglgdfhkmaaDoorW.PrintWords Go.Proofs.YteffcglgdfhkmaaDoor.Aid
theorem FnExactWalkPost : laws_FnExactWalkPost.Pure := by
  intro a n x ha hn hx
  refine Ev.rounds (r := true) ?_
  unfold laws_FnExactWalkPost.f
  obtain ⟨r, hr, e⟩ := laws_szFs.is a n ha.1 (fun x hx => ⟨(ha.2 x hx).2.2.2.2.2.1, (ha.2 x hx).2.2.2.2.2.2.1, fun y hy => ((ha.2 x hx).2.2.2.2.2.2.2 y hy).1⟩) 1048576 (by omega) (by omega)
  rcases e with e | ⟨e1, e2, e3, e4⟩
  · exact ev_bind hr (ev_pos e (Ev.now _))
  refine ev_bind hr (ev_neg (by omega) ?_)
  have ta := laws_toFs.is a n e3 e4
  have oa := nodC_ok e4
  have sa := small_of e4
  have la : (a.map nodC).length ≤ 1048576 := by rw [List.length_map]; omega
  generalize a.map nodC = A at ta oa sa la
  obtain ⟨v, b, hs, ht, hl⟩ := WalkPost.same A n x la sa
  have hv : v.length ≤ 9223372036854775806 := by omega
  obtain ⟨km, hkm, hk0⟩ := laws_markFs.is A n la (fun v hv => (sa v hv).2.1)
  have held := laws_heldStringS.is v.length (by omega) 1 (by omega) (by omega)
  refine ev_bind ta (ev_bind hs (ev_bind ta (ev_bind ht (ev_bind (laws_eqStringS.same v hv) (ev_pos rfl ?_)))))
  show Ev (fun k => laws_FnExactWalkPost.j0 k x v b v b (b != b) a n A n) true
  rw [bne_self_eq_false]
  refine Ev.step (fun k => by rw [laws_FnExactWalkPost.j0, if_neg (by decide)]) (ev_bind ta (ev_bind (laws_eqFs.same A n (by omega) oa) (ev_pos rfl (ev_bind hkm (ev_neg (show ¬ (km < 0) by omega) (ev_bind (laws_eqStringS.same v hv) (ev_pos rfl ?_)))))))
  rw [bne_self_eq_false]
  refine Ev.step (fun k => by rw [laws_FnExactWalkPost.j1, if_neg (by decide)]) (ev_bind (laws_markStringS.is v (by omega) 1 (by omega) (by omega)) (ev_bind held (ev_neg (show ¬ ((1 : Int) + (v.length : Int) < 0) by omega) (ev_pos rfl (ev_bind ta (ev_bind ht (ev_bind (laws_eqStringS.same v hv) (ev_pos rfl ?_))))))))
  show Ev (fun k => laws_FnExactWalkPost.j2 k (marksS v.length 1) (1 + v.length) (b != b)) true
  rw [bne_self_eq_false]
  exact Ev.step (fun k => by rw [laws_FnExactWalkPost.j2, if_neg (by decide)]) (ev_bind held (ev_neg (show ¬ ((1 : Int) + (v.length : Int) < 0) by omega) (ev_pos rfl (Ev.now _))))
end Go.Proofs.YteffcglgdfhkmaaDoor.Pure

