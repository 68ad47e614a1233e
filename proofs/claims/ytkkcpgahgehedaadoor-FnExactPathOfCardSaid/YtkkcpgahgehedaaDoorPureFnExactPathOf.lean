/- impl.isDots, impl.GoodName. -/
import Derived.Test.YtkkcpgahgehedaaDoorHar
namespace Go.Proofs.YtkkcpgahgehedaaDoor.PPath
open Go.RowKit Go.Proofs.YtkkcpgahgehedaaDoorW.PrintWords Go.Proofs.YtkkcpgahgehedaaDoorW.PrintLast Go.Proofs.YtkkcpgahgehedaaDoorW.PrintMore Go.Proofs.YtkkcpgahgehedaaDoor.Aid
theorem impl_isDots.is (s : ByteArray) : impl_isDots.f s = some (dotsB s) := by
  unfold impl_isDots.f dotsB
  by_cases h : s.toList = ([46] : List UInt8)
  · rw [if_pos h]; simp [h]
  · rw [if_neg h]; simp [h]
theorem impl_GoodName.is (s : ByteArray) : Ev (fun k => impl_GoodName.f k s) (nameB s) := by
  unfold impl_GoodName.f nameB
  refine ev_bind (impl_isPart.is s) ?_
  refine ev_ite (fun h => ?_) (fun h => ?_)
  · rw [impl_isDots.is, h]; exact Ev.now _
  · exact ev_some (by rw [Bool.eq_false_iff.mpr h]; rfl)
end Go.Proofs.YtkkcpgahgehedaaDoor.PPath

/- PathOf of the program and of the reference agree at every list of texts: no condition. -/
namespace Go.Proofs.YtkkcpgahgehedaaDoor.PPath
open Go.RowKit Go.Proofs.YtkkcpgahgehedaaDoorW.PrintWords Go.Proofs.YtkkcpgahgehedaaDoorW.PrintLast Go.Proofs.YtkkcpgahgehedaaDoorW.PrintMore Go.Proofs.YtkkcpgahgehedaaDoor.Aid
def goodNames (l : List ByteArray) : Prop := l.length ≤ 20 ∧ l.all nameB = true ∧ pathB (pathText l) = true
instance (l : List ByteArray) : Decidable (goodNames l) := by unfold goodNames; infer_instance
def pathR (l : List ByteArray) : ByteArray × Bool := if goodNames l then (pathText l, true) else (⟨#[]⟩, false)
theorem nameB_size {p : ByteArray} (h : nameB p = true) : p.size ≤ 8 := by
  unfold nameB partB at h
  rw [Bool.and_eq_true, Bool.and_eq_true] at h
  exact (of_decide_eq_true h.1.1).2
theorem pathText_small {l : List ByteArray} (h : l.length ≤ 20) (hz : ∀ p ∈ l, p.size ≤ 8) : (pathText l).size ≤ 181 := by
  rw [size_eq, pathText_toList, List.length_cons]
  have h1 := joinL_length l 8 hz
  have : l.length * (8 + 1) ≤ 20 * 9 := Nat.mul_le_mul h (by omega)
  omega
theorem spec_PathOf.loop (l : List ByteArray) (hl : l.length ≤ 4294967283) (hz : ∀ p ∈ l, p.size ≤ 1048576) (d : Nat) : ∀ i : Int, 0 ≤ i → i ≤ l.length → (l.length : Int) - i = d → (l.take i.toNat).all nameB = true →
    Ev (fun k => spec_PathOf.l0 k l l (l.length : Int) i) (pathR l) := by
  induction d with
  | zero =>
    intro i h0 h1 hd ha
    rw [List.take_of_length_le (by omega)] at ha
    refine Ev.step (fun k => by rw [spec_PathOf.l0, if_neg (by omega)]) ?_
    refine ev_ite (fun h => ev_some (by unfold pathR; rw [if_neg (fun g => by have := g.1; omega)])) (fun h => ?_)
    have hof := spec_l2Of.is l hl hz
    have hp := pathText_small (l := l) (by omega) (fun p hp => nameB_size (List.all_eq_true.1 ha p hp))
    refine ev_bind hof (ev_bind (spec_l2Path.is _ (by omega)) (ev_ite (fun h2 => ?_) (fun h2 => ?_)))
    · exact ev_bind hof (ev_some (by unfold pathR; rw [if_pos ⟨by omega, ha, h2⟩]))
    · exact ev_some (by unfold pathR; rw [if_neg (fun g => h2 g.2.2)])
  | succ d ih =>
    intro i h0 h1 hd ha
    have hlt : i < (l.length : Int) := by omega
    have hm := rdOf_mem l i h0 hlt
    have hil : i.toNat < l.length := by omega
    have ht : l.take (i + 1).toNat = l.take i.toNat ++ [rdOf ByteArray.empty l i] := by
      rw [show (i + 1).toNat = i.toNat + 1 by omega, List.take_add_one, List.getElem?_eq_getElem hil]
      unfold rdOf
      rw [List.getD_eq_getElem?_getD, List.getElem?_eq_getElem hil]; rfl
    refine Ev.step (fun k => by rw [spec_PathOf.l0, if_pos hlt, if_pos h0, if_pos hlt, wrap_id (by omega) (by omega)]) ?_
    refine ev_bind (spec_l2Name.is _ (by have := hz _ hm; omega)) (ev_ite (fun h => ?_) (fun h => ?_))
    · exact ih (i + 1) (by omega) (by omega) (by omega) (by rw [ht, List.all_append, ha]; simp [h])
    · exact ev_some (by unfold pathR; rw [if_neg (fun g => h (List.all_eq_true.1 g.2.1 _ hm))])
theorem spec_PathOf.is (l : List ByteArray) (hl : l.length ≤ 4294967283) (hz : ∀ p ∈ l, p.size ≤ 1048576) : Ev (fun k => spec_PathOf.f k l) (pathR l) :=
  spec_PathOf.loop l hl hz l.length 0 (by omega) (by omega) (by omega) (by simp)
theorem impl_PathOf_1.is (p : ByteArray) : Ev (fun k => impl_PathOf_1.f k p) (!nameB p) := ev_bind (impl_GoodName.is p) (Ev.now _)
theorem indexGood.loop (l : List ByteArray) (hl : l.length ≤ 9223372036854775807) (d : Nat) : ∀ i : Int, 0 ≤ i → i ≤ l.length → (l.length : Int) - i = d →
    ∃ r : Int, Ev (fun k => slices_IndexFunc_string_string__impl_PathOf_1.l0 k l (l.length : Int) i) r ∧ decide (r ≥ 0) = !(l.drop i.toNat).all nameB := by
  induction d with
  | zero =>
    intro i h0 h1 hd
    refine ⟨-1, Ev.step (fun k => by rw [slices_IndexFunc_string_string__impl_PathOf_1.l0, if_neg (by omega)]) (Ev.now _), ?_⟩
    rw [List.drop_eq_nil_iff.mpr (by omega)]; rfl
  | succ d ih =>
    intro i h0 h1 hd
    have hlt : i < (l.length : Int) := by omega
    have hstep : ∀ k, slices_IndexFunc_string_string__impl_PathOf_1.l0 (k + 1) l (l.length : Int) i = (impl_PathOf_1.f k (rdOf ByteArray.empty l i)).bind fun t => if t = true then some i else slices_IndexFunc_string_string__impl_PathOf_1.l0 k l (l.length : Int) (i + 1) := fun k => by
      rw [slices_IndexFunc_string_string__impl_PathOf_1.l0, if_pos hlt, if_pos h0, if_pos hlt, wrap_id (by omega) (by omega)]
    rw [rdOf_drop l i h0 hlt, List.all_cons]
    generalize rdOf ByteArray.empty l i = p at hstep ⊢
    have hp := impl_PathOf_1.is p
    cases hb : nameB p with
    | false =>
      rw [hb] at hp
      exact ⟨i, Ev.step hstep (ev_bind hp (ev_pos rfl (Ev.now _))), by simp [h0]⟩
    | true =>
      rw [hb] at hp
      obtain ⟨r, h, e⟩ := ih (i + 1) (by omega) (by omega) (by omega)
      exact ⟨r, Ev.step hstep (ev_bind hp (ev_neg (by simp) h)), by rw [e]; rfl⟩
theorem impl_PathOf.is (l : List ByteArray) : Ev (fun k => impl_PathOf.f k l) (pathR l) := by
  refine ev_ite (fun h => ev_some (by unfold pathR; rw [if_neg (fun g => by have := g.1; omega)])) (fun h => ?_)
  obtain ⟨r, hr, e⟩ := indexGood.loop l (by omega) l.length 0 (by omega) (by omega) (by omega)
  rw [Int.toNat_zero, List.drop_zero] at e
  refine ev_bind (a := decide (r ≥ 0)) (ev_bind hr (Ev.now _)) ?_
  rw [e]
  cases ha : l.all nameB with
  | false => exact ev_pos rfl (ev_some (by unfold pathR; rw [if_neg (fun g => by rw [g.2.1] at ha; cases ha)]))
  | true =>
    have hpo := impl_pathOf.is l 20 (by omega) (fun p hp => by have := nameB_size (List.all_eq_true.1 ha p hp); omega) (by omega)
    refine ev_neg (by simp) (ev_bind0 hpo (ev_bind (impl_GoodPath.is _) (ev_ite (fun h2 => ?_) (fun h2 => ?_))))
    · exact ev_bind0 hpo (ev_some (by unfold pathR; rw [if_pos ⟨by omega, ha, h2⟩]))
    · exact ev_some (by unfold pathR; rw [if_neg (fun g => h2 g.2.2)])
end Go.Proofs.YtkkcpgahgehedaaDoor.PPath
namespace Go.Proofs.YtkkcpgahgehedaaDoor.Pure
open Go.RowKit Go.Proofs.YtkkcpgahgehedaaDoor.PPath Go.Proofs.YtkkcpgahgehedaaDoorW.PrintWords Go.Proofs.YtkkcpgahgehedaaDoor.Aid
theorem FnExactPathOf : laws_FnExactPathOf.Pure := by
  rintro l ⟨hl, hz⟩
  refine Ev.rounds (r := true) ?_
  unfold laws_FnExactPathOf.f
  obtain ⟨r, hr, hx⟩ := laws_szStringS.is l hl hz 1048576 (by omega) 1048576 (by omega) (by omega)
  refine ev_bind hr (ev_ite (fun _ => Ev.now _) (fun h => ?_))
  rcases hx with hx | ⟨_, _, h1, h2⟩
  · exact absurd hx h
  have hto := laws_toStringS.is l (by omega)
  refine ev_bind hto (ev_bind (spec_PathOf.is l (by omega) h2) (ev_bind hto (ev_bind (impl_PathOf.is l) (ev_pos rfl ?_))))
  refine Ev.step (fun k => by rw [bne_self_eq_false, laws_FnExactPathOf.j0, if_neg Bool.false_ne_true]) ?_
  exact ev_bind hto (ev_bind (laws_eqStringS.same l (by omega)) (ev_pos rfl (Ev.now _)))
end Go.Proofs.YtkkcpgahgehedaaDoor.Pure

