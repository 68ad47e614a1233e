/- What the reference's IsForm computes. No condition. -/
import Derived.Test.YtkkcpgahgehedaaPFormx2
import Derived.Test.YtkkcpgahgehedaaForm
import Derived.Test.YtkkcpgahgehedaaPathM
namespace Go.Proofs.Ytkkcpgahgehedaa.PForm
open Go.RowKit Go.Proofs.YtkkcpgahgehedaaW.PrintWords Go.Proofs.YtkkcpgahgehedaaW.PrintLast Go.Proofs.YtkkcpgahgehedaaW.PrintMore Go.Proofs.Ytkkcpgahgehedaa.Aid Go.Proofs.Ytkkcpgahgehedaa.Form
set_option linter.unusedSimpArgs false
set_option linter.unusedVariables false

theorem u8_42 (c : UInt8) : ((c.toNat : Int) = 42) ↔ c = 42 := by
  constructor
  · intro h; exact UInt8.toNat_inj.mp (by have h' : c.toNat = 42 := by omega
                                          rw [h']; rfl)
  · rintro rfl; rfl
theorem u8_63 (c : UInt8) : ((c.toNat : Int) = 63) ↔ c = 63 := by
  constructor
  · intro h; exact UInt8.toNat_inj.mp (by have h' : c.toNat = 63 := by omega
                                          rw [h']; rfl)
  · rintro rfl; rfl
theorem u8_same (c d : UInt8) : ((c.toNat : Int) = (d.toNat : Int)) ↔ c = d := by
  constructor
  · intro h; exact UInt8.toNat_inj.mp (by omega)
  · rintro rfl; rfl
theorem bt_first {s : ByteArray} {c : UInt8} {l : List UInt8} (h : s.toList = c :: l) : bt s 0 = (c.toNat : Int) := by
  have hz : s.size = l.length + 1 := by rw [size_eq, h, List.length_cons]
  obtain ⟨d, hd, e⟩ := bt_toList s 0 (Int.le_refl _) (by omega)
  rw [h] at hd
  rw [e]; cases hd; rfl
theorem rest_toList {s : ByteArray} {c : UInt8} {l : List UInt8} (h : s.toList = c :: l) : (s.extract 1 s.size).toList = l := by
  have hz : s.size = l.length + 1 := by rw [size_eq, h, List.length_cons]
  rw [toList_extract, h, hz]; simp
theorem spec_l11Is.at (n : Nat) : ∀ a b : ByteArray, a.size + b.size ≤ n → Ev (fun k => spec_l11Is.f k a b) (isF a.toList b.toList) := by
  induction n with
  | zero =>
    intro a b h
    have ha : a.toList = [] := List.length_eq_zero_iff.mp (by rw [← size_eq]; omega)
    refine Ev.step (fun k => by rw [spec_l11Is.f, if_pos ha]) ?_
    refine ev_some ?_
    rw [ha]; cases b.toList <;> rfl
  | succ n ih =>
    intro a b hn
    cases ha : a.toList with
    | nil =>
      refine Ev.step (fun k => by rw [spec_l11Is.f, if_pos ha]) ?_
      refine ev_some ?_
      cases b.toList <;> rfl
    | cons c f =>
      have hz : a.size = f.length + 1 := by rw [size_eq, ha, List.length_cons]
      have hf := rest_toList ha
      have hfz : (a.extract 1 a.size).size = f.length := by rw [size_eq, hf]
      refine Ev.step (fun k => by rw [spec_l11Is.f, if_neg (by rw [ha]; simp), if_pos (by omega), bt_first ha]) ?_
      by_cases hc : c = 42
      · subst hc
        refine ev_pos ((u8_42 42).2 rfl) (ev_pos (by omega) ?_)
        refine ev_bind (ih _ b (by omega)) ?_
        rw [hf]
        cases hb : b.toList with
        | nil =>
          rw [star_nil]
          refine ev_ite (fun h => ev_some h.symm) (fun h => ev_pos rfl (ev_some (Bool.eq_false_iff.mpr h).symm))
        | cons x s =>
          have hbz : b.size = s.length + 1 := by rw [size_eq, hb, List.length_cons]
          have hbf := rest_toList hb
          have hbs : (b.extract 1 b.size).size = s.length := by rw [size_eq, hbf]
          rw [star_step]
          refine ev_ite (fun h => ev_some (by rw [h]; rfl)) (fun h => ev_neg (by simp) (ev_pos (by omega) ?_))
          refine ev_bind (ih a _ (by omega)) (ev_some ?_)
          rw [ha, hbf, Bool.eq_false_iff.mpr h]; rfl
      · refine ev_neg (fun h => hc ((u8_42 c).1 h)) ?_
        cases hb : b.toList with
        | nil => exact ev_pos rfl (ev_some (isF_one_nil hc).symm)
        | cons x s =>
          have hbz : b.size = s.length + 1 := by rw [size_eq, hb, List.length_cons]
          have hbf := rest_toList hb
          have hbs : (b.extract 1 b.size).size = s.length := by rw [size_eq, hbf]
          rw [isF_one hc]
          refine ev_neg (by simp) ?_
          by_cases hq : c = 63
          · subst hq
            refine ev_pos ((u8_63 63).2 rfl) (ev_pos (by omega) (ev_pos (by omega) ?_))
            refine ev_bind (ih _ _ (by omega)) (ev_some ?_)
            rw [hf, hbf]; rfl
          · refine ev_neg (fun h => hq ((u8_63 c).1 h)) (ev_pos (by omega) ?_)
            rw [bt_first hb]
            by_cases hx : c = x
            · subst hx
              refine ev_pos rfl (ev_pos (by omega) (ev_pos (by omega) ?_))
              refine ev_bind (ih _ _ (by omega)) (ev_some ?_)
              rw [hf, hbf]; simp
            · refine ev_neg (fun h => hx ((u8_same c x).1 h)) (ev_some ?_)
              simp [hq, hx]
theorem spec_l11Is.is (a b : ByteArray) : Ev (fun k => spec_l11Is.f k a b) (isF a.toList b.toList) := spec_l11Is.at _ a b (Nat.le_refl _)
end Go.Proofs.Ytkkcpgahgehedaa.PForm

