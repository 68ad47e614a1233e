/- How an argument's data, of whatever nesting, read as rows of plain values: for the rows of this seat. No condition. -/
import Derived.Test.YtmhjmicplaolmaaGreatDoorWMore
import Derived.ProofKit
import Derived.Deep.Slices
namespace Go.Proofs.YtmhjmicplaolmaaGreatDoor.Open
open Go.ChangeShapes Go.WideShapes Go.ChangeAt Go.RowKit Go.Proofs.YtmhjmicplaolmaaGreatDoorW.PrintWords Go.Deep
set_option linter.unusedVariables false
variable {P : Program} {α β : Type}
def Opens (P : Program) (t : TypeId) (d : Kd α) (good : α → Prop) : Prop :=
  ∀ (H : Type) (enc : TypeId × Value → H) (w : World) (base : Nat) (spare : Nat → Bool) (held : Bool) (fuel : Nat) (cs : List Value) (x : DataW H × List MemPlace),
    DataW.trod enc P w base spare held fuel t cs = some x → ∃ v : α, d.K w v cs ∧ good v
def sj (P : Program) (o : Nat) (fs : List Field) (d : Kd α) (good : α → Prop) : Prop :=
  ∀ (H : Type) (enc : TypeId × Value → H) (w : World) (base : Nat) (spare : Nat → Bool) (held : Bool) (fuel : Nat) (cs : List Value) (xs : List (DataW H × List MemPlace)),
    cs.length = o + d.sz → (fs.mapM fun f => DataW.trod enc P w base spare held fuel f.type ((cs.drop f.offset).take (P.cellsOf f.type))) = some xs → ∃ v : α, d.K w v (cs.drop o) ∧ good v
theorem opens_int {t : TypeId} {k : IntKind} (ht : P.underlying t = some (.int k)) : Opens P t (Kd.int k) (fun n => (Lit.int k n).wf = true) := by
  intro H enc w base spare held fuel cs x h
  obtain ⟨n, rfl, _, hw⟩ := DataW.trod_int ht h
  exact ⟨n, rfl, hw⟩
theorem opens_string {t : TypeId} (ht : P.underlying t = some .string) : Opens P t Kd.string (fun s => s.size ≤ 9223372036854775807) := by
  intro H enc w base spare held fuel cs x h
  obtain ⟨s, rfl, _, hs⟩ := DataW.trod_string ht h
  exact ⟨s, rfl, hs⟩
theorem opens_slice {t e : TypeId} {d : Kd α} {good : α → Prop} (ht : P.underlying t = some (.slice e)) (hz : P.cellsOf e = d.sz) (hd : Opens P e d good) :
    Opens P t (Kd.slice e d) (fun l => l.length ≤ 9223372036854775807 ∧ ∀ x ∈ l, good x) := by
  intro H enc w base spare held fuel cs x h
  rcases open_slice ht h with ⟨rfl, _⟩ | ⟨a, len, cap, m, n, D, Pl, rfl, _, hl, hm, hmm, _, hx⟩
  · exact ⟨[], ⟨none, 0, rfl, Nat.le_refl _, rfl, by simp, fun h => absurd h (Nat.lt_irrefl 0)⟩, by simp, fun x hx => by cases hx⟩
  · have hlen : len ≤ m := by rw [hmm]; split <;> omega
    rcases Nat.eq_zero_or_pos len with h0 | h0
    · subst h0
      exact ⟨[], ⟨some a, cap, rfl, Nat.zero_le _, rfl, by simp, fun h => absurd h (Nat.lt_irrefl 0)⟩, by simp, fun x hx => by cases hx⟩
    have hp : ∀ i, i < len → ∃ v : α, (∃ c, c.length = d.sz ∧ d.K w v c ∧ ∀ q u, c[q]? = some u → w.cell? (a.add (i * d.sz + q)) = some u) ∧ good v := fun i hi => by
      obtain ⟨cs', h1, h2⟩ := hx i (by omega)
      obtain ⟨v, hK, hg⟩ := hd H enc w base spare held n cs' _ h2
      obtain ⟨_, hl', hc⟩ := World.cells?_some h1
      refine ⟨v, ⟨cs', d.K_len hK, hK, fun q u hq => ?_⟩, hg⟩
      have hq' : q < cs'.length := (List.getElem?_eq_some_iff.1 hq).1
      rw [← hz, ← Go.Deep.add_add, hc q (by omega)]
      exact hq
    obtain ⟨v0, _⟩ := hp 0 h0
    haveI : Inhabited α := ⟨v0⟩
    obtain ⟨f, hf⟩ := choose_lt hp
    have hL : ((List.range len).map f).length = len := by simp
    have hm' : len ≤ 9223372036854775807 := by unfold maxLen at hm; omega
    have hC : d.C w (some a) len ((List.range len).map f) := by
      refine ⟨hL, hm', fun _ => ⟨a, rfl, fun j p hj => ?_⟩⟩
      have hj' : j < len := by have := (List.getElem?_eq_some_iff.1 hj).1; rwa [hL] at this
      have e : p = f j := by
        rw [List.getElem?_map, List.getElem?_range hj'] at hj
        exact (Option.some.inj hj).symm
      subst e
      exact (hf j hj').1
    refine ⟨(List.range len).map f, ⟨some a, cap, by rw [hL], by rw [hL]; exact hl, by rw [hL]; exact hC⟩, by rw [hL]; exact hm', fun x hx => ?_⟩
    obtain ⟨i, hi, rfl⟩ := List.mem_map.1 hx
    exact (hf i (List.mem_range.1 hi)).2
theorem opensF_one {o : Nat} {f : Field} {d : Kd α} {good : α → Prop} (ho : f.offset = o) (hz : P.cellsOf f.type = d.sz) (hd : Opens P f.type d good) : sj P o [f] d good := by
  intro H enc w base spare held fuel cs xs hl h
  simp only [List.mapM_cons, List.mapM_nil] at h
  cases hx : DataW.trod enc P w base spare held fuel f.type ((cs.drop f.offset).take (P.cellsOf f.type)) with
  | none => rw [hx] at h; cases h
  | some x =>
    obtain ⟨v, hK, hg⟩ := hd H enc w base spare held fuel _ x hx
    refine ⟨v, ?_, hg⟩
    rw [ho, hz, List.take_of_length_le (by rw [List.length_drop]; omega)] at hK
    exact hK
theorem opensF_cons {o : Nat} {f : Field} {fs : List Field} {a : Kd α} {b : Kd β} {ga : α → Prop} {gb : β → Prop} (ho : f.offset = o) (hz : P.cellsOf f.type = a.sz) (ha : Opens P f.type a ga) (hb : sj P (o + a.sz) fs b gb) :
    sj P o (f :: fs) (Kd.pair a b) (fun x => ga x.1 ∧ gb x.2) := by
  intro H enc w base spare held fuel cs xs hl h
  have hl' : cs.length = o + (a.sz + b.sz) := hl
  rw [List.mapM_cons] at h
  cases hx : DataW.trod enc P w base spare held fuel f.type ((cs.drop f.offset).take (P.cellsOf f.type)) with
  | none => rw [hx] at h; cases h
  | some x =>
    rw [hx] at h
    cases hy : (fs.mapM fun f => DataW.trod enc P w base spare held fuel f.type ((cs.drop f.offset).take (P.cellsOf f.type))) with
    | none => rw [hy] at h; cases h
    | some ys =>
      obtain ⟨v, hK, hg⟩ := ha H enc w base spare held fuel _ x hx
      obtain ⟨u, hK', hg'⟩ := hb H enc w base spare held fuel cs ys (by omega) hy
      rw [ho, hz] at hK
      refine ⟨(v, u), ⟨_, _, ?_, hK, hK'⟩, hg, hg'⟩
      rw [← List.drop_drop, List.take_append_drop]
theorem opens_struct {t : TypeId} {fs : Array Field} {d : Kd α} {good : α → Prop} (ht : P.underlying t = some (.struct fs)) (hz : P.cellsOf t = d.sz) (hd : sj P 0 fs.toList d good) : Opens P t d good := by
  intro H enc w base spare held fuel cs x h
  cases fuel with
  | zero => simp [DataW.trod] at h
  | succ fuel =>
    unfold DataW.trod at h
    rw [ht] at h
    simp only at h
    split at h
    · rename_i hl
      cases hx : (fs.toList.mapM fun f => DataW.trod enc P w base spare held fuel f.type ((cs.drop f.offset).take (P.cellsOf f.type))) with
      | none => rw [hx] at h; cases h
      | some xs =>
        obtain ⟨v, hK, hg⟩ := hd H enc w base spare held fuel cs xs (by omega) hx
        exact ⟨v, hK, hg⟩
    · cases h
theorem opens_iso {t : TypeId} {d : Kd α} {f : β → α} (mk : α → β) (hmk : ∀ v, f (mk v) = v) {good : α → Prop} (hd : Opens P t d good) : Opens P t (Kd.iso d f) (fun x => good (f x)) := by
  intro H enc w base spare held fuel cs x h
  obtain ⟨v, hK, hg⟩ := hd H enc w base spare held fuel cs x h
  exact ⟨mk v, by show d.K w (f (mk v)) cs; rw [hmk]; exact hK, by show good (f (mk v)); rw [hmk]; exact hg⟩
theorem okWide_struct {t : TypeId} {fs : Array Field} {w : World} {r : Reach} {base : Nat} {v : Value} (ht : P.underlying t = some (.struct fs)) (h : Value.okWide P w r base t v) : ∃ cs, v = .agg cs := by
  unfold Value.okWide at h
  rw [ht] at h
  obtain ⟨cs, rfl, _⟩ := h
  exact ⟨cs, rfl⟩
end Go.Proofs.YtmhjmicplaolmaaGreatDoor.Open
