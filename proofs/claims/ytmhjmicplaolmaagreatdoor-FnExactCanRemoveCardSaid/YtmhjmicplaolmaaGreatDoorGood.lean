/- Bytes, links and what is met from a node, for the program and for the reference. No condition. -/
import Derived.Test.YtmhjmicplaolmaaGreatDoorPRmx1
import Derived.Test.YtmhjmicplaolmaaGreatDoorPRmx2
import Derived.Test.YtmhjmicplaolmaaGreatDoorPRmx3
import Derived.Test.YtmhjmicplaolmaaGreatDoorPRmx4
import Derived.Test.YtmhjmicplaolmaaGreatDoorPRmx5
import Derived.Test.YtmhjmicplaolmaaGreatDoorPRmx6
import Derived.Test.YtmhjmicplaolmaaGreatDoorPRmx7
import Derived.Test.YtmhjmicplaolmaaGreatDoorPRmx8
import Derived.Test.YtmhjmicplaolmaaGreatDoorPRmx9
import Derived.Test.YtmhjmicplaolmaaGreatDoorPRmx10
import Derived.Test.YtmhjmicplaolmaaGreatDoorPRmx11
import Derived.Test.YtmhjmicplaolmaaGreatDoorPRmx12
import Derived.Test.YtmhjmicplaolmaaGreatDoorPRmx13
import Derived.Test.YtmhjmicplaolmaaGreatDoorPRmx14
import Derived.Test.YtmhjmicplaolmaaGreatDoorPRmx15
import Derived.Test.YtmhjmicplaolmaaGreatDoorPRmx16
import Derived.Test.YtmhjmicplaolmaaGreatDoorPRmx17
import Derived.Test.YtmhjmicplaolmaaGreatDoorPRmx18
import Derived.Test.YtmhjmicplaolmaaGreatDoorPRmx19
import Derived.Test.YtmhjmicplaolmaaGreatDoorPRmx20
import Derived.Test.YtmhjmicplaolmaaGreatDoorPRmx21
import Derived.Test.YtmhjmicplaolmaaGreatDoorPRmx22
import Derived.Test.YtmhjmicplaolmaaGreatDoorPRmx23
import Derived.Test.YtmhjmicplaolmaaGreatDoorPRmx24
import Derived.Test.YtmhjmicplaolmaaGreatDoorPRmx25
import Derived.Test.YtmhjmicplaolmaaGreatDoorPRmx26
import Derived.Test.YtmhjmicplaolmaaGreatDoorGoodA
import Derived.Test.YtmhjmicplaolmaaGreatDoorBase
namespace Go.Proofs.YtmhjmicplaolmaaGreatDoor.PRm
open Go.RowKit Go.Proofs.YtmhjmicplaolmaaGreatDoorW.PrintWords Go.Proofs.YtmhjmicplaolmaaGreatDoorW.PrintLast Go.Proofs.YtmhjmicplaolmaaGreatDoorW.PrintMore Go.Proofs.YtmhjmicplaolmaaGreatDoor.Aid Go.Proofs.YtmhjmicplaolmaaGreatDoor.AllLoop Go.Proofs.YtmhjmicplaolmaaGreatDoor.Loops Go.Proofs.YtmhjmicplaolmaaGreatDoor.Put Go.Proofs.YtmhjmicplaolmaaGreatDoor.Graph
set_option linter.unusedSimpArgs false
set_option linter.unusedVariables false
def sumW (ns : List S62) : Int := ns.foldl (fun s v => wrap64 (s + (v.f5.size : Int))) 0
theorem bytes_loop {L : Nat → Int → Int → Option Int} (ns : List S62) (hM : ns.length ≤ 1048576)
    (h1 : ∀ k s i, 0 ≤ i → i < (ns.length : Int) → L (k + 1) s i = L k (wrap64 (s + ((r62 ns i).f5.size : Int))) (wrap64 (i + 1)))
    (h2 : ∀ k s i, ¬ i < (ns.length : Int) → L (k + 1) s i = some s) (d : Nat) : ∀ (s i : Int), 0 ≤ i → i ≤ ns.length → (ns.length : Int) - i = d →
    Ev (fun k => L k s i) ((ns.drop i.toNat).foldl (fun s v => wrap64 (s + (v.f5.size : Int))) s) := by
  induction d with
  | zero =>
    intro s i h0 hi hd
    refine Ev.step (fun k => h2 k s i (by omega)) (ev_some ?_)
    rw [List.drop_eq_nil_iff.mpr (by omega)]; rfl
  | succ d ih =>
    intro s i h0 hi hd
    have hlt : i < (ns.length : Int) := by omega
    refine Ev.step (fun k => h1 k s i h0 hlt) ?_
    rw [drop_list ns z62 i h0 hlt, wrap_id (x := i + 1) (by omega) (by omega)]
    exact ih _ (i + 1) (by omega) (by omega) (by omega)
theorem spec_l3Bytes.is (ns : List S62) (room : Int) (hM : ns.length ≤ 1048576) : Ev (fun k => spec_l3Bytes.f k ns room) (sumW ns) := by
  have h := bytes_loop (L := fun k s i => spec_l3Bytes.l0 k s ns (ns.length : Int) i) ns hM (fun k s i h0 h1 => by show spec_l3Bytes.l0 (k + 1) s ns (ns.length : Int) i = _; rw [spec_l3Bytes.l0, if_pos h1, if_pos h0, if_pos h1])
    (fun k s i h => by show spec_l3Bytes.l0 (k + 1) s ns (ns.length : Int) i = _; rw [spec_l3Bytes.l0, if_neg h]) ns.length 0 0 (by omega) (by omega) (by omega)
  exact h
theorem impl_Fs_bytesIn.is (ns : List S62) (room : Int) (hM : ns.length ≤ 1048576) : Ev (fun k => impl_Fs_bytesIn.f k ns room) (sumW ns) := by
  have h := bytes_loop (L := fun k s i => impl_Fs_bytesIn.l0 k s ns (ns.length : Int) i) ns hM (fun k s i h0 h1 => by show impl_Fs_bytesIn.l0 (k + 1) s ns (ns.length : Int) i = _; rw [impl_Fs_bytesIn.l0, if_pos h1, if_pos h0, if_pos h1])
    (fun k s i h => by show impl_Fs_bytesIn.l0 (k + 1) s ns (ns.length : Int) i = _; rw [impl_Fs_bytesIn.l0, if_neg h]) ns.length 0 0 (by omega) (by omega) (by omega)
  exact h
def row (l : List S87) : List Int := l.map fun e => e.f1
def rowsOf (ns : List S62) : List (List Int) := ns.map fun v => row v.f6
theorem row_len (l : List S87) : (row l).length = l.length := List.length_map _
theorem rows_len (ns : List S62) : (rowsOf ns).length = ns.length := List.length_map _
theorem row_drop (l : List S87) (j : Int) (h0 : 0 ≤ j) (h1 : j < (l.length : Int)) : (row l).drop j.toNat = (r87 l j).f1 :: (row l).drop (j + 1).toNat := by
  unfold row
  rw [← List.map_drop, drop_list l z87 j h0 h1, List.map_cons, List.map_drop]; rfl
theorem rows_drop (ns : List S62) (i : Int) (h0 : 0 ≤ i) (h1 : i < (ns.length : Int)) : (rowsOf ns).drop i.toNat = row (r62 ns i).f6 :: (rowsOf ns).drop (i + 1).toNat := by
  unfold rowsOf
  rw [← List.map_drop, drop_list ns z62 i h0 h1, List.map_cons, List.map_drop]; rfl
theorem adj_is (ns : List S62) (a : Int) (h0 : 0 ≤ a) (h1 : a < (ns.length : Int)) : adjOf (rowsOf ns) a = row (r62 ns a).f6 := by
  have hl : a.toNat < ns.length := by omega
  unfold adjOf rowsOf
  rw [List.getD_eq_getElem?_getD, List.getElem?_map, List.getElem?_eq_getElem hl]
  show row (ns[a.toNat]).f6 = row (ns.getD a.toNat z62).f6
  rw [List.getD_eq_getElem?_getD, List.getElem?_eq_getElem hl]; rfl
theorem nd_mem (ns : List S62) (i : Int) (h0 : 0 ≤ i) (h1 : i < (ns.length : Int)) : r62 ns i ∈ ns := getD_mem ns z62 i h0 h1
theorem flat_len : ∀ (ns : List S62), (∀ v ∈ ns, v.f6.length ≤ 1048576) → (rowsOf ns).flatten.length ≤ ns.length * 1048576
  | [], _ => by simp [rowsOf]
  | v :: t, h => by
    have h1 := flat_len t (fun x hx => h x (List.mem_cons_of_mem _ hx))
    have h2 := h v List.mem_cons_self
    show ((row v.f6) ++ (rowsOf t).flatten).length ≤ _
    rw [List.length_append, row_len, List.length_cons, Nat.add_mul]; omega
theorem links_row (ns : List S62) (x i : Int) (l : List S87) (hl : l.length ≤ 1048576) (d : Nat) : ∀ (j c : Int), 0 ≤ j → j ≤ l.length → (l.length : Int) - j = d → 0 ≤ c → c + ((l.length : Int) - j) ≤ 1125899906842624 → ∀ r,
    Ev (fun k => spec_l3Links.l0 k x (c + (((row l).drop j.toNat).count x : Int)) ns (ns.length : Int) (wrap64 (i + 1))) r → Ev (fun k => spec_l3Links.l1 k x c ns (ns.length : Int) i l (l.length : Int) j) r := by
  induction d with
  | zero =>
    intro j c h0 hj hd hc0 hc r hr
    rw [List.drop_eq_nil_iff.mpr (by rw [row_len]; omega)] at hr
    exact Ev.step (fun k => by rw [spec_l3Links.l1, if_neg (by omega)]) (by simpa using hr)
  | succ d ih =>
    intro j c h0 hj hd hc0 hc r hr
    have hlt : j < (l.length : Int) := by omega
    rw [row_drop l j h0 hlt] at hr
    by_cases h : (r87 l j).f1 = x
    · refine Ev.step (fun k => by rw [spec_l3Links.l1, if_pos hlt, if_pos h0, if_pos hlt, if_pos h, wrap_id (by omega) (by omega), wrap_id (by omega) (by omega)]) (ih (j + 1) (c + 1) (by omega) (by omega) (by omega) (by omega) ?_ r ?_)
      · omega
      · rw [h, List.count_cons_self] at hr
        have e : c + 1 + (((row l).drop (j + 1).toNat).count x : Int) = c + ((((row l).drop (j + 1).toNat).count x + 1 : Nat) : Int) := by omega
        rw [e]; exact hr
    · refine Ev.step (fun k => by rw [spec_l3Links.l1, if_pos hlt, if_pos h0, if_pos hlt, if_neg h, wrap_id (by omega) (by omega)]) (ih (j + 1) c (by omega) (by omega) (by omega) hc0 (by omega) r ?_)
      rw [List.count_cons_of_ne h] at hr; exact hr
theorem links_all (ns : List S62) (x : Int) (hn : ns.length ≤ 1048576) (hs : ∀ v ∈ ns, v.f6.length ≤ 1048576) (d : Nat) : ∀ (i c : Int), 0 ≤ i → i ≤ ns.length → (ns.length : Int) - i = d → 0 ≤ c → c + ((((rowsOf ns).drop i.toNat).flatten.length : Nat) : Int) ≤ 1125899906842624 →
    Ev (fun k => spec_l3Links.l0 k x c ns (ns.length : Int) i) (c + (((rowsOf ns).drop i.toNat).flatten.count x : Int)) := by
  induction d with
  | zero =>
    intro i c h0 hi hd hc0 hc
    rw [List.drop_eq_nil_iff.mpr (by rw [rows_len]; omega)]
    exact Ev.step (fun k => by rw [spec_l3Links.l0, if_neg (by omega)]) (ev_some (by simp))
  | succ d ih =>
    intro i c h0 hi hd hc0 hc
    have hlt : i < (ns.length : Int) := by omega
    rw [rows_drop ns i h0 hlt, List.flatten_cons, List.length_append, row_len] at hc
    have hl := hs _ (nd_mem ns i h0 hlt)
    have hct : (row (r62 ns i).f6).count x ≤ (r62 ns i).f6.length := Nat.le_trans List.count_le_length (by rw [row_len]; exact Nat.le_refl _)
    refine Ev.step (fun k => by rw [spec_l3Links.l0, if_pos hlt, if_pos h0, if_pos hlt]) ?_
    refine links_row ns x i (r62 ns i).f6 hl (r62 ns i).f6.length 0 c (by omega) (by omega) (by omega) hc0 (by omega) _ ?_
    rw [wrap_id (x := i + 1) (by omega) (by omega)]
    refine ev_eq (ih (i + 1) _ (by omega) (by omega) (by omega) (by omega) ?_) ?_
    · simp only [Int.toNat_zero, List.drop_zero]; omega
    · rw [rows_drop ns i h0 hlt, List.flatten_cons, List.count_append]
      simp only [Int.toNat_zero, List.drop_zero]; omega
theorem spec_l3Links.is (ns : List S62) (room x : Int) (hn : ns.length ≤ 1048576) (hs : ∀ v ∈ ns, v.f6.length ≤ 1048576) : Ev (fun k => spec_l3Links.f k ns room x) ((links (rowsOf ns) x : Nat) : Int) := by
  have hf := flat_len ns hs
  have h := links_all ns x hn hs ns.length 0 0 (by omega) (by omega) (by omega) (by omega) (by simp only [Int.toNat_zero, List.drop_zero]; omega)
  exact ev_eq h (by unfold links; simp)
def Counts (n : Nat) (out S : List Int) : Prop := out.length = n ∧ ∀ y, 0 ≤ y → y < (n : Int) → rd out y = (S.count y : Int)
theorem Counts.step {n : Nat} {out S : List Int} (h : Counts n out S) (x : Int) (h0 : 0 ≤ x) (h1 : x < (n : Int)) : Counts n (out.set x.toNat (rd out x + 1)) (S ++ [x]) := by
  refine ⟨by rw [List.length_set]; exact h.1, fun y hy0 hy1 => ?_⟩
  have hy := h.2 y hy0 hy1
  have hl := h.1
  unfold rd at hy ⊢
  rw [List.count_append, List.getD_eq_getElem?_getD]
  by_cases e : x = y
  · subst e
    rw [List.getElem?_set_self (by omega), Option.getD_some, hy]
    simp [List.count_cons, List.count_nil]
  · rw [List.getElem?_set_ne (by omega), ← List.getD_eq_getElem?_getD, hy, List.count_cons_of_ne e]; simp
theorem out_row (ns : List S62) (i : Int) (l : List S87) (hl : l.length ≤ 1048576) (hr : ∀ e ∈ l, 0 ≤ e.f1 ∧ e.f1 < (ns.length : Int)) (d : Nat) : ∀ (j : Int) (out S : List Int), 0 ≤ j → j ≤ l.length → (l.length : Int) - j = d → Counts ns.length out S → (S.length : Int) + ((l.length : Int) - j) ≤ 1125899906842624 →
    ∃ out', Counts ns.length out' (S ++ (row l).drop j.toNat) ∧ ∀ r, Ev (fun k => impl_Fs_links.l0 k out' ns (ns.length : Int) (wrap64 (i + 1))) r → Ev (fun k => impl_Fs_links.l1 k out ns (ns.length : Int) i l (l.length : Int) j) r := by
  induction d with
  | zero =>
    intro j out S h0 hj hd hc hS
    rw [List.drop_eq_nil_iff.mpr (by rw [row_len]; omega)]
    exact ⟨out, by simpa using hc, fun r hr => Ev.step (fun k => by rw [impl_Fs_links.l1, if_neg (by omega)]) hr⟩
  | succ d ih =>
    intro j out S h0 hj hd hc hS
    have hlt : j < (l.length : Int) := by omega
    have hx := hr _ (getD_mem l z87 j h0 hlt)
    have hx0 : 0 ≤ (r87 l j).f1 := hx.1
    have hx1 : (r87 l j).f1 < (ns.length : Int) := hx.2
    have ho : (r87 l j).f1 < (out.length : Int) := by rw [hc.1]; exact hx1
    have hv := hc.2 _ hx0 hx1
    have hcl : S.count (r87 l j).f1 ≤ S.length := List.count_le_length
    obtain ⟨out', h1, h2⟩ := ih (j + 1) _ _ (by omega) (by omega) (by omega) (hc.step _ hx0 hx1) (by rw [List.length_append]; simp; omega)
    refine ⟨out', ?_, fun r hr' => Ev.step (fun k => by rw [impl_Fs_links.l1, if_pos hlt, if_pos h0, if_pos hlt, if_pos hx0, if_pos ho, wrap_id (x := rd out _ + 1) (by omega) (by omega), wrap_id (x := j + 1) (by omega) (by omega)]) (h2 r hr')⟩
    rw [row_drop l j h0 hlt]
    simpa using h1
theorem out_all (ns : List S62) (hn : ns.length ≤ 1048576) (hs : ∀ v ∈ ns, v.f6.length ≤ 1048576) (hr : ∀ v ∈ ns, ∀ e ∈ v.f6, 0 ≤ e.f1 ∧ e.f1 < (ns.length : Int)) (d : Nat) : ∀ (i : Int) (out S : List Int), 0 ≤ i → i ≤ ns.length → (ns.length : Int) - i = d → Counts ns.length out S → (S.length : Int) + ((((rowsOf ns).drop i.toNat).flatten.length : Nat) : Int) ≤ 1125899906842624 →
    ∃ out', Counts ns.length out' (S ++ ((rowsOf ns).drop i.toNat).flatten) ∧ Ev (fun k => impl_Fs_links.l0 k out ns (ns.length : Int) i) out' := by
  induction d with
  | zero =>
    intro i out S h0 hi hd hc hS
    rw [List.drop_eq_nil_iff.mpr (by rw [rows_len]; omega)]
    exact ⟨out, by simpa using hc, Ev.step (fun k => by rw [impl_Fs_links.l0, if_neg (by omega)]) (Ev.now _)⟩
  | succ d ih =>
    intro i out S h0 hi hd hc hS
    have hlt : i < (ns.length : Int) := by omega
    rw [rows_drop ns i h0 hlt, List.flatten_cons, List.length_append, row_len] at hS
    have hm := nd_mem ns i h0 hlt
    obtain ⟨o1, c1, e1⟩ := out_row ns i (r62 ns i).f6 (hs _ hm) (hr _ hm) (r62 ns i).f6.length 0 out S (by omega) (by omega) (by omega) hc (by omega)
    obtain ⟨o2, c2, e2⟩ := ih (i + 1) o1 _ (by omega) (by omega) (by omega) c1 (by simp only [Int.toNat_zero, List.drop_zero, List.length_append, row_len]; omega)
    refine ⟨o2, ?_, Ev.step (fun k => by rw [impl_Fs_links.l0, if_pos hlt, if_pos h0, if_pos hlt]) (e1 _ ?_)⟩
    · rw [rows_drop ns i h0 hlt, List.flatten_cons]
      simpa using c2
    · rw [wrap_id (x := i + 1) (by omega) (by omega)]; exact e2
theorem impl_Fs_links.is (ns : List S62) (room : Int) (hn : ns.length ≤ 1048576) (hs : ∀ v ∈ ns, v.f6.length ≤ 1048576) (hr : ∀ v ∈ ns, ∀ e ∈ v.f6, 0 ≤ e.f1 ∧ e.f1 < (ns.length : Int)) :
    ∃ out : List Int, Ev (fun k => impl_Fs_links.f k ns room) out ∧ out.length = ns.length ∧ ∀ y, 0 ≤ y → y < (ns.length : Int) → rd out y = ((links (rowsOf ns) y : Nat) : Int) := by
  have hf := flat_len ns hs
  obtain ⟨out, hc, he⟩ := out_all ns hn hs hr ns.length 0 (List.replicate ((ns.length : Int) : Int).toNat 0) [] (by omega) (by omega) (by omega)
    ⟨by simp, fun y h0 h1 => by unfold rd; rw [List.getD_eq_getElem?_getD, List.getElem?_replicate, if_pos (by omega)]; simp⟩ (by simp only [Int.toNat_zero, List.drop_zero, List.length_nil]; omega)
  unfold impl_Fs_links.f
  refine ⟨out, ev_pos (by omega) (ev_pos (by omega) he), hc.1, fun y h0 h1 => ?_⟩
  rw [hc.2 y h0 h1]; unfold links; simp
end Go.Proofs.YtmhjmicplaolmaaGreatDoor.PRm
namespace Go.Proofs.YtmhjmicplaolmaaGreatDoor.PRm
open Go.RowKit Go.Proofs.YtmhjmicplaolmaaGreatDoorW.PrintWords Go.Proofs.YtmhjmicplaolmaaGreatDoorW.PrintLast Go.Proofs.YtmhjmicplaolmaaGreatDoorW.PrintMore Go.Proofs.YtmhjmicplaolmaaGreatDoor.Aid Go.Proofs.YtmhjmicplaolmaaGreatDoor.AllLoop Go.Proofs.YtmhjmicplaolmaaGreatDoor.Loops Go.Proofs.YtmhjmicplaolmaaGreatDoor.Put Go.Proofs.YtmhjmicplaolmaaGreatDoor.Graph
set_option linter.unusedSimpArgs false
set_option linter.unusedVariables false
theorem met_loop (ns : List S62) (room : Int) (l : List S87) (d' : Nat) (hl : l.length ≤ 1048576)
    (ih : ∀ (met : List Int) (a : Int), Rising met → (∀ x ∈ met, 0 ≤ x ∧ x < (ns.length : Int)) → a ∈ row l → ns.length ≤ d' + met.length → ∃ r, Ev (fun k => spec_l3Met.f k ns room a met) r ∧ Go.Proofs.YtmhjmicplaolmaaGreatDoor.Graph.Met (adjOf (rowsOf ns)) ns.length [a] met r) (d : Nat) :
    ∀ (j : Int) (met : List Int), 0 ≤ j → j ≤ l.length → (l.length : Int) - j = d → Rising met → (∀ x ∈ met, 0 ≤ x ∧ x < (ns.length : Int)) → ns.length ≤ d' + met.length →
    ∃ r, Ev (fun k => spec_l3Met.l0 k met l (l.length : Int) j ns room) r ∧ Go.Proofs.YtmhjmicplaolmaaGreatDoor.Graph.Met (adjOf (rowsOf ns)) ns.length ((row l).drop j.toNat) met r := by
  induction d with
  | zero =>
    intro j met h0 hj hd hm hb hn
    rw [List.drop_eq_nil_iff.mpr (by rw [row_len]; omega)]
    exact ⟨met, Ev.step (fun k => by rw [spec_l3Met.l0, if_neg (by omega)]) (Ev.now _), Go.Proofs.YtmhjmicplaolmaaGreatDoor.Graph.Met.nil hm hb⟩
  | succ d ihd =>
    intro j met h0 hj hd hm hb hn
    have hlt : j < (l.length : Int) := by omega
    obtain ⟨r1, e1, m1⟩ := ih met (r87 l j).f1 hm hb (List.mem_map.2 ⟨_, getD_mem l z87 j h0 hlt, rfl⟩) hn
    obtain ⟨r2, e2, m2⟩ := ihd (j + 1) r1 (by omega) (by omega) (by omega) m1.rising m1.bound (by have := m1.len; omega)
    refine ⟨r2, Ev.step (fun k => by rw [spec_l3Met.l0, if_pos hlt, if_pos h0, if_pos hlt]) (ev_bind e1 ?_), ?_⟩
    · rw [wrap_id (x := j + 1) (by omega) (by omega)]; exact e2
    · rw [row_drop l j h0 hlt]; exact m1.cons m2
theorem spec_l3Met.is (ns : List S62) (room : Int) (hn : ns.length ≤ 1048576) (hs : ∀ v ∈ ns, v.f6.length ≤ 1048576) (hr : ∀ v ∈ ns, ∀ x ∈ row v.f6, 0 ≤ x ∧ x < (ns.length : Int)) (d : Nat) :
    ∀ (met : List Int) (a : Int), Rising met → (∀ x ∈ met, 0 ≤ x ∧ x < (ns.length : Int)) → 0 ≤ a → a < (ns.length : Int) → ns.length ≤ d + met.length → ∃ r, Ev (fun k => spec_l3Met.f k ns room a met) r ∧ Go.Proofs.YtmhjmicplaolmaaGreatDoor.Graph.Met (adjOf (rowsOf ns)) ns.length [a] met r := by
  induction d with
  | zero =>
    intro met a hm hb h0 h1 hd
    have hml := rising_len hm hb (by omega)
    obtain ⟨t, ht, e⟩ := spec_l1Has.is met a (by omega)
    by_cases ha : a ∈ met
    · exact ⟨met, Ev.step (fun k => by rw [spec_l3Met.f]) (ev_bind ht (ev_pos (e.2 ha) (Ev.now _))), Go.Proofs.YtmhjmicplaolmaaGreatDoor.Graph.Met.has hm hb ha⟩
    · have hp := rising_len (a := 0) (n := (ns.length : Int)) (put_rising (n := a) hm) (fun x hx => by
        rcases mem_put.1 hx with rfl | hx
        · exact ⟨h0, h1⟩
        · exact hb x hx) (by omega)
      rw [put_len ha] at hp
      omega
  | succ d ih =>
    intro met a hm hb h0 h1 hd
    have hml := rising_len hm hb (by omega)
    obtain ⟨t, ht, e⟩ := spec_l1Has.is met a (by omega)
    by_cases ha : a ∈ met
    · exact ⟨met, Ev.step (fun k => by rw [spec_l3Met.f]) (ev_bind ht (ev_pos (e.2 ha) (Ev.now _))), Go.Proofs.YtmhjmicplaolmaaGreatDoor.Graph.Met.has hm hb ha⟩
    · have hm' := nd_mem ns a h0 h1
      obtain ⟨r, e2, m2⟩ := met_loop ns room (r62 ns a).f6 d (hs _ hm') (fun met' a' hm1 hb1 ha1 hd1 => ih met' a' hm1 hb1 (hr _ hm' _ ha1).1 (hr _ hm' _ ha1).2 hd1) (r62 ns a).f6.length 0 (put met a) (by omega) (by omega) (by omega) (put_rising hm) (fun x hx => by
        rcases mem_put.1 hx with rfl | hx
        · exact ⟨h0, h1⟩
        · exact hb x hx) (by rw [put_len ha]; omega)
      refine ⟨r, Ev.step (fun k => by rw [spec_l3Met.f]) (ev_bind ht (ev_neg (fun h => ha (e.1 h)) (ev_bind (spec_l1Put.is met a (by omega)) (ev_pos h0 (ev_pos h1 e2))))), ?_⟩
      refine Go.Proofs.YtmhjmicplaolmaaGreatDoor.Graph.Met.step ha ?_
      rw [adj_is ns a h0 h1]
      simpa using m2
end Go.Proofs.YtmhjmicplaolmaaGreatDoor.PRm
namespace Go.Proofs.YtmhjmicplaolmaaGreatDoor.PRm
open Go.RowKit Go.Proofs.YtmhjmicplaolmaaGreatDoorW.PrintWords Go.Proofs.YtmhjmicplaolmaaGreatDoorW.PrintLast Go.Proofs.YtmhjmicplaolmaaGreatDoorW.PrintMore Go.Proofs.YtmhjmicplaolmaaGreatDoor.Aid Go.Proofs.YtmhjmicplaolmaaGreatDoor.AllLoop Go.Proofs.YtmhjmicplaolmaaGreatDoor.Loops Go.Proofs.YtmhjmicplaolmaaGreatDoor.Put Go.Proofs.YtmhjmicplaolmaaGreatDoor.Graph
set_option linter.unusedSimpArgs false
set_option linter.unusedVariables false
def Head (ns : List S62) (room : Int) : Prop := (1 ≤ ns.length ∧ ns.length ≤ 40) ∧ (0 ≤ room ∧ room ≤ 1000) ∧ sumW ns ≤ room ∧ (r62 ns 0).f0 = 2
def All1 (lo : Int) (ns : List S62) : Prop := ∀ i, 0 ≤ i → i < (ns.length : Int) → Good1 lo ns (r62 ns i)
def EndOk (ns : List S62) (met : List Int) (x : Int) : Prop :=
  (x = 0 → links (rowsOf ns) 0 = 0) ∧ (0 < x → (r62 ns x).f0 = 2 → links (rowsOf ns) x = 1) ∧ ((r62 ns x).f0 ≠ 0 → x ∈ met)
theorem small_lists {ns : List S62} (hs : ∀ v ∈ ns, Small1 v) : ∀ v ∈ ns, v.f6.length ≤ 1048576 := fun v hv => (hs v hv).2.1
theorem spec_l1_is (ns : List S62) (room : Int) (hn : ns.length ≤ 1048576) (hs : ∀ v ∈ ns, Small1 v) (met : List Int) (hm : met.length ≤ 8796093022208) :
    ∃ r, Ev (fun k => spec_l3Good.l1 k met ns (ns.length : Int) 0 ns room) r ∧ (r = true ↔ ∀ i, 0 ≤ i → i < (ns.length : Int) → EndOk ns met i) := by
  have hround : ∀ i, 0 ≤ i → i < (ns.length : Int) → (∀ j, 0 ≤ j → j < i → EndOk ns met j) → Round (fun k i => spec_l3Good.l1 k met ns (ns.length : Int) i ns room) (EndOk ns met) i := fun i h0 h1 _ => by
    have hl := spec_l3Links.is ns room i hn (small_lists hs)
    obtain ⟨t, ht, et⟩ := spec_l1Has.is met i hm
    have hw1 : wrap64 (i + 1) = i + 1 := wrap_id (by omega) (by omega)
    have hz : i = 0 ↔ ¬ i > 0 := by omega
    have last : ∀ r, Ev (fun k => spec_l3Good.l1 k met ns (ns.length : Int) (i + 1) ns room) r → ((r62 ns i).f0 ≠ 0 → i ∈ met) → Ev (fun k => if (r62 ns i).f0 = 0 then spec_l3Good.l1 k met ns (ns.length : Int) (wrap64 (i + 1)) ns room else ((spec_l1Has.f k met i).bind fun t => if t = true then spec_l3Good.l1 k met ns (ns.length : Int) (wrap64 (i + 1)) ns room else some false)) r := fun r hr hi => by
      rw [hw1]
      exact ev_ite (fun _ => hr) (fun h => ev_bind ht (ev_pos (et.2 (hi h)) hr))
    have lastF : ¬ ((r62 ns i).f0 ≠ 0 → i ∈ met) → Ev (fun k => if (r62 ns i).f0 = 0 then spec_l3Good.l1 k met ns (ns.length : Int) (wrap64 (i + 1)) ns room else ((spec_l1Has.f k met i).bind fun t => if t = true then spec_l3Good.l1 k met ns (ns.length : Int) (wrap64 (i + 1)) ns room else some false)) false := fun hi =>
      ev_ite (fun h => absurd (fun h' => absurd h h') hi) (fun h => ev_bind ht (ev_neg (fun e => hi (fun _ => et.1 e)) (Ev.now _)))
    by_cases hi : i = 0
    · by_cases hc : links (rowsOf ns) 0 = 0
      · have hstep : ∀ {r : Bool}, Ev (fun k => if (r62 ns i).f0 = 0 then spec_l3Good.l1 k met ns (ns.length : Int) (wrap64 (i + 1)) ns room else ((spec_l1Has.f k met i).bind fun t => if t = true then spec_l3Good.l1 k met ns (ns.length : Int) (wrap64 (i + 1)) ns room else some false)) r → Ev (fun k => spec_l3Good.l1 k met ns (ns.length : Int) i ns room) r := fun h =>
          Ev.step (fun k => by show spec_l3Good.l1 (k + 1) met ns (ns.length : Int) i ns room = _; rw [spec_l3Good.l1, if_pos h1, if_pos h0, if_pos h1]) (ev_bind hl (ev_pos hi (ev_neg (show ¬ (((links (rowsOf ns) i : Nat) : Int) > 0) by rw [hi]; omega) (ev_neg (show ¬ (i > 0) by omega) h))))
        by_cases hm2 : (r62 ns i).f0 ≠ 0 → i ∈ met
        · exact Or.inl ⟨⟨fun _ => hc, fun h => by omega, hm2⟩, fun r hr => hstep (last r hr hm2)⟩
        · exact Or.inr ⟨fun h => hm2 h.2.2, hstep (lastF hm2)⟩
      · refine Or.inr ⟨fun h => hc (h.1 hi), Ev.step (fun k => by show spec_l3Good.l1 (k + 1) met ns (ns.length : Int) i ns room = _; rw [spec_l3Good.l1, if_pos h1, if_pos h0, if_pos h1]) (ev_bind hl (ev_pos hi (ev_pos (show ((links (rowsOf ns) i : Nat) : Int) > 0 by rw [hi]; omega) (Ev.now _))))⟩
    · have hp : i > 0 := by omega
      by_cases hd : (r62 ns i).f0 = 2
      · by_cases hc : links (rowsOf ns) i = 1
        · have hstep : ∀ {r : Bool}, Ev (fun k => if (r62 ns i).f0 = 0 then spec_l3Good.l1 k met ns (ns.length : Int) (wrap64 (i + 1)) ns room else ((spec_l1Has.f k met i).bind fun t => if t = true then spec_l3Good.l1 k met ns (ns.length : Int) (wrap64 (i + 1)) ns room else some false)) r → Ev (fun k => spec_l3Good.l1 k met ns (ns.length : Int) i ns room) r := fun h =>
            Ev.step (fun k => by show spec_l3Good.l1 (k + 1) met ns (ns.length : Int) i ns room = _; rw [spec_l3Good.l1, if_pos h1, if_pos h0, if_pos h1]) (ev_bind hl (ev_neg hi (ev_pos hp (ev_pos hd (ev_pos (show ((links (rowsOf ns) i : Nat) : Int) = 1 by omega) h)))))
          by_cases hm2 : (r62 ns i).f0 ≠ 0 → i ∈ met
          · exact Or.inl ⟨⟨fun h => absurd h hi, fun _ _ => hc, hm2⟩, fun r hr => hstep (last r hr hm2)⟩
          · exact Or.inr ⟨fun h => hm2 h.2.2, hstep (lastF hm2)⟩
        · refine Or.inr ⟨fun h => hc (h.2.1 hp hd), Ev.step (fun k => by show spec_l3Good.l1 (k + 1) met ns (ns.length : Int) i ns room = _; rw [spec_l3Good.l1, if_pos h1, if_pos h0, if_pos h1]) (ev_bind hl (ev_neg hi (ev_pos hp (ev_pos hd (ev_neg (show ¬ (((links (rowsOf ns) i : Nat) : Int) = 1) by omega) (Ev.now _))))))⟩
      · have hstep : ∀ {r : Bool}, Ev (fun k => if (r62 ns i).f0 = 0 then spec_l3Good.l1 k met ns (ns.length : Int) (wrap64 (i + 1)) ns room else ((spec_l1Has.f k met i).bind fun t => if t = true then spec_l3Good.l1 k met ns (ns.length : Int) (wrap64 (i + 1)) ns room else some false)) r → Ev (fun k => spec_l3Good.l1 k met ns (ns.length : Int) i ns room) r := fun h =>
          Ev.step (fun k => by show spec_l3Good.l1 (k + 1) met ns (ns.length : Int) i ns room = _; rw [spec_l3Good.l1, if_pos h1, if_pos h0, if_pos h1]) (ev_bind hl (ev_neg hi (ev_pos hp (ev_neg hd h))))
        by_cases hm2 : (r62 ns i).f0 ≠ 0 → i ∈ met
        · exact Or.inl ⟨⟨fun h => absurd h hi, fun _ h => absurd h hd, hm2⟩, fun r hr => hstep (last r hr hm2)⟩
        · exact Or.inr ⟨fun h => hm2 h.2.2, hstep (lastF hm2)⟩
  obtain ⟨r, hr, e⟩ := all_of (L := fun k i => spec_l3Good.l1 k met ns (ns.length : Int) i ns room) (P := EndOk ns met) (Q := True) (N := ns.length) (by omega) hround
    (fun _ => ⟨true, Ev.step (fun k => by show spec_l3Good.l1 (k + 1) met ns (ns.length : Int) (ns.length : Int) ns room = _; rw [spec_l3Good.l1, if_neg (by omega)]) (Ev.now _), by simp⟩)
  exact ⟨r, hr, by simpa using e⟩
theorem good_row {lo : Int} {ns : List S62} {v : S62} (h : Good1 lo ns v) : ∀ x ∈ row v.f6, v.f0 = 2 ∧ To lo ns x := by
  intro x hx
  obtain ⟨e, he, rfl⟩ := List.mem_map.1 hx
  obtain ⟨i, hi, ei⟩ := List.mem_iff_getElem.1 he
  by_cases h0 : v.f0 = 0
  · have := (h.1 h0).2.2.2.2.2; omega
  · rcases (h.2 h0).2.2.2.2 with h' | h' | h'
    · omega
    · refine ⟨h'.1, ?_⟩
      have := (h'.2.2 i (by omega) (by omega)).2.2
      have e' : r87 v.f6 (i : Int) = e := by
        show v.f6.getD (i : Int).toNat z87 = e
        rw [List.getD_eq_getElem?_getD, show (i : Int).toNat = i by omega, List.getElem?_eq_getElem hi]; exact ei
      rw [e'] at this; exact this
    · omega
theorem all_mem {lo : Int} {ns : List S62} (h : All1 lo ns) : ∀ v ∈ ns, Good1 lo ns v := by
  intro v hv
  obtain ⟨i, hi, e⟩ := List.mem_iff_getElem.1 hv
  have := h i (by omega) (by omega)
  have e' : r62 ns (i : Int) = v := by
    show ns.getD (i : Int).toNat z62 = v
    rw [List.getD_eq_getElem?_getD, show (i : Int).toNat = i by omega, List.getElem?_eq_getElem hi]; exact e
  rw [e'] at this; exact this
def SpecGood (ns : List S62) (room : Int) : Prop := Head ns room ∧ All1 1 ns ∧ ∀ met, Go.Proofs.YtmhjmicplaolmaaGreatDoor.Graph.Met (adjOf (rowsOf ns)) ns.length [0] [] met → ∀ i, 0 ≤ i → i < (ns.length : Int) → EndOk ns met i
theorem spec_l0_is (ns : List S62) (room : Int) (hn : 1 ≤ ns.length) (hn' : ns.length ≤ 1048576) (hs : ∀ v ∈ ns, Small1 v) :
    ∃ r, Ev (fun k => spec_l3Good.l0 k ns (ns.length : Int) 0 ns room) r ∧ (r = true ↔ All1 1 ns ∧ ∀ met, Go.Proofs.YtmhjmicplaolmaaGreatDoor.Graph.Met (adjOf (rowsOf ns)) ns.length [0] [] met → ∀ i, 0 ≤ i → i < (ns.length : Int) → EndOk ns met i) := by
  have hround : ∀ i, 0 ≤ i → i < (ns.length : Int) → (∀ j, 0 ≤ j → j < i → Good1 1 ns (r62 ns j)) → Round (fun k i => spec_l3Good.l0 k ns (ns.length : Int) i ns room) (fun i => Good1 1 ns (r62 ns i)) i := fun i h0 h1 _ => by
    obtain ⟨t, ht, et⟩ := spec_l3Node.is ns room (r62 ns i) hn hn' (hs _ (nd_mem ns i h0 h1))
    have hw1 : wrap64 (i + 1) = i + 1 := wrap_id (by omega) (by omega)
    by_cases h : Good1 1 ns (r62 ns i)
    · exact Or.inl ⟨h, fun r hr => Ev.step (fun k => by show spec_l3Good.l0 (k + 1) ns (ns.length : Int) i ns room = _; rw [spec_l3Good.l0, if_pos h1, if_pos h0, if_pos h1, hw1]) (ev_bind ht (ev_pos (et.2 h) hr))⟩
    · exact Or.inr ⟨h, Ev.step (fun k => by show spec_l3Good.l0 (k + 1) ns (ns.length : Int) i ns room = _; rw [spec_l3Good.l0, if_pos h1, if_pos h0, if_pos h1, hw1]) (ev_bind ht (ev_neg (fun e => h (et.1 e)) (Ev.now _)))⟩
  refine all_of (L := fun k i => spec_l3Good.l0 k ns (ns.length : Int) i ns room) (P := fun i => Good1 1 ns (r62 ns i)) (N := ns.length) (by omega) hround (fun hall => ?_)
  have hrow : ∀ v ∈ ns, ∀ x ∈ row v.f6, 0 ≤ x ∧ x < (ns.length : Int) := fun v hv x hx => by
    have := (good_row (all_mem hall v hv) x hx).2
    exact ⟨by have := this.1; omega, this.2.1⟩
  obtain ⟨met, hm, em⟩ := spec_l3Met.is ns room hn' (small_lists hs) hrow ns.length [] 0 (List.Pairwise.nil) (fun x hx => by cases hx) (by omega) (by omega) (by simp)
  have hml := rising_len em.rising em.bound (by omega)
  obtain ⟨r, hr, er⟩ := spec_l1_is ns room hn' hs met (by omega)
  refine ⟨r, Ev.step (fun k => by show spec_l3Good.l0 (k + 1) ns (ns.length : Int) (ns.length : Int) ns room = _; rw [spec_l3Good.l0, if_neg (by omega)]) (ev_bind hm hr), ?_⟩
  rw [er]
  refine ⟨fun h met' em' => ?_, fun h => h met em⟩
  have : met' = met := rising_ext em'.rising em.rising (fun x => by rw [em'.reach, em.reach])
  rw [this]; exact h
theorem spec_l3Good.is (ns : List S62) (room : Int) (hn' : ns.length ≤ 1048576) (hs : ∀ v ∈ ns, Small1 v) : ∃ r, Ev (fun k => spec_l3Good.f k ns room) r ∧ (r = true ↔ SpecGood ns room) := by
  have hj : Ev (fun k => spec_l3Good.j0 k true ns room) false := Ev.step (fun k => by rw [spec_l3Good.j0, if_pos rfl]) (Ev.now _)
  unfold spec_l3Good.f
  by_cases c1 : 1 ≤ (ns.length : Int) ∧ (ns.length : Int) ≤ 40
  rotate_left
  · exact ⟨false, ev_bind0 (spec_l1In.is _ _ _) (ev_neg (by simpa using c1) hj), fun h => (by cases h), fun h => absurd h.1.1 (by omega)⟩
  by_cases c2 : 0 ≤ room ∧ room ≤ 1000
  rotate_left
  · exact ⟨false, ev_bind0 (spec_l1In.is _ _ _) (ev_pos (decide_eq_true c1) (ev_bind0 (spec_l1In.is _ _ _) (ev_neg (by simpa using c2) hj))), fun h => (by cases h), fun h => absurd h.1.2.1 c2⟩
  have hb := spec_l3Bytes.is ns room hn'
  by_cases c3 : sumW ns > room
  · exact ⟨false, ev_bind0 (spec_l1In.is _ _ _) (ev_pos (decide_eq_true c1) (ev_bind0 (spec_l1In.is _ _ _) (ev_pos (decide_eq_true c2) (ev_bind hb (ev_pos c3 hj))))), fun h => (by cases h), fun h => absurd h.1.2.2.1 (by omega)⟩
  by_cases c4 : (r62 ns 0).f0 = 2
  rotate_left
  · exact ⟨false, ev_bind0 (spec_l1In.is _ _ _) (ev_pos (decide_eq_true c1) (ev_bind0 (spec_l1In.is _ _ _) (ev_pos (decide_eq_true c2) (ev_bind hb (ev_neg c3 (ev_pos (by omega) (by rw [bne_iff_ne.mpr c4]; exact hj))))))), fun h => (by cases h), fun h => absurd h.1.2.2.2 c4⟩
  obtain ⟨r, hr, e⟩ := spec_l0_is ns room (by omega) hn' hs
  refine ⟨r, ev_bind0 (spec_l1In.is _ _ _) (ev_pos (decide_eq_true c1) (ev_bind0 (spec_l1In.is _ _ _) (ev_pos (decide_eq_true c2) (ev_bind hb (ev_neg c3 (ev_pos (by omega) (by rw [bne_eq_false_iff_eq.mpr c4]; exact Ev.step (fun k => by rw [spec_l3Good.j0, if_neg (by decide)]) hr))))))), ?_⟩
  rw [e]
  exact ⟨fun h => ⟨⟨by omega, c2, by omega, c4⟩, h⟩, fun h => h.2⟩
end Go.Proofs.YtmhjmicplaolmaaGreatDoor.PRm
namespace Go.Proofs.YtmhjmicplaolmaaGreatDoor.PRm
open Go.RowKit Go.Proofs.YtmhjmicplaolmaaGreatDoorW.PrintWords Go.Proofs.YtmhjmicplaolmaaGreatDoorW.PrintLast Go.Proofs.YtmhjmicplaolmaaGreatDoorW.PrintMore Go.Proofs.YtmhjmicplaolmaaGreatDoor.Aid Go.Proofs.YtmhjmicplaolmaaGreatDoor.AllLoop Go.Proofs.YtmhjmicplaolmaaGreatDoor.Loops Go.Proofs.YtmhjmicplaolmaaGreatDoor.Put Go.Proofs.YtmhjmicplaolmaaGreatDoor.Graph
set_option linter.unusedSimpArgs false
set_option linter.unusedVariables false
def dir (ns : List S62) (x : Int) : Prop := (r62 ns x).f0 = 2
def DirTree (ns : List S62) : Prop := Go.Proofs.YtmhjmicplaolmaaGreatDoor.Graph.Tree (adjOf (rowsOf ns)) (dir ns) ns.length
def LinkOk (ns : List S62) (x : Int) : Prop := (r62 ns x).f0 ≠ 0 → (x = 0 → links (rowsOf ns) 0 = 0) ∧ (0 < x → 1 ≤ links (rowsOf ns) x ∧ (dir ns x → links (rowsOf ns) x = 1))
def Seen (n : Nat) (met : List Bool) (S : List Int) : Prop := met.length = n ∧ ∀ y, 0 ≤ y → y < (n : Int) → (rdOf false met y = true ↔ y ∈ S)
theorem Seen.step {n : Nat} {met : List Bool} {S : List Int} (h : Seen n met S) (x : Int) (h0 : 0 ≤ x) (h1 : x < (n : Int)) : Seen n (met.set x.toNat true) (S ++ [x]) := by
  refine ⟨by rw [List.length_set]; exact h.1, fun y hy0 hy1 => ?_⟩
  have hy := h.2 y hy0 hy1
  have hl := h.1
  unfold rdOf at hy ⊢
  rw [List.mem_append, List.mem_singleton, ← hy, List.getD_eq_getElem?_getD]
  by_cases e : x = y
  · subst e
    rw [List.getElem?_set_self (by omega), Option.getD_some]; simp
  · rw [List.getElem?_set_ne (by omega), ← List.getD_eq_getElem?_getD]
    exact ⟨Or.inl, fun h => h.resolve_right (fun h' => e h'.symm)⟩
theorem impl_l4_is (ns : List S62) (hn : ns.length ≤ 1048576) {met : List Bool} {q : List Int} (hm : Seen ns.length met q) :
    ∃ r, Ev (fun k => impl_GoodFs.l4 k met ns (ns.length : Int) 0) r ∧ (r = true ↔ ∀ x, 0 ≤ x → x < (ns.length : Int) → dir ns x → x ∈ q) := by
  have hround : ∀ i, 0 ≤ i → i < (ns.length : Int) → (∀ j, 0 ≤ j → j < i → (dir ns j → j ∈ q)) → Round (fun k i => impl_GoodFs.l4 k met ns (ns.length : Int) i) (fun i => dir ns i → i ∈ q) i := fun i h0 h1 _ => by
    have hw1 : wrap64 (i + 1) = i + 1 := wrap_id (by omega) (by omega)
    have hl : i < (met.length : Int) := by rw [hm.1]; exact h1
    have hmi := hm.2 i h0 h1
    by_cases hd : (r62 ns i).f0 = 2
    · by_cases hq : rdOf false met i = true
      · exact Or.inl ⟨fun _ => hmi.1 hq, fun r hr => Ev.step (fun k => by show impl_GoodFs.l4 (k + 1) met ns (ns.length : Int) i = _; rw [impl_GoodFs.l4, if_pos h1, if_pos h0, if_pos h1, if_pos hd, if_pos hl, if_pos hq, hw1]) hr⟩
      · exact Or.inr ⟨fun h => hq (hmi.2 (h hd)), Ev.step (fun k => by show impl_GoodFs.l4 (k + 1) met ns (ns.length : Int) i = _; rw [impl_GoodFs.l4, if_pos h1, if_pos h0, if_pos h1, if_pos hd, if_pos hl, if_neg hq]) (Ev.now _)⟩
    · exact Or.inl ⟨fun h => absurd h hd, fun r hr => Ev.step (fun k => by show impl_GoodFs.l4 (k + 1) met ns (ns.length : Int) i = _; rw [impl_GoodFs.l4, if_pos h1, if_pos h0, if_pos h1, if_neg hd, hw1]) hr⟩
  obtain ⟨r, hr, e⟩ := all_of (L := fun k i => impl_GoodFs.l4 k met ns (ns.length : Int) i) (P := fun i => dir ns i → i ∈ q) (Q := True) (N := ns.length) (by omega) hround
    (fun _ => ⟨true, Ev.step (fun k => by show impl_GoodFs.l4 (k + 1) met ns (ns.length : Int) (ns.length : Int) = _; rw [impl_GoodFs.l4, if_neg (by omega)]) (Ev.now _), by simp⟩)
  exact ⟨r, hr, by simpa using e⟩
theorem impl_l3_is (ns : List S62) (room : Int) (hn : ns.length ≤ 1048576) (T : DirTree ns) {met : List Bool} {i : Nat} {c : Int} {l : List S87} (hl : l.length ≤ 1048576) (hadj : adjOf (rowsOf ns) c = row l) (d : Nat) :
    ∀ (j : Int) (q : List Int), 0 ≤ j → j ≤ l.length → (l.length : Int) - j = d → Go.Proofs.YtmhjmicplaolmaaGreatDoor.Graph.Queue (adjOf (rowsOf ns)) (dir ns) ns.length q i ((row l).take j.toNat) → q[i]? = some c → Seen ns.length met (q.take (i + 1)) →
    ∃ q' : List Int, Go.Proofs.YtmhjmicplaolmaaGreatDoor.Graph.Queue (adjOf (rowsOf ns)) (dir ns) ns.length q' i (row l) ∧ q'[i]? = some c ∧ Seen ns.length met (q'.take (i + 1)) ∧ ∀ r, Ev (fun k => impl_GoodFs.l2 k met q' (wrap64 ((i : Int) + 1)) ns room) r → Ev (fun k => impl_GoodFs.l3 k met q (i : Int) l (l.length : Int) j ns room) r := by
  induction d with
  | zero =>
    intro j q h0 hj hd hq hc hm
    rw [List.take_of_length_le (by rw [row_len]; omega)] at hq
    exact ⟨q, hq, hc, hm, fun r hr => Ev.step (fun k => by rw [impl_GoodFs.l3, if_neg (by omega)]) hr⟩
  | succ d ih =>
    intro j q h0 hj hd hq hc hm
    have hlt : j < (l.length : Int) := by omega
    have hcb := hq.bound c (List.mem_of_getElem? hc)
    have hs : row l = (row l).take j.toNat ++ (r87 l j).f1 :: (row l).drop (j + 1).toNat := by rw [← row_drop l j h0 hlt, List.take_append_drop]
    have hea : (r87 l j).f1 ∈ adjOf (rowsOf ns) c := by rw [hadj, hs]; simp
    have heb := T.range c hcb.1 hcb.2.1 _ hea
    have htk : (row l).take (j + 1).toNat = (row l).take j.toNat ++ [(r87 l j).f1] := by
      have h1 : (row l).take (j + 1).toNat = ((row l).take j.toNat ++ (r87 l j).f1 :: (row l).drop (j + 1).toNat).take (j + 1).toNat := by rw [← hs]
      rw [h1, List.take_append, List.take_of_length_le (by rw [List.length_take, row_len]; omega)]
      congr 1
      rw [List.length_take, row_len, show (j + 1).toNat - min j.toNat l.length = 1 by omega]; rfl
    have hw : wrap64 (j + 1) = j + 1 := wrap_id (by omega) (by omega)
    have hml : (r87 l j).f1 < (met.length : Int) := by rw [hm.1]; exact heb.2
    by_cases hdr : (r62 ns (r87 l j).f1).f0 = 2
    · have hfr := hq.fresh T hc (by rw [hadj]; exact hs) hdr
      have hq2 := hq.push T hc (by rw [hadj]; exact hs) hdr
      have hil : i < q.length := (List.getElem?_eq_some_iff.1 hc).1
      have hnm : ¬ rdOf false met (r87 l j).f1 = true := fun h => hfr (List.mem_of_mem_take ((hm.2 _ heb.1 heb.2).1 h))
      have hql := hq.len (by omega)
      rw [← htk] at hq2
      obtain ⟨q', a1, a2, a3, a4⟩ := ih (j + 1) (q ++ [(r87 l j).f1]) (by omega) (by omega) (by omega) hq2 (by rw [List.getElem?_append_left hil]; exact hc) (by rw [List.take_append_of_le_length (by omega)]; exact hm)
      refine ⟨q', a1, a2, a3, fun r hr => Ev.step (fun k => by rw [impl_GoodFs.l3, if_pos hlt, if_pos h0, if_pos hlt, if_pos heb.1, if_pos heb.2, if_pos hdr, if_pos hml, if_neg hnm, if_pos (by omega), hw]) (a4 r hr)⟩
    · have hq2 := hq.skip (e := (r87 l j).f1) hdr
      rw [← htk] at hq2
      obtain ⟨q', a1, a2, a3, a4⟩ := ih (j + 1) q (by omega) (by omega) (by omega) hq2 hc hm
      refine ⟨q', a1, a2, a3, fun r hr => Ev.step (fun k => by rw [impl_GoodFs.l3, if_pos hlt, if_pos h0, if_pos hlt, if_pos heb.1, if_pos heb.2, if_neg hdr, hw]) (a4 r hr)⟩
theorem impl_l2_is (ns : List S62) (room : Int) (hn : ns.length ≤ 1048576) (hs : ∀ v ∈ ns, Small1 v) (T : DirTree ns) (d : Nat) : ∀ (i : Nat) (met : List Bool) (q : List Int), ns.length ≤ d + i → Go.Proofs.YtmhjmicplaolmaaGreatDoor.Graph.Queue (adjOf (rowsOf ns)) (dir ns) ns.length q i [] → i ≤ q.length → Seen ns.length met (q.take i) →
    ∃ q' : List Int, Go.Proofs.YtmhjmicplaolmaaGreatDoor.Graph.Queue (adjOf (rowsOf ns)) (dir ns) ns.length q' q'.length [] ∧ ∃ r, Ev (fun k => impl_GoodFs.l2 k met q (i : Int) ns room) r ∧ (r = true ↔ ∀ x, 0 ≤ x → x < (ns.length : Int) → dir ns x → x ∈ q') := by
  induction d with
  | zero =>
    intro i met q hd hq hi hm
    have hql := hq.len (by omega)
    have e : i = q.length := by omega
    subst e
    rw [List.take_of_length_le (Nat.le_refl _)] at hm
    obtain ⟨r, hr, er⟩ := impl_l4_is ns hn hm
    exact ⟨q, hq, r, Ev.step (fun k => by rw [impl_GoodFs.l2, if_neg (by omega)]) hr, er⟩
  | succ d ih =>
    intro i met q hd hq hi hm
    by_cases hlt : i < q.length
    · have hc : q[i]? = some (rd q (i : Int)) := by
        unfold rd; rw [List.getD_eq_getElem?_getD, show (i : Int).toNat = i by omega, List.getElem?_eq_getElem hlt]; rfl
      have hcb := hq.bound _ (List.mem_of_getElem? hc)
      have hml : rd q (i : Int) < (met.length : Int) := by rw [hm.1]; exact hcb.2.1
      have hnm := nd_mem ns _ hcb.1 hcb.2.1
      have hm1 : Seen ns.length (met.set (rd q (i : Int)).toNat true) (q.take (i + 1)) := by
        have h := hm.step _ hcb.1 hcb.2.1
        have e : q.take (i + 1) = q.take i ++ [rd q (i : Int)] := by rw [List.take_add_one, hc]; rfl
        rw [e]; exact h
      obtain ⟨q1, a1, a2, a3, a4⟩ := impl_l3_is ns room hn T (hs _ hnm).2.1 (adj_is ns _ hcb.1 hcb.2.1) (r62 ns (rd q (i : Int))).f6.length 0 q (by omega) (by omega) (by omega) (by simpa using hq) hc hm1
      have hil : i < q1.length := (List.getElem?_eq_some_iff.1 a2).1
      have hq1 := a1.len (by omega)
      have a1' : Go.Proofs.YtmhjmicplaolmaaGreatDoor.Graph.Queue (adjOf (rowsOf ns)) (dir ns) ns.length q1 i (adjOf (rowsOf ns) (rd q (i : Int))) := by rw [adj_is ns _ hcb.1 hcb.2.1]; exact a1
      have a5 := Go.Proofs.YtmhjmicplaolmaaGreatDoor.Graph.Queue.next a1' a2
      obtain ⟨q2, b1, r, b2, b3⟩ := ih (i + 1) _ q1 (by omega) a5 (by omega) a3
      refine ⟨q2, b1, r, Ev.step (fun k => by rw [impl_GoodFs.l2, if_pos (by omega), if_pos (by omega), if_pos hcb.1, if_pos hml, if_pos hcb.2.1]) (a4 r ?_), b3⟩
      rw [wrap_id (by omega) (by omega)]; exact b2
    · have e : i = q.length := by omega
      subst e
      rw [List.take_of_length_le (Nat.le_refl _)] at hm
      obtain ⟨r, hr, er⟩ := impl_l4_is ns hn hm
      exact ⟨q, hq, r, Ev.step (fun k => by rw [impl_GoodFs.l2, if_neg (by omega)]) hr, er⟩
end Go.Proofs.YtmhjmicplaolmaaGreatDoor.PRm
namespace Go.Proofs.YtmhjmicplaolmaaGreatDoor.PRm
open Go.RowKit Go.Proofs.YtmhjmicplaolmaaGreatDoorW.PrintWords Go.Proofs.YtmhjmicplaolmaaGreatDoorW.PrintLast Go.Proofs.YtmhjmicplaolmaaGreatDoorW.PrintMore Go.Proofs.YtmhjmicplaolmaaGreatDoor.Aid Go.Proofs.YtmhjmicplaolmaaGreatDoor.AllLoop Go.Proofs.YtmhjmicplaolmaaGreatDoor.Loops Go.Proofs.YtmhjmicplaolmaaGreatDoor.Put Go.Proofs.YtmhjmicplaolmaaGreatDoor.Graph
set_option linter.unusedSimpArgs false
set_option linter.unusedVariables false
def Reached (ns : List S62) : Prop := ∀ q, Go.Proofs.YtmhjmicplaolmaaGreatDoor.Graph.Queue (adjOf (rowsOf ns)) (dir ns) ns.length q q.length [] → ∀ x, 0 ≤ x → x < (ns.length : Int) → dir ns x → x ∈ q
def ImplGood (ns : List S62) (room : Int) : Prop := Head ns room ∧ All1 0 ns ∧ (∀ i, 0 ≤ i → i < (ns.length : Int) → LinkOk ns i) ∧ Reached ns
theorem links_le (ns : List S62) (hn : ns.length ≤ 1048576) (hs : ∀ v ∈ ns, Small1 v) (x : Int) : links (rowsOf ns) x ≤ 1099511627776 := by
  have h := flat_len ns (small_lists hs)
  have h2 : links (rowsOf ns) x ≤ (rowsOf ns).flatten.length := List.count_le_length
  omega
theorem tree_of (ns : List S62) (h1 : All1 0 ns) (hz : links (rowsOf ns) 0 = 0) (hd : ∀ x, 0 < x → x < (ns.length : Int) → dir ns x → links (rowsOf ns) x ≤ 1) : DirTree ns := by
  have hrow : ∀ x, 0 ≤ x → x < (ns.length : Int) → ∀ y ∈ adjOf (rowsOf ns) x, dir ns x ∧ To 0 ns y := fun x h0 hx y hy => by
    rw [adj_is ns x h0 hx] at hy
    exact good_row (h1 x h0 hx) y hy
  have hle : ∀ x, dir ns x → 0 ≤ x → x < (ns.length : Int) → links (rowsOf ns) x ≤ 1 := fun x hdx h0 hx => by
    by_cases e : x = 0
    · rw [e, hz]; exact Nat.zero_le _
    · exact hd x (by omega) hx hdx
  refine ⟨fun x h0 hx y hy => ⟨(hrow x h0 hx y hy).2.1, (hrow x h0 hx y hy).2.2.1⟩, fun x h0 hx hy => ?_, fun x hdx p q hp0 hp hq0 hq hxp hxq => ?_, fun x hdx p a b hp0 hp e => ?_, fun x h0 hx y hy => (hrow x h0 hx y hy).1⟩
  · have : 0 < links (rowsOf ns) 0 := links_pos.2 ⟨x, h0, by rw [rows_len]; exact hx, hy⟩
    omega
  · have hb := (hrow p hp0 hp x hxp).2
    exact links_one (hle x hdx hb.1 hb.2.1) hp0 hq0 (by rw [rows_len]; exact hp) (by rw [rows_len]; exact hq) hxp hxq
  · have hb := (hrow p hp0 hp x (by rw [e]; simp)).2
    exact links_twice (hle x hdx hb.1 hb.2.1) hp0 (by rw [rows_len]; exact hp) e
theorem queue_is (ns : List S62) (room : Int) (hn : 1 ≤ ns.length) (hn' : ns.length ≤ 1048576) (hs : ∀ v ∈ ns, Small1 v) (h0 : (r62 ns 0).f0 = 2) (T : DirTree ns) :
    ∃ q' : List Int, Go.Proofs.YtmhjmicplaolmaaGreatDoor.Graph.Queue (adjOf (rowsOf ns)) (dir ns) ns.length q' q'.length [] ∧ ∃ r, Ev (fun k => impl_GoodFs.l2 k (List.replicate ((ns.length : Int) : Int).toNat false) [0] 0 ns room) r ∧ (r = true ↔ ∀ x, 0 ≤ x → x < (ns.length : Int) → dir ns x → x ∈ q') :=
  impl_l2_is ns room hn' hs T ns.length 0 (List.replicate ((ns.length : Int) : Int).toNat false) [0] (by omega) (Go.Proofs.YtmhjmicplaolmaaGreatDoor.Graph.Queue.start (by omega) h0) (by simp)
    ⟨by simp, fun y hy0 hy1 => by unfold rdOf; rw [List.getD_eq_getElem?_getD, List.getElem?_replicate, if_pos (by omega)]; simp⟩
theorem same_good (ns : List S62) (room : Int) (hn' : ns.length ≤ 1048576) (hs : ∀ v ∈ ns, Small1 v) : SpecGood ns room ↔ ImplGood ns room := by
  have hA : ∀ {ns : List S62}, All1 1 ns → All1 0 ns := fun h i h0 h1 => by
    have := h i h0 h1
    refine ⟨this.1, fun hz => ?_⟩
    obtain ⟨a, b, c, d, e⟩ := this.2 hz
    refine ⟨a, b, c, d, e.imp id (Or.imp (fun h => ⟨h.1, h.2.1, fun j hj0 hj1 => ?_⟩) id)⟩
    obtain ⟨x, y, z⟩ := h.2.2 j hj0 hj1
    exact ⟨x, y, by have := z.1; omega, z.2⟩
  have key : ∀ (hh : Head ns room) (h1 : All1 0 ns) (hz : links (rowsOf ns) 0 = 0) (hd : ∀ x, 0 < x → x < (ns.length : Int) → dir ns x → links (rowsOf ns) x ≤ 1),
      (∀ met, Go.Proofs.YtmhjmicplaolmaaGreatDoor.Graph.Met (adjOf (rowsOf ns)) ns.length [0] [] met → ∀ i, 0 ≤ i → i < (ns.length : Int) → EndOk ns met i) ↔ (∀ i, 0 ≤ i → i < (ns.length : Int) → LinkOk ns i) ∧ Reached ns := fun hh h1 hz hd => by
    have T := tree_of ns h1 hz hd
    have hn : 0 < (ns.length : Int) := by have := hh.1.1; omega
    obtain ⟨q, hq, _⟩ := queue_is ns room hh.1.1 hn' hs hh.2.2.2 T
    have hrow : ∀ v ∈ ns, ∀ x ∈ row v.f6, 0 ≤ x ∧ x < (ns.length : Int) := fun v hv x hx => by
      have := (good_row (all_mem h1 v hv) x hx).2
      exact ⟨this.1, this.2.1⟩
    obtain ⟨met, _, em⟩ := spec_l3Met.is ns room hn' (small_lists hs) hrow ns.length [] 0 (List.Pairwise.nil) (fun x hx => by cases hx) (by omega) (by omega) (by simp)
    have hb := Go.Proofs.YtmhjmicplaolmaaGreatDoor.Graph.both (there := fun x => (r62 ns x).f0 ≠ 0) T hn hq em (fun x hx => by have : (r62 ns x).f0 = 2 := hx; omega)
    have hpos : ∀ x, (∃ p, 0 ≤ p ∧ p < (ns.length : Int) ∧ x ∈ adjOf (rowsOf ns) p) ↔ 0 < links (rowsOf ns) x := fun x => by rw [links_pos, rows_len]
    constructor
    · intro H
      have H' := H met em
      have hb' := hb.1 (fun x h0 hx ht => (H' x h0 hx).2.2 ht)
      refine ⟨fun i h0 hi ht => ⟨fun e => hz, fun hp => ⟨(hpos i).1 (hb'.2 i hp hi ht), fun hdi => (H' i h0 hi).2.1 hp hdi⟩⟩, fun q' hq' x h0 hx hdx => ?_⟩
      exact (hq'.allIn T hn (hq.reach x (hb'.1 x h0 hx hdx))).2 hdx
    · rintro ⟨HL, HR⟩ met' em'
      have hm : met' = met := rising_ext em'.rising em.rising (fun x => by rw [em'.reach, em.reach])
      subst hm
      have hb' := hb.2 ⟨HR q hq, fun x h0 hx ht => (hpos x).2 (by have := ((HL x (by omega) hx ht).2 h0).1; omega)⟩
      exact fun i h0 hi => ⟨fun _ => hz, fun hp hdi => ((HL i h0 hi (by omega)).2 hp).2 hdi, fun ht => hb' i h0 hi ht⟩
  constructor
  · rintro ⟨hh, h1, hE⟩
    have h10 := hA h1
    have hrow : ∀ v ∈ ns, ∀ x ∈ row v.f6, 0 ≤ x ∧ x < (ns.length : Int) := fun v hv x hx => by
      have := (good_row (all_mem h10 v hv) x hx).2
      exact ⟨this.1, this.2.1⟩
    have hn := hh.1.1
    obtain ⟨met, _, em⟩ := spec_l3Met.is ns room hn' (small_lists hs) hrow ns.length [] 0 (List.Pairwise.nil) (fun x hx => by cases hx) (by omega) (by omega) (by simp)
    have hz := (hE met em 0 (by omega) (by omega)).1 rfl
    have k := key hh h10 hz (fun x h0 hx hdx => by rw [(hE met em x (by omega) hx).2.1 h0 hdx]; exact Nat.le_refl _)
    exact ⟨hh, h10, k.1 hE⟩
  · rintro ⟨hh, h1, hL, hR⟩
    have hn := hh.1.1
    have hz := (hL 0 (by omega) (by omega) (by rw [hh.2.2.2]; omega)).1 rfl
    have k := key hh h1 hz (fun x h0 hx hdx => by
      have : (r62 ns x).f0 = 2 := hdx
      rw [((hL x (by omega) hx (by omega)).2 h0).2 hdx]; exact Nat.le_refl _)
    refine ⟨hh, fun i h0 hi => ?_, k.2 ⟨hL, hR⟩⟩
    have hg := h1 i h0 hi
    refine ⟨hg.1, fun hne => ?_⟩
    obtain ⟨a, b, c, d, e⟩ := hg.2 hne
    refine ⟨a, b, c, d, e.imp id (Or.imp (fun h => ⟨h.1, h.2.1, fun j hj0 hj1 => ?_⟩) id)⟩
    obtain ⟨x, y, z⟩ := h.2.2 j hj0 hj1
    refine ⟨x, y, ?_, z.2⟩
    have hne0 : (r87 (r62 ns i).f6 j).f1 ≠ 0 := fun e0 => by
      have hmem : (0 : Int) ∈ adjOf (rowsOf ns) i := by
        rw [adj_is ns i h0 hi, ← e0]
        exact List.mem_map.2 ⟨_, en_mem _ j hj0 hj1, rfl⟩
      have : 0 < links (rowsOf ns) 0 := links_pos.2 ⟨i, h0, by rw [rows_len]; exact hi, hmem⟩
      omega
    have := z.1; omega
theorem mn_one {x : Int} (h : 0 < x) : mn x 1 = 1 := by unfold mn; split <;> omega
theorem mn_zero : mn 0 1 = 0 := by unfold mn; split <;> omega
theorem impl_l1_is (ns : List S62) (room : Int) (hn : 1 ≤ ns.length) (hn' : ns.length ≤ 1048576) (hs : ∀ v ∈ ns, Small1 v) (h0d : (r62 ns 0).f0 = 2) (hA : All1 0 ns) {out : List Int} (ho : out.length = ns.length) (hv : ∀ y, 0 ≤ y → y < (ns.length : Int) → rd out y = ((links (rowsOf ns) y : Nat) : Int)) :
    ∃ r, Ev (fun k => impl_GoodFs.l1 k out ns (ns.length : Int) 0 ns room) r ∧ (r = true ↔ (∀ i, 0 ≤ i → i < (ns.length : Int) → LinkOk ns i) ∧ Reached ns) := by
  have hround : ∀ i, 0 ≤ i → i < (ns.length : Int) → (∀ j, 0 ≤ j → j < i → LinkOk ns j) → Round (fun k i => impl_GoodFs.l1 k out ns (ns.length : Int) i ns room) (LinkOk ns) i := fun i h0 h1 _ => by
    have hw1 : wrap64 (i + 1) = i + 1 := wrap_id (by omega) (by omega)
    have hl : i < (out.length : Int) := by rw [ho]; exact h1
    have hvi := hv i h0 h1
    have hle := links_le ns hn' hs i
    by_cases hk : (r62 ns i).f0 = 0
    · refine Or.inl ⟨fun h => absurd hk h, fun r hr => Ev.step (fun k => by show impl_GoodFs.l1 (k + 1) out ns (ns.length : Int) i ns room = _; rw [impl_GoodFs.l1, if_pos h1, if_pos h0, if_pos h1, hw1]) ?_⟩
      exact ev_ite (fun _ => ev_pos hk hr) (fun _ => ev_ite (fun _ => ev_pos hk hr) (fun _ => ev_pos hk hr))
    · by_cases hi : i = 0
      · by_cases hc : links (rowsOf ns) 0 = 0
        · refine Or.inl ⟨fun _ => ⟨fun _ => hc, fun h => by omega⟩, fun r hr => Ev.step (fun k => by show impl_GoodFs.l1 (k + 1) out ns (ns.length : Int) i ns room = _; rw [impl_GoodFs.l1, if_pos h1, if_pos h0, if_pos h1, hw1, if_pos hi, if_neg hk, if_pos hl]) (ev_bind0 (impl_within.is _ _ _) (ev_pos (decide_eq_true ?_) hr))⟩
          rw [hvi, hi, hc, mn_zero]; omega
        · refine Or.inr ⟨fun h => hc ((h hk).1 hi), Ev.step (fun k => by show impl_GoodFs.l1 (k + 1) out ns (ns.length : Int) i ns room = _; rw [impl_GoodFs.l1, if_pos h1, if_pos h0, if_pos h1, hw1, if_pos hi, if_neg hk, if_pos hl]) (ev_bind0 (impl_within.is _ _ _) (ev_neg ?_ (Ev.now _)))⟩
          rw [hvi, hi, decide_eq_true_iff]; omega
      · have hp : 0 < i := by omega
        by_cases hd : (r62 ns i).f0 = 2
        · by_cases hc : links (rowsOf ns) i = 1
          · refine Or.inl ⟨fun _ => ⟨fun h => absurd h hi, fun _ => ⟨by omega, fun _ => hc⟩⟩, fun r hr => Ev.step (fun k => by show impl_GoodFs.l1 (k + 1) out ns (ns.length : Int) i ns room = _; rw [impl_GoodFs.l1, if_pos h1, if_pos h0, if_pos h1, hw1, if_neg hi, if_pos hd, if_neg hk, if_pos hl]) (ev_bind0 (impl_within.is _ _ _) (ev_pos (decide_eq_true ?_) hr))⟩
            rw [hvi, mn_one hp]; omega
          · refine Or.inr ⟨fun h => hc (((h hk).2 hp).2 hd), Ev.step (fun k => by show impl_GoodFs.l1 (k + 1) out ns (ns.length : Int) i ns room = _; rw [impl_GoodFs.l1, if_pos h1, if_pos h0, if_pos h1, hw1, if_neg hi, if_pos hd, if_neg hk, if_pos hl]) (ev_bind0 (impl_within.is _ _ _) (ev_neg ?_ (Ev.now _)))⟩
            rw [hvi, mn_one hp, decide_eq_true_iff]; omega
        · by_cases hc : 1 ≤ links (rowsOf ns) i
          · refine Or.inl ⟨fun _ => ⟨fun h => absurd h hi, fun _ => ⟨hc, fun h => absurd h hd⟩⟩, fun r hr => Ev.step (fun k => by show impl_GoodFs.l1 (k + 1) out ns (ns.length : Int) i ns room = _; rw [impl_GoodFs.l1, if_pos h1, if_pos h0, if_pos h1, hw1, if_neg hi, if_neg hd, if_neg hk, if_pos hl]) (ev_bind0 (impl_within.is _ _ _) (ev_pos (decide_eq_true ?_) hr))⟩
            rw [hvi, mn_one hp]; omega
          · refine Or.inr ⟨fun h => hc ((h hk).2 hp).1, Ev.step (fun k => by show impl_GoodFs.l1 (k + 1) out ns (ns.length : Int) i ns room = _; rw [impl_GoodFs.l1, if_pos h1, if_pos h0, if_pos h1, hw1, if_neg hi, if_neg hd, if_neg hk, if_pos hl]) (ev_bind0 (impl_within.is _ _ _) (ev_neg ?_ (Ev.now _)))⟩
            rw [hvi, mn_one hp, decide_eq_true_iff]; omega
  refine all_of (L := fun k i => impl_GoodFs.l1 k out ns (ns.length : Int) i ns room) (P := LinkOk ns) (N := ns.length) (by omega) hround (fun hall => ?_)
  have hz := (hall 0 (by omega) (by omega) (by rw [h0d]; omega)).1 rfl
  have T := tree_of ns hA hz (fun x h0 hx hdx => by
    have : (r62 ns x).f0 = 2 := hdx
    rw [((hall x (by omega) hx (by omega)).2 h0).2 hdx]; exact Nat.le_refl _)
  obtain ⟨q, hq, r, hr, er⟩ := queue_is ns room hn hn' hs h0d T
  refine ⟨r, Ev.step (fun k => by show impl_GoodFs.l1 (k + 1) out ns (ns.length : Int) (ns.length : Int) ns room = _; rw [impl_GoodFs.l1, if_neg (by omega), if_pos (by omega), if_pos (by omega)]) hr, ?_⟩
  rw [er]
  refine ⟨fun h q' hq' x h0 hx hdx => (hq'.allIn T (by omega) (hq.reach x (h x h0 hx hdx))).2 hdx, fun h => h q hq⟩
theorem impl_GoodFs.is (ns : List S62) (room : Int) (hn' : ns.length ≤ 1048576) (hs : ∀ v ∈ ns, Small1 v) : ∃ r, Ev (fun k => impl_GoodFs.f k ns room) r ∧ (r = true ↔ ImplGood ns room) := by
  have hj : Ev (fun k => impl_GoodFs.j0 k true ns room) false := Ev.step (fun k => by rw [impl_GoodFs.j0, if_pos rfl]) (Ev.now _)
  have hroom : impl_isRoom.f room = some (decide (0 ≤ room ∧ room ≤ 1000)) := by unfold impl_isRoom.f; rw [impl_within.is]; rfl
  unfold impl_GoodFs.f
  by_cases c1 : 1 ≤ (ns.length : Int) ∧ (ns.length : Int) ≤ 40
  rotate_left
  · exact ⟨false, ev_bind0 (impl_within.is _ _ _) (ev_neg (by simpa using c1) hj), fun h => (by cases h), fun h => absurd h.1.1 (by omega)⟩
  by_cases c2 : 0 ≤ room ∧ room ≤ 1000
  rotate_left
  · exact ⟨false, ev_bind0 (impl_within.is _ _ _) (ev_pos (decide_eq_true c1) (ev_bind0 hroom (ev_neg (by simpa using c2) hj))), fun h => (by cases h), fun h => absurd h.1.2.1 c2⟩
  by_cases c4 : (r62 ns 0).f0 = 2
  rotate_left
  · exact ⟨false, ev_bind0 (impl_within.is _ _ _) (ev_pos (decide_eq_true c1) (ev_bind0 hroom (ev_pos (decide_eq_true c2) (ev_pos (by omega) (by rw [bne_iff_ne.mpr c4]; exact hj))))), fun h => (by cases h), fun h => absurd h.1.2.2.2 c4⟩
  have hround : ∀ i, 0 ≤ i → i < (ns.length : Int) → (∀ j, 0 ≤ j → j < i → Good1 0 ns (r62 ns j)) → Round (fun k i => impl_GoodFs.l0 k ns (ns.length : Int) i ns room) (fun i => Good1 0 ns (r62 ns i)) i := fun i h0 h1 _ => by
    obtain ⟨t, ht, et⟩ := impl_isNode.is ns room (r62 ns i) (by omega) hn' (hs _ (nd_mem ns i h0 h1))
    have hw1 : wrap64 (i + 1) = i + 1 := wrap_id (by omega) (by omega)
    by_cases h : Good1 0 ns (r62 ns i)
    · exact Or.inl ⟨h, fun r hr => Ev.step (fun k => by show impl_GoodFs.l0 (k + 1) ns (ns.length : Int) i ns room = _; rw [impl_GoodFs.l0, if_pos h1, if_pos h0, if_pos h1, hw1]) (ev_bind ht (ev_pos (et.2 h) hr))⟩
    · exact Or.inr ⟨h, Ev.step (fun k => by show impl_GoodFs.l0 (k + 1) ns (ns.length : Int) i ns room = _; rw [impl_GoodFs.l0, if_pos h1, if_pos h0, if_pos h1, hw1]) (ev_bind ht (ev_neg (fun e => h (et.1 e)) (Ev.now _)))⟩
  obtain ⟨r, hr, e⟩ := all_of (L := fun k i => impl_GoodFs.l0 k ns (ns.length : Int) i ns room) (P := fun i => Good1 0 ns (r62 ns i)) (Q := sumW ns ≤ room ∧ (∀ i, 0 ≤ i → i < (ns.length : Int) → LinkOk ns i) ∧ Reached ns) (N := ns.length) (by omega) hround (fun hall => by
    have hb := impl_Fs_bytesIn.is ns room hn'
    by_cases c3 : sumW ns > room
    · exact ⟨false, Ev.step (fun k => by show impl_GoodFs.l0 (k + 1) ns (ns.length : Int) (ns.length : Int) ns room = _; rw [impl_GoodFs.l0, if_neg (by omega)]) (ev_bind hb (ev_pos c3 (Ev.now _))), fun h => (by cases h), fun h => absurd h.1 (by omega)⟩
    · obtain ⟨out, ho, hol, hov⟩ := impl_Fs_links.is ns room hn' (small_lists hs) (fun v hv e he => by
        have := (good_row (all_mem hall v hv) e.f1 (List.mem_map.2 ⟨e, he, rfl⟩)).2
        exact ⟨this.1, this.2.1⟩)
      obtain ⟨r, hr, er⟩ := impl_l1_is ns room (by omega) hn' hs c4 hall hol hov
      refine ⟨r, Ev.step (fun k => by show impl_GoodFs.l0 (k + 1) ns (ns.length : Int) (ns.length : Int) ns room = _; rw [impl_GoodFs.l0, if_neg (by omega)]) (ev_bind hb (ev_neg c3 (ev_bind ho hr))), ?_⟩
      rw [er]; exact ⟨fun h => ⟨by omega, h⟩, fun h => h.2⟩)
  refine ⟨r, ev_bind0 (impl_within.is _ _ _) (ev_pos (decide_eq_true c1) (ev_bind0 hroom (ev_pos (decide_eq_true c2) (ev_pos (by omega) (by rw [bne_eq_false_iff_eq.mpr c4]; exact Ev.step (fun k => by rw [impl_GoodFs.j0, if_neg (by decide)]) hr))))), ?_⟩
  rw [e]
  exact ⟨fun h => ⟨⟨by omega, c2, h.2.1, c4⟩, h.1, h.2.2⟩, fun h => ⟨h.2.1, h.1.2.2.1, h.2.2⟩⟩
theorem GoodFs.same (ns : List S62) (room : Int) (hn' : ns.length ≤ 1048576) (hs : ∀ v ∈ ns, Small1 v) : ∃ r, Ev (fun k => spec_l3Good.f k ns room) r ∧ Ev (fun k => impl_GoodFs.f k ns room) r ∧ (r = true ↔ SpecGood ns room) := by
  obtain ⟨r, hr, er⟩ := spec_l3Good.is ns room hn' hs
  obtain ⟨s, hs', es⟩ := impl_GoodFs.is ns room hn' hs
  have e := same_bool er es (same_good ns room hn' hs)
  subst e
  exact ⟨r, hr, hs', er⟩
end Go.Proofs.YtmhjmicplaolmaaGreatDoor.PRm
namespace Go.Proofs.YtmhjmicplaolmaaGreatDoor.PRm
open Go.RowKit Go.Proofs.YtmhjmicplaolmaaGreatDoorW.PrintWords Go.Proofs.YtmhjmicplaolmaaGreatDoorW.PrintLast Go.Proofs.YtmhjmicplaolmaaGreatDoorW.PrintMore Go.Proofs.YtmhjmicplaolmaaGreatDoor.Aid Go.Proofs.YtmhjmicplaolmaaGreatDoor.Loops
set_option linter.unusedSimpArgs false
set_option linter.unusedVariables false
def nodeOk (x : S62) : Prop := x.f6.length ≤ 1048576
theorem laws_eqEntry.is (x y : S87) : ∃ r, Ev (fun _ => laws_eqEntry.f x.f0 x.f1 y.f0 y.f1) r ∧ (r = true ↔ x = y) := by
  cases x with | mk a b => cases y with | mk c d =>
  unfold laws_eqEntry.f
  by_cases h : a.toList = c.toList
  · by_cases h2 : b = d
    · exact ⟨true, ev_pos h (ev_pos h2 (Ev.now _)), by simp [h2, eq_of_toList h]⟩
    · exact ⟨false, ev_pos h (ev_neg h2 (Ev.now _)), by simp [h2]⟩
  · exact ⟨false, ev_neg h (Ev.now _), by simp; intro e; exact absurd (by rw [e]) h⟩
theorem laws_eqEntryS.is (a b : List S87) (hM : a.length ≤ 9223372036854775806) : ∃ r, Ev (fun k => laws_eqEntryS.f k a b) r ∧ (r = true ↔ a = b) :=
  eq_all z87 a b hM _ (fun k i => laws_eqEntryS.l0 k a b i) (fun _ x y => laws_eqEntry.f x.f0 x.f1 y.f0 y.f1) (fun k => rfl)
    (fun hl k i h0 h1 => by show laws_eqEntryS.l0 (k + 1) a b i = _; rw [laws_eqEntryS.l0, if_pos h1, if_pos h0, if_pos (by omega)]; rfl)
    (fun k i h => by show laws_eqEntryS.l0 (k + 1) a b i = _; rw [laws_eqEntryS.l0, if_neg h]) (fun x _ y _ => laws_eqEntry.is x y)
theorem laws_eqNode.is (x y : S62) (hx : nodeOk x) : ∃ r, Ev (fun k => laws_eqNode.f k x.f0 x.f1 x.f2 x.f3 x.f4 x.f5 x.f6 y.f0 y.f1 y.f2 y.f3 y.f4 y.f5 y.f6) r ∧ (r = true ↔ x = y) := by
  cases x with | mk a0 a1 a2 a3 a4 a5 a6 => cases y with | mk b0 b1 b2 b3 b4 b5 b6 =>
  unfold nodeOk at hx
  simp only at hx
  unfold laws_eqNode.f
  by_cases h0 : a0 = b0
  rotate_left
  · exact ⟨false, ev_neg h0 (Ev.now _), by simp [h0]⟩
  by_cases h1 : a1 = b1
  rotate_left
  · exact ⟨false, ev_pos h0 (ev_neg h1 (Ev.now _)), by simp [h1]⟩
  by_cases h2 : a2 = b2
  rotate_left
  · exact ⟨false, ev_pos h0 (ev_pos h1 (ev_neg h2 (Ev.now _))), by simp [h2]⟩
  by_cases h3 : a3 = b3
  rotate_left
  · exact ⟨false, ev_pos h0 (ev_pos h1 (ev_pos h2 (ev_neg h3 (Ev.now _)))), by simp [h3]⟩
  by_cases h4 : a4 = b4
  rotate_left
  · exact ⟨false, ev_pos h0 (ev_pos h1 (ev_pos h2 (ev_pos h3 (ev_neg h4 (Ev.now _))))), by simp [h4]⟩
  by_cases h5 : a5.toList = b5.toList
  rotate_left
  · exact ⟨false, ev_pos h0 (ev_pos h1 (ev_pos h2 (ev_pos h3 (ev_pos h4 (ev_neg h5 (Ev.now _)))))), by simp; intro _ _ _ _ _ e; exact absurd (by rw [e]) h5⟩
  obtain ⟨r, hr, e⟩ := laws_eqEntryS.is a6 b6 (by omega)
  have h5' := eq_of_toList h5
  refine ⟨r, ev_pos h0 (ev_pos h1 (ev_pos h2 (ev_pos h3 (ev_pos h4 (ev_pos h5 (ev_bind hr ?_)))))), by rw [e]; simp [h0, h1, h2, h3, h4, h5']⟩
  cases r with
  | true => exact ev_pos rfl (Ev.now _)
  | false => exact ev_neg (by simp) (Ev.now _)
theorem laws_eqNodeS.is (a b : List S62) (hM : a.length ≤ 9223372036854775806) (ha : ∀ x ∈ a, nodeOk x) : ∃ r, Ev (fun k => laws_eqNodeS.f k a b) r ∧ (r = true ↔ a = b) :=
  eq_all z62 a b hM _ (fun k i => laws_eqNodeS.l0 k a b i) (fun k x y => laws_eqNode.f k x.f0 x.f1 x.f2 x.f3 x.f4 x.f5 x.f6 y.f0 y.f1 y.f2 y.f3 y.f4 y.f5 y.f6) (fun k => rfl)
    (fun hl k i h0 h1 => by show laws_eqNodeS.l0 (k + 1) a b i = _; rw [laws_eqNodeS.l0, if_pos h1, if_pos h0, if_pos (by omega)]; rfl)
    (fun k i h => by show laws_eqNodeS.l0 (k + 1) a b i = _; rw [laws_eqNodeS.l0, if_neg h]) (fun x hx y _ => laws_eqNode.is x y (ha x hx))
theorem laws_eqFs.is (a b : List S62) (n m : Int) (hM : a.length ≤ 9223372036854775806) (ha : ∀ x ∈ a, nodeOk x) : ∃ r, Ev (fun k => laws_eqFs.f k a n b m) r ∧ (r = true ↔ a = b ∧ n = m) := by
  obtain ⟨r, hr, e⟩ := laws_eqNodeS.is a b hM ha
  unfold laws_eqFs.f
  cases r with
  | false => exact ⟨false, ev_bind hr (ev_neg (by simp) (Ev.now _)), fun h => (by cases h), fun h => e.2 h.1⟩
  | true =>
    by_cases h : n = m
    · exact ⟨true, ev_bind hr (ev_pos rfl (ev_pos h (Ev.now _))), fun _ => ⟨e.1 rfl, h⟩, fun _ => rfl⟩
    · exact ⟨false, ev_bind hr (ev_pos rfl (ev_neg h (Ev.now _))), fun h => (by cases h), fun h' => absurd h'.2 h⟩
theorem laws_eqFs.same (a : List S62) (n : Int) (hM : a.length ≤ 9223372036854775806) (ha : ∀ x ∈ a, nodeOk x) : Ev (fun k => laws_eqFs.f k a n a n) true := by
  obtain ⟨r, hr, e⟩ := laws_eqFs.is a a n n hM ha
  rwa [e.2 ⟨rfl, rfl⟩] at hr
def entGood (e : S119) : Prop := e.f0.size ≤ 9223372036854775807
def nodGood (x : S70) : Prop := x.f5.size ≤ 9223372036854775807 ∧ x.f6.length ≤ 9223372036854775807 ∧ ∀ e ∈ x.f6, entGood e
def entSmall (e : S119) : Prop := e.f0.size ≤ 1048576
def nodSmall (x : S70) : Prop := x.f5.size ≤ 1048576 ∧ x.f6.length ≤ 1048576 ∧ ∀ e ∈ x.f6, entSmall e
theorem laws_szEntry.is (e : S119) (he : entGood e) (x : Int) (h0 : 0 ≤ x) (h1 : x ≤ 1048576) : ∃ r, Ev (fun _ => laws_szEntry.f e.f0 e.f1 x) r ∧ (r < 0 ∨ (0 ≤ r ∧ r ≤ x ∧ entSmall e)) := by
  unfold entGood at he
  have hw : wrap64 (x - (e.f0.size : Int)) = x - (e.f0.size : Int) := wrap_id (by omega) (by omega)
  unfold laws_szEntry.f
  rw [hw]
  by_cases h : x - (e.f0.size : Int) < 0
  · exact ⟨-1, ev_pos h (Ev.now _), .inl (by omega)⟩
  · exact ⟨_, ev_neg h (Ev.now _), .inr ⟨by omega, by omega, by unfold entSmall; omega⟩⟩
theorem laws_szEntryS.is (l : List S119) (hl : l.length ≤ 9223372036854775807) (hg : ∀ e ∈ l, entGood e) (x : Int) (h0 : 0 ≤ x) (h1 : x ≤ 1048576) : ∃ r, Ev (fun k => laws_szEntryS.f k l x) r ∧ (r < 0 ∨ (0 ≤ r ∧ r ≤ x ∧ l.length ≤ 1048576 ∧ ∀ e ∈ l, entSmall e)) := by
  have hw : wrap64 (x - (l.length : Int)) = x - (l.length : Int) := wrap_id (by omega) (by omega)
  unfold laws_szEntryS.f
  rw [hw]
  by_cases h : x - (l.length : Int) < 0
  · exact ⟨-1, ev_pos h (Ev.now _), .inl (by omega)⟩
  · obtain ⟨r, hr, e⟩ := sz_loop z119 l (by omega) (fun k x i => laws_szEntryS.l0 k l x i) (fun _ e x => laws_szEntry.f e.f0 e.f1 x) entSmall 1048576
      (fun k x i h0 h1 => by show laws_szEntryS.l0 (k + 1) l x i = _; rw [laws_szEntryS.l0, if_pos h1, if_pos h0]; rfl)
      (fun k x i h => by show laws_szEntryS.l0 (k + 1) l x i = _; rw [laws_szEntryS.l0, if_neg h]) (fun e he x h0 h1 => laws_szEntry.is e (hg e he) x h0 h1)
      l.length (x - (l.length : Int)) 0 (by omega) (by omega) (by omega) (by omega) (by omega)
    refine ⟨r, ev_neg h hr, ?_⟩
    rcases e with e | ⟨e1, e2, e3⟩
    · exact .inl e
    · exact .inr ⟨e1, by omega, by omega, by simpa using e3⟩
theorem laws_szNode.is (n : S70) (hn : nodGood n) (x : Int) (h0 : 0 ≤ x) (h1 : x ≤ 1048576) : ∃ r, Ev (fun k => laws_szNode.f k n.f0 n.f1 n.f2 n.f3 n.f4 n.f5 n.f6 x) r ∧ (r < 0 ∨ (0 ≤ r ∧ r ≤ x ∧ nodSmall n)) := by
  obtain ⟨g1, g2, g3⟩ := hn
  have hw : wrap64 (x - (n.f5.size : Int)) = x - (n.f5.size : Int) := wrap_id (by omega) (by omega)
  unfold laws_szNode.f
  rw [hw]
  by_cases h : x - (n.f5.size : Int) < 0
  · exact ⟨-1, ev_pos h (Ev.now _), .inl (by omega)⟩
  · obtain ⟨r, hr, e⟩ := laws_szEntryS.is n.f6 g2 g3 (x - (n.f5.size : Int)) (by omega) (by omega)
    rcases e with e | ⟨e1, e2, e3, e4⟩
    · exact ⟨-1, ev_neg h (ev_bind hr (ev_pos e (Ev.now _))), .inl (by omega)⟩
    · exact ⟨r, ev_neg h (ev_bind hr (ev_neg (by omega) (Ev.now _))), .inr ⟨e1, by omega, by omega, e3, e4⟩⟩
theorem laws_szNodeS.is (l : List S70) (hl : l.length ≤ 9223372036854775807) (hg : ∀ n ∈ l, nodGood n) (x : Int) (h0 : 0 ≤ x) (h1 : x ≤ 1048576) : ∃ r, Ev (fun k => laws_szNodeS.f k l x) r ∧ (r < 0 ∨ (0 ≤ r ∧ r ≤ x ∧ l.length ≤ 1048576 ∧ ∀ n ∈ l, nodSmall n)) := by
  have hw : wrap64 (x - (l.length : Int)) = x - (l.length : Int) := wrap_id (by omega) (by omega)
  unfold laws_szNodeS.f
  rw [hw]
  by_cases h : x - (l.length : Int) < 0
  · exact ⟨-1, ev_pos h (Ev.now _), .inl (by omega)⟩
  · obtain ⟨r, hr, e⟩ := sz_loop z70 l (by omega) (fun k x i => laws_szNodeS.l0 k l x i) (fun k n x => laws_szNode.f k n.f0 n.f1 n.f2 n.f3 n.f4 n.f5 n.f6 x) nodSmall 1048576
      (fun k x i h0 h1 => by show laws_szNodeS.l0 (k + 1) l x i = _; rw [laws_szNodeS.l0, if_pos h1, if_pos h0]; rfl)
      (fun k x i h => by show laws_szNodeS.l0 (k + 1) l x i = _; rw [laws_szNodeS.l0, if_neg h]) (fun n hn x h0 h1 => laws_szNode.is n (hg n hn) x h0 h1)
      l.length (x - (l.length : Int)) 0 (by omega) (by omega) (by omega) (by omega) (by omega)
    refine ⟨r, ev_neg h hr, ?_⟩
    rcases e with e | ⟨e1, e2, e3⟩
    · exact .inl e
    · exact .inr ⟨e1, by omega, by omega, by simpa using e3⟩
theorem laws_szFs.is (l : List S70) (m : Int) (hl : l.length ≤ 9223372036854775807) (hg : ∀ n ∈ l, nodGood n) (x : Int) (h0 : 0 ≤ x) (h1 : x ≤ 1048576) : ∃ r, Ev (fun k => laws_szFs.f k l m x) r ∧ (r < 0 ∨ (0 ≤ r ∧ r ≤ x ∧ l.length ≤ 1048576 ∧ ∀ n ∈ l, nodSmall n)) := by
  obtain ⟨r, hr, e⟩ := laws_szNodeS.is l hl hg x h0 h1
  unfold laws_szFs.f
  rcases e with e | e
  · exact ⟨-1, ev_bind hr (ev_pos e (Ev.now _)), .inl (by omega)⟩
  · exact ⟨r, ev_bind hr (ev_neg (by omega) (Ev.now _)), .inr e⟩
def entC (e : S119) : S87 := ⟨e.f0, e.f1⟩
def nodC (n : S70) : S62 := ⟨n.f0, n.f1, n.f2, n.f3, n.f4, n.f5, n.f6.map entC⟩
theorem laws_toEntryS.is (l : List S119) (hl : l.length ≤ 1048576) : Ev (fun k => laws_toEntryS.f k l) (l.map entC) := by
  unfold laws_toEntryS.f
  refine ev_pos (by omega) (ev_pos (by omega) ?_)
  have h := to_loop z119 l (by omega) (fun k acc i => laws_toEntryS.l0 k l acc i) (fun _ e => laws_toEntry.f e.f0 e.f1) (fun y => (⟨y.1, y.2⟩ : S87)) (fun e => (e.f0, e.f1))
    (fun k acc i h0 h1 hz => by
      show laws_toEntryS.l0 (k + 1) l acc i = _
      rw [laws_toEntryS.l0, if_pos h1, if_pos h0]
      have hz' : i < (acc.length : Int) := by omega
      simp only [if_pos hz']; rfl)
    (fun k acc i h => by show laws_toEntryS.l0 (k + 1) l acc i = _; rw [laws_toEntryS.l0, if_neg h]) (fun e _ => Ev.now _) l.length (List.replicate ((l.length : Int) : Int).toNat z87) 0 (by simp) (by omega) (by omega) (by simp) (by omega)
  exact h
theorem laws_toNode.is (n : S70) (hn : nodSmall n) : Ev (fun k => laws_toNode.f k n.f0 n.f1 n.f2 n.f3 n.f4 n.f5 n.f6) (n.f0, n.f1, n.f2, n.f3, n.f4, n.f5, n.f6.map entC) := ev_bind (laws_toEntryS.is n.f6 hn.2.1) (Ev.now _)
theorem laws_toNodeS.is (l : List S70) (hl : l.length ≤ 1048576) (hs : ∀ n ∈ l, nodSmall n) : Ev (fun k => laws_toNodeS.f k l) (l.map nodC) := by
  unfold laws_toNodeS.f
  refine ev_pos (by omega) (ev_pos (by omega) ?_)
  have h := to_loop z70 l (by omega) (fun k acc i => laws_toNodeS.l0 k l acc i) (fun k n => laws_toNode.f k n.f0 n.f1 n.f2 n.f3 n.f4 n.f5 n.f6) (fun y => (⟨y.1, y.2.1, y.2.2.1, y.2.2.2.1, y.2.2.2.2.1, y.2.2.2.2.2.1, y.2.2.2.2.2.2⟩ : S62)) (fun n => (n.f0, n.f1, n.f2, n.f3, n.f4, n.f5, n.f6.map entC))
    (fun k acc i h0 h1 hz => by
      show laws_toNodeS.l0 (k + 1) l acc i = _
      rw [laws_toNodeS.l0, if_pos h1, if_pos h0]
      have hz' : i < (acc.length : Int) := by omega
      simp only [if_pos hz']; rfl)
    (fun k acc i h => by show laws_toNodeS.l0 (k + 1) l acc i = _; rw [laws_toNodeS.l0, if_neg h]) (fun n hn => laws_toNode.is n (hs n hn)) l.length (List.replicate ((l.length : Int) : Int).toNat z62) 0 (by simp) (by omega) (by omega) (by simp) (by omega)
  exact h
theorem laws_toFs.is (l : List S70) (m : Int) (hl : l.length ≤ 1048576) (hs : ∀ n ∈ l, nodSmall n) : Ev (fun k => laws_toFs.f k l m) (l.map nodC, m) := ev_bind (laws_toNodeS.is l hl hs) (Ev.now _)
theorem nodC_ok {l : List S70} (hs : ∀ n ∈ l, nodSmall n) : ∀ x ∈ l.map nodC, nodeOk x := by
  intro x hx
  obtain ⟨n, hn, rfl⟩ := List.mem_map.1 hx
  show (n.f6.map entC).length ≤ 1048576
  rw [List.length_map]; exact (hs n hn).2.1
end Go.Proofs.YtmhjmicplaolmaaGreatDoor.PRm
namespace Go.Proofs.YtmhjmicplaolmaaGreatDoor.PRm
open Go.RowKit Go.Proofs.YtmhjmicplaolmaaGreatDoorW.PrintWords Go.Proofs.YtmhjmicplaolmaaGreatDoorW.PrintLast Go.Proofs.YtmhjmicplaolmaaGreatDoorW.PrintMore Go.Proofs.YtmhjmicplaolmaaGreatDoor.Aid
theorem good_both (ns : List S62) (room : Int) (hn' : ns.length ≤ 1048576) (hs : ∀ v ∈ ns, Small1 v) : ∃ r, Ev (fun k => spec_l3Good.f k ns room) r ∧ Ev (fun k => impl_GoodFs.f k ns room) r ∧ (r = true ↔ SpecGood ns room) := by
  obtain ⟨r, hr, hi, e⟩ := GoodFs.same ns room hn' hs
  exact ⟨r, hr, hi, e⟩
theorem spec_l3Is_same {ns : List S62} {a : Int} (hn : 1 ≤ ns.length) (hn' : ns.length ≤ 1048576) : ∃ r : Bool, ((spec_l1In.f a 0 (wrap64 ((ns.length : Int) - 1))).bind fun t => (if t = true then (if 0 ≤ a then (if a < (ns.length : Int) then (some (((r62 ns a).f0) != 0)) else (none)) else (none)) else (some false))) = some r ∧ (r = true ↔ To 0 ns a) := by
  have hw2 : wrap64 ((ns.length : Int) - 1) = (ns.length : Int) - 1 := wrap_id (by omega) (by omega)
  rw [spec_l1In.is, Option.bind_some, hw2]
  by_cases h : 0 ≤ a ∧ a ≤ (ns.length : Int) - 1
  · rw [decide_eq_true h, if_pos rfl, if_pos h.1, if_pos (by omega)]
    refine ⟨_, rfl, ?_⟩
    rw [bne_iff_ne]
    exact ⟨fun h' => ⟨h.1, by omega, h'⟩, fun h' => h'.2.2⟩
  · rw [decide_eq_false h, if_neg (by simp)]
    exact ⟨_, rfl, fun h' => (by cases h'), fun h' => absurd ⟨h'.1, by have := h'.2.1; omega⟩ h⟩
theorem small_of {l : List S70} (h : ∀ n ∈ l, nodSmall n) : ∀ v ∈ l.map nodC, Small1 v := by
  intro v hv
  obtain ⟨n, hn, rfl⟩ := List.mem_map.1 hv
  obtain ⟨a, b, c⟩ := h n hn
  refine ⟨a, by show (n.f6.map entC).length ≤ _; rw [List.length_map]; exact b, fun e he => ?_⟩
  obtain ⟨e', he', rfl⟩ := List.mem_map.1 he
  exact c e' he'
theorem rows_in {ns : List S62} {room : Int} (h : SpecGood ns room) : ∀ v ∈ ns, ∀ e ∈ v.f6, 0 ≤ e.f1 ∧ e.f1 < (ns.length : Int) := fun v hv e he => by
  have := (good_row (all_mem h.2.1 v hv) e.f1 (List.mem_map.2 ⟨e, he, rfl⟩)).2
  exact ⟨by have := this.1; omega, this.2.1⟩
end Go.Proofs.YtmhjmicplaolmaaGreatDoor.PRm
