/- The node of a way, by its names: what the reference looks up is the way's own node. No condition. -/
import Derived.Test.YtmhjmicplaolmaaGreatDoorWalks
import Derived.Test.YtmhjmicplaolmaaGreatDoorPRmx8
import Derived.Test.YtmhjmicplaolmaaGreatDoorPRmx9
import Derived.Test.YtmhjmicplaolmaaGreatDoorPRmx10
import Derived.Test.YtmhjmicplaolmaaGreatDoorPRmx11
import Derived.Test.YtmhjmicplaolmaaGreatDoorPRmx12
import Derived.Test.YtmhjmicplaolmaaGreatDoorPRmx13
import Derived.Test.YtmhjmicplaolmaaGreatDoorPRmx14
import Derived.Test.YtmhjmicplaolmaaGreatDoorPRmx15
import Derived.Test.YtmhjmicplaolmaaGreatDoorPRmx16
import Derived.Test.YtmhjmicplaolmaaGreatDoorPRmx21
import Derived.Test.YtmhjmicplaolmaaGreatDoorPRmx22
import Derived.Test.YtmhjmicplaolmaaGreatDoorPRmx23
namespace Go.Proofs.YtmhjmicplaolmaaGreatDoor.PRm
open Go.RowKit Go.Proofs.YtmhjmicplaolmaaGreatDoorW.PrintWords Go.Proofs.YtmhjmicplaolmaaGreatDoorW.PrintLast Go.Proofs.YtmhjmicplaolmaaGreatDoorW.PrintMore Go.Proofs.YtmhjmicplaolmaaGreatDoor.Aid Go.Proofs.YtmhjmicplaolmaaGreatDoor.AllLoop Go.Proofs.YtmhjmicplaolmaaGreatDoor.Loops Go.Proofs.YtmhjmicplaolmaaGreatDoor.Put Go.Proofs.YtmhjmicplaolmaaGreatDoor.Graph
set_option linter.unusedSimpArgs false
set_option linter.unusedVariables false
theorem bl_irr : ∀ l : List UInt8, Op.bytesLess l l = false
  | [] => rfl
  | a :: l => by rw [Op.bytesLess, bl_irr l]; simp
theorem bl_trans : ∀ {a b c : List UInt8}, Op.bytesLess a b = true → Op.bytesLess b c = true → Op.bytesLess a c = true
  | _, _, [], _, h => by simp [Op.bytesLess] at h
  | [], _, _ :: _, _, _ => rfl
  | _ :: _, [], _ :: _, h, _ => by simp [Op.bytesLess] at h
  | x :: a, y :: b, z :: c, h, k => by
    simp only [Op.bytesLess, Bool.or_eq_true, Bool.and_eq_true, decide_eq_true_eq, beq_iff_eq] at h k ⊢
    rcases h with h | ⟨h1, h2⟩
    · rcases k with k | ⟨k1, k2⟩
      · exact .inl (UInt8.lt_trans h k)
      · exact .inl (k1 ▸ h)
    · rcases k with k | ⟨k1, k2⟩
      · exact .inl (h1 ▸ k)
      · exact .inr ⟨h1.trans k1, bl_trans h2 k2⟩
theorem less_far {l : List S87} (h : ∀ i : Int, 0 < i → i < (l.length : Int) → Less l i = true) : ∀ (d i : Nat), i + d + 1 < l.length → Op.bytesLess (r87 l (i : Int)).f0.toList (r87 l ((i + d + 1 : Nat) : Int)).f0.toList = true
  | 0, i, hl => by
    have := h ((i + 0 + 1 : Nat) : Int) (by omega) (by omega)
    unfold Less at this
    rwa [show ((i + 0 + 1 : Nat) : Int) - 1 = (i : Int) by omega] at this
  | d + 1, i, hl => by
    have h1 := less_far h d i (by omega)
    have := h ((i + (d + 1) + 1 : Nat) : Int) (by omega) (by omega)
    unfold Less at this
    rw [show ((i + (d + 1) + 1 : Nat) : Int) - 1 = ((i + d + 1 : Nat) : Int) by omega] at this
    exact bl_trans h1 this
def Rises (l : List S87) : Prop := ∀ i j : Nat, i < j → j < l.length → (r87 l (i : Int)).f0.toList ≠ (r87 l (j : Int)).f0.toList
theorem rises_of {l : List S87} (h : ∀ i : Int, 0 < i → i < (l.length : Int) → Less l i = true) : Rises l := fun i j hij hj e => by
  have := less_far h (j - i - 1) i (by omega)
  rw [show i + (j - i - 1) + 1 = j by omega, e, bl_irr] at this
  cases this
theorem rises_in {ns : List S62} {lo : Int} (h1 : All1 lo ns) : ∀ v ∈ ns, Rises v.f6 := fun v hv => by
  have hg := all_mem h1 v hv
  by_cases h0 : v.f0 = 0
  · have := (hg.1 h0).2.2.2.2.2; exact fun i j hij hj => absurd hj (by omega)
  · rcases (hg.2 h0).2.2.2.2 with h' | h' | h'
    · exact fun i j hij hj => absurd hj (by omega)
    · exact rises_of (fun i hi hl => (h'.2.2 i (by omega) hl).2.1 hi)
    · exact fun i j hij hj => absurd hj (by omega)
theorem spec_l3At.loop (l : List S87) (hl : l.length ≤ 1048576) (hu : Rises l) (n : Nat) (hn : n < l.length) (d : Nat) : ∀ i : Int, 0 ≤ i → i ≤ n → (n : Int) - i = d → Ev (fun k => spec_l3At.l0 k (r87 l (n : Int)).f0 l (l.length : Int) i) (r87 l (n : Int)).f1 := by
  induction d with
  | zero =>
    intro i h0 hi hd
    obtain rfl : i = (n : Int) := by omega
    exact Ev.step (fun k => by rw [spec_l3At.l0, if_pos (by omega), if_pos h0, if_pos (by omega), if_pos rfl]) (Ev.now _)
  | succ d ih =>
    intro i h0 hi hd
    have hne := hu i.toNat n (by omega) hn
    rw [show ((i.toNat : Nat) : Int) = i by omega] at hne
    refine Ev.step (fun k => by rw [spec_l3At.l0, if_pos (by omega), if_pos h0, if_pos (by omega), if_neg hne, wrap_id (x := i + 1) (by omega) (by omega)]) ?_
    exact ih (i + 1) (by omega) (by omega) (by omega)
theorem spec_l3At.is (l : List S87) (hl : l.length ≤ 1048576) (hu : Rises l) {e : S87} (he : e ∈ l) : Ev (fun k => spec_l3At.f k l e.f0) e.f1 := by
  obtain ⟨n, hn, en⟩ := List.mem_iff_getElem.1 he
  have e' : r87 l (n : Int) = e := by
    show l.getD (n : Int).toNat z87 = e
    rw [List.getD_eq_getElem?_getD, show (n : Int).toNat = n by omega, List.getElem?_eq_getElem hn]; exact en
  have := spec_l3At.loop l hl hu n hn n 0 (by omega) (by omega) (by omega)
  rw [e'] at this
  exact this
theorem segs_apps : ∀ (a b : List UInt8), segs (a ++ 47 :: b) = segs a ++ segs b
  | [], b => by rw [List.nil_append, segs_slash]; rfl
  | c :: a, b => by
    by_cases hc : c = 47
    · subst hc; rw [List.cons_append, segs_slash, segs_slash, segs_apps a b]; rfl
    · obtain ⟨x, t, h1, h2⟩ := segs_cons c a hc
      obtain ⟨x', t', h3, h4⟩ := segs_cons c (a ++ 47 :: b) hc
      rw [segs_apps a b, h1, List.cons_append, List.cons.injEq] at h3
      rw [List.cons_append, h4, h2, ← h3.1, ← h3.2]; rfl
def Chain (ns : List S62) : Int → List ByteArray → Int → Prop
  | a, [], x => a = x
  | a, q :: qs, x => 0 ≤ a ∧ a < (ns.length : Int) ∧ ∃ e ∈ (r62 ns a).f6, e.f0 = q ∧ Chain ns e.f1 qs x
theorem spec_l7At.loop (ns : List S62) (room : Int) (hs : ∀ v ∈ ns, v.f6.length ≤ 1048576) (hu : ∀ v ∈ ns, Rises v.f6) (l : List ByteArray) (hl : l.length ≤ 1000000) (y : Int) (d : Nat) : ∀ (j x : Int), 0 ≤ j → j ≤ l.length → (l.length : Int) - j = d → Chain ns x ((l.drop j.toNat).filter fun p => decide (p.toList ≠ [46])) y → Ev (fun k => spec_l7At.l0 k x l (l.length : Int) j ns room) y := by
  induction d with
  | zero =>
    intro j x h0 hj hd hc
    rw [List.drop_eq_nil_iff.mpr (by omega)] at hc
    obtain rfl : x = y := hc
    exact Ev.step (fun k => by rw [spec_l7At.l0, if_neg (by omega)]) (Ev.now _)
  | succ d ih =>
    intro j x h0 hj hd hc
    have hlt : j < (l.length : Int) := by omega
    rw [rdOf_drop l j h0 hlt, List.filter_cons] at hc
    refine Ev.step (fun k => by rw [spec_l7At.l0, if_pos hlt, if_pos h0, if_pos hlt, wrap_id (x := j + 1) (by omega) (by omega)]) ?_
    by_cases h : (rdOf ByteArray.empty l j).toList = [46]
    · rw [if_neg (by simpa using h)] at hc
      exact ev_pos h (ih (j + 1) x (by omega) (by omega) (by omega) hc)
    · rw [if_pos (by simpa using h)] at hc
      obtain ⟨a0, a1, e, he, e1, e2⟩ := hc
      have hm := nd_mem ns x a0 a1
      refine ev_neg h (ev_pos a0 (ev_pos a1 (ev_bind (a := e.f1) ?_ (ih (j + 1) _ (by omega) (by omega) (by omega) e2))))
      rw [← e1]
      exact spec_l3At.is _ (hs _ hm) (hu _ hm) he
end Go.Proofs.YtmhjmicplaolmaaGreatDoor.PRm
namespace Go.Proofs.YtmhjmicplaolmaaGreatDoor.PRm
open Go.RowKit Go.Proofs.YtmhjmicplaolmaaGreatDoorW.PrintWords Go.Proofs.YtmhjmicplaolmaaGreatDoorW.PrintLast Go.Proofs.YtmhjmicplaolmaaGreatDoorW.PrintMore Go.Proofs.YtmhjmicplaolmaaGreatDoor.Aid Go.Proofs.YtmhjmicplaolmaaGreatDoor.AllLoop Go.Proofs.YtmhjmicplaolmaaGreatDoor.Loops Go.Proofs.YtmhjmicplaolmaaGreatDoor.Put Go.Proofs.YtmhjmicplaolmaaGreatDoor.Graph
set_option linter.unusedSimpArgs false
set_option linter.unusedVariables false
theorem rd_set (ns : List S62) (i : Int) (v : S62) (h0 : 0 ≤ i) (h1 : i < (ns.length : Int)) (x : Int) (hx : 0 ≤ x) : r62 (ns.set i.toNat v) x = if x = i then v else r62 ns x := by
  show (ns.set i.toNat v).getD x.toNat z62 = _
  by_cases e : x = i
  · subst e
    rw [if_pos rfl, List.getD_eq_getElem?_getD, List.getElem?_set_self (by omega)]; rfl
  · rw [if_neg e, List.getD_eq_getElem?_getD, List.getElem?_set_ne (by omega)]
    show _ = ns.getD _ _
    rw [List.getD_eq_getElem?_getD]
theorem count_set (x : Int) (r : List Int) : ∀ (L : List (List Int)) (i : Nat) (h : i < L.length), (L.set i r).flatten.count x + (L[i]).count x = L.flatten.count x + r.count x
  | [], i, h => absurd h (by simp)
  | a :: L, 0, h => by
    simp only [List.set_cons_zero, List.flatten_cons, List.count_append, List.getElem_cons_zero]; omega
  | a :: L, i + 1, h => by
    have := count_set x r L i (by simpa using h)
    simp only [List.set_cons_succ, List.flatten_cons, List.count_append, List.getElem_cons_succ]; omega
abbrev Srt (l : List S87) : Prop := l.Pairwise fun x y => Op.bytesLess x.f0.toList y.f0.toList = true
theorem rd_get (l : List S87) (i : Nat) (h : i < l.length) : r87 l (i : Int) = l[i] := by
  show l.getD (i : Int).toNat z87 = _
  rw [List.getD_eq_getElem?_getD, show (i : Int).toNat = i by omega, List.getElem?_eq_getElem h]; rfl
theorem srt_of {l : List S87} (h : ∀ i : Int, 0 < i → i < (l.length : Int) → Less l i = true) : Srt l := by
  rw [Srt, List.pairwise_iff_getElem]
  intro i j hi hj hij
  have := less_far h (j - i - 1) i (by omega)
  rw [show i + (j - i - 1) + 1 = j by omega, rd_get l i hi, rd_get l j hj] at this
  exact this
theorem less_of {l : List S87} (h : Srt l) : ∀ i : Int, 0 < i → i < (l.length : Int) → Less l i = true := fun i h0 h1 => by
  obtain ⟨n, rfl⟩ := Int.eq_ofNat_of_zero_le (show 0 ≤ i by omega)
  rw [Srt, List.pairwise_iff_getElem] at h
  have := h (n - 1) n (by omega) (by omega) (by omega)
  unfold Less
  rw [show ((n : Nat) : Int) - 1 = ((n - 1 : Nat) : Int) by omega, rd_get l (n - 1) (by omega), rd_get l n (by omega)]
  exact this
theorem filt_split {l : List S87} (hs : Srt l) {e : S87} (he : e ∈ l) : ∃ a b, l = a ++ e :: b ∧ l.filter (keepE e.f0) = a ++ b ∧ ∀ x ∈ a ++ b, x.f0.toList ≠ e.f0.toList := by
  obtain ⟨a, b, rfl⟩ := List.append_of_mem he
  have hp := List.pairwise_append.1 hs
  have h1 : ∀ x ∈ a, x.f0.toList ≠ e.f0.toList := fun x hx h => by
    have := hp.2.2 x hx e List.mem_cons_self
    rw [h, bl_irr] at this; cases this
  have h2 : ∀ x ∈ b, x.f0.toList ≠ e.f0.toList := fun x hx h => by
    have := (List.pairwise_cons.1 hp.2.1).1 x hx
    rw [h, bl_irr] at this; cases this
  have hall : ∀ x ∈ a ++ b, x.f0.toList ≠ e.f0.toList := fun x hx => (List.mem_append.1 hx).elim (h1 x) (h2 x)
  refine ⟨a, b, rfl, ?_, hall⟩
  have k : ∀ x ∈ a ++ b, keepE e.f0 x = true := fun x hx => by
    unfold keepE
    rw [Bool.not_eq_true', beq_eq_false_iff_ne]
    exact hall x hx
  rw [List.filter_append, List.filter_cons_of_neg (by unfold keepE; simp), List.filter_eq_self.2 (fun x hx => k x (List.mem_append_left _ hx)), List.filter_eq_self.2 (fun x hx => k x (List.mem_append_right _ hx))]
theorem srt_in {ns : List S62} {lo : Int} (h1 : All1 lo ns) : ∀ v ∈ ns, Srt v.f6 := fun v hv => by
  have hg := all_mem h1 v hv
  have nil : v.f6.length = 0 → Srt v.f6 := fun h => by rw [List.eq_nil_of_length_eq_zero h]; exact List.Pairwise.nil
  by_cases h0 : v.f0 = 0
  · exact nil (hg.1 h0).2.2.2.2.2
  · rcases (hg.2 h0).2.2.2.2 with h' | h' | h'
    · exact nil h'.2.2
    · exact srt_of (fun i hi hl => (h'.2.2 i (by omega) hl).2.1 hi)
    · exact nil h'.2.2
def unl (ns : List S62) (dir : Int) (nm : ByteArray) (t node : Int) : List S62 := if links (rowsOf (dropN ns dir nm t)) node = 0 then (dropN ns dir nm t).set node.toNat z62 else dropN ns dir nm t
theorem unl_len (ns : List S62) (dir : Int) (nm : ByteArray) (t node : Int) : (unl ns dir nm t node).length = ns.length := by
  unfold unl; split
  · rw [List.length_set, drop_len]
  · exact drop_len _ _ _ _
theorem sum_foldl : ∀ (l : List S62) (s : Int), (∀ v ∈ l, v.f5.size ≤ 1048576) → 0 ≤ s → s + (l.length : Int) * 1048576 ≤ 1152921504606846976 → l.foldl (fun s v => wrap64 (s + (v.f5.size : Int))) s = s + (((l.map fun v => v.f5.size).sum : Nat) : Int)
  | [], s, _, _, _ => by simp
  | v :: l, s, hv, h0, h1 => by
    have hb := hv v List.mem_cons_self
    rw [List.length_cons] at h1
    have hw : wrap64 (s + (v.f5.size : Int)) = s + v.f5.size := wrap_id (by omega) (by omega)
    rw [List.foldl_cons, hw, sum_foldl l (s + v.f5.size) (fun u hu => hv u (List.mem_cons_of_mem _ hu)) (by omega) (by omega), List.map_cons, List.sum_cons]
    omega
theorem sumW_is (ns : List S62) (hn : ns.length ≤ 1048576) (hs : ∀ v ∈ ns, Small1 v) : sumW ns = (((ns.map fun v => v.f5.size).sum : Nat) : Int) := by
  have := sum_foldl ns 0 (fun v hv => (hs v hv).1) (by omega) (by omega)
  unfold sumW
  rw [this]; omega
theorem sum_set (f : S62 → Nat) (v : S62) : ∀ (ns : List S62) (i : Nat) (h : i < ns.length), f v ≤ f ns[i] → ((ns.set i v).map f).sum ≤ (ns.map f).sum
  | [], i, h, _ => absurd h (by simp)
  | a :: l, 0, h, hv => by
    simp only [List.set_cons_zero, List.map_cons, List.sum_cons, List.getElem_cons_zero] at hv ⊢; omega
  | a :: l, i + 1, h, hv => by
    have := sum_set f v l i (by simpa using h) (by simpa using hv)
    simp only [List.set_cons_succ, List.map_cons, List.sum_cons]; omega
theorem set_self (L : List (List Int)) (i : Nat) (h : i < L.length) : L.set i L[i] = L := by
  apply List.ext_getElem?
  intro j
  by_cases e : i = j
  · subst e; rw [List.getElem?_set_self h, List.getElem?_eq_getElem h]
  · rw [List.getElem?_set_ne e]
theorem nd_get (ns : List S62) (i : Int) (h0 : 0 ≤ i) (h1 : i < (ns.length : Int)) : ns[i.toNat]'(by omega) = r62 ns i := by
  show _ = ns.getD i.toNat z62
  rw [List.getD_eq_getElem?_getD, List.getElem?_eq_getElem (by omega)]; rfl
theorem rows_get (ns : List S62) (i : Int) (h0 : 0 ≤ i) (h1 : i < (ns.length : Int)) : (rowsOf ns)[i.toNat]'(by rw [rows_len]; omega) = row (r62 ns i).f6 := by
  have := adj_is ns i h0 h1
  unfold adjOf at this
  rw [List.getD_eq_getElem?_getD, List.getElem?_eq_getElem (by rw [rows_len]; omega)] at this
  exact this
structure Unl (ns : List S62) (dir : Int) (e : S87) (ns' : List S62) : Prop where
  len : ns'.length = ns.length
  other : ∀ x, 0 ≤ x → x < (ns.length : Int) → x ≠ dir → x ≠ e.f1 → r62 ns' x = r62 ns x
  at_ : r62 ns' dir = ⟨(r62 ns dir).f0, (r62 ns dir).f1, (r62 ns dir).f2, (r62 ns dir).f3, 0, (r62 ns dir).f5, (r62 ns dir).f6.filter (keepE e.f0)⟩
  node : r62 ns' e.f1 = r62 ns e.f1 ∨ (r62 ns' e.f1 = z62 ∧ links (rowsOf ns') e.f1 = 0)
  kept : links (rowsOf ns') e.f1 ≠ 0 → r62 ns' e.f1 = r62 ns e.f1
  freed : links (rowsOf ns') e.f1 = 0 → r62 ns' e.f1 = z62
  adj : ∀ x, 0 ≤ x → x < (ns.length : Int) → adjOf (rowsOf ns') x = if x = dir then row ((r62 ns dir).f6.filter (keepE e.f0)) else adjOf (rowsOf ns) x
  count : ∀ x, links (rowsOf ns') x + (if x = e.f1 then 1 else 0) = links (rowsOf ns) x
  list : ∀ x ∈ (r62 ns dir).f6.filter (keepE e.f0), x ∈ (r62 ns dir).f6 ∧ x.f0.toList ≠ e.f0.toList
  more : ∀ x ∈ (r62 ns dir).f6, x = e ∨ x ∈ (r62 ns dir).f6.filter (keepE e.f0)
theorem unl_is {ns : List S62} {room dir : Int} {e : S87} (hg : SpecGood ns room) (h0 : 0 ≤ dir) (h1 : dir < (ns.length : Int)) (he : e ∈ (r62 ns dir).f6) (hz : (r62 ns e.f1).f6 = []) : Unl ns dir e (unl ns dir e.f0 0 e.f1) := by
  have hto := good_row (hg.2.1 dir h0 h1) e.f1 (List.mem_map.2 ⟨e, he, rfl⟩)
  have hn0 : 0 ≤ e.f1 := by have := hto.2.1; omega
  have hn1 := hto.2.2.1
  have hne : e.f1 ≠ dir := fun h => by rw [h] at hz; rw [hz] at he; cases he
  obtain ⟨a, b, hl, hf, hall⟩ := filt_split (srt_in hg.2.1 _ (nd_mem ns dir h0 h1)) he
  have hdl := drop_len ns dir e.f0 0
  have hdr : ∀ x, 0 ≤ x → r62 (dropN ns dir e.f0 0) x = if x = dir then ⟨(r62 ns dir).f0, (r62 ns dir).f1, (r62 ns dir).f2, (r62 ns dir).f3, 0, (r62 ns dir).f5, (r62 ns dir).f6.filter (keepE e.f0)⟩ else r62 ns x := fun x hx => rd_set ns dir _ h0 h1 x hx
  have hrows : rowsOf (unl ns dir e.f0 0 e.f1) = rowsOf (dropN ns dir e.f0 0) := by
    unfold unl
    split
    · have hr := rows_get (dropN ns dir e.f0 0) e.f1 hn0 (by rw [hdl]; exact hn1)
      rw [hdr e.f1 hn0, if_neg hne, hz] at hr
      show (List.map _ (List.set _ _ _)) = _
      rw [List.map_set]
      have := set_self (rowsOf (dropN ns dir e.f0 0)) e.f1.toNat (by rw [rows_len, hdl]; omega)
      rw [hr] at this
      exact this
    · rfl
  have hrow2 : rowsOf (dropN ns dir e.f0 0) = (rowsOf ns).set dir.toNat (row ((r62 ns dir).f6.filter (keepE e.f0))) := by
    show List.map _ (List.set _ _ _) = _
    rw [List.map_set]; rfl
  have hulen := unl_len ns dir e.f0 0 e.f1
  have hrd : ∀ x, 0 ≤ x → x < (ns.length : Int) → r62 (unl ns dir e.f0 0 e.f1) x = if links (rowsOf (dropN ns dir e.f0 0)) e.f1 = 0 ∧ x = e.f1 then z62 else r62 (dropN ns dir e.f0 0) x := fun x hx hx1 => by
    unfold unl
    by_cases hc : links (rowsOf (dropN ns dir e.f0 0)) e.f1 = 0
    · rw [if_pos hc, rd_set _ e.f1 _ hn0 (by rw [hdl]; exact hn1) x hx]
      by_cases hxe : x = e.f1
      · rw [if_pos hxe, if_pos ⟨hc, hxe⟩]
      · rw [if_neg hxe, if_neg (fun h => hxe h.2)]
    · rw [if_neg hc, if_neg (fun h => hc h.1)]
  refine ⟨hulen, fun x hx hx1 hxd hxe => ?_, ?_, ?_, fun hk => ?_, fun hk => ?_, fun x hx hx1 => ?_, fun x => ?_, fun x hx => ?_, fun x hx => ?_⟩
  · rw [hrd x hx hx1, if_neg (fun h => hxe h.2), hdr x hx, if_neg hxd]
  · rw [hrd dir h0 h1, if_neg (fun h => hne h.2.symm), hdr dir h0, if_pos rfl]
  · rw [hrd e.f1 hn0 hn1, hrows]
    by_cases hc : links (rowsOf (dropN ns dir e.f0 0)) e.f1 = 0
    · rw [if_pos ⟨hc, rfl⟩]; exact .inr ⟨rfl, hc⟩
    · rw [if_neg (fun h => hc h.1), hdr e.f1 hn0, if_neg hne]; exact .inl rfl
  · rw [hrows] at hk
    rw [hrd e.f1 hn0 hn1, if_neg (fun h => hk h.1), hdr e.f1 hn0, if_neg hne]
  · rw [hrows] at hk
    rw [hrd e.f1 hn0 hn1, if_pos ⟨hk, rfl⟩]
  · rw [hrows, adj_is (dropN ns dir e.f0 0) x hx (by rw [hdl]; exact hx1), hdr x hx]
    split
    · rfl
    · rw [adj_is ns x hx hx1]
  · rw [hrows, hrow2]
    have hc := count_set x (row ((r62 ns dir).f6.filter (keepE e.f0))) (rowsOf ns) dir.toNat (by rw [rows_len]; omega)
    rw [rows_get ns dir h0 h1, hf] at hc
    have hl2 : row (r62 ns dir).f6 = row a ++ e.f1 :: row b := by rw [hl]; show List.map _ _ = _; rw [List.map_append, List.map_cons]; rfl
    have hf2 : row (a ++ b) = row a ++ row b := List.map_append ..
    rw [hl2, hf2] at hc
    rw [hf, hf2]
    show ((rowsOf ns).set dir.toNat (row a ++ row b)).flatten.count x + _ = (rowsOf ns).flatten.count x
    simp only [List.count_append, List.count_cons] at hc
    by_cases hxe : x = e.f1
    · subst hxe
      simp only [beq_self_eq_true, if_true] at hc ⊢
      omega
    · have : (e.f1 == x) = false := by rw [beq_eq_false_iff_ne]; exact fun h => hxe h.symm
      simp only [this, if_neg hxe] at hc ⊢
      simp at hc
      omega
  · rw [hf] at hx
    refine ⟨?_, hall x hx⟩
    rw [hl]
    rcases List.mem_append.1 hx with h | h
    · exact List.mem_append_left _ h
    · exact List.mem_append_right _ (List.mem_cons_of_mem _ h)
  · rw [hf]
    rw [hl] at hx
    rcases List.mem_append.1 hx with h | h
    · exact .inr (List.mem_append_left _ h)
    · rcases List.mem_cons.1 h with h | h
      · exact .inl h
      · exact .inr (List.mem_append_right _ h)
theorem good1_move {ns ns' : List S62} {v : S62} (h : Good1 1 ns v) (ht : ∀ x ∈ row v.f6, To 1 ns' x) : Good1 1 ns' v := by
  refine ⟨h.1, fun h0 => ?_⟩
  obtain ⟨a, b, c, d, h'⟩ := h.2 h0
  refine ⟨a, b, c, d, ?_⟩
  rcases h' with h' | h' | h'
  · exact .inl h'
  · exact .inr (.inl ⟨h'.1, h'.2.1, fun i hi hl => ⟨(h'.2.2 i hi hl).1, (h'.2.2 i hi hl).2.1, ht _ (List.mem_map.2 ⟨_, en_mem _ i hi hl, rfl⟩)⟩⟩)
  · exact .inr (.inr h')
theorem met_of {ns : List S62} {room : Int} (hn : ns.length ≤ 1048576) (hs : ∀ v ∈ ns, Small1 v) (hg : SpecGood ns room) : ∃ met, Go.Proofs.YtmhjmicplaolmaaGreatDoor.Graph.Met (adjOf (rowsOf ns)) ns.length [0] [] met := by
  obtain ⟨r, _, hm⟩ := spec_l3Met.is ns room hn (small_lists hs) (fun v hv x hx => by
    obtain ⟨e, he, rfl⟩ := List.mem_map.1 hx
    exact rows_in hg v hv e he) ns.length [] 0 (by first | exact List.Pairwise.nil | (intro i; simp) | simp [Rising]) (fun x hx => by cases hx) (by omega) (by have := hg.1.1.1; omega) (by simp)
  exact ⟨r, hm⟩
theorem reach_in {ns : List S62} {room : Int} (hg : SpecGood ns room) {x : Int} (h : Go.Proofs.YtmhjmicplaolmaaGreatDoor.Graph.Reach (adjOf (rowsOf ns)) 0 x) : 0 ≤ x ∧ x < (ns.length : Int) := by
  induction h with
  | here => have := hg.1.1.1; omega
  | next _ hy ih =>
    rw [adj_is ns _ ih.1 ih.2] at hy
    obtain ⟨e, he, rfl⟩ := List.mem_map.1 hy
    exact rows_in hg _ (nd_mem ns _ ih.1 ih.2) e he
theorem reach_unl {ns ns' : List S62} {room dir : Int} {e : S87} (hg : SpecGood ns room) (U : Unl ns dir e ns') (hn0 : 0 ≤ e.f1) (hn1 : e.f1 < (ns.length : Int)) (hz : (r62 ns e.f1).f6 = []) {y : Int} (h : Go.Proofs.YtmhjmicplaolmaaGreatDoor.Graph.Reach (adjOf (rowsOf ns)) 0 y) : y ≠ e.f1 → Go.Proofs.YtmhjmicplaolmaaGreatDoor.Graph.Reach (adjOf (rowsOf ns')) 0 y := by
  induction h with
  | here => exact fun _ => Go.Proofs.YtmhjmicplaolmaaGreatDoor.Graph.Reach.here
  | @next x y hx hy ih =>
    intro hne
    have hin := reach_in hg hx
    have hxe : x ≠ e.f1 := fun h => by
      rw [adj_is ns x hin.1 hin.2, h, hz] at hy
      cases hy
    refine Go.Proofs.YtmhjmicplaolmaaGreatDoor.Graph.Reach.next (ih hxe) ?_
    rw [U.adj x hin.1 hin.2]
    split
    · rename_i hxd
      subst hxd
      rw [adj_is ns x hin.1 hin.2] at hy
      obtain ⟨e', he', rfl⟩ := List.mem_map.1 hy
      rcases U.more e' he' with h | h
      · exact absurd (by rw [h]) hne
      · exact List.mem_map.2 ⟨e', h, rfl⟩
    · exact hy
theorem unl_small {ns : List S62} {room dir : Int} {e : S87} (hg : SpecGood ns room) (hs : ∀ v ∈ ns, Small1 v) (h0 : 0 ≤ dir) (h1 : dir < (ns.length : Int)) : ∀ v ∈ unl ns dir e.f0 0 e.f1, Small1 v := by
  have hd : ∀ v ∈ dropN ns dir e.f0 0, Small1 v := fun v hv => by
    rcases List.mem_or_eq_of_mem_set hv with h | h
    · exact hs v h
    · have hv' := hs _ (nd_mem ns dir h0 h1)
      subst h
      exact ⟨hv'.1, Nat.le_trans (List.length_filter_le _ _) hv'.2.1, fun x hx => hv'.2.2 x (List.mem_filter.1 hx).1⟩
  intro v hv
  unfold unl at hv
  split at hv
  · rcases List.mem_or_eq_of_mem_set hv with h | h
    · exact hd v h
    · subst h; exact ⟨by decide, by decide, fun x hx => by cases hx⟩
  · exact hd v hv
theorem unl_sum {ns : List S62} {dir : Int} {e : S87} (h0 : 0 ≤ dir) (h1 : dir < (ns.length : Int)) (hn0 : 0 ≤ e.f1) (hn1 : e.f1 < (ns.length : Int)) : ((unl ns dir e.f0 0 e.f1).map fun v => v.f5.size).sum ≤ (ns.map fun v => v.f5.size).sum := by
  have hd : ((dropN ns dir e.f0 0).map fun v => v.f5.size).sum ≤ (ns.map fun v => v.f5.size).sum := sum_set (fun v => v.f5.size) _ ns dir.toNat (by omega) (by rw [nd_get ns dir h0 h1]; exact Nat.le_refl _)
  unfold unl
  split
  · refine Nat.le_trans (sum_set (fun v => v.f5.size) _ _ e.f1.toNat (by rw [drop_len]; omega) (by exact Nat.zero_le _)) hd
  · exact hd
theorem unl_good {ns : List S62} {room dir : Int} {e : S87} (hn : ns.length ≤ 1048576) (hg : SpecGood ns room) (hs : ∀ v ∈ ns, Small1 v) (h0 : 0 ≤ dir) (h1 : dir < (ns.length : Int)) (he : e ∈ (r62 ns dir).f6) (hz : (r62 ns e.f1).f6 = []) : SpecGood (unl ns dir e.f0 0 e.f1) room := by
  have U := unl_is hg h0 h1 he hz
  have hto := good_row (hg.2.1 dir h0 h1) e.f1 (List.mem_map.2 ⟨e, he, rfl⟩)
  have hn0 : 0 ≤ e.f1 := by have := hto.2.1; omega
  have hn1 := hto.2.2.1
  have hne : e.f1 ≠ dir := fun h => by rw [h] at hz; rw [hz] at he; cases he
  obtain ⟨met, hmet⟩ := met_of hn hs hg
  have hend := hg.2.2 met hmet
  have hs' := unl_small (e := e) hg hs h0 h1
  have hsum := unl_sum (e := e) h0 h1 hn0 hn1
  generalize unl ns dir e.f0 0 e.f1 = ns' at *
  have hf0 : ∀ i, 0 ≤ i → i < (ns.length : Int) → i ≠ e.f1 → (r62 ns' i).f0 = (r62 ns i).f0 := fun i hi hi1 hie => by
    by_cases hd : i = dir
    · subst hd; rw [U.at_]
    · rw [U.other i hi hi1 hd hie]
  have hsub : ∀ i, 0 ≤ i → i < (ns.length : Int) → ∀ x ∈ adjOf (rowsOf ns') i, x ∈ adjOf (rowsOf ns) i := fun i hi hi1 x hx => by
    rw [U.adj i hi hi1] at hx
    split at hx
    · rename_i hd
      subst hd
      rw [adj_is ns i hi hi1]
      obtain ⟨e', he', rfl⟩ := List.mem_map.1 hx
      exact List.mem_map.2 ⟨e', (U.list e' he').1, rfl⟩
    · exact hx
  have hTo : ∀ i, 0 ≤ i → i < (ns.length : Int) → ∀ x ∈ adjOf (rowsOf ns') i, To 1 ns' x := fun i hi hi1 x hx => by
    have hx0 := hsub i hi hi1 x hx
    rw [adj_is ns i hi hi1] at hx0
    have ht := (good_row (hg.2.1 i hi hi1) x hx0).2
    refine ⟨ht.1, by rw [U.len]; exact ht.2.1, ?_⟩
    by_cases hxe : x = e.f1
    · subst hxe
      rw [U.kept (by
        have := links_pos.2 ⟨i, hi, by rw [rows_len, U.len]; exact hi1, hx⟩
        omega)]
      exact ht.2.2
    · rw [hf0 x (by have := ht.1; omega) ht.2.1 hxe]; exact ht.2.2
  refine ⟨⟨by rw [U.len]; exact hg.1.1, hg.1.2.1, ?_, ?_⟩, fun i hi hi1 => ?_, fun met' hmet' i hi hi1 => ?_⟩
  · rw [sumW_is ns' (by rw [U.len]; exact hn) hs']
    have := hg.1.2.2.1
    rw [sumW_is ns hn hs] at this
    omega
  · rw [hf0 0 (by omega) (by have := hg.1.1.1; omega) (by have := hto.2.1; omega)]
    exact hg.1.2.2.2
  · rw [U.len] at hi1
    have hT := hTo i hi hi1
    rw [adj_is ns' i hi (by rw [U.len]; exact hi1)] at hT
    by_cases hie : i = e.f1
    · subst hie
      rcases U.node with h | ⟨h, _⟩
      · rw [h] at hT ⊢
        exact good1_move (hg.2.1 _ hi hi1) hT
      · rw [h]
        exact ⟨fun _ => ⟨rfl, rfl, rfl, rfl, (by first | rfl | decide | (show ByteArray.toList _ = _; rw [ByteArray.toList_eq]; rfl)), rfl⟩, fun h => absurd rfl h⟩
    · by_cases hid : i = dir
      · subst hid
        have hv := hg.2.1 i hi hi1
        have hf2 := hto.1
        obtain ⟨b1, b2, b3, b4, h'⟩ := hv.2 (by rw [hf2]; decide)
        rw [U.at_] at hT ⊢
        rcases h' with h' | h' | h'
        · rw [hf2] at h'; exact absurd h'.1 (by decide)
        · refine ⟨fun h => absurd h (by show ¬ _ = (0 : Int); rw [hf2]; decide), fun _ => ⟨b1, b2, b3, ⟨by show (0 : Int) ≤ 0; omega, by show (0 : Int) ≤ 1000000; omega⟩, .inr (.inl ⟨hf2, h'.2.1, fun j hj hjl => ?_⟩)⟩⟩
          have hm := en_mem _ j hj hjl
          have hm0 := (U.list _ hm).1
          obtain ⟨q, hq, eq⟩ := List.mem_iff_getElem.1 hm0
          refine ⟨?_, ?_, hT _ (List.mem_map.2 ⟨_, hm, rfl⟩)⟩
          · have := (h'.2.2 (q : Int) (by omega) (by omega)).1
            rw [rd_get _ q hq, eq] at this
            exact this
          · intro hj0
            exact less_of (List.Pairwise.filter _ (srt_in hg.2.1 _ (nd_mem ns i hi hi1))) j hj0 hjl
        · rw [hf2] at h'; exact absurd h'.1 (by decide)
      · rw [U.other i hi hi1 hid hie] at hT ⊢
        exact good1_move (hg.2.1 i hi hi1) hT
  · rw [U.len] at hi1
    have hc := U.count i
    obtain ⟨k1, k2, k3⟩ := hend i hi hi1
    refine ⟨fun h => ?_, fun hp hd => ?_, fun hnf => ?_⟩
    · subst h
      have := U.count 0
      rw [k1 rfl] at this
      omega
    · by_cases hie : i = e.f1
      · subst hie
        exfalso
        by_cases hl : links (rowsOf ns') e.f1 = 0
        · rw [U.freed hl] at hd; exact absurd hd (by decide)
        · have hd2 := hd
          rw [U.kept hl] at hd2
          have := k2 hp hd2
          rw [if_pos rfl] at hc
          omega
      · rw [hf0 i hi hi1 hie] at hd
        have := k2 hp hd
        rw [if_neg hie] at hc
        omega
    · rw [hmet'.reach]
      by_cases hie : i = e.f1
      · subst hie
        have hl : links (rowsOf ns') e.f1 ≠ 0 := fun hl => by rw [U.freed hl] at hnf; exact hnf rfl
        obtain ⟨p, hp0, hp1, hpm⟩ := links_pos.1 (show 0 < links (rowsOf ns') e.f1 by omega)
        rw [rows_len, U.len] at hp1
        have hpm0 := hsub p hp0 hp1 _ hpm
        have hpe : p ≠ e.f1 := fun h => by
          rw [adj_is ns p hp0 hp1, h, hz] at hpm0
          cases hpm0
        have hpd : (r62 ns p).f0 ≠ 0 := by
          rw [adj_is ns p hp0 hp1] at hpm0
          rw [(good_row (hg.2.1 p hp0 hp1) _ hpm0).1]; decide
        have hr := hmet.reach.1 ((hend p hp0 hp1).2.2 hpd)
        exact Go.Proofs.YtmhjmicplaolmaaGreatDoor.Graph.Reach.next (reach_unl hg U hn0 hn1 hz hr hpe) hpm
      · rw [hf0 i hi hi1 hie] at hnf
        exact reach_unl hg U hn0 hn1 hz (hmet.reach.1 (k3 hnf)) hie
end Go.Proofs.YtmhjmicplaolmaaGreatDoor.PRm
namespace Go.Proofs.YtmhjmicplaolmaaGreatDoor.PRm
open Go.RowKit Go.Proofs.YtmhjmicplaolmaaGreatDoorW.PrintWords Go.Proofs.YtmhjmicplaolmaaGreatDoorW.PrintLast Go.Proofs.YtmhjmicplaolmaaGreatDoorW.PrintMore Go.Proofs.YtmhjmicplaolmaaGreatDoor.Aid Go.Proofs.YtmhjmicplaolmaaGreatDoor.AllLoop Go.Proofs.YtmhjmicplaolmaaGreatDoor.Loops Go.Proofs.YtmhjmicplaolmaaGreatDoor.Put Go.Proofs.YtmhjmicplaolmaaGreatDoor.Graph
set_option linter.unusedSimpArgs false
set_option linter.unusedVariables false
theorem adj_all (ns : List S62) (x : Int) : adjOf (rowsOf ns) x = row (r62 ns x).f6 := by
  show (List.map _ ns).getD x.toNat [] = row (ns.getD x.toNat z62).f6
  rw [List.getD_eq_getElem?_getD, List.getD_eq_getElem?_getD, List.getElem?_map]
  cases ns[x.toNat]? <;> rfl
def Sub (ns ns' : List S62) : Prop := ∀ x : Int, (r62 ns' x).f6.Sublist (r62 ns x).f6
theorem Sub.refl (ns : List S62) : Sub ns ns := fun _ => List.Sublist.refl _
theorem Sub.trans {a b c : List S62} (h : Sub a b) (k : Sub b c) : Sub a c := fun x => (k x).trans (h x)
theorem Sub.adj {ns ns' : List S62} (h : Sub ns ns') (x : Int) : (adjOf (rowsOf ns') x).Sublist (adjOf (rowsOf ns) x) := by
  rw [adj_all, adj_all]; exact (h x).map _
theorem Sub.reach {ns ns' : List S62} (h : Sub ns ns') {a y : Int} (r : Go.Proofs.YtmhjmicplaolmaaGreatDoor.Graph.Reach (adjOf (rowsOf ns')) a y) : Go.Proofs.YtmhjmicplaolmaaGreatDoor.Graph.Reach (adjOf (rowsOf ns)) a y := by
  induction r with
  | here => exact Go.Proofs.YtmhjmicplaolmaaGreatDoor.Graph.Reach.here
  | next _ hy ih => exact Go.Proofs.YtmhjmicplaolmaaGreatDoor.Graph.Reach.next ih ((h.adj _).mem hy)
theorem Sub.deep {ns ns' : List S62} (h : Sub ns ns') : ∀ {d : Nat} {a : Int}, Deep (adjOf (rowsOf ns)) d a → Deep (adjOf (rowsOf ns')) d a
  | 0, a, hd => by
    have : adjOf (rowsOf ns) a = [] := hd
    have k := h.adj a
    rw [this] at k
    exact List.sublist_nil.1 k
  | d + 1, a, hd => fun x hx => h.deep (hd x ((h.adj a).mem hx))
theorem flat_sub {f g : Int → List Int} (hf : ∀ x, (f x).length ≤ (g x).length) : ∀ {l' l : List Int}, l'.Sublist l → (l'.flatMap f).length ≤ (l.flatMap g).length := by
  intro l' l h
  induction h with
  | slnil => simp
  | cons a _ ih => rw [List.flatMap_cons, List.length_append]; omega
  | cons_cons a _ ih => rw [List.flatMap_cons, List.flatMap_cons, List.length_append, List.length_append]; have := hf a; omega
theorem Sub.dfs {ns ns' : List S62} (h : Sub ns ns') : ∀ (d : Nat) (a : Int), (dfs (adjOf (rowsOf ns')) d a).length ≤ (dfs (adjOf (rowsOf ns)) d a).length
  | 0, a => Nat.le_refl _
  | d + 1, a => by
    simp only [Go.Proofs.YtmhjmicplaolmaaGreatDoor.Graph.dfs, List.length_cons]
    have := flat_sub (fun x => h.dfs d x) (h.adj a)
    omega
theorem deep_reach {adj : Int → List Int} {d : Nat} {a b : Int} (h : Deep adj d a) (r : Go.Proofs.YtmhjmicplaolmaaGreatDoor.Graph.Reach adj a b) : Deep adj d b := by
  induction r with
  | here => exact h
  | @next x y _ hy ih =>
    cases d with
    | zero =>
      have : adj x = [] := ih
      rw [this] at hy; cases hy
    | succ d => exact (ih y hy).mono (Nat.le_succ d)
theorem acyclic {adj : Int → List Int} : ∀ (d : Nat) {a c : Int}, Deep adj d a → c ∈ adj a → ¬ Go.Proofs.YtmhjmicplaolmaaGreatDoor.Graph.Reach adj c a
  | 0, a, c, h, hc, _ => by
    have : adj a = [] := h
    rw [this] at hc; cases hc
  | d + 1, a, c, h, hc, r => acyclic d (deep_reach (h c hc) r) hc r
theorem rd_nat (ns : List S62) (x : Int) : r62 ns x = r62 ns (x.toNat : Int) := by
  show ns.getD x.toNat _ = ns.getD (x.toNat : Int).toNat _
  rw [Int.toNat_natCast]
theorem rd_out (ns : List S62) (i : Nat) (h : ns.length ≤ i) : r62 ns (i : Int) = z62 := by
  show ns.getD (i : Int).toNat z62 = _
  rw [Int.toNat_natCast, List.getD_eq_getElem?_getD, List.getElem?_eq_none h]; rfl
theorem Unl.sub {ns ns' : List S62} {dir : Int} {e : S87} (U : Unl ns dir e ns') : Sub ns ns' := fun x => by
  rw [rd_nat ns x, rd_nat ns' x]
  generalize x.toNat = i
  rcases Nat.lt_or_ge i ns.length with h | h
  · by_cases h1 : (i : Int) = dir
    · rw [h1, U.at_]; exact List.filter_sublist
    · by_cases h2 : (i : Int) = e.f1
      · rw [h2]
        rcases U.node with h | ⟨h, _⟩
        · rw [h]; exact List.Sublist.refl _
        · rw [h]; exact List.nil_sublist _
      · rw [U.other i (by omega) (by omega) h1 h2]; exact List.Sublist.refl _
  · rw [rd_out ns i h, rd_out ns' i (by rw [U.len]; exact h)]; exact List.Sublist.refl _
theorem spec_l3Own.loop (ns : List S62) (room : Int) (hn : ns.length ≤ 1048576) (hs : ∀ v ∈ ns, v.f6.length ≤ 1048576) (d : Nat) : ∀ i : Nat, i ≤ ns.length → ns.length - i = d → Ev (fun k => spec_l3Own.l0 k ns (ns.length : Int) (i : Int) (ns.take i) room) (ns, room) := by
  induction d with
  | zero =>
    intro i hi hd
    exact Ev.step (fun k => by rw [spec_l3Own.l0, if_neg (by omega)]) (ev_some (by rw [List.take_of_length_le (by omega)]))
  | succ d ih =>
    intro i hi hd
    have hv := hs _ (nd_mem ns (i : Int) (by omega) (by omega))
    have hg := nd_get ns (i : Int) (by omega) (by omega)
    have ht : ns.take (i + 1) = ns.take i ++ [r62 ns (i : Int)] := by
      rw [List.take_succ_eq_append_getElem (by omega), ← hg]; rfl
    refine Ev.step (fun k => by rw [spec_l3Own.l0, if_pos (by omega), if_pos (by omega), if_pos (by omega)]) ?_
    refine ev_bind0 (a := ([] : List S87)) rfl (ev_pos (by rw [List.length_nil]; omega) (ev_pos (by rw [List.length_take]; omega) ?_))
    have := ih (i + 1) (by omega) (by omega)
    rw [ht] at this
    rw [wrap_id (x := (i : Int) + 1) (by omega) (by omega)]
    exact this
theorem spec_l3Own.is (ns : List S62) (room : Int) (hn : ns.length ≤ 1048576) (hs : ∀ v ∈ ns, v.f6.length ≤ 1048576) : Ev (fun k => spec_l3Own.f k ns room) (ns, room) := spec_l3Own.loop ns room hn hs ns.length 0 (by omega) (by omega)
theorem impl_Fs_entry.loop (l : List S87) (hl : l.length ≤ 1048576) (hu : Rises l) (n : Nat) (hn : n < l.length) (d : Nat) : ∀ i : Int, 0 ≤ i → i ≤ n → (n : Int) - i = d → Ev (fun k => impl_Fs_entry.l0 k (r87 l (n : Int)).f0 l (l.length : Int) i) (r87 l (n : Int)).f1 := by
  induction d with
  | zero =>
    intro i h0 hi hd
    obtain rfl : i = (n : Int) := by omega
    exact Ev.step (fun k => by rw [impl_Fs_entry.l0, if_pos (by omega), if_pos h0, if_pos (by omega), if_pos rfl]) (Ev.now _)
  | succ d ih =>
    intro i h0 hi hd
    have hne := hu i.toNat n (by omega) hn
    rw [show ((i.toNat : Nat) : Int) = i by omega] at hne
    refine Ev.step (fun k => by rw [impl_Fs_entry.l0, if_pos (by omega), if_pos h0, if_pos (by omega), if_neg hne, wrap_id (x := i + 1) (by omega) (by omega)]) ?_
    exact ih (i + 1) (by omega) (by omega) (by omega)
theorem impl_Fs_entry.is (ns : List S62) (room dir : Int) (h0 : 0 ≤ dir) (h1 : dir < (ns.length : Int)) (hl : (r62 ns dir).f6.length ≤ 1048576) (hu : Rises (r62 ns dir).f6) {e : S87} (he : e ∈ (r62 ns dir).f6) : Ev (fun k => impl_Fs_entry.f k ns room dir e.f0) e.f1 := by
  unfold impl_Fs_entry.f
  obtain ⟨n, hn, en⟩ := List.mem_iff_getElem.1 he
  have := impl_Fs_entry.loop _ hl hu n hn n 0 (by omega) (by omega) (by omega)
  rw [rd_get _ n hn, en] at this
  exact ev_pos h0 (ev_pos h1 this)
theorem May_bits : ∀ b w : Fin 8, (Go.bits .andNot .i64 (w.val : Int) (b.val : Int) == 0) = (Go.bits .and .i64 (b.val : Int) (w.val : Int) == (w.val : Int)) := by decide +kernel
theorem May_low : ∀ n : Fin 512, 0 ≤ Go.bits .and .i64 (n.val : Int) 7 ∧ Go.bits .and .i64 (n.val : Int) 7 < 8 := by decide +kernel
theorem May_bits' {b w : Int} (h0 : 0 ≤ b) (h1 : b < 8) (h2 : 0 ≤ w) (h3 : w < 8) : (Go.bits .andNot .i64 w b == 0) = (Go.bits .and .i64 b w == w) := by
  obtain ⟨n, rfl⟩ := Int.eq_ofNat_of_zero_le h0
  obtain ⟨m, rfl⟩ := Int.eq_ofNat_of_zero_le h2
  exact May_bits ⟨n, by omega⟩ ⟨m, by omega⟩
theorem May_low' {n : Int} (h0 : 0 ≤ n) (h1 : n < 512) : 0 ≤ Go.bits .and .i64 n 7 ∧ Go.bits .and .i64 n 7 < 8 := by
  obtain ⟨n, rfl⟩ := Int.eq_ofNat_of_zero_le h0
  exact May_low ⟨n, by omega⟩
theorem may_is (c d m u g w : Int) (hm : 0 ≤ m ∧ m ≤ 511) (hw : 0 ≤ w ∧ w ≤ 7) : impl_Cred_may.f c d m u g w = spec_l1May.f c d m u g w := by
  unfold impl_Cred_may.f spec_l1May.f
  have h1 := May_low' (n := m / 8) (by omega) (by omega)
  have h2 := May_low' (n := m) (by omega) (by omega)
  rw [May_bits' (b := m / 64) (by omega) (by omega) (by omega) (by omega), May_bits' h1.1 h1.2 (by omega) (by omega), May_bits' h2.1 h2.2 (by omega) (by omega)]
theorem may_some (c d m u g w : Int) : ∃ b, spec_l1May.f c d m u g w = some b := by
  unfold spec_l1May.f
  repeat' split
  all_goals exact ⟨_, rfl⟩
theorem may_at {ns : List S62} (room u g x : Int) (h0 : 0 ≤ x) (h1 : x < (ns.length : Int)) (hm : 0 ≤ (r62 ns x).f1 ∧ (r62 ns x).f1 ≤ 511) (w : Int) (hw : 0 ≤ w ∧ w ≤ 7) : ∃ b, impl_Fs_mayAt.f ns room u g x w = some b ∧ spec_l4May.f ns room u g x w = some b := by
  obtain ⟨b, hb⟩ := may_some u g (r62 ns x).f1 (r62 ns x).f2 (r62 ns x).f3 w
  refine ⟨b, ?_, ?_⟩
  · unfold impl_Fs_mayAt.f
    rw [if_pos h0, if_pos h1, may_is _ _ _ _ _ _ hm hw, hb]; rfl
  · unfold spec_l4May.f
    rw [if_pos h0, if_pos h1, hb]; rfl
theorem look_at {ns : List S62} (room u g x : Int) (h0 : 0 ≤ x) (h1 : x < (ns.length : Int)) (hm : 0 ≤ (r62 ns x).f1 ∧ (r62 ns x).f1 ≤ 511) : ∃ b, impl_Fs_mayLook.f ns room u g x = some b ∧ spec_l4May.f ns room u g x 5 = some b := by
  obtain ⟨b, h2, h3⟩ := may_at room u g x h0 h1 hm 5 (by omega)
  exact ⟨b, by unfold impl_Fs_mayLook.f; rw [h2]; rfl, h3⟩
theorem change_at {ns : List S62} (room u g x : Int) (h0 : 0 ≤ x) (h1 : x < (ns.length : Int)) (hm : 0 ≤ (r62 ns x).f1 ∧ (r62 ns x).f1 ≤ 511) : ∃ b, impl_Fs_mayChange.f ns room u g x = some b ∧ spec_l5Change.f ns room u g x = some b := by
  obtain ⟨b, h2, h3⟩ := may_at room u g x h0 h1 hm 3 (by omega)
  exact ⟨b, by unfold impl_Fs_mayChange.f; rw [h2]; rfl, by unfold spec_l5Change.f; rw [h3]; rfl⟩
theorem unlink_both {ns : List S62} {room dir : Int} {e : S87} (hn : ns.length ≤ 1048576) (hg : SpecGood ns room) (hs : ∀ v ∈ ns, Small1 v) (h0 : 0 ≤ dir) (h1 : dir < (ns.length : Int)) (he : e ∈ (r62 ns dir).f6) (hz : (r62 ns e.f1).f6 = []) : Ev (fun k => impl_Fs_unlink.f k ns room dir e.f0 0) (unl ns dir e.f0 0 e.f1) ∧ Ev (fun k => spec_l5Take.f k ns room dir e.f0 0) (unl ns dir e.f0 0 e.f1, room) := by
  have hto := good_row (hg.2.1 dir h0 h1) e.f1 (List.mem_map.2 ⟨e, he, rfl⟩)
  have hn0 : 0 ≤ e.f1 := by have := hto.2.1; omega
  have hn1 := hto.2.2.1
  have hv := nd_mem ns dir h0 h1
  have hl := (hs _ hv).2.1
  have hu := rises_in hg.2.1 _ hv
  have hds : ∀ v ∈ dropN ns dir e.f0 0, v.f6.length ≤ 1048576 := fun v hv' => by
    rcases List.mem_or_eq_of_mem_set hv' with h | h
    · exact (hs v h).2.1
    · subst h; exact Nat.le_trans (List.length_filter_le _ _) hl
  have hdr : ∀ v ∈ dropN ns dir e.f0 0, ∀ x ∈ v.f6, 0 ≤ x.f1 ∧ x.f1 < ((dropN ns dir e.f0 0).length : Int) := fun v hv' x hx => by
    rw [drop_len]
    rcases List.mem_or_eq_of_mem_set hv' with h | h
    · exact rows_in hg v h x hx
    · subst h; exact rows_in hg _ hv x (List.mem_filter.1 hx).1
  constructor
  · unfold impl_Fs_unlink.f
    refine ev_bind (impl_Fs_entry.is ns room dir h0 h1 hl hu he) (ev_pos ⟨h0, h1, by omega⟩ ?_)
    obtain ⟨out, ho, hol, hov⟩ := impl_Fs_links.is (dropN ns dir e.f0 0) room (by rw [drop_len]; exact hn) hds hdr
    rw [drop_len] at hol hov
    refine ev_bind ho (ev_pos ⟨hn0, by rw [hol]; exact hn1⟩ ?_)
    have h3 := hov e.f1 hn0 hn1
    unfold unl
    by_cases hc : links (rowsOf (dropN ns dir e.f0 0)) e.f1 = 0
    · rw [if_pos hc]
      exact ev_pos (by rw [h3, hc]; rfl) (ev_pos hn1 (Ev.now _))
    · rw [if_neg hc]
      exact ev_neg (by rw [h3]; omega) (Ev.now _)
  · unfold spec_l5Take.f
    refine ev_bind (spec_l3Own.is ns room hn (fun v hv' => (hs v hv').2.1)) (ev_pos ⟨⟨h0, h1⟩, h1, by omega⟩ ?_)
    refine ev_bind (spec_l3At.is _ hl hu he) ?_
    refine ev_bind (spec_l3Links.is (dropN ns dir e.f0 0) room e.f1 (by rw [drop_len]; exact hn) hds) ?_
    unfold unl
    by_cases hc : links (rowsOf (dropN ns dir e.f0 0)) e.f1 = 0
    · rw [if_pos hc]
      exact ev_pos (by rw [hc]; rfl) (ev_pos ⟨hn0, hn1⟩ (Ev.now _))
    · rw [if_neg hc]
      exact ev_neg (by omega) (Ev.now _)
end Go.Proofs.YtmhjmicplaolmaaGreatDoor.PRm
namespace Go.Proofs.YtmhjmicplaolmaaGreatDoor.PRm
open Go.RowKit Go.Proofs.YtmhjmicplaolmaaGreatDoorW.PrintWords Go.Proofs.YtmhjmicplaolmaaGreatDoorW.PrintLast Go.Proofs.YtmhjmicplaolmaaGreatDoorW.PrintMore Go.Proofs.YtmhjmicplaolmaaGreatDoor.Aid Go.Proofs.YtmhjmicplaolmaaGreatDoor.AllLoop Go.Proofs.YtmhjmicplaolmaaGreatDoor.Loops Go.Proofs.YtmhjmicplaolmaaGreatDoor.Put Go.Proofs.YtmhjmicplaolmaaGreatDoor.Graph
set_option linter.unusedSimpArgs false
set_option linter.unusedVariables false
theorem slash_is {p nm : ByteArray} (hp : p.size ≤ 1000000) (hn : nm.size ≤ 1000) : ∃ q, impl_slash.f p nm = some q ∧ q.size ≤ p.size + 1 + nm.size := by
  have hs : ∃ b, strings_HasSuffix.f p (⟨#[47]⟩ : ByteArray) = some b := by
    unfold strings_HasSuffix.f stringslite_HasSuffix.f
    have h1 : ((⟨#[47]⟩ : ByteArray).size : Int) = 1 := rfl
    by_cases h : (p.size : Int) ≥ 1
    · have hw : wrap64 ((p.size : Int) - 1) = p.size - 1 := wrap_id (by omega) (by omega)
      rw [h1, if_pos h, hw, if_pos (by omega), if_pos (by omega)]
      exact ⟨_, rfl⟩
    · rw [h1, if_neg h]; exact ⟨_, rfl⟩
  obtain ⟨b, hb⟩ := hs
  unfold impl_slash.f
  rw [hb]
  cases b with
  | true => exact ⟨p ++ nm, by rw [Option.bind_some, if_pos rfl, if_pos (by omega)], by rw [ByteArray.size_append]; omega⟩
  | false => exact ⟨(p ++ (⟨#[47]⟩ : ByteArray)) ++ nm, by rw [Option.bind_some, if_neg (by simp), if_pos (by omega), if_pos (by omega)], by rw [ByteArray.size_append, ByteArray.size_append]; show p.size + 1 + nm.size ≤ _; omega⟩
theorem join_is {p nm : ByteArray} (h1 : 1 ≤ p.size) (hp : p.size ≤ 1000000) (hn : nm.size ≤ 1000) : ∃ q, spec_l8Join.f p nm = some q ∧ 1 ≤ q.size ∧ q.size ≤ p.size + 1 + nm.size := by
  unfold spec_l8Join.f
  have hw : wrap64 ((p.size : Int) - 1) = p.size - 1 := wrap_id (by omega) (by omega)
  rw [hw, if_pos (by omega), if_pos (by omega)]
  by_cases hb : bt p ((p.size : Int) - 1) = 47
  · exact ⟨p ++ nm, by rw [if_pos hb, if_pos (by omega)], by rw [ByteArray.size_append]; omega, by rw [ByteArray.size_append]; omega⟩
  · exact ⟨(p ++ (⟨#[47]⟩ : ByteArray)) ++ nm, by rw [if_neg hb, if_pos (by omega), if_pos (by omega)], by rw [ByteArray.size_append, ByteArray.size_append]; omega, by rw [ByteArray.size_append, ByteArray.size_append]; show p.size + 1 + nm.size ≤ _; omega⟩
structure Gone (ns : List S62) (room dir : Int) (e : S87) (b : Bool) (ns' : List S62) : Prop where
  good : SpecGood ns' room
  small : ∀ v ∈ ns', Small1 v
  len : ns'.length = ns.length
  sub : Sub ns ns'
  frame : ∀ y, 0 ≤ y → y < (ns.length : Int) → y ≠ dir → ¬ Go.Proofs.YtmhjmicplaolmaaGreatDoor.Graph.Reach (adjOf (rowsOf ns)) e.f1 y → r62 ns' y = r62 ns y
  stays : b = false → r62 ns' dir = r62 ns dir
  goes : b = true → (r62 ns' dir).f6 = (r62 ns dir).f6.filter (keepE e.f0)
theorem tail_both {ns : List S62} {room dir : Int} {e : S87} (u g : Int) (hn : ns.length ≤ 1048576) (hg : SpecGood ns room) (hs : ∀ v ∈ ns, Small1 v) (h0 : 0 ≤ dir) (h1 : dir < (ns.length : Int)) (he : e ∈ (r62 ns dir).f6) (hz : (r62 ns e.f1).f6 = []) :
    ∃ (b : Bool) (ns' : List S62) (m : Nat), m ≤ 1 ∧ Gone ns room dir e b ns' ∧
      (∀ (path : ByteArray) (fs : List S111), fs.length + m ≤ 1000000000000 → ∃ fs' : List S111, fs'.length = fs.length + m ∧ Ev (fun k => impl_Fs_take.t k ns room u g dir e.f0 path 0 fs) (b, ns', fs')) ∧
      (∀ (path : ByteArray) (fs : List S111), fs.length + m ≤ 1000000000000 → ∃ fs' : List S111, fs'.length = fs.length + m ∧ Ev (fun k => spec_l9W_take.t k ns room u g 0 fs dir e.f0 path) (b, ns', room, fs')) := by
  have hto := good_row (hg.2.1 dir h0 h1) e.f1 (List.mem_map.2 ⟨e, he, rfl⟩)
  have hm := ((hg.2.1 dir h0 h1).2 (by rw [hto.1]; decide)).1
  obtain ⟨b, hi, hr⟩ := change_at room u g dir h0 h1 hm
  cases b with
  | true =>
    have U := unl_is hg h0 h1 he hz
    obtain ⟨hi2, hr2⟩ := unlink_both hn hg hs h0 h1 he hz
    refine ⟨true, _, 0, by omega, ⟨unl_good hn hg hs h0 h1 he hz, unl_small hg hs h0 h1, U.len, U.sub, fun y hy hy1 hyd hyr => U.other y hy hy1 hyd (fun h => hyr (h ▸ Go.Proofs.YtmhjmicplaolmaaGreatDoor.Graph.Reach.here)), fun h => (by cases h), fun _ => by rw [U.at_]⟩, fun path fs _ => ⟨fs, rfl, ?_⟩, fun path fs _ => ⟨fs, rfl, ?_⟩⟩
    · unfold impl_Fs_take.t
      exact ev_bind0 hi (ev_pos rfl (ev_bind hi2 (Ev.now _)))
    · unfold spec_l9W_take.t
      exact ev_bind0 hr (ev_pos rfl (ev_bind hr2 (Ev.now _)))
  | false =>
    refine ⟨false, ns, 1, by omega, ⟨hg, hs, rfl, Sub.refl _, fun _ _ _ _ _ => rfl, fun _ => rfl, fun h => by cases h⟩, fun path fs hl => ⟨fs ++ [⟨path, 4⟩], by simp, ?_⟩, fun path fs hl => ⟨fs ++ [⟨path, 4⟩], by simp, ?_⟩⟩
    · unfold impl_Fs_take.t faultO
      exact ev_bind0 hi (ev_neg (by simp) (ev_pos (by omega) (Ev.now _)))
    · unfold spec_l9W_take.t faultW
      exact ev_bind0 hr (ev_neg (by simp) (ev_pos (by omega) (Ev.now _)))
def Both (room u g : Int) (d : Nat) : Prop := ∀ (ns : List S62) (dir : Int) (e : S87), ns.length ≤ 1048576 → SpecGood ns room → (∀ v ∈ ns, Small1 v) → 0 ≤ dir → dir < (ns.length : Int) → e ∈ (r62 ns dir).f6 → Deep (adjOf (rowsOf ns)) d e.f1 →
    ∃ (b : Bool) (ns' : List S62) (m : Nat), m ≤ (dfs (adjOf (rowsOf ns)) d e.f1).length ∧ Gone ns room dir e b ns' ∧
      (∀ (path : ByteArray) (fs : List S111), path.size + 9 * d ≤ 100000 → fs.length + m ≤ 1000000000000 → ∃ fs' : List S111, fs'.length = fs.length + m ∧ Ev (fun k => impl_Fs_take.f k ns room u g dir e.f0 path 0 fs) (b, ns', fs')) ∧
      (∀ (path : ByteArray) (fs : List S111), 1 ≤ path.size → path.size + 9 * d ≤ 100000 → fs.length + m ≤ 1000000000000 → ∃ fs' : List S111, fs'.length = fs.length + m ∧ Ev (fun k => spec_l9W_take.f k ns room u g 0 fs dir e.f0 path) (b, ns', room, fs'))
set_option maxHeartbeats 1000000 in
theorem loop_both {room u g : Int} {d : Nat} (ih : Both room u g d) (x : Int) (es : List S87) (hes : Srt es) (hesl : es.length ≤ 1048576) (hnm : ∀ e ∈ es, e.f0.size ≤ 8) (n : Nat) : ∀ (j : Nat) (ns : List S62), j ≤ es.length → es.length - j = n → ns.length ≤ 1048576 → SpecGood ns room → (∀ v ∈ ns, Small1 v) → 0 ≤ x → x < (ns.length : Int) → (∀ e ∈ es.drop j, e ∈ (r62 ns x).f6) → (∀ e ∈ es.drop j, Deep (adjOf (rowsOf ns)) d e.f1) →
    ∃ (all : Bool) (ns' : List S62) (m : Nat), m ≤ ((es.drop j).flatMap fun e => dfs (adjOf (rowsOf ns)) d e.f1).length ∧ SpecGood ns' room ∧ (∀ v ∈ ns', Small1 v) ∧ ns'.length = ns.length ∧ Sub ns ns' ∧
      (∀ y, 0 ≤ y → y < (ns.length : Int) → y ≠ x → (∀ e ∈ es.drop j, ¬ Go.Proofs.YtmhjmicplaolmaaGreatDoor.Graph.Reach (adjOf (rowsOf ns)) e.f1 y) → r62 ns' y = r62 ns y) ∧
      (all = true → ∀ e ∈ es.drop j, e ∉ (r62 ns' x).f6) ∧
      (∀ (path : ByteArray) (fs : List S111) (a0 : Bool), path.size + 9 * (d + 1) ≤ 100000 → fs.length + m ≤ 1000000000000 → ∃ fs' : List S111, fs'.length = fs.length + m ∧ Ev (fun k => impl_Fs_take.l0 k ns room u g x path 0 fs es (j : Int) a0) (a0 && all, ns', fs')) ∧
      (∀ (path : ByteArray) (fs : List S111) (a0 : Bool), 1 ≤ path.size → path.size + 9 * (d + 1) ≤ 100000 → fs.length + m ≤ 1000000000000 → ∃ fs' : List S111, fs'.length = fs.length + m ∧ Ev (fun k => spec_l9W_take.l0 k ns room u g 0 fs x path es (j : Int) a0) (a0 || !all, ns', room, fs')) := by
  induction n with
  | zero =>
    intro j ns hj hd hn hg hs h0 h1 hm hdp
    have hnil : es.drop j = [] := List.drop_eq_nil_of_le (by omega)
    rw [hnil]
    refine ⟨true, ns, 0, Nat.zero_le _, hg, hs, rfl, Sub.refl _, fun _ _ _ _ _ => rfl, fun _ _ h => (by cases h), fun path fs a0 _ _ => ⟨fs, rfl, ?_⟩, fun path fs a0 _ _ _ => ⟨fs, rfl, ?_⟩⟩
    · exact Ev.step (fun k => by rw [impl_Fs_take.l0, if_neg (by omega)]) (ev_some (by rw [Bool.and_true]))
    · exact Ev.step (fun k => by rw [spec_l9W_take.l0, if_neg (by omega)]) (ev_some (by rw [Bool.not_true, Bool.or_false]))
  | succ n ihn =>
    intro j ns hj hd hn hg hs h0 h1 hm hdp
    have hjl : j < es.length := by omega
    have hdrop : es.drop j = es[j] :: es.drop (j + 1) := List.drop_eq_getElem_cons hjl
    rw [hdrop] at hm hdp ⊢
    generalize he1 : es[j] = e1 at *
    obtain ⟨b, ns1, m1, hm1, G, hi1, hr1⟩ := ih ns x e1 hn hg hs h0 h1 (hm e1 List.mem_cons_self) (hdp e1 List.mem_cons_self)
    have hne : ∀ e ∈ es.drop (j + 1), e.f0.toList ≠ e1.f0.toList := fun e he h => by
      obtain ⟨q, hq, rfl⟩ := List.mem_iff_getElem.1 he
      rw [List.getElem_drop] at h
      rw [List.length_drop] at hq
      have hp : Srt es := hes
      rw [Srt, List.pairwise_iff_getElem] at hp
      have := hp j (j + 1 + q) hjl (by omega) (by omega)
      rw [he1, h, bl_irr] at this
      cases this
    have hmem1 : ∀ e ∈ es.drop (j + 1), e ∈ (r62 ns1 x).f6 := fun e he => by
      have he0 := hm e (List.mem_cons_of_mem _ he)
      cases b with
      | false => rw [G.stays rfl]; exact he0
      | true =>
        rw [G.goes rfl]
        refine List.mem_filter.2 ⟨he0, ?_⟩
        unfold keepE
        rw [Bool.not_eq_true', beq_eq_false_iff_ne]
        exact hne e he
    obtain ⟨all, ns2, m2, hm2, hg2, hs2, hl2, hsub2, hfr2, hdone2, hi2, hr2⟩ := ihn (j + 1) ns1 (by omega) (by omega) (by rw [G.len]; exact hn) G.good G.small h0 (by rw [G.len]; exact h1) hmem1 (fun e he => G.sub.deep (hdp e (List.mem_cons_of_mem _ he)))
    have hw : wrap64 ((j : Int) + 1) = ((j + 1 : Nat) : Int) := by rw [wrap_id (by omega) (by omega)]; omega
    have hget : r87 es (j : Int) = e1 := by rw [rd_get es j hjl, he1]
    have hsz := hnm e1 (he1 ▸ List.getElem_mem hjl)
    refine ⟨b && all, ns2, m1 + m2, ?_, hg2, hs2, by rw [hl2, G.len], G.sub.trans hsub2, fun y hy hy1 hyx hyr => ?_, fun hba e he => ?_, fun path fs a0 hp hf => ?_, fun path fs a0 hp1 hp hf => ?_⟩
    · rw [List.flatMap_cons, List.length_append]
      have : ((es.drop (j + 1)).flatMap fun e => dfs (adjOf (rowsOf ns1)) d e.f1).length ≤ ((es.drop (j + 1)).flatMap fun e => dfs (adjOf (rowsOf ns)) d e.f1).length := by
        generalize es.drop (j + 1) = l
        induction l with
        | nil => simp
        | cons a l ihl => rw [List.flatMap_cons, List.flatMap_cons, List.length_append, List.length_append]; have := G.sub.dfs d a.f1; omega
      omega
    · rw [hfr2 y hy (by rw [G.len]; exact hy1) hyx (fun e he hr => hyr e (List.mem_cons_of_mem _ he) (G.sub.reach hr))]
      exact G.frame y hy hy1 hyx (hyr e1 List.mem_cons_self)
    · obtain ⟨hb, ha⟩ := Bool.and_eq_true_iff.1 hba
      rcases List.mem_cons.1 he with h | h
      · subst h
        intro hmem
        have := (hsub2 x).mem hmem
        rw [G.goes hb] at this
        have := (List.mem_filter.1 this).2
        unfold keepE at this
        simp at this
      · exact hdone2 ha e h
    · clear hm1 hm2
      obtain ⟨q, hq, hqs⟩ := slash_is (p := path) (nm := e1.f0) (by omega) (by omega)
      obtain ⟨f1, hf1, hv1⟩ := hi1 q fs (by omega) (by omega)
      obtain ⟨f2, hf2, hv2⟩ := hi2 path f1 (b && a0) hp (by omega)
      have key : ∀ k, impl_Fs_take.l0 (k + 1) ns room u g x path 0 fs es (j : Int) a0 = (impl_Fs_take.f k ns room u g x e1.f0 q 0 fs).bind fun y => impl_Fs_take.l0 k y.2.1 room u g x path 0 y.2.2 es ((j + 1 : Nat) : Int) (y.1 && a0) := fun k => by
        rw [impl_Fs_take.l0, if_pos (by omega), if_pos (by omega), hget, hq, hw]; rfl
      have e9 : ((b && a0) && all) = (a0 && (b && all)) := by cases a0 <;> cases b <;> cases all <;> rfl
      rw [e9] at hv2
      exact ⟨f2, by omega, Ev.step key (ev_bind hv1 hv2)⟩
    · clear hm1 hm2
      obtain ⟨q, hq, hq1, hqs⟩ := join_is (p := path) (nm := e1.f0) hp1 (by omega) (by omega)
      obtain ⟨f1, hf1, hv1⟩ := hr1 q fs hq1 (by omega) (by omega)
      obtain ⟨f2, hf2, hv2⟩ := hr2 path f1 (!b || a0) hp1 hp (by omega)
      have key : ∀ k, spec_l9W_take.l0 (k + 1) ns room u g 0 fs x path es (j : Int) a0 = (spec_l9W_take.f k ns room u g 0 fs x e1.f0 q).bind fun y => spec_l9W_take.l0 k y.2.1 y.2.2.1 u g 0 y.2.2.2 x path es ((j + 1 : Nat) : Int) (!y.1 || a0) := fun k => by
        rw [spec_l9W_take.l0, if_pos (by omega), if_pos (by omega), hget, hq, hw]; rfl
      have e9 : ((!b || a0) || !all) = (a0 || !(b && all)) := by cases a0 <;> cases b <;> cases all <;> rfl
      rw [e9] at hv2
      exact ⟨f2, by omega, Ev.step key (ev_bind hv1 hv2)⟩
set_option maxHeartbeats 1000000 in
theorem take_both (room u g : Int) : ∀ d : Nat, Both room u g d := by
  intro d
  induction d with
  | zero =>
    intro ns dir e hn hg hs h0 h1 he hD
    have hto := good_row (hg.2.1 dir h0 h1) e.f1 (List.mem_map.2 ⟨e, he, rfl⟩)
    have hv := nd_mem ns dir h0 h1
    have hn0 : 0 ≤ e.f1 := by have := hto.2.1; omega
    have hn1 := hto.2.2.1
    have hz : (r62 ns e.f1).f6 = [] := by
      have : adjOf (rowsOf ns) e.f1 = [] := hD
      rw [adj_all] at this
      exact List.map_eq_nil_iff.1 this
    obtain ⟨b, ns', m, hm, G, hi, hr⟩ := tail_both u g hn hg hs h0 h1 he hz
    refine ⟨b, ns', m, by simp [Go.Proofs.YtmhjmicplaolmaaGreatDoor.Graph.dfs]; omega, G, fun path fs _ hf => ?_, fun path fs _ _ hf => ?_⟩
    · obtain ⟨fs', h2, h3⟩ := hi path fs hf
      refine ⟨fs', h2, Ev.step (fun k => by rw [impl_Fs_take.f]) ?_⟩
      refine ev_bind (impl_Fs_entry.is ns room dir h0 h1 (hs _ hv).2.1 (rises_in hg.2.1 _ hv) he) (ev_pos ⟨hn0, hn1, by rw [hz]; decide⟩ (ev_neg (by rw [hz]; simp) h3))
    · obtain ⟨fs', h2, h3⟩ := hr path fs hf
      refine ⟨fs', h2, Ev.step (fun k => by rw [spec_l9W_take.f, if_pos ⟨h0, h1⟩]) ?_⟩
      refine ev_bind (spec_l3At.is _ (hs _ hv).2.1 (rises_in hg.2.1 _ hv) he) (ev_pos ⟨hn0, hn1⟩ (ev_neg (by rw [hz]; simp) h3))
  | succ d ih =>
    intro ns dir e hn hg hs h0 h1 he hD
    have hto := good_row (hg.2.1 dir h0 h1) e.f1 (List.mem_map.2 ⟨e, he, rfl⟩)
    have hv := nd_mem ns dir h0 h1
    have hn0 : 0 ≤ e.f1 := by have := hto.2.1; omega
    have hn1 := hto.2.2.1
    have hvx := nd_mem ns e.f1 hn0 hn1
    have hls := (hs _ hvx).2.1
    by_cases hz : (r62 ns e.f1).f6 = []
    · obtain ⟨b, ns', m, hm, G, hi, hr⟩ := tail_both u g hn hg hs h0 h1 he hz
      refine ⟨b, ns', m, by simp only [Go.Proofs.YtmhjmicplaolmaaGreatDoor.Graph.dfs, List.length_cons]; omega, G, fun path fs _ hf => ?_, fun path fs _ _ hf => ?_⟩
      · obtain ⟨fs', h2, h3⟩ := hi path fs hf
        refine ⟨fs', h2, Ev.step (fun k => by rw [impl_Fs_take.f]) ?_⟩
        refine ev_bind (impl_Fs_entry.is ns room dir h0 h1 (hs _ hv).2.1 (rises_in hg.2.1 _ hv) he) (ev_pos ⟨hn0, hn1, by rw [hz]; decide⟩ (ev_neg (by rw [hz]; simp) h3))
      · obtain ⟨fs', h2, h3⟩ := hr path fs hf
        refine ⟨fs', h2, Ev.step (fun k => by rw [spec_l9W_take.f, if_pos ⟨h0, h1⟩]) ?_⟩
        refine ev_bind (spec_l3At.is _ (hs _ hv).2.1 (rises_in hg.2.1 _ hv) he) (ev_pos ⟨hn0, hn1⟩ (ev_neg (by rw [hz]; simp) h3))
    · have hpos : 0 < (r62 ns e.f1).f6.length := List.length_pos_iff.2 hz
      have hdir : (r62 ns e.f1).f0 = 2 := (good_row (hg.2.1 _ hn0 hn1) _ (List.mem_map.2 ⟨_, List.getElem_mem hpos, rfl⟩)).1
      have hmx := ((hg.2.1 _ hn0 hn1).2 (by rw [hdir]; decide)).1
      obtain ⟨b, hli, hlr⟩ := look_at room u g e.f1 hn0 hn1 hmx
      have hent := impl_Fs_entry.is ns room dir h0 h1 (hs _ hv).2.1 (rises_in hg.2.1 _ hv) he
      have hat := spec_l3At.is _ (hs _ hv).2.1 (rises_in hg.2.1 _ hv) he
      cases b with
      | false =>
        refine ⟨false, ns, 1, by simp only [Go.Proofs.YtmhjmicplaolmaaGreatDoor.Graph.dfs, List.length_cons]; omega, ⟨hg, hs, rfl, Sub.refl _, fun _ _ _ _ _ => rfl, fun _ => rfl, fun h => by cases h⟩, fun path fs _ hf => ⟨fs ++ [⟨path, 4⟩], by simp, ?_⟩, fun path fs _ _ hf => ⟨fs ++ [⟨path, 4⟩], by simp, ?_⟩⟩
        · refine Ev.step (fun k => by rw [impl_Fs_take.f]) ?_
          refine ev_bind hent (ev_pos ⟨hn0, hn1, by omega⟩ (ev_pos hpos (ev_bind0 hli (ev_neg (by simp) ?_))))
          unfold faultO
          exact ev_pos (by omega) (Ev.now _)
        · refine Ev.step (fun k => by rw [spec_l9W_take.f, if_pos ⟨h0, h1⟩]) ?_
          refine ev_bind hat (ev_pos ⟨hn0, hn1⟩ (ev_pos ⟨hdir, hpos⟩ (ev_bind0 hlr (ev_neg (by simp) ?_))))
          unfold faultW
          exact ev_pos (by omega) (Ev.now _)
      | true =>
        have hchild : ∀ e' ∈ (r62 ns e.f1).f6, e'.f1 ∈ adjOf (rowsOf ns) e.f1 := fun e' he' => by rw [adj_all]; exact List.mem_map.2 ⟨e', he', rfl⟩
        have hkid : ∀ e' ∈ (r62 ns e.f1).f6, Deep (adjOf (rowsOf ns)) d e'.f1 := fun e' he' => hD _ (hchild e' he')
        obtain ⟨all, ns1, m1, hm1, hg1, hs1, hl1, hsub1, hfr1, hdone1, hi1, hr1⟩ := loop_both ih e.f1 (r62 ns e.f1).f6 (srt_in hg.2.1 _ hvx) hls (fun e' he' => nameB_size (names_in hg.2.1 _ hvx e' he')) (r62 ns e.f1).f6.length 0 ns (by omega) (by omega) hn hg hs hn0 hn1 (fun e' he' => by rw [List.drop_zero] at he'; exact he') (fun e' he' => by rw [List.drop_zero] at he'; exact hkid e' he')
        rw [List.drop_zero] at hm1 hfr1 hdone1
        have hde : dir ≠ e.f1 := fun h => acyclic (d + 1) hD (show e.f1 ∈ adjOf (rowsOf ns) e.f1 by rw [adj_all]; rw [h] at he; exact List.mem_map.2 ⟨e, he, rfl⟩) Go.Proofs.YtmhjmicplaolmaaGreatDoor.Graph.Reach.here
        have hdr : ∀ e' ∈ (r62 ns e.f1).f6, ¬ Go.Proofs.YtmhjmicplaolmaaGreatDoor.Graph.Reach (adjOf (rowsOf ns)) e'.f1 dir := fun e' he' hr => acyclic (d + 1) hD (hchild e' he') (Go.Proofs.YtmhjmicplaolmaaGreatDoor.Graph.Reach.next hr (by rw [adj_all]; exact List.mem_map.2 ⟨e, he, rfl⟩))
        have hdir1 := hfr1 dir h0 h1 hde hdr
        have hframe : ∀ y, 0 ≤ y → y < (ns.length : Int) → y ≠ dir → ¬ Go.Proofs.YtmhjmicplaolmaaGreatDoor.Graph.Reach (adjOf (rowsOf ns)) e.f1 y → r62 ns1 y = r62 ns y := fun y hy hy1 hyd hyr => hfr1 y hy hy1 (fun h => hyr (h ▸ Go.Proofs.YtmhjmicplaolmaaGreatDoor.Graph.Reach.here)) (fun e' he' hr => hyr (Go.Proofs.YtmhjmicplaolmaaGreatDoor.Graph.Reach.trans (Go.Proofs.YtmhjmicplaolmaaGreatDoor.Graph.Reach.next Go.Proofs.YtmhjmicplaolmaaGreatDoor.Graph.Reach.here (hchild e' he')) hr))
        have hdl : (dfs (adjOf (rowsOf ns)) (d + 1) e.f1).length = 1 + ((r62 ns e.f1).f6.flatMap fun e' => dfs (adjOf (rowsOf ns)) d e'.f1).length := by
          rw [Go.Proofs.YtmhjmicplaolmaaGreatDoor.Graph.dfs, List.length_cons, adj_all]
          show ((List.map (fun e' : S87 => e'.f1) (r62 ns e.f1).f6).flatMap _).length + 1 = _
          rw [List.flatMap_map]; omega
        cases all with
        | false =>
          refine ⟨false, ns1, m1, by omega, ⟨hg1, hs1, hl1, hsub1, hframe, fun _ => hdir1, fun h => by cases h⟩, fun path fs hp hf => ?_, fun path fs hp1 hp hf => ?_⟩
          · clear hm1 hdl
            obtain ⟨fs', h2, h3⟩ := hi1 path fs true hp hf
            refine ⟨fs', h2, Ev.step (fun k => by rw [impl_Fs_take.f]) ?_⟩
            exact ev_bind hent (ev_pos ⟨hn0, hn1, by omega⟩ (ev_pos hpos (ev_bind0 hli (ev_pos rfl (ev_bind h3 (ev_neg (by simp) (Ev.now _)))))))
          · clear hm1 hdl
            obtain ⟨fs', h2, h3⟩ := hr1 path fs false hp1 hp hf
            refine ⟨fs', h2, Ev.step (fun k => by rw [spec_l9W_take.f, if_pos ⟨h0, h1⟩]) ?_⟩
            exact ev_bind hat (ev_pos ⟨hn0, hn1⟩ (ev_pos ⟨hdir, hpos⟩ (ev_bind0 hlr (ev_pos rfl (ev_bind h3 (ev_pos rfl (Ev.now _)))))))
        | true =>
          have he1 : e ∈ (r62 ns1 dir).f6 := by rw [hdir1]; exact he
          have hz1 : (r62 ns1 e.f1).f6 = [] := List.eq_nil_iff_forall_not_mem.2 (fun e' he' => hdone1 rfl e' ((hsub1 e.f1).mem he') he')
          obtain ⟨b, ns2, m2, hm2, G, hi2, hr2⟩ := tail_both u g (by rw [hl1]; exact hn) hg1 hs1 h0 (by rw [hl1]; exact h1) he1 hz1
          refine ⟨b, ns2, m1 + m2, by omega, ⟨G.good, G.small, by rw [G.len, hl1], hsub1.trans G.sub, fun y hy hy1 hyd hyr => ?_, fun h => by rw [G.stays h, hdir1], fun h => by rw [G.goes h, hdir1]⟩, fun path fs hp hf => ?_, fun path fs hp1 hp hf => ?_⟩
          · rw [G.frame y hy (by rw [hl1]; exact hy1) hyd (fun hr => hyr (hsub1.reach hr))]
            exact hframe y hy hy1 hyd hyr
          · clear hm1 hdl
            obtain ⟨f1, h2, h3⟩ := hi1 path fs true hp (by omega)
            obtain ⟨f2, h4, h5⟩ := hi2 path f1 (by omega)
            refine ⟨f2, by omega, Ev.step (fun k => by rw [impl_Fs_take.f]) ?_⟩
            exact ev_bind hent (ev_pos ⟨hn0, hn1, by omega⟩ (ev_pos hpos (ev_bind0 hli (ev_pos rfl (ev_bind h3 (ev_pos rfl h5))))))
          · clear hm1 hdl
            obtain ⟨f1, h2, h3⟩ := hr1 path fs false hp1 hp (by omega)
            obtain ⟨f2, h4, h5⟩ := hr2 path f1 (by omega)
            refine ⟨f2, by omega, Ev.step (fun k => by rw [spec_l9W_take.f, if_pos ⟨h0, h1⟩]) ?_⟩
            exact ev_bind hat (ev_pos ⟨hn0, hn1⟩ (ev_pos ⟨hdir, hpos⟩ (ev_bind0 hlr (ev_pos rfl (ev_bind h3 (ev_neg (by simp) h5))))))
end Go.Proofs.YtmhjmicplaolmaaGreatDoor.PRm
namespace Go.Proofs.YtmhjmicplaolmaaGreatDoor.PRm
open Go.RowKit Go.Proofs.YtmhjmicplaolmaaGreatDoorW.PrintWords Go.Proofs.YtmhjmicplaolmaaGreatDoorW.PrintLast Go.Proofs.YtmhjmicplaolmaaGreatDoorW.PrintMore Go.Proofs.YtmhjmicplaolmaaGreatDoor.Aid
set_option linter.unusedSimpArgs false
set_option linter.unusedVariables false
theorem nil_toList : (⟨#[]⟩ : ByteArray).toList = [] := toList_mk []
def slashed (ps : List ByteArray) : List UInt8 := ps.flatMap fun p => 47 :: p.toList
theorem slashed_join : ∀ (p : ByteArray) (ps : List ByteArray), slashed (p :: ps) = 47 :: joinL (p :: ps)
  | p, [] => by rw [joinL_one]; simp [slashed]
  | p, q :: ps => by
    rw [joinL_cons, slashed, List.flatMap_cons, ← slashed, slashed_join q ps]; rfl
theorem spec_l2Of.loop (l : List ByteArray) (hl : l.length ≤ 4294967283) (hz : ∀ p ∈ l, p.size ≤ 1048576) (d : Nat) : ∀ (acc : ByteArray) (i : Int), 0 ≤ i → i ≤ l.length → (acc.size : Int) ≤ i * 1048577 → (l.length : Int) - i = d →
    Ev (fun k => spec_l2Of.l0 k acc l (l.length : Int) i) (mk (acc.toList ++ slashed (l.drop i.toNat))) := by
  induction d with
  | zero =>
    intro acc i h0 h1 h2 hd
    refine Ev.step (fun k => by rw [spec_l2Of.l0, if_neg (by omega)]) (ev_some ?_)
    rw [List.drop_eq_nil_iff.mpr (by omega), slashed]; simp [mk_toList]
  | succ d ih =>
    intro acc i h0 h1 h2 hd
    have hlt : i < (l.length : Int) := by omega
    have hm := hz _ (rdOf_mem l i h0 hlt)
    rw [rdOf_drop l i h0 hlt]
    generalize hp : rdOf ByteArray.empty l i = p at hm ⊢
    have e : ((⟨#[47]⟩ : ByteArray) ++ p).toList = 47 :: p.toList := by rw [toList_append, show (⟨#[47]⟩ : ByteArray).toList = [47] from toList_mk [47]]; rfl
    have ez : ((acc ++ ((⟨#[47]⟩ : ByteArray) ++ p)).size : Int) = acc.size + 1 + p.size := by
      rw [size_eq, toList_append, e, List.length_append, List.length_cons, ← size_eq, ← size_eq]; omega
    refine Ev.step (fun k => by rw [spec_l2Of.l0, if_pos hlt, if_pos h0, if_pos hlt, hp, if_pos (by omega), if_pos (by omega), wrap_id (by omega) (by omega)]) ?_
    refine ev_eq (ih (acc ++ ((⟨#[47]⟩ : ByteArray) ++ p)) (i + 1) (by omega) (by omega) (by omega) (by omega)) ?_
    rw [toList_append, e, slashed, slashed, List.flatMap_cons, List.append_assoc]
theorem spec_l2Of.is (l : List ByteArray) (hl : l.length ≤ 4294967283) (hz : ∀ p ∈ l, p.size ≤ 1048576) : Ev (fun k => spec_l2Of.f k l) (pathText l) := by
  cases l with
  | nil => exact ev_pos rfl (ev_some rfl)
  | cons p ps =>
    refine ev_neg (by simp; omega) ?_
    refine ev_eq (spec_l2Of.loop (p :: ps) hl hz (p :: ps).length ⟨#[]⟩ 0 (by omega) (by omega) (by rw [size_eq, nil_toList]; simp) (by omega)) ?_
    rw [Int.toNat_zero, List.drop_zero, slashed_join, nil_toList]; rfl
end Go.Proofs.YtmhjmicplaolmaaGreatDoor.PRm
namespace Go.Proofs.YtmhjmicplaolmaaGreatDoor.PRm
open Go.RowKit Go.Proofs.YtmhjmicplaolmaaGreatDoorW.PrintWords Go.Proofs.YtmhjmicplaolmaaGreatDoorW.PrintLast Go.Proofs.YtmhjmicplaolmaaGreatDoorW.PrintMore Go.Proofs.YtmhjmicplaolmaaGreatDoor.Aid Go.Proofs.YtmhjmicplaolmaaGreatDoor.AllLoop Go.Proofs.YtmhjmicplaolmaaGreatDoor.Loops Go.Proofs.YtmhjmicplaolmaaGreatDoor.Put Go.Proofs.YtmhjmicplaolmaaGreatDoor.Graph
set_option linter.unusedSimpArgs false
set_option linter.unusedVariables false
theorem nameB_47 {nm : ByteArray} (h : nameB nm = true) : 47 ∉ nm.toList ∧ nm.toList ≠ [] ∧ nm.toList ≠ [46] ∧ nm.toList ≠ [46, 46] := by
  unfold nameB partB dotsB at h
  rw [Bool.and_eq_true, Bool.and_eq_true, decide_eq_true_iff] at h
  obtain ⟨⟨h1, h2⟩, h3⟩ := h
  refine ⟨fun hm => ?_, fun e => ?_, fun e => ?_, fun e => ?_⟩
  · rw [bytesOf_eq, nb_all, List.all_eq_true] at h2
    have := h2 47 hm
    revert this; decide
  · rw [size_eq, e] at h1; simp at h1
  · rw [e] at h3; revert h3; decide
  · rw [e] at h3; revert h3; decide
theorem parts_one {nm : ByteArray} (h : nameB nm = true) : parts nm = [nm] := by
  obtain ⟨h1, h2, _⟩ := nameB_47 h
  unfold parts pieces
  rw [segs_none _ h1, List.map_cons, List.map_nil, mk_toList, List.filter_cons, if_pos (by simpa using h2), List.filter_nil]
theorem parts_app {p : ByteArray} {nm : ByteArray} (h : nameB nm = true) : parts ((p ++ (⟨#[47]⟩ : ByteArray)) ++ nm) = parts p ++ [nm] := by
  have e : ((p ++ (⟨#[47]⟩ : ByteArray)) ++ nm).toList = p.toList ++ 47 :: nm.toList := by rw [toList_append, toList_append, show (⟨#[47]⟩ : ByteArray).toList = [47] from toList_mk [47]]; simp
  have e2 : pieces ((p ++ (⟨#[47]⟩ : ByteArray)) ++ nm) = pieces p ++ pieces nm := by unfold pieces; rw [e, segs_apps, List.map_append]
  rw [← parts_one h]
  unfold parts
  rw [e2, List.filter_append]
theorem parts_slash (s : ByteArray) : parts ((⟨#[47]⟩ : ByteArray) ++ s) = parts s := by
  unfold parts pieces
  rw [toList_append, show (⟨#[47]⟩ : ByteArray).toList = [47] from toList_mk [47], List.singleton_append, segs_slash, List.map_cons, List.filter_cons, if_neg (by rw [toList_mk]; simp)]
theorem segs_joinL : ∀ ps : List ByteArray, ps ≠ [] → (∀ q ∈ ps, nameB q = true) → segs (joinL ps) = ps.map fun q => q.toList
  | [], h, _ => absurd rfl h
  | [p], _, h => by rw [joinL_one, segs_none _ (nameB_47 (h p List.mem_cons_self)).1]; rfl
  | p :: q :: ps, _, h => by
    rw [joinL_cons, segs_app _ _ (nameB_47 (h p List.mem_cons_self)).1, segs_joinL (q :: ps) (by simp) (fun x hx => h x (List.mem_cons_of_mem _ hx))]; rfl
theorem filt_names {ps : List ByteArray} (h : ∀ q ∈ ps, nameB q = true) : (ps.map fun q => mk q.toList).filter (fun p => !p.toList.isEmpty) = ps := by
  have e : (ps.map fun q => mk q.toList) = ps := by
    conv => rhs; rw [← List.map_id ps]
    exact List.map_congr_left fun x _ => mk_toList x
  rw [e]
  exact List.filter_eq_self.2 fun x hx => by have := (nameB_47 (h x hx)).2.1; simpa using this
theorem parts_path {ps : List ByteArray} (h : ∀ q ∈ ps, nameB q = true) : parts (pathText ps) = ps := by
  unfold parts pieces pathText
  rw [toList_mk, segs_slash, List.map_cons, List.filter_cons, if_neg (by rw [toList_mk]; simp)]
  cases ps with
  | nil => rw [joinL_nil]; simp [segs, toList_mk]
  | cons p ps =>
    rw [segs_joinL _ (by simp) h, List.map_map]
    exact filt_names h
theorem spec_l2Clean.names (s : ByteArray) (l : List ByteArray) (hl : l.length ≤ 1000000) (h : ∀ q ∈ l, nameB q = true) (d : Nat) : ∀ (j : Int) (acc : List ByteArray), 0 ≤ j → j ≤ l.length → (l.length : Int) - j = d → acc.length ≤ j → Ev (fun k => spec_l2Clean.l0 k s acc l (l.length : Int) j) (acc ++ l.drop j.toNat) := by
  induction d with
  | zero =>
    intro j acc h0 hj hd _
    rw [List.drop_eq_nil_iff.mpr (by omega)]
    exact Ev.step (fun k => by rw [spec_l2Clean.l0, if_neg (by omega)]) (ev_some (by simp))
  | succ d ih =>
    intro j acc h0 hj hd ha
    have hlt : j < (l.length : Int) := by omega
    have hn := nameB_47 (h _ (rdOf_mem l j h0 hlt))
    rw [rdOf_drop l j h0 hlt]
    generalize hp : rdOf ByteArray.empty l j = p at hn ⊢
    refine Ev.step (fun k => by rw [spec_l2Clean.l0, if_pos hlt, if_pos h0, if_pos hlt, hp, if_neg hn.2.2.1, if_neg hn.2.2.2]) ?_
    refine Ev.step (fun k => by rw [spec_l2Clean.j1, if_neg (by simp), if_neg hn.2.2.2, if_pos (by omega), wrap_id (by omega) (by omega)]) ?_
    refine ev_eq (ih (j + 1) (acc ++ [p]) (by omega) (by omega) (by omega) (by rw [List.length_append, List.length_singleton]; omega)) ?_
    rw [List.append_assoc]; rfl
theorem spec_l2Clean.of {s : ByteArray} {l : List ByteArray} (hs : s.size ≤ 100000) (e : parts s = l) (h : ∀ q ∈ l, nameB q = true) : Ev (fun k => spec_l2Clean.f k s) l := by
  have hp := parts_length s
  subst e
  have := spec_l2Clean.names s (parts s) (by omega) h (parts s).length 0 [] (by omega) (by omega) (by omega) (by simp)
  rw [show (0 : Int).toNat = 0 from rfl, List.drop_zero, List.nil_append] at this
  exact ev_bind (spec_l2Parts.is s (by omega)) this
theorem rd_snoc (ps : List ByteArray) (q : ByteArray) : rdOf ByteArray.empty (ps ++ [q]) (ps.length : Int) = q := by
  show (ps ++ [q]).getD (ps.length : Int).toNat _ = q
  rw [List.getD_eq_getElem?_getD, Int.toNat_natCast, List.getElem?_append_right (Nat.le_refl _)]; simp
theorem bt_slash (s : ByteArray) : bt ((⟨#[47]⟩ : ByteArray) ++ s) 0 = 47 := by
  have hz : 0 < (((⟨#[47]⟩ : ByteArray) ++ s).size : Int) := by rw [ByteArray.size_append]; show (0 : Int) < ((1 + s.size : Nat) : Int); omega
  obtain ⟨c, hc, hb⟩ := bt_toList ((⟨#[47]⟩ : ByteArray) ++ s) 0 (by omega) hz
  rw [toList_append, show (⟨#[47]⟩ : ByteArray).toList = [47] from toList_mk [47]] at hc
  have : c = 47 := by simpa using hc.symm
  rw [hb, this]; rfl
theorem dir_last {w : ByteArray} {ps : List ByteArray} {q : ByteArray} (hw : w.size ≤ 1000) (e : parts w = ps ++ [q]) (h : ∀ x ∈ ps ++ [q], nameB x = true) : Ev (fun k => spec_l2Dir.f k ((⟨#[47]⟩ : ByteArray) ++ w)) (pathText ps) ∧ Ev (fun k => spec_l2Last.f k ((⟨#[47]⟩ : ByteArray) ++ w)) q := by
  have hz : ((⟨#[47]⟩ : ByteArray) ++ w).size = 1 + w.size := by rw [ByteArray.size_append]; rfl
  have hc := spec_l2Clean.of (s := (⟨#[47]⟩ : ByteArray) ++ w) (by omega) ((parts_slash w).trans e) h
  have hp := parts_length w
  rw [e, List.length_append, List.length_singleton] at hp
  have hl : (((ps ++ [q]).length : Nat) : Int) = (ps.length : Int) + 1 := by rw [List.length_append, List.length_singleton]; omega
  have hwr : wrap64 ((((ps ++ [q]).length : Nat) : Int) - 1) = (ps.length : Int) := by rw [hl, wrap_id (by omega) (by omega)]; omega
  have hq := nameB_47 (h q (by simp))
  constructor
  · unfold spec_l2Dir.f
    refine ev_bind hc ?_
    rw [hwr, show (((ps.length : Nat) : Int)).toNat = ps.length by omega, List.take_left']
    · refine ev_pos (by omega) (ev_pos (by omega) (ev_bind (spec_l2Of.is ps (by omega) (fun x hx => by have := nameB_size (h x (List.mem_append_left _ hx)); omega)) (ev_pos (by omega) (ev_pos (bt_slash w) (Ev.now _)))))
    · rfl
  · unfold spec_l2Last.f
    refine ev_bind hc ?_
    rw [hwr]
    refine ev_neg (by omega) (ev_pos (by omega) (ev_pos (by omega) ?_))
    rw [rd_snoc]
    exact ev_neg hq.2.2.2 (Ev.now _)
theorem chain_snoc {ns : List S62} {e : S87} : ∀ {ps : List ByteArray} {a x : Int}, Chain ns a ps x → 0 ≤ x → x < (ns.length : Int) → e ∈ (r62 ns x).f6 → Chain ns a (ps ++ [e.f0]) e.f1
  | [], a, x, h, h0, h1, he => by
    obtain rfl : a = x := h
    exact ⟨h0, h1, e, he, rfl, rfl⟩
  | q :: ps, a, x, h, h0, h1, he => by
    obtain ⟨a0, a1, e', he', e1, e2⟩ := h
    exact ⟨a0, a1, e', he', e1, chain_snoc e2 h0 h1 he⟩
theorem at_names {ns : List S62} {room y : Int} (hs : ∀ v ∈ ns, Small1 v) (hg : SpecGood ns room) {w : ByteArray} (hw : w.size ≤ 100000) {qs : List ByteArray} (e : parts w = qs) (h : ∀ q ∈ qs, nameB q = true) (hc : Chain ns 0 qs y) : Ev (fun k => spec_l7At.f k ns room 0 w) y := by
  have hp := parts_length w
  subst e
  refine ev_bind (spec_l2Parts.is w (by omega)) (spec_l7At.loop ns room (fun v hv => (hs v hv).2.1) (rises_in hg.2.1) (parts w) (by omega) y (parts w).length 0 0 (by omega) (by omega) (by omega) ?_)
  rw [show (0 : Int).toNat = 0 from rfl, List.drop_zero, List.filter_eq_self.2 (fun x hx => by simpa using (nameB_47 (h x hx)).2.2.1)]
  exact hc
def el (ns : List S62) : Nat → ByteArray → Int → List (ByteArray × Int × S87)
  | 0, _, _ => []
  | d + 1, p, a => (r62 ns a).f6.flatMap fun e => (p, a, e) :: el ns d (belowT p e.f0) e.f1
def wayE (x : ByteArray × Int × S87) : S91 := ⟨belowT x.1 x.2.2.f0, x.2.2.f1⟩
theorem wl_el (ns : List S62) : ∀ (d : Nat) (p : ByteArray) (a : Int), wl ns false d p a = ⟨p, a⟩ :: (el ns d p a).map wayE
  | 0, p, a => rfl
  | d + 1, p, a => by
    have hk : wl ns false (d + 1) p a = ⟨p, a⟩ :: ((r62 ns a).f6.flatMap fun e => wl ns false d (belowT p e.f0) e.f1) := by rw [wl]; rfl
    have hf : (fun e : S87 => wl ns false d (belowT p e.f0) e.f1) = fun e => ((p, a, e) :: el ns d (belowT p e.f0) e.f1).map wayE := funext fun e => by rw [wl_el ns d, List.map_cons]; rfl
    rw [hk, el, List.map_flatMap, hf]
theorem el_dfs (ns : List S62) : ∀ (d : Nat) (p : ByteArray) (a : Int), dfs (adjOf (rowsOf ns)) d a = a :: (el ns d p a).map fun x => x.2.2.f1
  | 0, p, a => rfl
  | d + 1, p, a => by
    have hf : (fun e : S87 => dfs (adjOf (rowsOf ns)) d e.f1) = fun e => ((p, a, e) :: el ns d (belowT p e.f0) e.f1).map fun x => x.2.2.f1 := funext fun e => by rw [el_dfs ns d (belowT p e.f0), List.map_cons]
    rw [Go.Proofs.YtmhjmicplaolmaaGreatDoor.Graph.dfs, el, List.map_flatMap, adj_all, ← hf]
    congr 1
    show (List.map (fun e : S87 => e.f1) (r62 ns a).f6).flatMap _ = _
    rw [List.flatMap_map]
def Way (ns : List S62) (p : ByteArray) (a : Int) : Prop := ∃ ps : List ByteArray, ((p.toList = [46] ∧ ps = []) ∨ (p.toList ≠ [46] ∧ parts p = ps)) ∧ (∀ q ∈ ps, nameB q = true) ∧ Chain ns 0 ps a
theorem way_below {ns : List S62} {p : ByteArray} {a : Int} {e : S87} (hw : Way ns p a) (h0 : 0 ≤ a) (h1 : a < (ns.length : Int)) (he : e ∈ (r62 ns a).f6) (hn : nameB e.f0 = true) : ∃ ps, parts (belowT p e.f0) = ps ++ [e.f0] ∧ (∀ q ∈ ps ++ [e.f0], nameB q = true) ∧ Chain ns 0 ps a ∧ Chain ns 0 (ps ++ [e.f0]) e.f1 ∧ (belowT p e.f0).toList ≠ [46] := by
  obtain ⟨ps, h, hq, hc⟩ := hw
  have hpt : parts (belowT p e.f0) = ps ++ [e.f0] := by
    unfold belowT
    rcases h with ⟨h, rfl⟩ | ⟨h, rfl⟩
    · rw [if_pos h, parts_one hn]; rfl
    · rw [if_neg h, parts_app hn]
  have hall : ∀ q ∈ ps ++ [e.f0], nameB q = true := fun q hm => (List.mem_append.1 hm).elim (hq q) (fun h => by rw [List.mem_singleton.1 h]; exact hn)
  refine ⟨ps, hpt, hall, hc, chain_snoc hc h0 h1 he, fun hd => ?_⟩
  have e46 : belowT p e.f0 = (⟨#[46]⟩ : ByteArray) := eq_of_toList (by rw [hd]; exact (toList_mk [46]).symm)
  have hp46 : parts (⟨#[46]⟩ : ByteArray) = [(⟨#[46]⟩ : ByteArray)] := by
    unfold parts pieces
    rw [show (⟨#[46]⟩ : ByteArray).toList = [46] from toList_mk [46], segs_none [46] (by decide), List.map_cons, List.map_nil, List.filter_cons, if_pos (by rw [toList_mk]; rfl), List.filter_nil]; rfl
  rw [e46, hp46] at hpt
  have := hall (⟨#[46]⟩ : ByteArray) (by rw [← hpt]; exact List.mem_singleton.2 rfl)
  exact (nameB_47 this).2.2.1 (toList_mk [46])
theorem Way.below {ns : List S62} {p : ByteArray} {a : Int} {e : S87} (hw : Way ns p a) (h0 : 0 ≤ a) (h1 : a < (ns.length : Int)) (he : e ∈ (r62 ns a).f6) (hn : nameB e.f0 = true) : Way ns (belowT p e.f0) e.f1 := by
  obtain ⟨ps, k1, k2, _, k4, k5⟩ := way_below hw h0 h1 he hn
  exact ⟨ps ++ [e.f0], .inr ⟨k5, k1⟩, k2, k4⟩
structure ElIn (ns : List S62) (x : ByteArray × Int × S87) : Prop where
  way : Way ns x.1 x.2.1
  lo : 0 ≤ x.2.1
  hi : x.2.1 < (ns.length : Int)
  mem : x.2.2 ∈ (r62 ns x.2.1).f6
  name : nameB x.2.2.f0 = true
theorem el_in (ns : List S62) (hr : ∀ v ∈ ns, ∀ e ∈ v.f6, (0 ≤ e.f1 ∧ e.f1 < (ns.length : Int)) ∧ nameB e.f0 = true) : ∀ (d : Nat) (p : ByteArray) (a : Int), Way ns p a → 0 ≤ a → a < (ns.length : Int) → ∀ x ∈ el ns d p a, ElIn ns x ∧ (wayE x).f0.size ≤ p.size + 9 * d
  | 0, p, a, _, _, _, x, hx => by cases hx
  | d + 1, p, a, hw, h0, h1, x, hx => by
    rw [el, List.mem_flatMap] at hx
    obtain ⟨e, he, hx⟩ := hx
    have h := hr _ (nd_mem ns a h0 h1) e he
    have hb := below_size' (p := p) (nameB_size h.2)
    rcases List.mem_cons.1 hx with rfl | hx
    · exact ⟨⟨hw, h0, h1, he, h.2⟩, by show (belowT p e.f0).size ≤ _; omega⟩
    · have := el_in ns hr d _ _ (hw.below h0 h1 he h.2) h.1.1 h.1.2 x hx
      exact ⟨this.1, by omega⟩
def nmR : Option (ByteArray × Int × S87) → Int × ByteArray × Bool
  | none => (0, (⟨#[]⟩ : ByteArray), false)
  | some x => (x.2.1, x.2.2.f0, true)
theorem first_loop (ns : List S62) (room node a : Int) (p : ByteArray) (d : Nat) (es : List S87) (hl : es.length ≤ 1048576) (ih : ∀ e ∈ es, Ev (fun k => impl_Fs_firstName.f k ns room e.f1 node) (nmR ((el ns d (belowT p e.f0) e.f1).find? fun x => x.2.2.f1 == node))) (n : Nat) : ∀ j : Int, 0 ≤ j → j ≤ es.length → (es.length : Int) - j = n →
    Ev (fun k => impl_Fs_firstName.l0 k a node es (es.length : Int) j ns room) (nmR (((es.drop j.toNat).flatMap fun e => (p, a, e) :: el ns d (belowT p e.f0) e.f1).find? fun x => x.2.2.f1 == node)) := by
  induction n with
  | zero =>
    intro j h0 hj hd
    rw [List.drop_eq_nil_iff.mpr (by omega)]
    exact Ev.step (f := fun _ => some (0, (⟨#[]⟩ : ByteArray), false)) (fun k => by rw [impl_Fs_firstName.l0, if_neg (by omega)]) (Ev.now _)
  | succ n ihn =>
    intro j h0 hj hd
    have hlt : j < (es.length : Int) := by omega
    have hm : r87 es j ∈ es := getD_mem es z87 j h0 hlt
    have hi := ih _ hm
    have hn := ihn (j + 1) (by omega) (by omega) (by omega)
    rw [drop_list es z87 j h0 hlt, List.flatMap_cons, List.cons_append, List.find?_cons]
    rw [show es.getD j.toNat z87 = r87 es j from rfl]
    refine Ev.step (fun k => by rw [impl_Fs_firstName.l0, if_pos hlt, if_pos h0, if_pos hlt, wrap_id (x := j + 1) (by omega) (by omega)]) ?_
    generalize r87 es j = e at hm hi
    by_cases h : e.f1 = node
    · have hb : (((p, a, e) : ByteArray × Int × S87).2.2.f1 == node) = true := beq_iff_eq.2 h
      rw [hb]
      exact ev_pos h (Ev.now _)
    · have hb : (((p, a, e) : ByteArray × Int × S87).2.2.f1 == node) = false := beq_eq_false_iff_ne.2 h
      rw [hb, List.find?_append]
      refine ev_neg h (ev_bind hi ?_)
      cases hf : (el ns d (belowT p e.f0) e.f1).find? fun x => x.2.2.f1 == node with
      | some y => exact ev_pos rfl (Ev.now _)
      | none => exact ev_neg (by simp [nmR]) hn
theorem first_is (ns : List S62) (room node : Int) (hs : ∀ v ∈ ns, Small1 v) (hr : ∀ v ∈ ns, ∀ e ∈ v.f6, 0 ≤ e.f1 ∧ e.f1 < (ns.length : Int)) : ∀ (d : Nat) (p : ByteArray) (a : Int), 0 ≤ a → a < (ns.length : Int) → Deep (adjOf (rowsOf ns)) d a → Ev (fun k => impl_Fs_firstName.f k ns room a node) (nmR ((el ns d p a).find? fun x => x.2.2.f1 == node))
  | 0, p, a, h0, h1, h => by
    have he : row (r62 ns a).f6 = [] := by rw [← adj_is ns a h0 h1]; exact h
    have hz : (r62 ns a).f6.length = 0 := by rw [← row_len, he]; rfl
    refine Ev.step (fun k => by rw [impl_Fs_firstName.f, if_pos h0, if_pos h1]) ?_
    exact Ev.step (f := fun _ => some (0, (⟨#[]⟩ : ByteArray), false)) (fun k => by rw [impl_Fs_firstName.l0, if_neg (by omega)]) (Ev.now _)
  | d + 1, p, a, h0, h1, h => by
    have hm := nd_mem ns a h0 h1
    have := first_loop ns room node a p d (r62 ns a).f6 (hs _ hm).2.1 (fun e he => first_is ns room node hs hr d (belowT p e.f0) e.f1 (hr _ hm e he).1 (hr _ hm e he).2 (h e.f1 (by rw [adj_is ns a h0 h1]; exact List.mem_map.2 ⟨e, he, rfl⟩))) (r62 ns a).f6.length 0 (by omega) (by omega) (by omega)
    rw [show (0 : Int).toNat = 0 from rfl, List.drop_zero] at this
    exact Ev.step (fun k => by rw [impl_Fs_firstName.f, if_pos h0, if_pos h1]) this
theorem name_loop {ns : List S62} {room node : Int} (hs : ∀ v ∈ ns, Small1 v) (hg : SpecGood ns room) (L : List ByteArray) (hL : L.length ≤ 1000000000) {y : ByteArray × Int × S87} : ∀ (M : List (ByteArray × Int × S87)) (j : Int), 0 ≤ j → j ≤ L.length → L.drop j.toNat = M.map (fun x => (wayE x).f0) → (∀ x ∈ M, ElIn ns x ∧ (wayE x).f0.size ≤ 1000) → M.find? (fun x => x.2.2.f1 == node) = some y →
    Ev (fun k => spec_l9Name.l0 k node L (L.length : Int) j ns room) (y.2.1, y.2.2.f0)
  | [], j, _, _, _, _, h => by cases h
  | x :: M, j, h0, hj, hd, hM, h => by
    have hlt : j < (L.length : Int) := by
      refine Decidable.byContradiction fun hc => ?_
      rw [List.drop_eq_nil_iff.mpr (by omega)] at hd; cases hd
    rw [rdOf_drop L j h0 hlt, List.map_cons, List.cons.injEq] at hd
    obtain ⟨hx, hz⟩ := hM x List.mem_cons_self
    obtain ⟨ps, k1, k2, k3, k4, k5⟩ := way_below hx.way hx.lo hx.hi hx.mem hx.name
    have hsz : (belowT x.1 x.2.2.f0).size ≤ 1000 := hz
    have hd1 : rdOf ByteArray.empty L j = belowT x.1 x.2.2.f0 := hd.1
    have hat := at_names (room := room) hs hg (w := belowT x.1 x.2.2.f0) (by omega) k1 k2 k4
    refine Ev.step (fun k => by rw [spec_l9Name.l0, if_pos hlt, if_pos h0, if_pos hlt, hd1, if_neg k5]) (ev_bind hat ?_)
    rw [List.find?_cons] at h
    by_cases hn : x.2.2.f1 = node
    · have hb : (x.2.2.f1 == node) = true := beq_iff_eq.2 hn
      rw [hb] at h ⊢
      obtain rfl : x = y := Option.some.inj h
      obtain ⟨e1, e2⟩ := dir_last hsz k1 k2
      have hps : (pathText ps).size ≤ 100000 := by
        have hjl := joinL_length ps 8 (fun q hq => nameB_size (k2 q (List.mem_append_left _ hq)))
        have hpl := parts_length (belowT x.1 x.2.2.f0)
        rw [k1, List.length_append, List.length_singleton] at hpl
        unfold pathText
        rw [size_mk, List.length_cons]; omega
      have h3 := at_names (room := room) hs hg hps (parts_path (fun q hq => k2 q (List.mem_append_left _ hq))) (fun q hq => k2 q (List.mem_append_left _ hq)) k3
      exact Ev.step (fun k => by rw [spec_l9Name.j1, if_pos rfl, if_pos (by omega)]) (ev_bind e1 (ev_bind h3 (ev_bind (f := fun _ t => some (x.2.1, t)) e2 (Ev.now (x.2.1, x.2.2.f0)))))
    · have hb : (x.2.2.f1 == node) = false := beq_eq_false_iff_ne.2 hn
      rw [hb] at h ⊢
      refine Ev.step (fun k => by rw [spec_l9Name.j1, if_neg (by simp), wrap_id (x := j + 1) (by omega) (by omega)]) ?_
      exact name_loop hs hg L hL M (j + 1) (by omega) (by omega) hd.2 (fun z hz => hM z (List.mem_cons_of_mem _ hz)) h
theorem dfs_closed {adj : Int → List Int} {d : Nat} {a y : Int} (h : Deep adj d a) (r : Go.Proofs.YtmhjmicplaolmaaGreatDoor.Graph.Reach adj a y) : y ∈ dfs adj d a := by
  refine Go.Proofs.YtmhjmicplaolmaaGreatDoor.Graph.Reach.closed ?_ (fun x hx y hy => ?_) r
  · exact (dfs_perm h).mem_iff.2 List.mem_cons_self
  · exact (dfs_perm h).mem_iff.2 (List.mem_cons_of_mem _ (List.mem_flatMap.2 ⟨x, hx, hy⟩))
theorem name_both {ns : List S62} {room node : Int} (hn' : ns.length ≤ 1048576) (hs : ∀ v ∈ ns, Small1 v) (hg : SpecGood ns room) (h0 : 0 < node) (h1 : node < (ns.length : Int)) (hf : (r62 ns node).f0 ≠ 0) : ∃ (dir : Int) (e : S87), 0 ≤ dir ∧ dir < (ns.length : Int) ∧ e ∈ (r62 ns dir).f6 ∧ e.f1 = node ∧ nameB e.f0 = true ∧
    Ev (fun k => impl_Fs_firstName.f k ns room 0 node) (dir, e.f0, true) ∧ Ev (fun k => spec_l9Name.f k ns room node) (dir, e.f0) := by
  have hri := rows_in hg
  have hrn : ∀ v ∈ ns, ∀ e ∈ v.f6, (0 ≤ e.f1 ∧ e.f1 < (ns.length : Int)) ∧ nameB e.f0 = true := fun v hv e he => ⟨hri v hv e he, names_in hg.2.1 v hv e he⟩
  have hr8 : ∀ v ∈ ns, ∀ e ∈ v.f6, (0 ≤ e.f1 ∧ e.f1 < (ns.length : Int)) ∧ e.f0.size ≤ 8 := fun v hv e he => ⟨hri v hv e he, nameB_size (hrn v hv e he).2⟩
  have hz : (0 : Int) < (ns.length : Int) := by omega
  obtain ⟨d, hd, hD, hL⟩ := deep_of hn' hs hg (a := 0) (by omega) hz
  have h46 : (⟨#[46]⟩ : ByteArray).size = 1 := rfl
  obtain ⟨met, hmet⟩ := met_of hn' hs hg
  have hr := hmet.reach.1 ((hg.2.2 met hmet node (by omega) h1).2.2 hf)
  have hmem := dfs_closed hD hr
  rw [el_dfs ns d (⟨#[46]⟩ : ByteArray) 0, List.mem_cons] at hmem
  have hmem : node ∈ (el ns d (⟨#[46]⟩ : ByteArray) 0).map fun x => x.2.2.f1 := hmem.elim (fun h => absurd h (by omega)) id
  obtain ⟨x0, hx0, ex0⟩ := List.mem_map.1 hmem
  have hway : Way ns (⟨#[46]⟩ : ByteArray) 0 := ⟨[], .inl ⟨toList_mk [46], rfl⟩, fun q hq => (by cases hq), rfl⟩
  have hin := el_in ns hrn d (⟨#[46]⟩ : ByteArray) 0 hway (by omega) hz
  have hfi := first_is ns room node hs (fun v hv e he => hri v hv e he) d (⟨#[46]⟩ : ByteArray) 0 (by omega) hz hD
  cases hfd : (el ns d (⟨#[46]⟩ : ByteArray) 0).find? fun x => x.2.2.f1 == node with
  | none => exact absurd (beq_iff_eq.2 ex0) (List.find?_eq_none.1 hfd x0 hx0)
  | some y =>
    rw [hfd] at hfi
    have hy := hin y (List.mem_of_find?_eq_some hfd)
    have hyn : y.2.2.f1 = node := by
      have := List.find?_some hfd
      exact beq_iff_eq.1 this
    refine ⟨y.2.1, y.2.2, hy.1.lo, hy.1.hi, hy.1.mem, hyn, hy.1.name, hfi, ?_⟩
    have hw := l7_is ns room false hs hr8 d (⟨#[46]⟩ : ByteArray) 0 (by omega) (by omega) hz hD (by omega)
    have hll := wl_len ns false d (⟨#[46]⟩ : ByteArray) 0 (fun v hv e he => hri v hv e he) (by omega) hz
    have hlm : ((wl ns false d (⟨#[46]⟩ : ByteArray) 0).map (·.f0)).length ≤ 1000000000 := by rw [List.length_map]; omega
    have hmap : (wl ns false d (⟨#[46]⟩ : ByteArray) 0).map (·.f0) = (⟨#[46]⟩ : ByteArray) :: (el ns d (⟨#[46]⟩ : ByteArray) 0).map (fun x => (wayE x).f0) := by
      rw [wl_el, List.map_cons, List.map_map]; rfl
    generalize (wl ns false d (⟨#[46]⟩ : ByteArray) 0).map (·.f0) = L at hw hlm hmap
    have hL1 : 1 ≤ L.length := by rw [hmap, List.length_cons]; omega
    have hloop := name_loop hs hg L hlm (el ns d (⟨#[46]⟩ : ByteArray) 0) 1 (by omega) (by omega) (by rw [hmap]; rfl) (fun x hx => ⟨(hin x hx).1, by have := (hin x hx).2; omega⟩) hfd
    have hr0 : rdOf ByteArray.empty L 0 = (⟨#[46]⟩ : ByteArray) := by rw [hmap]; rfl
    refine ev_bind hw (Ev.step (fun k => by rw [spec_l9Name.l0, if_pos (by omega), if_pos (by omega), if_pos (by omega), hr0, if_pos (show (⟨#[46]⟩ : ByteArray).toList = [46] from toList_mk [46])]) ?_)
    exact Ev.step (fun k => by rw [spec_l9Name.j1, if_neg (by simp), show wrap64 (0 + 1) = (1 : Int) from wrap_id (x := 0 + 1) (by omega) (by omega)]) hloop
end Go.Proofs.YtmhjmicplaolmaaGreatDoor.PRm
namespace Go.Proofs.YtmhjmicplaolmaaGreatDoor.PRm
open Go.RowKit Go.Proofs.YtmhjmicplaolmaaGreatDoorW.PrintWords Go.Proofs.YtmhjmicplaolmaaGreatDoorW.PrintLast Go.Proofs.YtmhjmicplaolmaaGreatDoorW.PrintMore Go.Proofs.YtmhjmicplaolmaaGreatDoor.Aid Go.Proofs.YtmhjmicplaolmaaGreatDoor.AllLoop Go.Proofs.YtmhjmicplaolmaaGreatDoor.Loops Go.Proofs.YtmhjmicplaolmaaGreatDoor.Put Go.Proofs.YtmhjmicplaolmaaGreatDoor.Graph
set_option linter.unusedSimpArgs false
set_option linter.unusedVariables false
theorem cred_both (u g : Int) : ∃ q, spec_l1Cred.f u g = some q ∧ impl_GoodCred.f u g = some q := by
  unfold impl_GoodCred.f spec_l1Cred.f impl_isId.f spec_l1In.f impl_within.f
  by_cases h1 : u ≥ 0 <;> by_cases h2 : g ≥ 0 <;> by_cases h3 : u ≤ 99 <;> by_cases h4 : g ≤ 99 <;> simp [h1, h2, h3, h4]
theorem asked_both (ns : List S62) (room u g node : Int) (hn' : ns.length ≤ 1048576) (hs : ∀ v ∈ ns, Small1 v) :
    ((Ev (fun k => spec_l4Asked.f k ns room u g) false ∨ (Ev (fun k => spec_l4Asked.f k ns room u g) true ∧ ∃ b, spec_l3Is.f ns room node = some b ∧ ¬ (b = true ∧ node ≠ 0))) ∧ Ev (fun k => impl_isTaken.f k ns room u g node) false) ∨
    (Ev (fun k => spec_l4Asked.f k ns room u g) true ∧ spec_l3Is.f ns room node = some true ∧ node ≠ 0 ∧ Ev (fun k => impl_isTaken.f k ns room u g node) true ∧ SpecGood ns room ∧ 0 < node ∧ node < (ns.length : Int) ∧ (r62 ns node).f0 ≠ 0) := by
  obtain ⟨r, hr, hi, e⟩ := good_both ns room hn' hs
  obtain ⟨q, hq, hq'⟩ := cred_both u g
  have h1 : Ev (fun k => spec_l4Asked.f k ns room u g) (r && q) := by
    unfold spec_l4Asked.f
    cases r with
    | true => exact ev_bind hr (ev_pos rfl (ev_bind0 hq (Ev.now _)))
    | false => exact ev_bind hr (ev_neg (by simp) (Ev.now _))
  have h2 : Ev (fun k => impl_isAsked.f k ns room u g) (r && q) := by
    unfold impl_isAsked.f
    cases r with
    | true => exact ev_bind hi (ev_pos rfl (ev_bind0 hq' (Ev.now _)))
    | false => exact ev_bind hi (ev_neg (by simp) (Ev.now _))
  by_cases hrq : (r && q) = true
  · rw [hrq] at h1 h2
    have hg := e.1 (Bool.and_eq_true_iff.1 hrq).1
    have hn := hg.1.1.1
    obtain ⟨b, hb, eb⟩ := spec_l3Is_same (a := node) hn hn'
    obtain ⟨b', hb', eb'⟩ := impl_Fs_isThere.is ns room node hn hn'
    have e2 : b' = b := by rw [Bool.eq_iff_iff, eb, eb']
    subst e2
    have h3 : spec_l3Is.f ns room node = some b' := hb
    by_cases hc : b' = true ∧ node ≠ 0
    · obtain ⟨hbt, hne⟩ := hc
      have ha := eb.1 hbt
      subst hbt
      refine .inr ⟨h1, h3, hne, ?_, hg, ?_, ha.2.1, ha.2.2⟩
      · unfold impl_isTaken.f
        exact ev_bind h2 (ev_pos rfl (ev_bind0 hb' (ev_pos rfl (ev_some (by simpa using hne)))))
      · have := ha.1; omega
    · refine .inl ⟨.inr ⟨h1, b', h3, hc⟩, ?_⟩
      unfold impl_isTaken.f
      refine ev_bind h2 (ev_pos rfl (ev_bind0 hb' ?_))
      cases b' with
      | true => exact ev_pos rfl (ev_some (by simpa using hc))
      | false => exact ev_neg (by simp) (Ev.now _)
  · have hf : (r && q) = false := by simpa using hrq
    rw [hf] at h1 h2
    exact .inl ⟨.inl h1, ev_bind h2 (ev_neg (by simp) (Ev.now _))⟩
theorem taken_both {ns : List S62} {room node : Int} (u g : Int) (hn' : ns.length ≤ 1048576) (hs : ∀ v ∈ ns, Small1 v) (hg : SpecGood ns room) (h0 : 0 < node) (h1 : node < (ns.length : Int)) (hf : (r62 ns node).f0 ≠ 0) :
    ∃ (dir : Int) (e : S87) (b : Bool) (ns' : List S62) (m : Nat) (fs : List S111), 0 ≤ dir ∧ dir < (ns.length : Int) ∧ e ∈ (r62 ns dir).f6 ∧ e.f1 = node ∧ Gone ns room dir e b ns' ∧ fs.length = m ∧
      Ev (fun k => impl_Fs_taken.f k ns room u g node) (ns', room, b, ((m : Int) == 0)) ∧
      Ev (fun k => spec_l9Name.f k ns room node) (dir, e.f0) ∧
      Ev (fun k => spec_l9After.f k ns room u g node) (b, ns', room, fs) := by
  obtain ⟨dir, e, d0, d1, he, hen, hnm, hfirst, hname⟩ := name_both hn' hs hg h0 h1 hf
  obtain ⟨d, hd, hD, hL⟩ := deep_of hn' hs hg (a := e.f1) (by omega) (by omega)
  obtain ⟨b, ns', m, hm, G, hi, hr⟩ := take_both room u g d ns dir e hn' hg hs d0 d1 he hD
  have s47 : (⟨#[47]⟩ : ByteArray).size = 1 := rfl
  have s46 : (⟨#[46]⟩ : ByteArray).size = 1 := rfl
  have hm' : ([] : List S111).length + m ≤ 1000000000000 := by rw [List.length_nil]; omega
  obtain ⟨f1, l1, v1⟩ := hi (⟨#[47]⟩ : ByteArray) [] (by omega) hm'
  obtain ⟨f2, l2, v2⟩ := hr (⟨#[46]⟩ : ByteArray) [] (by omega) (by omega) hm'
  rw [List.length_nil, Nat.zero_add] at l1 l2
  refine ⟨dir, e, b, ns', m, f2, d0, d1, he, hen, G, l2, ?_, hname, ?_⟩
  · unfold impl_Fs_taken.f
    have ho : impl_Fs_own.f ns room = some (ns, room) := by
      unfold impl_Fs_own.f
      rw [if_pos ⟨by omega, fun x hx => by have := (hs x hx).2.1; omega⟩]
    refine ev_bind0 ho (ev_pos (by show 0 < ns.length; omega) (ev_bind hfirst (ev_bind v1 ?_)))
    exact ev_some (by rw [l1])
  · unfold spec_l9After.f
    exact ev_bind hname (ev_bind (spec_l3Own.is ns room hn' (fun v hv => (hs v hv).2.1)) v2)
end Go.Proofs.YtmhjmicplaolmaaGreatDoor.PRm
namespace Go.Proofs.YtmhjmicplaolmaaGreatDoor.PRm
open Go.RowKit Go.Proofs.YtmhjmicplaolmaaGreatDoorW.PrintWords Go.Proofs.YtmhjmicplaolmaaGreatDoorW.PrintLast Go.Proofs.YtmhjmicplaolmaaGreatDoorW.PrintMore Go.Proofs.YtmhjmicplaolmaaGreatDoor.Aid
set_option linter.unusedVariables false
set_option linter.unusedSimpArgs false
theorem CanRemove.same (ns : List S62) (room u g node : Int) (hn' : ns.length ≤ 1048576) (hs : ∀ v ∈ ns, Small1 v) : ∃ (v b : Bool), Ev (fun k => spec_CanRemove.f k ns room u g node) (v, b) ∧ Ev (fun k => impl_CanRemove.f k ns room u g node) (v, b) := by
  unfold spec_CanRemove.f impl_CanRemove.f
  rcases asked_both ns room u g node hn' hs with ⟨h1, h2⟩ | ⟨h1, h2, h3, h4, hg, h5, h6, h7⟩
  · refine ⟨false, false, ?_, ev_bind h2 (ev_neg (by simp) (Ev.now _))⟩
    rcases h1 with h1 | ⟨h1, b, hb, hc⟩
    · exact ev_bind h1 (ev_neg (by simp) (Ev.now _))
    · exact ev_bind h1 (ev_pos rfl (ev_bind0 hb (ev_neg hc (Ev.now _))))
  · obtain ⟨dir, e, b, ns', m, fs, d0, d1, he, hen, G, hfs, k1, k2, k3⟩ := taken_both u g hn' hs hg h5 h6 h7
    refine ⟨((m : Int) == 0), true, ev_bind h1 (ev_pos rfl (ev_bind0 h2 (ev_pos ⟨rfl, h3⟩ (ev_bind k3 (ev_some ?_))))), ev_bind h4 (ev_pos rfl (ev_bind k1 (Ev.now _)))⟩
    rw [hfs]
end Go.Proofs.YtmhjmicplaolmaaGreatDoor.PRm
namespace Go.Proofs.YtmhjmicplaolmaaGreatDoor.Pure
open Go.RowKit Go.Proofs.YtmhjmicplaolmaaGreatDoor.PRm Go.Proofs.YtmhjmicplaolmaaGreatDoorW.PrintWords Go.Proofs.YtmhjmicplaolmaaGreatDoor.Aid
theorem FnExactCanRemove : laws_FnExactCanRemove.Pure := by
  intro a n u g x ha hn hu hg hx
  refine Ev.rounds (r := true) ?_
  unfold laws_FnExactCanRemove.f laws_toCred.f
  obtain ⟨r, hr, e⟩ := laws_szFs.is a n ha.1 (fun x hx => ⟨(ha.2 x hx).2.2.2.2.2.1, (ha.2 x hx).2.2.2.2.2.2.1, fun y hy => ((ha.2 x hx).2.2.2.2.2.2.2 y hy).1⟩) 1048576 (by omega) (by omega)
  rcases e with e | ⟨e1, e2, e3, e4⟩
  · exact ev_bind hr (ev_pos e (Ev.now _))
  refine ev_bind hr (ev_neg (by omega) ?_)
  have ta := laws_toFs.is a n e3 e4
  have oa := nodC_ok e4
  have sa := small_of e4
  have la : (a.map nodC).length ≤ 1048576 := by rw [List.length_map]; omega
  generalize a.map nodC = A at ta oa sa la
  obtain ⟨v, b, hs, ht⟩ := CanRemove.same A n u g x la sa
  refine ev_bind ta (ev_bind0 rfl (ev_bind hs (ev_bind ta (ev_bind0 rfl (ev_bind ht ?_)))))
  rw [bne_self_eq_false, bne_self_eq_false]
  refine ev_neg (by decide) ?_
  exact Ev.step (fun k => by rw [laws_FnExactCanRemove.j0, if_neg (by decide)]) (ev_bind ta (ev_bind (laws_eqFs.same A n (by omega) oa) (ev_pos rfl (Ev.now _))))
end Go.Proofs.YtmhjmicplaolmaaGreatDoor.Pure
