/- The node of a way, by its names: what the reference looks up is the way's own node. No condition. -/
import Derived.Test.YtmhjmicplaolmaaGreatDoorWalks
import Derived.Test.YtmhjmicplaolmaaGreatDoorPRmx27
namespace Go.Proofs.YtmhjmicplaolmaaGreatDoor.PRm
open Go.RowKit Go.Proofs.YtmhjmicplaolmaaGreatDoorW.PrintWords Go.Proofs.YtmhjmicplaolmaaGreatDoorW.PrintLast Go.Proofs.YtmhjmicplaolmaaGreatDoorW.PrintMore Go.Proofs.YtmhjmicplaolmaaGreatDoor.Aid Go.Proofs.YtmhjmicplaolmaaGreatDoor.AllLoop Go.Proofs.YtmhjmicplaolmaaGreatDoor.Loops Go.Proofs.YtmhjmicplaolmaaGreatDoor.Put Go.Proofs.YtmhjmicplaolmaaGreatDoor.Graph
set_option linter.unusedSimpArgs false
set_option linter.unusedVariables false
theorem qp : ∀ l : List UInt8, Op.bytesLess l l = false
  | [] => rfl
  | a :: l => by rw [Op.bytesLess, qp l]; simp
theorem uf : ∀ {a b c : List UInt8}, Op.bytesLess a b = true → Op.bytesLess b c = true → Op.bytesLess a c = true
  | _, _, [], _, h => by simp [Op.bytesLess] at h
  | [], _, _ :: _, _, _ => rfl
  | _ :: _, [], _ :: _, h, _ => by simp [Op.bytesLess] at h
  | x :: a, y :: b, z :: c, h, k => by
    simp only [Op.bytesLess, Bool.or_eq_true, Bool.and_eq_true, decide_eq_true_eq, beq_iff_eq] at h k ⊢
    rcases h with h | ⟨h1, h2⟩
    · rcases k with k | ⟨k1, k2⟩
      · exact .inl (UInt8.lt_trans h k)
      · exact .inl (k1 ▸ h)
    · rcases k with k | ⟨k1, k2⟩
      · exact .inl (h1 ▸ k)
      · exact .inr ⟨h1.trans k1, uf h2 k2⟩
theorem qd {l : List S87} (h : ∀ i : Int, 0 < i → i < (l.length : Int) → Less l i = true) : ∀ (d i : Nat), i + d + 1 < l.length → Op.bytesLess (r87 l (i : Int)).f0.toList (r87 l ((i + d + 1 : Nat) : Int)).f0.toList = true
  | 0, i, hl => by
    have := h ((i + 0 + 1 : Nat) : Int) (by omega) (by omega)
    unfold Less at this
    rwa [show ((i + 0 + 1 : Nat) : Int) - 1 = (i : Int) by omega] at this
  | d + 1, i, hl => by
    have h1 := qd h d i (by omega)
    have := h ((i + (d + 1) + 1 : Nat) : Int) (by omega) (by omega)
    unfold Less at this
    rw [show ((i + (d + 1) + 1 : Nat) : Int) - 1 = ((i + d + 1 : Nat) : Int) by omega] at this
    exact uf h1 this
def qx (l : List S87) : Prop := ∀ i j : Nat, i < j → j < l.length → (r87 l (i : Int)).f0.toList ≠ (r87 l (j : Int)).f0.toList
theorem xk {l : List S87} (h : ∀ i : Int, 0 < i → i < (l.length : Int) → Less l i = true) : qx l := fun i j hij hj e => by
  have := qd h (j - i - 1) i (by omega)
  rw [show i + (j - i - 1) + 1 = j by omega, e, qp] at this
  cases this
theorem jP {ns : List S62} {lo : Int} (h1 : oW lo ns) : ∀ v ∈ ns, qx v.f6 := fun v hv => by
  have hg := kR h1 v hv
  by_cases h0 : v.f0 = 0
  · have := (hg.1 h0).2.2.2.2.2; exact fun i j hij hj => absurd hj (by omega)
  · rcases (hg.2 h0).2.2.2.2 with h' | h' | h'
    · exact fun i j hij hj => absurd hj (by omega)
    · exact xk (fun i hi hl => (h'.2.2 i (by omega) hl).2.1 hi)
    · exact fun i j hij hj => absurd hj (by omega)
theorem bN.loop (l : List S87) (hl : l.length ≤ 1048576) (hu : qx l) (n : Nat) (hn : n < l.length) (d : Nat) : ∀ i : Int, 0 ≤ i → i ≤ n → (n : Int) - i = d → Ev (fun k => bN.l0 k (r87 l (n : Int)).f0 l (l.length : Int) i) (r87 l (n : Int)).f1 := by
  induction d with
  | zero =>
    intro i h0 hi hd
    obtain rfl : i = (n : Int) := by omega
    exact Ev.step (fun k => by rw [bN.l0, if_pos (by omega), if_pos h0, if_pos (by omega), if_pos rfl]) (Ev.now _)
  | succ d ih =>
    intro i h0 hi hd
    have hne := hu i.toNat n (by omega) hn
    rw [show ((i.toNat : Nat) : Int) = i by omega] at hne
    refine Ev.step (fun k => by rw [bN.l0, if_pos (by omega), if_pos h0, if_pos (by omega), if_neg hne, bg (x := i + 1) (by omega) (by omega)]) ?_
    exact ih (i + 1) (by omega) (by omega) (by omega)
theorem bN.is (l : List S87) (hl : l.length ≤ 1048576) (hu : qx l) {e : S87} (he : e ∈ l) : Ev (fun k => bN.f k l e.f0) e.f1 := by
  obtain ⟨n, hn, en⟩ := List.mem_iff_getElem.1 he
  have e' : r87 l (n : Int) = e := by
    show l.getD (n : Int).toNat z87 = e
    rw [List.getD_eq_getElem?_getD, show (n : Int).toNat = n by omega, List.getElem?_eq_getElem hn]; exact en
  have := bN.loop l hl hu n hn n 0 (by omega) (by omega) (by omega)
  rw [e'] at this
  exact this
theorem nZ : ∀ (a b : List UInt8), jL (a ++ 47 :: b) = jL a ++ jL b
  | [], b => by rw [List.nil_append, iW]; rfl
  | c :: a, b => by
    by_cases hc : c = 47
    · subst hc; rw [List.cons_append, iW, iW, nZ a b]; rfl
    · obtain ⟨x, t, h1, h2⟩ := kV c a hc
      obtain ⟨x', t', h3, h4⟩ := kV c (a ++ 47 :: b) hc
      rw [nZ a b, h1, List.cons_append, List.cons.injEq] at h3
      rw [List.cons_append, h4, h2, ← h3.1, ← h3.2]; rfl
def oP (ns : List S62) : Int → List ByteArray → Int → Prop
  | a, [], x => a = x
  | a, q :: qs, x => 0 ≤ a ∧ a < (ns.length : Int) ∧ ∃ e ∈ (r62 ns a).f6, e.f0 = q ∧ oP ns e.f1 qs x
theorem eX.loop (ns : List S62) (room : Int) (hs : ∀ v ∈ ns, v.f6.length ≤ 1048576) (hu : ∀ v ∈ ns, qx v.f6) (l : List ByteArray) (hl : l.length ≤ 1000000) (y : Int) (d : Nat) : ∀ (j x : Int), 0 ≤ j → j ≤ l.length → (l.length : Int) - j = d → oP ns x ((l.drop j.toNat).filter fun p => decide (p.toList ≠ [46])) y → Ev (fun k => eX.l0 k x l (l.length : Int) j ns room) y := by
  induction d with
  | zero =>
    intro j x h0 hj hd hc
    rw [List.drop_eq_nil_iff.mpr (by omega)] at hc
    obtain rfl : x = y := hc
    exact Ev.step (fun k => by rw [eX.l0, if_neg (by omega)]) (Ev.now _)
  | succ d ih =>
    intro j x h0 hj hd hc
    have hlt : j < (l.length : Int) := by omega
    rw [jw l j h0 hlt, List.filter_cons] at hc
    refine Ev.step (fun k => by rw [eX.l0, if_pos hlt, if_pos h0, if_pos hlt, bg (x := j + 1) (by omega) (by omega)]) ?_
    by_cases h : (dx ByteArray.empty l j).toList = [46]
    · rw [if_neg (by simpa using h)] at hc
      exact af h (ih (j + 1) x (by omega) (by omega) (by omega) hc)
    · rw [if_pos (by simpa using h)] at hc
      obtain ⟨a0, a1, e, he, e1, e2⟩ := hc
      have hm := il ns x a0 a1
      refine aH h (af a0 (af a1 (aj (a := e.f1) ?_ (ih (j + 1) _ (by omega) (by omega) (by omega) e2))))
      rw [← e1]
      exact bN.is _ (hs _ hm) (hu _ hm) he
theorem xq (ns : List S62) (i : Int) (v : S62) (h0 : 0 ≤ i) (h1 : i < (ns.length : Int)) (x : Int) (hx : 0 ≤ x) : r62 (ns.set i.toNat v) x = if x = i then v else r62 ns x := by
  show (ns.set i.toNat v).getD x.toNat z62 = _
  by_cases e : x = i
  · subst e
    rw [if_pos rfl, List.getD_eq_getElem?_getD, List.getElem?_set_self (by omega)]; rfl
  · rw [if_neg e, List.getD_eq_getElem?_getD, List.getElem?_set_ne (by omega)]
    show _ = ns.getD _ _
    rw [List.getD_eq_getElem?_getD]
theorem qV (x : Int) (r : List Int) : ∀ (L : List (List Int)) (i : Nat) (h : i < L.length), (L.set i r).flatten.count x + (L[i]).count x = L.flatten.count x + r.count x
  | [], i, h => absurd h (by simp)
  | a :: L, 0, h => by
    simp only [List.set_cons_zero, List.flatten_cons, List.count_append, List.getElem_cons_zero]; omega
  | a :: L, i + 1, h => by
    have := qV x r L i (by simpa using h)
    simp only [List.set_cons_succ, List.flatten_cons, List.count_append, List.getElem_cons_succ]; omega
abbrev Srt (l : List S87) : Prop := l.Pairwise fun x y => Op.bytesLess x.f0.toList y.f0.toList = true
theorem mH (l : List S87) (i : Nat) (h : i < l.length) : r87 l (i : Int) = l[i] := by
  show l.getD (i : Int).toNat z87 = _
  rw [List.getD_eq_getElem?_getD, show (i : Int).toNat = i by omega, List.getElem?_eq_getElem h]; rfl
theorem zB {l : List S87} (h : ∀ i : Int, 0 < i → i < (l.length : Int) → Less l i = true) : Srt l := by
  rw [Srt, List.pairwise_iff_getElem]
  intro i j hi hj hij
  have := qd h (j - i - 1) i (by omega)
  rw [show i + (j - i - 1) + 1 = j by omega, mH l i hi, mH l j hj] at this
  exact this
theorem yR {l : List S87} (h : Srt l) : ∀ i : Int, 0 < i → i < (l.length : Int) → Less l i = true := fun i h0 h1 => by
  obtain ⟨n, rfl⟩ := Int.eq_ofNat_of_zero_le (show 0 ≤ i by omega)
  rw [Srt, List.pairwise_iff_getElem] at h
  have := h (n - 1) n (by omega) (by omega) (by omega)
  unfold Less
  rw [show ((n : Nat) : Int) - 1 = ((n - 1 : Nat) : Int) by omega, mH l (n - 1) (by omega), mH l n (by omega)]
  exact this
theorem uO {l : List S87} (hs : Srt l) {e : S87} (he : e ∈ l) : ∃ a b, l = a ++ e :: b ∧ l.filter (fq e.f0) = a ++ b ∧ ∀ x ∈ a ++ b, x.f0.toList ≠ e.f0.toList := by
  obtain ⟨a, b, rfl⟩ := List.append_of_mem he
  have hp := List.pairwise_append.1 hs
  have h1 : ∀ x ∈ a, x.f0.toList ≠ e.f0.toList := fun x hx h => by
    have := hp.2.2 x hx e List.mem_cons_self
    rw [h, qp] at this; cases this
  have h2 : ∀ x ∈ b, x.f0.toList ≠ e.f0.toList := fun x hx h => by
    have := (List.pairwise_cons.1 hp.2.1).1 x hx
    rw [h, qp] at this; cases this
  have hall : ∀ x ∈ a ++ b, x.f0.toList ≠ e.f0.toList := fun x hx => (List.mem_append.1 hx).elim (h1 x) (h2 x)
  refine ⟨a, b, rfl, ?_, hall⟩
  have k : ∀ x ∈ a ++ b, fq e.f0 x = true := fun x hx => by
    unfold fq
    rw [Bool.not_eq_true', beq_eq_false_iff_ne]
    exact hall x hx
  rw [List.filter_append, List.filter_cons_of_neg (by unfold fq; simp), List.filter_eq_self.2 (fun x hx => k x (List.mem_append_left _ hx)), List.filter_eq_self.2 (fun x hx => k x (List.mem_append_right _ hx))]
theorem ut {ns : List S62} {lo : Int} (h1 : oW lo ns) : ∀ v ∈ ns, Srt v.f6 := fun v hv => by
  have hg := kR h1 v hv
  have nil : v.f6.length = 0 → Srt v.f6 := fun h => by rw [List.eq_nil_of_length_eq_zero h]; exact List.Pairwise.nil
  by_cases h0 : v.f0 = 0
  · exact nil (hg.1 h0).2.2.2.2.2
  · rcases (hg.2 h0).2.2.2.2 with h' | h' | h'
    · exact nil h'.2.2
    · exact zB (fun i hi hl => (h'.2.2 i (by omega) hl).2.1 hi)
    · exact nil h'.2.2
def unl (ns : List S62) (dir : Int) (nm : ByteArray) (t node : Int) : List S62 := if links (rowsOf (iG ns dir nm t)) node = 0 then (iG ns dir nm t).set node.toNat z62 else iG ns dir nm t
theorem yE (ns : List S62) (dir : Int) (nm : ByteArray) (t node : Int) : (unl ns dir nm t node).length = ns.length := by
  unfold unl; split
  · rw [List.length_set, jS]
  · exact jS _ _ _ _
theorem qH : ∀ (l : List S62) (s : Int), (∀ v ∈ l, v.f5.size ≤ 1048576) → 0 ≤ s → s + (l.length : Int) * 1048576 ≤ 1152921504606846976 → l.foldl (fun s v => wrap64 (s + (v.f5.size : Int))) s = s + (((l.map fun v => v.f5.size).sum : Nat) : Int)
  | [], s, _, _, _ => by simp
  | v :: l, s, hv, h0, h1 => by
    have hb := hv v List.mem_cons_self
    rw [List.length_cons] at h1
    have hw : wrap64 (s + (v.f5.size : Int)) = s + v.f5.size := bg (by omega) (by omega)
    rw [List.foldl_cons, hw, qH l (s + v.f5.size) (fun u hu => hv u (List.mem_cons_of_mem _ hu)) (by omega) (by omega), List.map_cons, List.sum_cons]
    omega
theorem vG (ns : List S62) (hn : ns.length ≤ 1048576) (hs : ∀ v ∈ ns, eG v) : sN ns = (((ns.map fun v => v.f5.size).sum : Nat) : Int) := by
  have := qH ns 0 (fun v hv => (hs v hv).1) (by omega) (by omega)
  unfold sN
  rw [this]; omega
theorem rq (f : S62 → Nat) (v : S62) : ∀ (ns : List S62) (i : Nat) (h : i < ns.length), f v ≤ f ns[i] → ((ns.set i v).map f).sum ≤ (ns.map f).sum
  | [], i, h, _ => absurd h (by simp)
  | a :: l, 0, h, hv => by
    simp only [List.set_cons_zero, List.map_cons, List.sum_cons, List.getElem_cons_zero] at hv ⊢; omega
  | a :: l, i + 1, h, hv => by
    have := rq f v l i (by simpa using h) (by simpa using hv)
    simp only [List.set_cons_succ, List.map_cons, List.sum_cons]; omega
theorem set_self (L : List (List Int)) (i : Nat) (h : i < L.length) : L.set i L[i] = L := by
  apply List.ext_getElem?
  intro j
  by_cases e : i = j
  · subst e; rw [List.getElem?_set_self h, List.getElem?_eq_getElem h]
  · rw [List.getElem?_set_ne e]
theorem xB (ns : List S62) (i : Int) (h0 : 0 ≤ i) (h1 : i < (ns.length : Int)) : ns[i.toNat]'(by omega) = r62 ns i := by
  show _ = ns.getD i.toNat z62
  rw [List.getD_eq_getElem?_getD, List.getElem?_eq_getElem (by omega)]; rfl
theorem sP (ns : List S62) (i : Int) (h0 : 0 ≤ i) (h1 : i < (ns.length : Int)) : (rowsOf ns)[i.toNat]'(by rw [iD]; omega) = row (r62 ns i).f6 := by
  have := gz ns i h0 h1
  unfold bX at this
  rw [List.getD_eq_getElem?_getD, List.getElem?_eq_getElem (by rw [iD]; omega)] at this
  exact this
structure Unl (ns : List S62) (dir : Int) (e : S87) (ns' : List S62) : Prop where
  len : ns'.length = ns.length
  other : ∀ x, 0 ≤ x → x < (ns.length : Int) → x ≠ dir → x ≠ e.f1 → r62 ns' x = r62 ns x
  at_ : r62 ns' dir = ⟨(r62 ns dir).f0, (r62 ns dir).f1, (r62 ns dir).f2, (r62 ns dir).f3, 0, (r62 ns dir).f5, (r62 ns dir).f6.filter (fq e.f0)⟩
  node : r62 ns' e.f1 = r62 ns e.f1 ∨ (r62 ns' e.f1 = z62 ∧ links (rowsOf ns') e.f1 = 0)
  kept : links (rowsOf ns') e.f1 ≠ 0 → r62 ns' e.f1 = r62 ns e.f1
  freed : links (rowsOf ns') e.f1 = 0 → r62 ns' e.f1 = z62
  adj : ∀ x, 0 ≤ x → x < (ns.length : Int) → bX (rowsOf ns') x = if x = dir then row ((r62 ns dir).f6.filter (fq e.f0)) else bX (rowsOf ns) x
  count : ∀ x, links (rowsOf ns') x + (if x = e.f1 then 1 else 0) = links (rowsOf ns) x
  list : ∀ x ∈ (r62 ns dir).f6.filter (fq e.f0), x ∈ (r62 ns dir).f6 ∧ x.f0.toList ≠ e.f0.toList
  more : ∀ x ∈ (r62 ns dir).f6, x = e ∨ x ∈ (r62 ns dir).f6.filter (fq e.f0)
theorem wZ {ns : List S62} {room dir : Int} {e : S87} (hg : eH ns room) (h0 : 0 ≤ dir) (h1 : dir < (ns.length : Int)) (he : e ∈ (r62 ns dir).f6) (hz : (r62 ns e.f1).f6 = []) : Unl ns dir e (unl ns dir e.f0 0 e.f1) := by
  have hto := good_row (hg.2.1 dir h0 h1) e.f1 (List.mem_map.2 ⟨e, he, rfl⟩)
  have hn0 : 0 ≤ e.f1 := by have := hto.2.1; omega
  have hn1 := hto.2.2.1
  have hne : e.f1 ≠ dir := fun h => by rw [h] at hz; rw [hz] at he; cases he
  obtain ⟨a, b, hl, hf, hall⟩ := uO (ut hg.2.1 _ (il ns dir h0 h1)) he
  have hdl := jS ns dir e.f0 0
  have hdr : ∀ x, 0 ≤ x → r62 (iG ns dir e.f0 0) x = if x = dir then ⟨(r62 ns dir).f0, (r62 ns dir).f1, (r62 ns dir).f2, (r62 ns dir).f3, 0, (r62 ns dir).f5, (r62 ns dir).f6.filter (fq e.f0)⟩ else r62 ns x := fun x hx => xq ns dir _ h0 h1 x hx
  have hrows : rowsOf (unl ns dir e.f0 0 e.f1) = rowsOf (iG ns dir e.f0 0) := by
    unfold unl
    split
    · have hr := sP (iG ns dir e.f0 0) e.f1 hn0 (by rw [hdl]; exact hn1)
      rw [hdr e.f1 hn0, if_neg hne, hz] at hr
      show (List.map _ (List.set _ _ _)) = _
      rw [List.map_set]
      have := set_self (rowsOf (iG ns dir e.f0 0)) e.f1.toNat (by rw [iD, hdl]; omega)
      rw [hr] at this
      exact this
    · rfl
  have hrow2 : rowsOf (iG ns dir e.f0 0) = (rowsOf ns).set dir.toNat (row ((r62 ns dir).f6.filter (fq e.f0))) := by
    show List.map _ (List.set _ _ _) = _
    rw [List.map_set]; rfl
  have hulen := yE ns dir e.f0 0 e.f1
  have hrd : ∀ x, 0 ≤ x → x < (ns.length : Int) → r62 (unl ns dir e.f0 0 e.f1) x = if links (rowsOf (iG ns dir e.f0 0)) e.f1 = 0 ∧ x = e.f1 then z62 else r62 (iG ns dir e.f0 0) x := fun x hx hx1 => by
    unfold unl
    by_cases hc : links (rowsOf (iG ns dir e.f0 0)) e.f1 = 0
    · rw [if_pos hc, xq _ e.f1 _ hn0 (by rw [hdl]; exact hn1) x hx]
      by_cases hxe : x = e.f1
      · rw [if_pos hxe, if_pos ⟨hc, hxe⟩]
      · rw [if_neg hxe, if_neg (fun h => hxe h.2)]
    · rw [if_neg hc, if_neg (fun h => hc h.1)]
  refine ⟨hulen, fun x hx hx1 hxd hxe => ?_, ?_, ?_, fun hk => ?_, fun hk => ?_, fun x hx hx1 => ?_, fun x => ?_, fun x hx => ?_, fun x hx => ?_⟩
  · rw [hrd x hx hx1, if_neg (fun h => hxe h.2), hdr x hx, if_neg hxd]
  · rw [hrd dir h0 h1, if_neg (fun h => hne h.2.symm), hdr dir h0, if_pos rfl]
  · rw [hrd e.f1 hn0 hn1, hrows]
    by_cases hc : links (rowsOf (iG ns dir e.f0 0)) e.f1 = 0
    · rw [if_pos ⟨hc, rfl⟩]; exact .inr ⟨rfl, hc⟩
    · rw [if_neg (fun h => hc h.1), hdr e.f1 hn0, if_neg hne]; exact .inl rfl
  · rw [hrows] at hk
    rw [hrd e.f1 hn0 hn1, if_neg (fun h => hk h.1), hdr e.f1 hn0, if_neg hne]
  · rw [hrows] at hk
    rw [hrd e.f1 hn0 hn1, if_pos ⟨hk, rfl⟩]
  · rw [hrows, gz (iG ns dir e.f0 0) x hx (by rw [hdl]; exact hx1), hdr x hx]
    split
    · rfl
    · rw [gz ns x hx hx1]
  · rw [hrows, hrow2]
    have hc := qV x (row ((r62 ns dir).f6.filter (fq e.f0))) (rowsOf ns) dir.toNat (by rw [iD]; omega)
    rw [sP ns dir h0 h1, hf] at hc
    have hl2 : row (r62 ns dir).f6 = row a ++ e.f1 :: row b := by rw [hl]; show List.map _ _ = _; rw [List.map_append, List.map_cons]; rfl
    have hf2 : row (a ++ b) = row a ++ row b := List.map_append ..
    rw [hl2, hf2] at hc
    rw [hf, hf2]
    show ((rowsOf ns).set dir.toNat (row a ++ row b)).flatten.count x + _ = (rowsOf ns).flatten.count x
    simp only [List.count_append, List.count_cons] at hc
    by_cases hxe : x = e.f1
    · subst hxe
      simp only [beq_self_eq_true, if_true] at hc ⊢
      omega
    · have : (e.f1 == x) = false := by rw [beq_eq_false_iff_ne]; exact fun h => hxe h.symm
      simp only [this, if_neg hxe] at hc ⊢
      simp at hc
      omega
  · rw [hf] at hx
    refine ⟨?_, hall x hx⟩
    rw [hl]
    rcases List.mem_append.1 hx with h | h
    · exact List.mem_append_left _ h
    · exact List.mem_append_right _ (List.mem_cons_of_mem _ h)
  · rw [hf]
    rw [hl] at hx
    rcases List.mem_append.1 hx with h | h
    · exact .inr (List.mem_append_left _ h)
    · rcases List.mem_cons.1 h with h | h
      · exact .inl h
      · exact .inr (List.mem_append_right _ h)
theorem qi {ns ns' : List S62} {v : S62} (h : ko 1 ns v) (ht : ∀ x ∈ row v.f6, To 1 ns' x) : ko 1 ns' v := by
  refine ⟨h.1, fun h0 => ?_⟩
  obtain ⟨a, b, c, d, h'⟩ := h.2 h0
  refine ⟨a, b, c, d, ?_⟩
  rcases h' with h' | h' | h'
  · exact .inl h'
  · exact .inr (.inl ⟨h'.1, h'.2.1, fun i hi hl => ⟨(h'.2.2 i hi hl).1, (h'.2.2 i hi hl).2.1, ht _ (List.mem_map.2 ⟨_, qj _ i hi hl, rfl⟩)⟩⟩)
  · exact .inr (.inr h')
theorem xC {ns : List S62} {room : Int} (hn : ns.length ≤ 1048576) (hs : ∀ v ∈ ns, eG v) (hg : eH ns room) : ∃ met, Graph.Met (bX (rowsOf ns)) ns.length [0] [] met := by
  obtain ⟨r, _, hm⟩ := cZ.is ns room hn (jo hs) (fun v hv x hx => by
    obtain ⟨e, he, rfl⟩ := List.mem_map.1 hx
    exact lV hg v hv e he) ns.length [] 0 (by first | exact List.Pairwise.nil | (intro i; simp) | simp [jh]) (fun x hx => by cases hx) (by omega) (by have := hg.1.1.1; omega) (by simp)
  exact ⟨r, hm⟩
theorem xn {ns : List S62} {room : Int} (hg : eH ns room) {x : Int} (h : Graph.Reach (bX (rowsOf ns)) 0 x) : 0 ≤ x ∧ x < (ns.length : Int) := by
  induction h with
  | here => have := hg.1.1.1; omega
  | next _ hy ih =>
    rw [gz ns _ ih.1 ih.2] at hy
    obtain ⟨e, he, rfl⟩ := List.mem_map.1 hy
    exact lV hg _ (il ns _ ih.1 ih.2) e he
theorem qJ {ns ns' : List S62} {room dir : Int} {e : S87} (hg : eH ns room) (U : Unl ns dir e ns') (hn0 : 0 ≤ e.f1) (hn1 : e.f1 < (ns.length : Int)) (hz : (r62 ns e.f1).f6 = []) {y : Int} (h : Graph.Reach (bX (rowsOf ns)) 0 y) : y ≠ e.f1 → Graph.Reach (bX (rowsOf ns')) 0 y := by
  induction h with
  | here => exact fun _ => Graph.Reach.here
  | @next x y hx hy ih =>
    intro hne
    have hin := xn hg hx
    have hxe : x ≠ e.f1 := fun h => by
      rw [gz ns x hin.1 hin.2, h, hz] at hy
      cases hy
    refine Graph.Reach.next (ih hxe) ?_
    rw [U.adj x hin.1 hin.2]
    split
    · rename_i hxd
      subst hxd
      rw [gz ns x hin.1 hin.2] at hy
      obtain ⟨e', he', rfl⟩ := List.mem_map.1 hy
      rcases U.more e' he' with h | h
      · exact absurd (by rw [h]) hne
      · exact List.mem_map.2 ⟨e', h, rfl⟩
    · exact hy
theorem qF {ns : List S62} {room dir : Int} {e : S87} (hg : eH ns room) (hs : ∀ v ∈ ns, eG v) (h0 : 0 ≤ dir) (h1 : dir < (ns.length : Int)) : ∀ v ∈ unl ns dir e.f0 0 e.f1, eG v := by
  have hd : ∀ v ∈ iG ns dir e.f0 0, eG v := fun v hv => by
    rcases List.mem_or_eq_of_mem_set hv with h | h
    · exact hs v h
    · have hv' := hs _ (il ns dir h0 h1)
      subst h
      exact ⟨hv'.1, Nat.le_trans (List.length_filter_le _ _) hv'.2.1, fun x hx => hv'.2.2 x (List.mem_filter.1 hx).1⟩
  intro v hv
  unfold unl at hv
  split at hv
  · rcases List.mem_or_eq_of_mem_set hv with h | h
    · exact hd v h
    · subst h; exact ⟨by decide, by decide, fun x hx => by cases hx⟩
  · exact hd v hv
theorem yD {ns : List S62} {dir : Int} {e : S87} (h0 : 0 ≤ dir) (h1 : dir < (ns.length : Int)) (hn0 : 0 ≤ e.f1) (hn1 : e.f1 < (ns.length : Int)) : ((unl ns dir e.f0 0 e.f1).map fun v => v.f5.size).sum ≤ (ns.map fun v => v.f5.size).sum := by
  have hd : ((iG ns dir e.f0 0).map fun v => v.f5.size).sum ≤ (ns.map fun v => v.f5.size).sum := rq (fun v => v.f5.size) _ ns dir.toNat (by omega) (by rw [xB ns dir h0 h1]; exact Nat.le_refl _)
  unfold unl
  split
  · refine Nat.le_trans (rq (fun v => v.f5.size) _ _ e.f1.toNat (by rw [jS]; omega) (by exact Nat.zero_le _)) hd
  · exact hd
theorem xc {ns : List S62} {room dir : Int} {e : S87} (hn : ns.length ≤ 1048576) (hg : eH ns room) (hs : ∀ v ∈ ns, eG v) (h0 : 0 ≤ dir) (h1 : dir < (ns.length : Int)) (he : e ∈ (r62 ns dir).f6) (hz : (r62 ns e.f1).f6 = []) : eH (unl ns dir e.f0 0 e.f1) room := by
  have U := wZ hg h0 h1 he hz
  have hto := good_row (hg.2.1 dir h0 h1) e.f1 (List.mem_map.2 ⟨e, he, rfl⟩)
  have hn0 : 0 ≤ e.f1 := by have := hto.2.1; omega
  have hn1 := hto.2.2.1
  have hne : e.f1 ≠ dir := fun h => by rw [h] at hz; rw [hz] at he; cases he
  obtain ⟨met, hmet⟩ := xC hn hs hg
  have hend := hg.2.2 met hmet
  have hs' := qF (e := e) hg hs h0 h1
  have hsum := yD (e := e) h0 h1 hn0 hn1
  generalize unl ns dir e.f0 0 e.f1 = ns' at *
  have hf0 : ∀ i, 0 ≤ i → i < (ns.length : Int) → i ≠ e.f1 → (r62 ns' i).f0 = (r62 ns i).f0 := fun i hi hi1 hie => by
    by_cases hd : i = dir
    · subst hd; rw [U.at_]
    · rw [U.other i hi hi1 hd hie]
  have hsub : ∀ i, 0 ≤ i → i < (ns.length : Int) → ∀ x ∈ bX (rowsOf ns') i, x ∈ bX (rowsOf ns) i := fun i hi hi1 x hx => by
    rw [U.adj i hi hi1] at hx
    split at hx
    · rename_i hd
      subst hd
      rw [gz ns i hi hi1]
      obtain ⟨e', he', rfl⟩ := List.mem_map.1 hx
      exact List.mem_map.2 ⟨e', (U.list e' he').1, rfl⟩
    · exact hx
  have hTo : ∀ i, 0 ≤ i → i < (ns.length : Int) → ∀ x ∈ bX (rowsOf ns') i, To 1 ns' x := fun i hi hi1 x hx => by
    have hx0 := hsub i hi hi1 x hx
    rw [gz ns i hi hi1] at hx0
    have ht := (good_row (hg.2.1 i hi hi1) x hx0).2
    refine ⟨ht.1, by rw [U.len]; exact ht.2.1, ?_⟩
    by_cases hxe : x = e.f1
    · subst hxe
      rw [U.kept (by
        have := kX.2 ⟨i, hi, by rw [iD, U.len]; exact hi1, hx⟩
        omega)]
      exact ht.2.2
    · rw [hf0 x (by have := ht.1; omega) ht.2.1 hxe]; exact ht.2.2
  refine ⟨⟨by rw [U.len]; exact hg.1.1, hg.1.2.1, ?_, ?_⟩, fun i hi hi1 => ?_, fun met' hmet' i hi hi1 => ?_⟩
  · rw [vG ns' (by rw [U.len]; exact hn) hs']
    have := hg.1.2.2.1
    rw [vG ns hn hs] at this
    omega
  · rw [hf0 0 (by omega) (by have := hg.1.1.1; omega) (by have := hto.2.1; omega)]
    exact hg.1.2.2.2
  · rw [U.len] at hi1
    have hT := hTo i hi hi1
    rw [gz ns' i hi (by rw [U.len]; exact hi1)] at hT
    by_cases hie : i = e.f1
    · subst hie
      rcases U.node with h | ⟨h, _⟩
      · rw [h] at hT ⊢
        exact qi (hg.2.1 _ hi hi1) hT
      · rw [h]
        exact ⟨fun _ => ⟨rfl, rfl, rfl, rfl, (by first | rfl | decide | (show ByteArray.toList _ = _; rw [ByteArray.toList_eq]; rfl)), rfl⟩, fun h => absurd rfl h⟩
    · by_cases hid : i = dir
      · subst hid
        have hv := hg.2.1 i hi hi1
        have hf2 := hto.1
        obtain ⟨b1, b2, b3, b4, h'⟩ := hv.2 (by rw [hf2]; decide)
        rw [U.at_] at hT ⊢
        rcases h' with h' | h' | h'
        · rw [hf2] at h'; exact absurd h'.1 (by decide)
        · refine ⟨fun h => absurd h (by show ¬ _ = (0 : Int); rw [hf2]; decide), fun _ => ⟨b1, b2, b3, ⟨by show (0 : Int) ≤ 0; omega, by show (0 : Int) ≤ 1000000; omega⟩, .inr (.inl ⟨hf2, h'.2.1, fun j hj hjl => ?_⟩)⟩⟩
          have hm := qj _ j hj hjl
          have hm0 := (U.list _ hm).1
          obtain ⟨q, hq, eq⟩ := List.mem_iff_getElem.1 hm0
          refine ⟨?_, ?_, hT _ (List.mem_map.2 ⟨_, hm, rfl⟩)⟩
          · have := (h'.2.2 (q : Int) (by omega) (by omega)).1
            rw [mH _ q hq, eq] at this
            exact this
          · intro hj0
            exact yR (List.Pairwise.filter _ (ut hg.2.1 _ (il ns i hi hi1))) j hj0 hjl
        · rw [hf2] at h'; exact absurd h'.1 (by decide)
      · rw [U.other i hi hi1 hid hie] at hT ⊢
        exact qi (hg.2.1 i hi hi1) hT
  · rw [U.len] at hi1
    have hc := U.count i
    obtain ⟨k1, k2, k3⟩ := hend i hi hi1
    refine ⟨fun h => ?_, fun hp hd => ?_, fun hnf => ?_⟩
    · subst h
      have := U.count 0
      rw [k1 rfl] at this
      omega
    · by_cases hie : i = e.f1
      · subst hie
        exfalso
        by_cases hl : links (rowsOf ns') e.f1 = 0
        · rw [U.freed hl] at hd; exact absurd hd (by decide)
        · have hd2 := hd
          rw [U.kept hl] at hd2
          have := k2 hp hd2
          rw [if_pos rfl] at hc
          omega
      · rw [hf0 i hi hi1 hie] at hd
        have := k2 hp hd
        rw [if_neg hie] at hc
        omega
    · rw [hmet'.reach]
      by_cases hie : i = e.f1
      · subst hie
        have hl : links (rowsOf ns') e.f1 ≠ 0 := fun hl => by rw [U.freed hl] at hnf; exact hnf rfl
        obtain ⟨p, hp0, hp1, hpm⟩ := kX.1 (show 0 < links (rowsOf ns') e.f1 by omega)
        rw [iD, U.len] at hp1
        have hpm0 := hsub p hp0 hp1 _ hpm
        have hpe : p ≠ e.f1 := fun h => by
          rw [gz ns p hp0 hp1, h, hz] at hpm0
          cases hpm0
        have hpd : (r62 ns p).f0 ≠ 0 := by
          rw [gz ns p hp0 hp1] at hpm0
          rw [(good_row (hg.2.1 p hp0 hp1) _ hpm0).1]; decide
        have hr := hmet.reach.1 ((hend p hp0 hp1).2.2 hpd)
        exact Graph.Reach.next (qJ hg U hn0 hn1 hz hr hpe) hpm
      · rw [hf0 i hi hi1 hie] at hnf
        exact qJ hg U hn0 hn1 hz (hmet.reach.1 (k3 hnf)) hie
theorem kS (ns : List S62) (x : Int) : bX (rowsOf ns) x = row (r62 ns x).f6 := by
  show (List.map _ ns).getD x.toNat [] = row (ns.getD x.toNat z62).f6
  rw [List.getD_eq_getElem?_getD, List.getD_eq_getElem?_getD, List.getElem?_map]
  cases ns[x.toNat]? <;> rfl
def Sub (ns ns' : List S62) : Prop := ∀ x : Int, (r62 ns' x).f6.Sublist (r62 ns x).f6
theorem Sub.refl (ns : List S62) : Sub ns ns := fun _ => List.Sublist.refl _
theorem Sub.trans {a b c : List S62} (h : Sub a b) (k : Sub b c) : Sub a c := fun x => (k x).trans (h x)
theorem Sub.adj {ns ns' : List S62} (h : Sub ns ns') (x : Int) : (bX (rowsOf ns') x).Sublist (bX (rowsOf ns) x) := by
  rw [kS, kS]; exact (h x).map _
theorem Sub.reach {ns ns' : List S62} (h : Sub ns ns') {a y : Int} (r : Graph.Reach (bX (rowsOf ns')) a y) : Graph.Reach (bX (rowsOf ns)) a y := by
  induction r with
  | here => exact Graph.Reach.here
  | next _ hy ih => exact Graph.Reach.next ih ((h.adj _).mem hy)
theorem Sub.deep {ns ns' : List S62} (h : Sub ns ns') : ∀ {d : Nat} {a : Int}, Deep (bX (rowsOf ns)) d a → Deep (bX (rowsOf ns')) d a
  | 0, a, hd => by
    have : bX (rowsOf ns) a = [] := hd
    have k := h.adj a
    rw [this] at k
    exact List.sublist_nil.1 k
  | d + 1, a, hd => fun x hx => h.deep (hd x ((h.adj a).mem hx))
theorem xQ {f g : Int → List Int} (hf : ∀ x, (f x).length ≤ (g x).length) : ∀ {l' l : List Int}, l'.Sublist l → (l'.flatMap f).length ≤ (l.flatMap g).length := by
  intro l' l h
  induction h with
  | slnil => simp
  | cons a _ ih => rw [List.flatMap_cons, List.length_append]; omega
  | cons_cons a _ ih => rw [List.flatMap_cons, List.flatMap_cons, List.length_append, List.length_append]; have := hf a; omega
theorem Sub.dfs {ns ns' : List S62} (h : Sub ns ns') : ∀ (d : Nat) (a : Int), (dfs (bX (rowsOf ns')) d a).length ≤ (dfs (bX (rowsOf ns)) d a).length
  | 0, a => Nat.le_refl _
  | d + 1, a => by
    simp only [Graph.dfs, List.length_cons]
    have := xQ (fun x => h.dfs d x) (h.adj a)
    omega
theorem uS {adj : Int → List Int} {d : Nat} {a b : Int} (h : Deep adj d a) (r : Graph.Reach adj a b) : Deep adj d b := by
  induction r with
  | here => exact h
  | @next x y _ hy ih =>
    cases d with
    | zero =>
      have : adj x = [] := ih
      rw [this] at hy; cases hy
    | succ d => exact (ih y hy).mono (Nat.le_succ d)
theorem rU {adj : Int → List Int} : ∀ (d : Nat) {a c : Int}, Deep adj d a → c ∈ adj a → ¬ Graph.Reach adj c a
  | 0, a, c, h, hc, _ => by
    have : adj a = [] := h
    rw [this] at hc; cases hc
  | d + 1, a, c, h, hc, r => rU d (uS (h c hc) r) hc r
theorem xw (ns : List S62) (x : Int) : r62 ns x = r62 ns (x.toNat : Int) := by
  show ns.getD x.toNat _ = ns.getD (x.toNat : Int).toNat _
  rw [Int.toNat_natCast]
theorem xu (ns : List S62) (i : Nat) (h : ns.length ≤ i) : r62 ns (i : Int) = z62 := by
  show ns.getD (i : Int).toNat z62 = _
  rw [Int.toNat_natCast, List.getD_eq_getElem?_getD, List.getElem?_eq_none h]; rfl
theorem Unl.sub {ns ns' : List S62} {dir : Int} {e : S87} (U : Unl ns dir e ns') : Sub ns ns' := fun x => by
  rw [xw ns x, xw ns' x]
  generalize x.toNat = i
  rcases Nat.lt_or_ge i ns.length with h | h
  · by_cases h1 : (i : Int) = dir
    · rw [h1, U.at_]; exact List.filter_sublist
    · by_cases h2 : (i : Int) = e.f1
      · rw [h2]
        rcases U.node with h | ⟨h, _⟩
        · rw [h]; exact List.Sublist.refl _
        · rw [h]; exact List.nil_sublist _
      · rw [U.other i (by omega) (by omega) h1 h2]; exact List.Sublist.refl _
  · rw [xu ns i h, xu ns' i (by rw [U.len]; exact h)]; exact List.Sublist.refl _
theorem dC.loop (ns : List S62) (room : Int) (hn : ns.length ≤ 1048576) (hs : ∀ v ∈ ns, v.f6.length ≤ 1048576) (d : Nat) : ∀ i : Nat, i ≤ ns.length → ns.length - i = d → Ev (fun k => dC.l0 k ns (ns.length : Int) (i : Int) (ns.take i) room) (ns, room) := by
  induction d with
  | zero =>
    intro i hi hd
    exact Ev.step (fun k => by rw [dC.l0, if_neg (by omega)]) (dE (by rw [List.take_of_length_le (by omega)]))
  | succ d ih =>
    intro i hi hd
    have hv := hs _ (il ns (i : Int) (by omega) (by omega))
    have hg := xB ns (i : Int) (by omega) (by omega)
    have ht : ns.take (i + 1) = ns.take i ++ [r62 ns (i : Int)] := by
      rw [List.take_succ_eq_append_getElem (by omega), ← hg]; rfl
    refine Ev.step (fun k => by rw [dC.l0, if_pos (by omega), if_pos (by omega), if_pos (by omega)]) ?_
    refine aD (a := ([] : List S87)) rfl (af (by rw [List.length_nil]; omega) (af (by rw [List.length_take]; omega) ?_))
    have := ih (i + 1) (by omega) (by omega)
    rw [ht] at this
    rw [bg (x := (i : Int) + 1) (by omega) (by omega)]
    exact this
theorem dC.is (ns : List S62) (room : Int) (hn : ns.length ≤ 1048576) (hs : ∀ v ∈ ns, v.f6.length ≤ 1048576) : Ev (fun k => dC.f k ns room) (ns, room) := dC.loop ns room hn hs ns.length 0 (by omega) (by omega)
theorem bJ.loop (l : List S87) (hl : l.length ≤ 1048576) (hu : qx l) (n : Nat) (hn : n < l.length) (d : Nat) : ∀ i : Int, 0 ≤ i → i ≤ n → (n : Int) - i = d → Ev (fun k => bJ.l0 k (r87 l (n : Int)).f0 l (l.length : Int) i) (r87 l (n : Int)).f1 := by
  induction d with
  | zero =>
    intro i h0 hi hd
    obtain rfl : i = (n : Int) := by omega
    exact Ev.step (fun k => by rw [bJ.l0, if_pos (by omega), if_pos h0, if_pos (by omega), if_pos rfl]) (Ev.now _)
  | succ d ih =>
    intro i h0 hi hd
    have hne := hu i.toNat n (by omega) hn
    rw [show ((i.toNat : Nat) : Int) = i by omega] at hne
    refine Ev.step (fun k => by rw [bJ.l0, if_pos (by omega), if_pos h0, if_pos (by omega), if_neg hne, bg (x := i + 1) (by omega) (by omega)]) ?_
    exact ih (i + 1) (by omega) (by omega) (by omega)
theorem bJ.is (ns : List S62) (room dir : Int) (h0 : 0 ≤ dir) (h1 : dir < (ns.length : Int)) (hl : (r62 ns dir).f6.length ≤ 1048576) (hu : qx (r62 ns dir).f6) {e : S87} (he : e ∈ (r62 ns dir).f6) : Ev (fun k => bJ.f k ns room dir e.f0) e.f1 := by
  unfold bJ.f
  obtain ⟨n, hn, en⟩ := List.mem_iff_getElem.1 he
  have := bJ.loop _ hl hu n hn n 0 (by omega) (by omega) (by omega)
  rw [mH _ n hn, en] at this
  exact af h0 (af h1 this)
theorem yA : ∀ b w : Fin 8, (Go.bits .andNot .i64 (w.val : Int) (b.val : Int) == 0) = (Go.bits .and .i64 (b.val : Int) (w.val : Int) == (w.val : Int)) := by decide +kernel
theorem zl : ∀ n : Fin 512, 0 ≤ Go.bits .and .i64 (n.val : Int) 7 ∧ Go.bits .and .i64 (n.val : Int) 7 < 8 := by decide +kernel
theorem oz {b w : Int} (h0 : 0 ≤ b) (h1 : b < 8) (h2 : 0 ≤ w) (h3 : w < 8) : (Go.bits .andNot .i64 w b == 0) = (Go.bits .and .i64 b w == w) := by
  obtain ⟨n, rfl⟩ := Int.eq_ofNat_of_zero_le h0
  obtain ⟨m, rfl⟩ := Int.eq_ofNat_of_zero_le h2
  exact yA ⟨n, by omega⟩ ⟨m, by omega⟩
theorem ui {n : Int} (h0 : 0 ≤ n) (h1 : n < 512) : 0 ≤ Go.bits .and .i64 n 7 ∧ Go.bits .and .i64 n 7 < 8 := by
  obtain ⟨n, rfl⟩ := Int.eq_ofNat_of_zero_le h0
  exact zl ⟨n, by omega⟩
theorem zH (c d m u g w : Int) (hm : 0 ≤ m ∧ m ≤ 511) (hw : 0 ≤ w ∧ w ≤ 7) : iK.f c d m u g w = iV.f c d m u g w := by
  unfold iK.f iV.f
  have h1 := ui (n := m / 8) (by omega) (by omega)
  have h2 := ui (n := m) (by omega) (by omega)
  rw [oz (b := m / 64) (by omega) (by omega) (by omega) (by omega), oz h1.1 h1.2 (by omega) (by omega), oz h2.1 h2.2 (by omega) (by omega)]
theorem xE (c d m u g w : Int) : ∃ b, iV.f c d m u g w = some b := by
  unfold iV.f
  repeat' split
  all_goals exact ⟨_, rfl⟩
theorem xG {ns : List S62} (room u g x : Int) (h0 : 0 ≤ x) (h1 : x < (ns.length : Int)) (hm : 0 ≤ (r62 ns x).f1 ∧ (r62 ns x).f1 ≤ 511) (w : Int) (hw : 0 ≤ w ∧ w ≤ 7) : ∃ b, fD.f ns room u g x w = some b ∧ ik.f ns room u g x w = some b := by
  obtain ⟨b, hb⟩ := xE u g (r62 ns x).f1 (r62 ns x).f2 (r62 ns x).f3 w
  refine ⟨b, ?_, ?_⟩
  · unfold fD.f
    rw [if_pos h0, if_pos h1, zH _ _ _ _ _ _ hm hw, hb]; rfl
  · unfold ik.f
    rw [if_pos h0, if_pos h1, hb]; rfl
theorem yP {ns : List S62} (room u g x : Int) (h0 : 0 ≤ x) (h1 : x < (ns.length : Int)) (hm : 0 ≤ (r62 ns x).f1 ∧ (r62 ns x).f1 ≤ 511) : ∃ b, gJ.f ns room u g x = some b ∧ ik.f ns room u g x 5 = some b := by
  obtain ⟨b, h2, h3⟩ := xG room u g x h0 h1 hm 5 (by omega)
  exact ⟨b, by unfold gJ.f; rw [h2]; rfl, h3⟩
theorem wS {ns : List S62} (room u g x : Int) (h0 : 0 ≤ x) (h1 : x < (ns.length : Int)) (hm : 0 ≤ (r62 ns x).f1 ∧ (r62 ns x).f1 ≤ 511) : ∃ b, fI.f ns room u g x = some b ∧ iJ.f ns room u g x = some b := by
  obtain ⟨b, h2, h3⟩ := xG room u g x h0 h1 hm 3 (by omega)
  exact ⟨b, by unfold fI.f; rw [h2]; rfl, by unfold iJ.f; rw [h3]; rfl⟩
theorem sH {ns : List S62} {room dir : Int} {e : S87} (hn : ns.length ≤ 1048576) (hg : eH ns room) (hs : ∀ v ∈ ns, eG v) (h0 : 0 ≤ dir) (h1 : dir < (ns.length : Int)) (he : e ∈ (r62 ns dir).f6) (hz : (r62 ns e.f1).f6 = []) : Ev (fun k => gy.f k ns room dir e.f0 0) (unl ns dir e.f0 0 e.f1) ∧ Ev (fun k => iB.f k ns room dir e.f0 0) (unl ns dir e.f0 0 e.f1, room) := by
  have hto := good_row (hg.2.1 dir h0 h1) e.f1 (List.mem_map.2 ⟨e, he, rfl⟩)
  have hn0 : 0 ≤ e.f1 := by have := hto.2.1; omega
  have hn1 := hto.2.2.1
  have hv := il ns dir h0 h1
  have hl := (hs _ hv).2.1
  have hu := jP hg.2.1 _ hv
  have hds : ∀ v ∈ iG ns dir e.f0 0, v.f6.length ≤ 1048576 := fun v hv' => by
    rcases List.mem_or_eq_of_mem_set hv' with h | h
    · exact (hs v h).2.1
    · subst h; exact Nat.le_trans (List.length_filter_le _ _) hl
  have hdr : ∀ v ∈ iG ns dir e.f0 0, ∀ x ∈ v.f6, 0 ≤ x.f1 ∧ x.f1 < ((iG ns dir e.f0 0).length : Int) := fun v hv' x hx => by
    rw [jS]
    rcases List.mem_or_eq_of_mem_set hv' with h | h
    · exact lV hg v h x hx
    · subst h; exact lV hg _ hv x (List.mem_filter.1 hx).1
  constructor
  · unfold gy.f
    refine aj (bJ.is ns room dir h0 h1 hl hu he) (af ⟨h0, h1, by omega⟩ ?_)
    obtain ⟨out, ho, hol, hov⟩ := aX.is (iG ns dir e.f0 0) room (by rw [jS]; exact hn) hds hdr
    rw [jS] at hol hov
    refine aj ho (af ⟨hn0, by rw [hol]; exact hn1⟩ ?_)
    have h3 := hov e.f1 hn0 hn1
    unfold unl
    by_cases hc : links (rowsOf (iG ns dir e.f0 0)) e.f1 = 0
    · rw [if_pos hc]
      exact af (by rw [h3, hc]; rfl) (af hn1 (Ev.now _))
    · rw [if_neg hc]
      exact aH (by rw [h3]; omega) (Ev.now _)
  · unfold iB.f
    refine aj (dC.is ns room hn (fun v hv' => (hs v hv').2.1)) (af ⟨⟨h0, h1⟩, h1, by omega⟩ ?_)
    refine aj (bN.is _ hl hu he) ?_
    refine aj (aQ.is (iG ns dir e.f0 0) room e.f1 (by rw [jS]; exact hn) hds) ?_
    unfold unl
    by_cases hc : links (rowsOf (iG ns dir e.f0 0)) e.f1 = 0
    · rw [if_pos hc]
      exact af (by rw [hc]; rfl) (af ⟨hn0, hn1⟩ (Ev.now _))
    · rw [if_neg hc]
      exact aH (by omega) (Ev.now _)
theorem xh {p nm : ByteArray} (hp : p.size ≤ 1000000) (hn : nm.size ≤ 1000) : ∃ q, j3.f p nm = some q ∧ q.size ≤ p.size + 1 + nm.size := by
  have hs : ∃ b, strings_HasSuffix.f p (⟨#[47]⟩ : ByteArray) = some b := by
    unfold strings_HasSuffix.f stringslite_HasSuffix.f
    have h1 : ((⟨#[47]⟩ : ByteArray).size : Int) = 1 := rfl
    by_cases h : (p.size : Int) ≥ 1
    · have hw : wrap64 ((p.size : Int) - 1) = p.size - 1 := bg (by omega) (by omega)
      rw [h1, if_pos h, hw, if_pos (by omega), if_pos (by omega)]
      exact ⟨_, rfl⟩
    · rw [h1, if_neg h]; exact ⟨_, rfl⟩
  obtain ⟨b, hb⟩ := hs
  unfold j3.f
  rw [hb]
  cases b with
  | true => exact ⟨p ++ nm, by rw [Option.bind_some, if_pos rfl, if_pos (by omega)], by rw [ByteArray.size_append]; omega⟩
  | false => exact ⟨(p ++ (⟨#[47]⟩ : ByteArray)) ++ nm, by rw [Option.bind_some, if_neg (by simp), if_pos (by omega), if_pos (by omega)], by rw [ByteArray.size_append, ByteArray.size_append]; show p.size + 1 + nm.size ≤ _; omega⟩
theorem y8 {p nm : ByteArray} (h1 : 1 ≤ p.size) (hp : p.size ≤ 1000000) (hn : nm.size ≤ 1000) : ∃ q, jJ.f p nm = some q ∧ 1 ≤ q.size ∧ q.size ≤ p.size + 1 + nm.size := by
  unfold jJ.f
  have hw : wrap64 ((p.size : Int) - 1) = p.size - 1 := bg (by omega) (by omega)
  rw [hw, if_pos (by omega), if_pos (by omega)]
  by_cases hb : bt p ((p.size : Int) - 1) = 47
  · exact ⟨p ++ nm, by rw [if_pos hb, if_pos (by omega)], by rw [ByteArray.size_append]; omega, by rw [ByteArray.size_append]; omega⟩
  · exact ⟨(p ++ (⟨#[47]⟩ : ByteArray)) ++ nm, by rw [if_neg hb, if_pos (by omega), if_pos (by omega)], by rw [ByteArray.size_append, ByteArray.size_append]; omega, by rw [ByteArray.size_append, ByteArray.size_append]; show p.size + 1 + nm.size ≤ _; omega⟩
structure Gone (ns : List S62) (room dir : Int) (e : S87) (b : Bool) (ns' : List S62) : Prop where
  good : eH ns' room
  small : ∀ v ∈ ns', eG v
  len : ns'.length = ns.length
  sub : Sub ns ns'
  frame : ∀ y, 0 ≤ y → y < (ns.length : Int) → y ≠ dir → ¬ Graph.Reach (bX (rowsOf ns)) e.f1 y → r62 ns' y = r62 ns y
  stays : b = false → r62 ns' dir = r62 ns dir
  goes : b = true → (r62 ns' dir).f6 = (r62 ns dir).f6.filter (fq e.f0)
theorem nY {ns : List S62} {room dir : Int} {e : S87} (u g : Int) (hn : ns.length ≤ 1048576) (hg : eH ns room) (hs : ∀ v ∈ ns, eG v) (h0 : 0 ≤ dir) (h1 : dir < (ns.length : Int)) (he : e ∈ (r62 ns dir).f6) (hz : (r62 ns e.f1).f6 = []) :
    ∃ (b : Bool) (ns' : List S62) (m : Nat), m ≤ 1 ∧ Gone ns room dir e b ns' ∧
      (∀ (path : ByteArray) (fs : List gH), fs.length + m ≤ 1000000000000 → ∃ fs' : List gH, fs'.length = fs.length + m ∧ Ev (fun k => bB.t k ns room u g dir e.f0 path 0 fs) (b, ns', fs')) ∧
      (∀ (path : ByteArray) (fs : List gH), fs.length + m ≤ 1000000000000 → ∃ fs' : List gH, fs'.length = fs.length + m ∧ Ev (fun k => bf.t k ns room u g 0 fs dir e.f0 path) (b, ns', room, fs')) := by
  have hto := good_row (hg.2.1 dir h0 h1) e.f1 (List.mem_map.2 ⟨e, he, rfl⟩)
  have hm := ((hg.2.1 dir h0 h1).2 (by rw [hto.1]; decide)).1
  obtain ⟨b, hi, hr⟩ := wS room u g dir h0 h1 hm
  cases b with
  | true =>
    have U := wZ hg h0 h1 he hz
    obtain ⟨hi2, hr2⟩ := sH hn hg hs h0 h1 he hz
    refine ⟨true, _, 0, by omega, ⟨xc hn hg hs h0 h1 he hz, qF hg hs h0 h1, U.len, U.sub, fun y hy hy1 hyd hyr => U.other y hy hy1 hyd (fun h => hyr (h ▸ Graph.Reach.here)), fun h => (by cases h), fun _ => by rw [U.at_]⟩, fun path fs _ => ⟨fs, rfl, ?_⟩, fun path fs _ => ⟨fs, rfl, ?_⟩⟩
    · unfold bB.t
      exact aD hi (af rfl (aj hi2 (Ev.now _)))
    · unfold bf.t
      exact aD hr (af rfl (aj hr2 (Ev.now _)))
  | false =>
    refine ⟨false, ns, 1, by omega, ⟨hg, hs, rfl, Sub.refl _, fun _ _ _ _ _ => rfl, fun _ => rfl, fun h => by cases h⟩, fun path fs hl => ⟨fs ++ [⟨path, 4⟩], by simp, ?_⟩, fun path fs hl => ⟨fs ++ [⟨path, 4⟩], by simp, ?_⟩⟩
    · unfold bB.t mO
      exact aD hi (aH (by simp) (af (by omega) (Ev.now _)))
    · unfold bf.t mM
      exact aD hr (aH (by simp) (af (by omega) (Ev.now _)))
def Both (room u g : Int) (d : Nat) : Prop := ∀ (ns : List S62) (dir : Int) (e : S87), ns.length ≤ 1048576 → eH ns room → (∀ v ∈ ns, eG v) → 0 ≤ dir → dir < (ns.length : Int) → e ∈ (r62 ns dir).f6 → Deep (bX (rowsOf ns)) d e.f1 →
    ∃ (b : Bool) (ns' : List S62) (m : Nat), m ≤ (dfs (bX (rowsOf ns)) d e.f1).length ∧ Gone ns room dir e b ns' ∧
      (∀ (path : ByteArray) (fs : List gH), path.size + 9 * d ≤ 100000 → fs.length + m ≤ 1000000000000 → ∃ fs' : List gH, fs'.length = fs.length + m ∧ Ev (fun k => bB.f k ns room u g dir e.f0 path 0 fs) (b, ns', fs')) ∧
      (∀ (path : ByteArray) (fs : List gH), 1 ≤ path.size → path.size + 9 * d ≤ 100000 → fs.length + m ≤ 1000000000000 → ∃ fs' : List gH, fs'.length = fs.length + m ∧ Ev (fun k => bf.f k ns room u g 0 fs dir e.f0 path) (b, ns', room, fs'))
set_option maxHeartbeats 1000000 in
theorem wC {room u g : Int} {d : Nat} (ih : Both room u g d) (x : Int) (es : List S87) (hes : Srt es) (hesl : es.length ≤ 1048576) (hnm : ∀ e ∈ es, e.f0.size ≤ 8) (n : Nat) : ∀ (j : Nat) (ns : List S62), j ≤ es.length → es.length - j = n → ns.length ≤ 1048576 → eH ns room → (∀ v ∈ ns, eG v) → 0 ≤ x → x < (ns.length : Int) → (∀ e ∈ es.drop j, e ∈ (r62 ns x).f6) → (∀ e ∈ es.drop j, Deep (bX (rowsOf ns)) d e.f1) →
    ∃ (all : Bool) (ns' : List S62) (m : Nat), m ≤ ((es.drop j).flatMap fun e => dfs (bX (rowsOf ns)) d e.f1).length ∧ eH ns' room ∧ (∀ v ∈ ns', eG v) ∧ ns'.length = ns.length ∧ Sub ns ns' ∧
      (∀ y, 0 ≤ y → y < (ns.length : Int) → y ≠ x → (∀ e ∈ es.drop j, ¬ Graph.Reach (bX (rowsOf ns)) e.f1 y) → r62 ns' y = r62 ns y) ∧
      (all = true → ∀ e ∈ es.drop j, e ∉ (r62 ns' x).f6) ∧
      (∀ (path : ByteArray) (fs : List gH) (a0 : Bool), path.size + 9 * (d + 1) ≤ 100000 → fs.length + m ≤ 1000000000000 → ∃ fs' : List gH, fs'.length = fs.length + m ∧ Ev (fun k => bB.l0 k ns room u g x path 0 fs es (j : Int) a0) (a0 && all, ns', fs')) ∧
      (∀ (path : ByteArray) (fs : List gH) (a0 : Bool), 1 ≤ path.size → path.size + 9 * (d + 1) ≤ 100000 → fs.length + m ≤ 1000000000000 → ∃ fs' : List gH, fs'.length = fs.length + m ∧ Ev (fun k => bf.l0 k ns room u g 0 fs x path es (j : Int) a0) (a0 || !all, ns', room, fs')) := by
  induction n with
  | zero =>
    intro j ns hj hd hn hg hs h0 h1 hm hdp
    have hnil : es.drop j = [] := List.drop_eq_nil_of_le (by omega)
    rw [hnil]
    refine ⟨true, ns, 0, Nat.zero_le _, hg, hs, rfl, Sub.refl _, fun _ _ _ _ _ => rfl, fun _ _ h => (by cases h), fun path fs a0 _ _ => ⟨fs, rfl, ?_⟩, fun path fs a0 _ _ _ => ⟨fs, rfl, ?_⟩⟩
    · exact Ev.step (fun k => by rw [bB.l0, if_neg (by omega)]) (dE (by rw [Bool.and_true]))
    · exact Ev.step (fun k => by rw [bf.l0, if_neg (by omega)]) (dE (by rw [Bool.not_true, Bool.or_false]))
  | succ n ihn =>
    intro j ns hj hd hn hg hs h0 h1 hm hdp
    have hjl : j < es.length := by omega
    have hdrop : es.drop j = es[j] :: es.drop (j + 1) := List.drop_eq_getElem_cons hjl
    rw [hdrop] at hm hdp ⊢
    generalize he1 : es[j] = e1 at *
    obtain ⟨b, ns1, m1, hm1, G, hi1, hr1⟩ := ih ns x e1 hn hg hs h0 h1 (hm e1 List.mem_cons_self) (hdp e1 List.mem_cons_self)
    have hne : ∀ e ∈ es.drop (j + 1), e.f0.toList ≠ e1.f0.toList := fun e he h => by
      obtain ⟨q, hq, rfl⟩ := List.mem_iff_getElem.1 he
      rw [List.getElem_drop] at h
      rw [List.length_drop] at hq
      have hp : Srt es := hes
      rw [Srt, List.pairwise_iff_getElem] at hp
      have := hp j (j + 1 + q) hjl (by omega) (by omega)
      rw [he1, h, qp] at this
      cases this
    have hmem1 : ∀ e ∈ es.drop (j + 1), e ∈ (r62 ns1 x).f6 := fun e he => by
      have he0 := hm e (List.mem_cons_of_mem _ he)
      cases b with
      | false => rw [G.stays rfl]; exact he0
      | true =>
        rw [G.goes rfl]
        refine List.mem_filter.2 ⟨he0, ?_⟩
        unfold fq
        rw [Bool.not_eq_true', beq_eq_false_iff_ne]
        exact hne e he
    obtain ⟨all, ns2, m2, hm2, hg2, hs2, hl2, hsub2, hfr2, hdone2, hi2, hr2⟩ := ihn (j + 1) ns1 (by omega) (by omega) (by rw [G.len]; exact hn) G.good G.small h0 (by rw [G.len]; exact h1) hmem1 (fun e he => G.sub.deep (hdp e (List.mem_cons_of_mem _ he)))
    have hw : wrap64 ((j : Int) + 1) = ((j + 1 : Nat) : Int) := by rw [bg (by omega) (by omega)]; omega
    have hget : r87 es (j : Int) = e1 := by rw [mH es j hjl, he1]
    have hsz := hnm e1 (he1 ▸ List.getElem_mem hjl)
    refine ⟨b && all, ns2, m1 + m2, ?_, hg2, hs2, by rw [hl2, G.len], G.sub.trans hsub2, fun y hy hy1 hyx hyr => ?_, fun hba e he => ?_, fun path fs a0 hp hf => ?_, fun path fs a0 hp1 hp hf => ?_⟩
    · rw [List.flatMap_cons, List.length_append]
      have : ((es.drop (j + 1)).flatMap fun e => dfs (bX (rowsOf ns1)) d e.f1).length ≤ ((es.drop (j + 1)).flatMap fun e => dfs (bX (rowsOf ns)) d e.f1).length := by
        generalize es.drop (j + 1) = l
        induction l with
        | nil => simp
        | cons a l ihl => rw [List.flatMap_cons, List.flatMap_cons, List.length_append, List.length_append]; have := G.sub.dfs d a.f1; omega
      omega
    · rw [hfr2 y hy (by rw [G.len]; exact hy1) hyx (fun e he hr => hyr e (List.mem_cons_of_mem _ he) (G.sub.reach hr))]
      exact G.frame y hy hy1 hyx (hyr e1 List.mem_cons_self)
    · obtain ⟨hb, ha⟩ := Bool.and_eq_true_iff.1 hba
      rcases List.mem_cons.1 he with h | h
      · subst h
        intro hmem
        have := (hsub2 x).mem hmem
        rw [G.goes hb] at this
        have := (List.mem_filter.1 this).2
        unfold fq at this
        simp at this
      · exact hdone2 ha e h
    · clear hm1 hm2
      obtain ⟨q, hq, hqs⟩ := xh (p := path) (nm := e1.f0) (by omega) (by omega)
      obtain ⟨f1, hf1, hv1⟩ := hi1 q fs (by omega) (by omega)
      obtain ⟨f2, hf2, hv2⟩ := hi2 path f1 (b && a0) hp (by omega)
      have key : ∀ k, bB.l0 (k + 1) ns room u g x path 0 fs es (j : Int) a0 = (bB.f k ns room u g x e1.f0 q 0 fs).bind fun y => bB.l0 k y.2.1 room u g x path 0 y.2.2 es ((j + 1 : Nat) : Int) (y.1 && a0) := fun k => by
        rw [bB.l0, if_pos (by omega), if_pos (by omega), hget, hq, hw]; rfl
      have e9 : ((b && a0) && all) = (a0 && (b && all)) := by cases a0 <;> cases b <;> cases all <;> rfl
      rw [e9] at hv2
      exact ⟨f2, by omega, Ev.step key (aj hv1 hv2)⟩
    · clear hm1 hm2
      obtain ⟨q, hq, hq1, hqs⟩ := y8 (p := path) (nm := e1.f0) hp1 (by omega) (by omega)
      obtain ⟨f1, hf1, hv1⟩ := hr1 q fs hq1 (by omega) (by omega)
      obtain ⟨f2, hf2, hv2⟩ := hr2 path f1 (!b || a0) hp1 hp (by omega)
      have key : ∀ k, bf.l0 (k + 1) ns room u g 0 fs x path es (j : Int) a0 = (bf.f k ns room u g 0 fs x e1.f0 q).bind fun y => bf.l0 k y.2.1 y.2.2.1 u g 0 y.2.2.2 x path es ((j + 1 : Nat) : Int) (!y.1 || a0) := fun k => by
        rw [bf.l0, if_pos (by omega), if_pos (by omega), hget, hq, hw]; rfl
      have e9 : ((!b || a0) || !all) = (a0 || !(b && all)) := by cases a0 <;> cases b <;> cases all <;> rfl
      rw [e9] at hv2
      exact ⟨f2, by omega, Ev.step key (aj hv1 hv2)⟩
set_option maxHeartbeats 1000000 in
theorem vW (room u g : Int) : ∀ d : Nat, Both room u g d := by
  intro d
  induction d with
  | zero =>
    intro ns dir e hn hg hs h0 h1 he hD
    have hto := good_row (hg.2.1 dir h0 h1) e.f1 (List.mem_map.2 ⟨e, he, rfl⟩)
    have hv := il ns dir h0 h1
    have hn0 : 0 ≤ e.f1 := by have := hto.2.1; omega
    have hn1 := hto.2.2.1
    have hz : (r62 ns e.f1).f6 = [] := by
      have : bX (rowsOf ns) e.f1 = [] := hD
      rw [kS] at this
      exact List.map_eq_nil_iff.1 this
    obtain ⟨b, ns', m, hm, G, hi, hr⟩ := nY u g hn hg hs h0 h1 he hz
    refine ⟨b, ns', m, by simp [Graph.dfs]; omega, G, fun path fs _ hf => ?_, fun path fs _ _ hf => ?_⟩
    · obtain ⟨fs', h2, h3⟩ := hi path fs hf
      refine ⟨fs', h2, Ev.step (fun k => by rw [bB.f]) ?_⟩
      refine aj (bJ.is ns room dir h0 h1 (hs _ hv).2.1 (jP hg.2.1 _ hv) he) (af ⟨hn0, hn1, by rw [hz]; decide⟩ (aH (by rw [hz]; simp) h3))
    · obtain ⟨fs', h2, h3⟩ := hr path fs hf
      refine ⟨fs', h2, Ev.step (fun k => by rw [bf.f, if_pos ⟨h0, h1⟩]) ?_⟩
      refine aj (bN.is _ (hs _ hv).2.1 (jP hg.2.1 _ hv) he) (af ⟨hn0, hn1⟩ (aH (by rw [hz]; simp) h3))
  | succ d ih =>
    intro ns dir e hn hg hs h0 h1 he hD
    have hto := good_row (hg.2.1 dir h0 h1) e.f1 (List.mem_map.2 ⟨e, he, rfl⟩)
    have hv := il ns dir h0 h1
    have hn0 : 0 ≤ e.f1 := by have := hto.2.1; omega
    have hn1 := hto.2.2.1
    have hvx := il ns e.f1 hn0 hn1
    have hls := (hs _ hvx).2.1
    by_cases hz : (r62 ns e.f1).f6 = []
    · obtain ⟨b, ns', m, hm, G, hi, hr⟩ := nY u g hn hg hs h0 h1 he hz
      refine ⟨b, ns', m, by simp only [Graph.dfs, List.length_cons]; omega, G, fun path fs _ hf => ?_, fun path fs _ _ hf => ?_⟩
      · obtain ⟨fs', h2, h3⟩ := hi path fs hf
        refine ⟨fs', h2, Ev.step (fun k => by rw [bB.f]) ?_⟩
        refine aj (bJ.is ns room dir h0 h1 (hs _ hv).2.1 (jP hg.2.1 _ hv) he) (af ⟨hn0, hn1, by rw [hz]; decide⟩ (aH (by rw [hz]; simp) h3))
      · obtain ⟨fs', h2, h3⟩ := hr path fs hf
        refine ⟨fs', h2, Ev.step (fun k => by rw [bf.f, if_pos ⟨h0, h1⟩]) ?_⟩
        refine aj (bN.is _ (hs _ hv).2.1 (jP hg.2.1 _ hv) he) (af ⟨hn0, hn1⟩ (aH (by rw [hz]; simp) h3))
    · have hpos : 0 < (r62 ns e.f1).f6.length := List.length_pos_iff.2 hz
      have hdir : (r62 ns e.f1).f0 = 2 := (good_row (hg.2.1 _ hn0 hn1) _ (List.mem_map.2 ⟨_, List.getElem_mem hpos, rfl⟩)).1
      have hmx := ((hg.2.1 _ hn0 hn1).2 (by rw [hdir]; decide)).1
      obtain ⟨b, hli, hlr⟩ := yP room u g e.f1 hn0 hn1 hmx
      have hent := bJ.is ns room dir h0 h1 (hs _ hv).2.1 (jP hg.2.1 _ hv) he
      have hat := bN.is _ (hs _ hv).2.1 (jP hg.2.1 _ hv) he
      cases b with
      | false =>
        refine ⟨false, ns, 1, by simp only [Graph.dfs, List.length_cons]; omega, ⟨hg, hs, rfl, Sub.refl _, fun _ _ _ _ _ => rfl, fun _ => rfl, fun h => by cases h⟩, fun path fs _ hf => ⟨fs ++ [⟨path, 4⟩], by simp, ?_⟩, fun path fs _ _ hf => ⟨fs ++ [⟨path, 4⟩], by simp, ?_⟩⟩
        · refine Ev.step (fun k => by rw [bB.f]) ?_
          refine aj hent (af ⟨hn0, hn1, by omega⟩ (af hpos (aD hli (aH (by simp) ?_))))
          unfold mO
          exact af (by omega) (Ev.now _)
        · refine Ev.step (fun k => by rw [bf.f, if_pos ⟨h0, h1⟩]) ?_
          refine aj hat (af ⟨hn0, hn1⟩ (af ⟨hdir, hpos⟩ (aD hlr (aH (by simp) ?_))))
          unfold mM
          exact af (by omega) (Ev.now _)
      | true =>
        have hchild : ∀ e' ∈ (r62 ns e.f1).f6, e'.f1 ∈ bX (rowsOf ns) e.f1 := fun e' he' => by rw [kS]; exact List.mem_map.2 ⟨e', he', rfl⟩
        have hkid : ∀ e' ∈ (r62 ns e.f1).f6, Deep (bX (rowsOf ns)) d e'.f1 := fun e' he' => hD _ (hchild e' he')
        obtain ⟨all, ns1, m1, hm1, hg1, hs1, hl1, hsub1, hfr1, hdone1, hi1, hr1⟩ := wC ih e.f1 (r62 ns e.f1).f6 (ut hg.2.1 _ hvx) hls (fun e' he' => jY (qc hg.2.1 _ hvx e' he')) (r62 ns e.f1).f6.length 0 ns (by omega) (by omega) hn hg hs hn0 hn1 (fun e' he' => by rw [List.drop_zero] at he'; exact he') (fun e' he' => by rw [List.drop_zero] at he'; exact hkid e' he')
        rw [List.drop_zero] at hm1 hfr1 hdone1
        have hde : dir ≠ e.f1 := fun h => rU (d + 1) hD (show e.f1 ∈ bX (rowsOf ns) e.f1 by rw [kS]; rw [h] at he; exact List.mem_map.2 ⟨e, he, rfl⟩) Graph.Reach.here
        have hdr : ∀ e' ∈ (r62 ns e.f1).f6, ¬ Graph.Reach (bX (rowsOf ns)) e'.f1 dir := fun e' he' hr => rU (d + 1) hD (hchild e' he') (Graph.Reach.next hr (by rw [kS]; exact List.mem_map.2 ⟨e, he, rfl⟩))
        have hdir1 := hfr1 dir h0 h1 hde hdr
        have hframe : ∀ y, 0 ≤ y → y < (ns.length : Int) → y ≠ dir → ¬ Graph.Reach (bX (rowsOf ns)) e.f1 y → r62 ns1 y = r62 ns y := fun y hy hy1 hyd hyr => hfr1 y hy hy1 (fun h => hyr (h ▸ Graph.Reach.here)) (fun e' he' hr => hyr (Graph.Reach.trans (Graph.Reach.next Graph.Reach.here (hchild e' he')) hr))
        have hdl : (dfs (bX (rowsOf ns)) (d + 1) e.f1).length = 1 + ((r62 ns e.f1).f6.flatMap fun e' => dfs (bX (rowsOf ns)) d e'.f1).length := by
          rw [Graph.dfs, List.length_cons, kS]
          show ((List.map (fun e' : S87 => e'.f1) (r62 ns e.f1).f6).flatMap _).length + 1 = _
          rw [List.flatMap_map]; omega
        cases all with
        | false =>
          refine ⟨false, ns1, m1, by omega, ⟨hg1, hs1, hl1, hsub1, hframe, fun _ => hdir1, fun h => by cases h⟩, fun path fs hp hf => ?_, fun path fs hp1 hp hf => ?_⟩
          · clear hm1 hdl
            obtain ⟨fs', h2, h3⟩ := hi1 path fs true hp hf
            refine ⟨fs', h2, Ev.step (fun k => by rw [bB.f]) ?_⟩
            exact aj hent (af ⟨hn0, hn1, by omega⟩ (af hpos (aD hli (af rfl (aj h3 (aH (by simp) (Ev.now _)))))))
          · clear hm1 hdl
            obtain ⟨fs', h2, h3⟩ := hr1 path fs false hp1 hp hf
            refine ⟨fs', h2, Ev.step (fun k => by rw [bf.f, if_pos ⟨h0, h1⟩]) ?_⟩
            exact aj hat (af ⟨hn0, hn1⟩ (af ⟨hdir, hpos⟩ (aD hlr (af rfl (aj h3 (af rfl (Ev.now _)))))))
        | true =>
          have he1 : e ∈ (r62 ns1 dir).f6 := by rw [hdir1]; exact he
          have hz1 : (r62 ns1 e.f1).f6 = [] := List.eq_nil_iff_forall_not_mem.2 (fun e' he' => hdone1 rfl e' ((hsub1 e.f1).mem he') he')
          obtain ⟨b, ns2, m2, hm2, G, hi2, hr2⟩ := nY u g (by rw [hl1]; exact hn) hg1 hs1 h0 (by rw [hl1]; exact h1) he1 hz1
          refine ⟨b, ns2, m1 + m2, by omega, ⟨G.good, G.small, by rw [G.len, hl1], hsub1.trans G.sub, fun y hy hy1 hyd hyr => ?_, fun h => by rw [G.stays h, hdir1], fun h => by rw [G.goes h, hdir1]⟩, fun path fs hp hf => ?_, fun path fs hp1 hp hf => ?_⟩
          · rw [G.frame y hy (by rw [hl1]; exact hy1) hyd (fun hr => hyr (hsub1.reach hr))]
            exact hframe y hy hy1 hyd hyr
          · clear hm1 hdl
            obtain ⟨f1, h2, h3⟩ := hi1 path fs true hp (by omega)
            obtain ⟨f2, h4, h5⟩ := hi2 path f1 (by omega)
            refine ⟨f2, by omega, Ev.step (fun k => by rw [bB.f]) ?_⟩
            exact aj hent (af ⟨hn0, hn1, by omega⟩ (af hpos (aD hli (af rfl (aj h3 (af rfl h5))))))
          · clear hm1 hdl
            obtain ⟨f1, h2, h3⟩ := hr1 path fs false hp1 hp (by omega)
            obtain ⟨f2, h4, h5⟩ := hr2 path f1 (by omega)
            refine ⟨f2, by omega, Ev.step (fun k => by rw [bf.f, if_pos ⟨h0, h1⟩]) ?_⟩
            exact aj hat (af ⟨hn0, hn1⟩ (af ⟨hdir, hpos⟩ (aD hlr (af rfl (aj h3 (aH (by simp) h5))))))
theorem qb : (⟨#[]⟩ : ByteArray).toList = [] := toList_mk []
def kK (ps : List ByteArray) : List UInt8 := ps.flatMap fun p => 47 :: p.toList
theorem mX : ∀ (p : ByteArray) (ps : List ByteArray), kK (p :: ps) = 47 :: joinL (p :: ps)
  | p, [] => by rw [om]; simp [kK]
  | p, q :: ps => by
    rw [mJ, kK, List.flatMap_cons, ← kK, mX q ps]; rfl
theorem eF.loop (l : List ByteArray) (hl : l.length ≤ 4294967283) (hz : ∀ p ∈ l, p.size ≤ 1048576) (d : Nat) : ∀ (acc : ByteArray) (i : Int), 0 ≤ i → i ≤ l.length → (acc.size : Int) ≤ i * 1048577 → (l.length : Int) - i = d →
    Ev (fun k => eF.l0 k acc l (l.length : Int) i) (mk (acc.toList ++ kK (l.drop i.toNat))) := by
  induction d with
  | zero =>
    intro acc i h0 h1 h2 hd
    refine Ev.step (fun k => by rw [eF.l0, if_neg (by omega)]) (dE ?_)
    rw [List.drop_eq_nil_iff.mpr (by omega), kK]; simp [lZ]
  | succ d ih =>
    intro acc i h0 h1 h2 hd
    have hlt : i < (l.length : Int) := by omega
    have hm := hz _ (pX l i h0 hlt)
    rw [jw l i h0 hlt]
    generalize hp : dx ByteArray.empty l i = p at hm ⊢
    have e : ((⟨#[47]⟩ : ByteArray) ++ p).toList = 47 :: p.toList := by rw [toList_append, show (⟨#[47]⟩ : ByteArray).toList = [47] from toList_mk [47]]; rfl
    have ez : ((acc ++ ((⟨#[47]⟩ : ByteArray) ++ p)).size : Int) = acc.size + 1 + p.size := by
      rw [size_eq, toList_append, e, List.length_append, List.length_cons, ← size_eq, ← size_eq]; omega
    refine Ev.step (fun k => by rw [eF.l0, if_pos hlt, if_pos h0, if_pos hlt, hp, if_pos (by omega), if_pos (by omega), bg (by omega) (by omega)]) ?_
    refine jC (ih (acc ++ ((⟨#[47]⟩ : ByteArray) ++ p)) (i + 1) (by omega) (by omega) (by omega) (by omega)) ?_
    rw [toList_append, e, kK, kK, List.flatMap_cons, List.append_assoc]
theorem eF.is (l : List ByteArray) (hl : l.length ≤ 4294967283) (hz : ∀ p ∈ l, p.size ≤ 1048576) : Ev (fun k => eF.f k l) (kW l) := by
  cases l with
  | nil => exact af rfl (dE rfl)
  | cons p ps =>
    refine aH (by simp; omega) ?_
    refine jC (eF.loop (p :: ps) hl hz (p :: ps).length ⟨#[]⟩ 0 (by omega) (by omega) (by rw [size_eq, qb]; simp) (by omega)) ?_
    rw [Int.toNat_zero, List.drop_zero, mX, qb]; rfl
theorem j6 {nm : ByteArray} (h : gM nm = true) : 47 ∉ nm.toList ∧ nm.toList ≠ [] ∧ nm.toList ≠ [46] ∧ nm.toList ≠ [46, 46] := by
  unfold gM kH lL at h
  rw [Bool.and_eq_true, Bool.and_eq_true, decide_eq_true_iff] at h
  obtain ⟨⟨h1, h2⟩, h3⟩ := h
  refine ⟨fun hm => ?_, fun e => ?_, fun e => ?_, fun e => ?_⟩
  · rw [mP, zG, List.all_eq_true] at h2
    have := h2 47 hm
    revert this; decide
  · rw [size_eq, e] at h1; simp at h1
  · rw [e] at h3; revert h3; decide
  · rw [e] at h3; revert h3; decide
theorem qL {nm : ByteArray} (h : gM nm = true) : parts nm = [nm] := by
  obtain ⟨h1, h2, _⟩ := j6 h
  unfold parts pieces
  rw [kz _ h1, List.map_cons, List.map_nil, lZ, List.filter_cons, if_pos (by simpa using h2), List.filter_nil]
theorem wh {p : ByteArray} {nm : ByteArray} (h : gM nm = true) : parts ((p ++ (⟨#[47]⟩ : ByteArray)) ++ nm) = parts p ++ [nm] := by
  have e : ((p ++ (⟨#[47]⟩ : ByteArray)) ++ nm).toList = p.toList ++ 47 :: nm.toList := by rw [toList_append, toList_append, show (⟨#[47]⟩ : ByteArray).toList = [47] from toList_mk [47]]; simp
  have e2 : pieces ((p ++ (⟨#[47]⟩ : ByteArray)) ++ nm) = pieces p ++ pieces nm := by unfold pieces; rw [e, nZ, List.map_append]
  rw [← qL h]
  unfold parts
  rw [e2, List.filter_append]
theorem tq (s : ByteArray) : parts ((⟨#[47]⟩ : ByteArray) ++ s) = parts s := by
  unfold parts pieces
  rw [toList_append, show (⟨#[47]⟩ : ByteArray).toList = [47] from toList_mk [47], List.singleton_append, iW, List.map_cons, List.filter_cons, if_neg (by rw [toList_mk]; simp)]
theorem pU : ∀ ps : List ByteArray, ps ≠ [] → (∀ q ∈ ps, gM q = true) → jL (joinL ps) = ps.map fun q => q.toList
  | [], h, _ => absurd rfl h
  | [p], _, h => by rw [om, kz _ (j6 (h p List.mem_cons_self)).1]; rfl
  | p :: q :: ps, _, h => by
    rw [mJ, pV _ _ (j6 (h p List.mem_cons_self)).1, pU (q :: ps) (by simp) (fun x hx => h x (List.mem_cons_of_mem _ hx))]; rfl
theorem uP {ps : List ByteArray} (h : ∀ q ∈ ps, gM q = true) : (ps.map fun q => mk q.toList).filter (fun p => !p.toList.isEmpty) = ps := by
  have e : (ps.map fun q => mk q.toList) = ps := by
    conv => rhs; rw [← List.map_id ps]
    exact List.map_congr_left fun x _ => lZ x
  rw [e]
  exact List.filter_eq_self.2 fun x hx => by have := (j6 (h x hx)).2.1; simpa using this
theorem uD {ps : List ByteArray} (h : ∀ q ∈ ps, gM q = true) : parts (kW ps) = ps := by
  unfold parts pieces kW
  rw [toList_mk, iW, List.map_cons, List.filter_cons, if_neg (by rw [toList_mk]; simp)]
  cases ps with
  | nil => rw [qP]; simp [jL, toList_mk]
  | cons p ps =>
    rw [pU _ (by simp) h, List.map_map]
    exact uP h
theorem aT.names (s : ByteArray) (l : List ByteArray) (hl : l.length ≤ 1000000) (h : ∀ q ∈ l, gM q = true) (d : Nat) : ∀ (j : Int) (acc : List ByteArray), 0 ≤ j → j ≤ l.length → (l.length : Int) - j = d → acc.length ≤ j → Ev (fun k => aT.l0 k s acc l (l.length : Int) j) (acc ++ l.drop j.toNat) := by
  induction d with
  | zero =>
    intro j acc h0 hj hd _
    rw [List.drop_eq_nil_iff.mpr (by omega)]
    exact Ev.step (fun k => by rw [aT.l0, if_neg (by omega)]) (dE (by simp))
  | succ d ih =>
    intro j acc h0 hj hd ha
    have hlt : j < (l.length : Int) := by omega
    have hn := j6 (h _ (pX l j h0 hlt))
    rw [jw l j h0 hlt]
    generalize hp : dx ByteArray.empty l j = p at hn ⊢
    refine Ev.step (fun k => by rw [aT.l0, if_pos hlt, if_pos h0, if_pos hlt, hp, if_neg hn.2.2.1, if_neg hn.2.2.2]) ?_
    refine Ev.step (fun k => by rw [aT.j1, if_neg (by simp), if_neg hn.2.2.2, if_pos (by omega), bg (by omega) (by omega)]) ?_
    refine jC (ih (j + 1) (acc ++ [p]) (by omega) (by omega) (by omega) (by rw [List.length_append, List.length_singleton]; omega)) ?_
    rw [List.append_assoc]; rfl
theorem aT.of {s : ByteArray} {l : List ByteArray} (hs : s.size ≤ 100000) (e : parts s = l) (h : ∀ q ∈ l, gM q = true) : Ev (fun k => aT.f k s) l := by
  have hp := jy s
  subst e
  have := aT.names s (parts s) (by omega) h (parts s).length 0 [] (by omega) (by omega) (by omega) (by simp)
  rw [show (0 : Int).toNat = 0 from rfl, List.drop_zero, List.nil_append] at this
  exact aj (bH.is s (by omega)) this
theorem yJ (ps : List ByteArray) (q : ByteArray) : dx ByteArray.empty (ps ++ [q]) (ps.length : Int) = q := by
  show (ps ++ [q]).getD (ps.length : Int).toNat _ = q
  rw [List.getD_eq_getElem?_getD, Int.toNat_natCast, List.getElem?_append_right (Nat.le_refl _)]; simp
theorem xZ (s : ByteArray) : bt ((⟨#[47]⟩ : ByteArray) ++ s) 0 = 47 := by
  have hz : 0 < (((⟨#[47]⟩ : ByteArray) ++ s).size : Int) := by rw [ByteArray.size_append]; show (0 : Int) < ((1 + s.size : Nat) : Int); omega
  obtain ⟨c, hc, hb⟩ := qY ((⟨#[47]⟩ : ByteArray) ++ s) 0 (by omega) hz
  rw [toList_append, show (⟨#[47]⟩ : ByteArray).toList = [47] from toList_mk [47]] at hc
  have : c = 47 := by simpa using hc.symm
  rw [hb, this]; rfl
theorem xW {w : ByteArray} {ps : List ByteArray} {q : ByteArray} (hw : w.size ≤ 1000) (e : parts w = ps ++ [q]) (h : ∀ x ∈ ps ++ [q], gM x = true) : Ev (fun k => jW.f k ((⟨#[47]⟩ : ByteArray) ++ w)) (kW ps) ∧ Ev (fun k => jK.f k ((⟨#[47]⟩ : ByteArray) ++ w)) q := by
  have hz : ((⟨#[47]⟩ : ByteArray) ++ w).size = 1 + w.size := by rw [ByteArray.size_append]; rfl
  have hc := aT.of (s := (⟨#[47]⟩ : ByteArray) ++ w) (by omega) ((tq w).trans e) h
  have hp := jy w
  rw [e, List.length_append, List.length_singleton] at hp
  have hl : (((ps ++ [q]).length : Nat) : Int) = (ps.length : Int) + 1 := by rw [List.length_append, List.length_singleton]; omega
  have hwr : wrap64 ((((ps ++ [q]).length : Nat) : Int) - 1) = (ps.length : Int) := by rw [hl, bg (by omega) (by omega)]; omega
  have hq := j6 (h q (by simp))
  constructor
  · unfold jW.f
    refine aj hc ?_
    rw [hwr, show (((ps.length : Nat) : Int)).toNat = ps.length by omega, List.take_left']
    · refine af (by omega) (af (by omega) (aj (eF.is ps (by omega) (fun x hx => by have := jY (h x (List.mem_append_left _ hx)); omega)) (af (by omega) (af (xZ w) (Ev.now _)))))
    · rfl
  · unfold jK.f
    refine aj hc ?_
    rw [hwr]
    refine aH (by omega) (af (by omega) (af (by omega) ?_))
    rw [yJ]
    exact aH hq.2.2.2 (Ev.now _)
theorem qm {ns : List S62} {e : S87} : ∀ {ps : List ByteArray} {a x : Int}, oP ns a ps x → 0 ≤ x → x < (ns.length : Int) → e ∈ (r62 ns x).f6 → oP ns a (ps ++ [e.f0]) e.f1
  | [], a, x, h, h0, h1, he => by
    obtain rfl : a = x := h
    exact ⟨h0, h1, e, he, rfl, rfl⟩
  | q :: ps, a, x, h, h0, h1, he => by
    obtain ⟨a0, a1, e', he', e1, e2⟩ := h
    exact ⟨a0, a1, e', he', e1, qm e2 h0 h1 he⟩
theorem ug {ns : List S62} {room y : Int} (hs : ∀ v ∈ ns, eG v) (hg : eH ns room) {w : ByteArray} (hw : w.size ≤ 100000) {qs : List ByteArray} (e : parts w = qs) (h : ∀ q ∈ qs, gM q = true) (hc : oP ns 0 qs y) : Ev (fun k => eX.f k ns room 0 w) y := by
  have hp := jy w
  subst e
  refine aj (bH.is w (by omega)) (eX.loop ns room (fun v hv => (hs v hv).2.1) (jP hg.2.1) (parts w) (by omega) y (parts w).length 0 0 (by omega) (by omega) (by omega) ?_)
  rw [show (0 : Int).toNat = 0 from rfl, List.drop_zero, List.filter_eq_self.2 (fun x hx => by simpa using (j6 (h x hx)).2.2.1)]
  exact hc
def el (ns : List S62) : Nat → ByteArray → Int → List (ByteArray × Int × S87)
  | 0, _, _ => []
  | d + 1, p, a => (r62 ns a).f6.flatMap fun e => (p, a, e) :: el ns d (dL p e.f0) e.f1
def vU (x : ByteArray × Int × S87) : S91 := ⟨dL x.1 x.2.2.f0, x.2.2.f1⟩
theorem zn (ns : List S62) : ∀ (d : Nat) (p : ByteArray) (a : Int), wl ns false d p a = ⟨p, a⟩ :: (el ns d p a).map vU
  | 0, p, a => rfl
  | d + 1, p, a => by
    have hk : wl ns false (d + 1) p a = ⟨p, a⟩ :: ((r62 ns a).f6.flatMap fun e => wl ns false d (dL p e.f0) e.f1) := by rw [wl]; rfl
    have hf : (fun e : S87 => wl ns false d (dL p e.f0) e.f1) = fun e => ((p, a, e) :: el ns d (dL p e.f0) e.f1).map vU := funext fun e => by rw [zn ns d, List.map_cons]; rfl
    rw [hk, el, List.map_flatMap, hf]
theorem xU (ns : List S62) : ∀ (d : Nat) (p : ByteArray) (a : Int), dfs (bX (rowsOf ns)) d a = a :: (el ns d p a).map fun x => x.2.2.f1
  | 0, p, a => rfl
  | d + 1, p, a => by
    have hf : (fun e : S87 => dfs (bX (rowsOf ns)) d e.f1) = fun e => ((p, a, e) :: el ns d (dL p e.f0) e.f1).map fun x => x.2.2.f1 := funext fun e => by rw [xU ns d (dL p e.f0), List.map_cons]
    rw [Graph.dfs, el, List.map_flatMap, kS, ← hf]
    congr 1
    show (List.map (fun e : S87 => e.f1) (r62 ns a).f6).flatMap _ = _
    rw [List.flatMap_map]
def Way (ns : List S62) (p : ByteArray) (a : Int) : Prop := ∃ ps : List ByteArray, ((p.toList = [46] ∧ ps = []) ∨ (p.toList ≠ [46] ∧ parts p = ps)) ∧ (∀ q ∈ ps, gM q = true) ∧ oP ns 0 ps a
theorem qE {ns : List S62} {p : ByteArray} {a : Int} {e : S87} (hw : Way ns p a) (h0 : 0 ≤ a) (h1 : a < (ns.length : Int)) (he : e ∈ (r62 ns a).f6) (hn : gM e.f0 = true) : ∃ ps, parts (dL p e.f0) = ps ++ [e.f0] ∧ (∀ q ∈ ps ++ [e.f0], gM q = true) ∧ oP ns 0 ps a ∧ oP ns 0 (ps ++ [e.f0]) e.f1 ∧ (dL p e.f0).toList ≠ [46] := by
  obtain ⟨ps, h, hq, hc⟩ := hw
  have hpt : parts (dL p e.f0) = ps ++ [e.f0] := by
    unfold dL
    rcases h with ⟨h, rfl⟩ | ⟨h, rfl⟩
    · rw [if_pos h, qL hn]; rfl
    · rw [if_neg h, wh hn]
  have hall : ∀ q ∈ ps ++ [e.f0], gM q = true := fun q hm => (List.mem_append.1 hm).elim (hq q) (fun h => by rw [List.mem_singleton.1 h]; exact hn)
  refine ⟨ps, hpt, hall, hc, qm hc h0 h1 he, fun hd => ?_⟩
  have e46 : dL p e.f0 = (⟨#[46]⟩ : ByteArray) := eq_of_toList (by rw [hd]; exact (toList_mk [46]).symm)
  have hp46 : parts (⟨#[46]⟩ : ByteArray) = [(⟨#[46]⟩ : ByteArray)] := by
    unfold parts pieces
    rw [show (⟨#[46]⟩ : ByteArray).toList = [46] from toList_mk [46], kz [46] (by decide), List.map_cons, List.map_nil, List.filter_cons, if_pos (by rw [toList_mk]; rfl), List.filter_nil]; rfl
  rw [e46, hp46] at hpt
  have := hall (⟨#[46]⟩ : ByteArray) (by rw [← hpt]; exact List.mem_singleton.2 rfl)
  exact (j6 this).2.2.1 (toList_mk [46])
theorem Way.below {ns : List S62} {p : ByteArray} {a : Int} {e : S87} (hw : Way ns p a) (h0 : 0 ≤ a) (h1 : a < (ns.length : Int)) (he : e ∈ (r62 ns a).f6) (hn : gM e.f0 = true) : Way ns (dL p e.f0) e.f1 := by
  obtain ⟨ps, k1, k2, _, k4, k5⟩ := qE hw h0 h1 he hn
  exact ⟨ps ++ [e.f0], .inr ⟨k5, k1⟩, k2, k4⟩
structure Bg (ns : List S62) (x : ByteArray × Int × S87) : Prop where
  way : Way ns x.1 x.2.1
  lo : 0 ≤ x.2.1
  hi : x.2.1 < (ns.length : Int)
  mem : x.2.2 ∈ (r62 ns x.2.1).f6
  name : gM x.2.2.f0 = true
theorem zw (ns : List S62) (hr : ∀ v ∈ ns, ∀ e ∈ v.f6, (0 ≤ e.f1 ∧ e.f1 < (ns.length : Int)) ∧ gM e.f0 = true) : ∀ (d : Nat) (p : ByteArray) (a : Int), Way ns p a → 0 ≤ a → a < (ns.length : Int) → ∀ x ∈ el ns d p a, Bg ns x ∧ (vU x).f0.size ≤ p.size + 9 * d
  | 0, p, a, _, _, _, x, hx => by cases hx
  | d + 1, p, a, hw, h0, h1, x, hx => by
    rw [el, List.mem_flatMap] at hx
    obtain ⟨e, he, hx⟩ := hx
    have h := hr _ (il ns a h0 h1) e he
    have hb := lN (p := p) (jY h.2)
    rcases List.mem_cons.1 hx with rfl | hx
    · exact ⟨⟨hw, h0, h1, he, h.2⟩, by show (dL p e.f0).size ≤ _; omega⟩
    · have := zw ns hr d _ _ (hw.below h0 h1 he h.2) h.1.1 h.1.2 x hx
      exact ⟨this.1, by omega⟩
def nmR : Option (ByteArray × Int × S87) → Int × ByteArray × Bool
  | none => (0, (⟨#[]⟩ : ByteArray), false)
  | some x => (x.2.1, x.2.2.f0, true)
theorem uN (ns : List S62) (room node a : Int) (p : ByteArray) (d : Nat) (es : List S87) (hl : es.length ≤ 1048576) (ih : ∀ e ∈ es, Ev (fun k => aZ.f k ns room e.f1 node) (nmR ((el ns d (dL p e.f0) e.f1).find? fun x => x.2.2.f1 == node))) (n : Nat) : ∀ j : Int, 0 ≤ j → j ≤ es.length → (es.length : Int) - j = n →
    Ev (fun k => aZ.l0 k a node es (es.length : Int) j ns room) (nmR (((es.drop j.toNat).flatMap fun e => (p, a, e) :: el ns d (dL p e.f0) e.f1).find? fun x => x.2.2.f1 == node)) := by
  induction n with
  | zero =>
    intro j h0 hj hd
    rw [List.drop_eq_nil_iff.mpr (by omega)]
    exact Ev.step (f := fun _ => some (0, (⟨#[]⟩ : ByteArray), false)) (fun k => by rw [aZ.l0, if_neg (by omega)]) (Ev.now _)
  | succ n ihn =>
    intro j h0 hj hd
    have hlt : j < (es.length : Int) := by omega
    have hm : r87 es j ∈ es := je es z87 j h0 hlt
    have hi := ih _ hm
    have hn := ihn (j + 1) (by omega) (by omega) (by omega)
    rw [ic es z87 j h0 hlt, List.flatMap_cons, List.cons_append, List.find?_cons]
    rw [show es.getD j.toNat z87 = r87 es j from rfl]
    refine Ev.step (fun k => by rw [aZ.l0, if_pos hlt, if_pos h0, if_pos hlt, bg (x := j + 1) (by omega) (by omega)]) ?_
    generalize r87 es j = e at hm hi
    by_cases h : e.f1 = node
    · have hb : (((p, a, e) : ByteArray × Int × S87).2.2.f1 == node) = true := beq_iff_eq.2 h
      rw [hb]
      exact af h (Ev.now _)
    · have hb : (((p, a, e) : ByteArray × Int × S87).2.2.f1 == node) = false := beq_eq_false_iff_ne.2 h
      rw [hb, List.find?_append]
      refine aH h (aj hi ?_)
      cases hf : (el ns d (dL p e.f0) e.f1).find? fun x => x.2.2.f1 == node with
      | some y => exact af rfl (Ev.now _)
      | none => exact aH (by simp [nmR]) hn
theorem tT (ns : List S62) (room node : Int) (hs : ∀ v ∈ ns, eG v) (hr : ∀ v ∈ ns, ∀ e ∈ v.f6, 0 ≤ e.f1 ∧ e.f1 < (ns.length : Int)) : ∀ (d : Nat) (p : ByteArray) (a : Int), 0 ≤ a → a < (ns.length : Int) → Deep (bX (rowsOf ns)) d a → Ev (fun k => aZ.f k ns room a node) (nmR ((el ns d p a).find? fun x => x.2.2.f1 == node))
  | 0, p, a, h0, h1, h => by
    have he : row (r62 ns a).f6 = [] := by rw [← gz ns a h0 h1]; exact h
    have hz : (r62 ns a).f6.length = 0 := by rw [← iY, he]; rfl
    refine Ev.step (fun k => by rw [aZ.f, if_pos h0, if_pos h1]) ?_
    exact Ev.step (f := fun _ => some (0, (⟨#[]⟩ : ByteArray), false)) (fun k => by rw [aZ.l0, if_neg (by omega)]) (Ev.now _)
  | d + 1, p, a, h0, h1, h => by
    have hm := il ns a h0 h1
    have := uN ns room node a p d (r62 ns a).f6 (hs _ hm).2.1 (fun e he => tT ns room node hs hr d (dL p e.f0) e.f1 (hr _ hm e he).1 (hr _ hm e he).2 (h e.f1 (by rw [gz ns a h0 h1]; exact List.mem_map.2 ⟨e, he, rfl⟩))) (r62 ns a).f6.length 0 (by omega) (by omega) (by omega)
    rw [show (0 : Int).toNat = 0 from rfl, List.drop_zero] at this
    exact Ev.step (fun k => by rw [aZ.f, if_pos h0, if_pos h1]) this
theorem qO {ns : List S62} {room node : Int} (hs : ∀ v ∈ ns, eG v) (hg : eH ns room) (L : List ByteArray) (hL : L.length ≤ 1000000000) {y : ByteArray × Int × S87} : ∀ (M : List (ByteArray × Int × S87)) (j : Int), 0 ≤ j → j ≤ L.length → L.drop j.toNat = M.map (fun x => (vU x).f0) → (∀ x ∈ M, Bg ns x ∧ (vU x).f0.size ≤ 1000) → M.find? (fun x => x.2.2.f1 == node) = some y →
    Ev (fun k => bq.l0 k node L (L.length : Int) j ns room) (y.2.1, y.2.2.f0)
  | [], j, _, _, _, _, h => by cases h
  | x :: M, j, h0, hj, hd, hM, h => by
    have hlt : j < (L.length : Int) := by
      refine Decidable.byContradiction fun hc => ?_
      rw [List.drop_eq_nil_iff.mpr (by omega)] at hd; cases hd
    rw [jw L j h0 hlt, List.map_cons, List.cons.injEq] at hd
    obtain ⟨hx, hz⟩ := hM x List.mem_cons_self
    obtain ⟨ps, k1, k2, k3, k4, k5⟩ := qE hx.way hx.lo hx.hi hx.mem hx.name
    have hsz : (dL x.1 x.2.2.f0).size ≤ 1000 := hz
    have hd1 : dx ByteArray.empty L j = dL x.1 x.2.2.f0 := hd.1
    have hat := ug (room := room) hs hg (w := dL x.1 x.2.2.f0) (by omega) k1 k2 k4
    refine Ev.step (fun k => by rw [bq.l0, if_pos hlt, if_pos h0, if_pos hlt, hd1, if_neg k5]) (aj hat ?_)
    rw [List.find?_cons] at h
    by_cases hn : x.2.2.f1 = node
    · have hb : (x.2.2.f1 == node) = true := beq_iff_eq.2 hn
      rw [hb] at h ⊢
      obtain rfl : x = y := Option.some.inj h
      obtain ⟨e1, e2⟩ := xW hsz k1 k2
      have hps : (kW ps).size ≤ 100000 := by
        have hjl := nC ps 8 (fun q hq => jY (k2 q (List.mem_append_left _ hq)))
        have hpl := jy (dL x.1 x.2.2.f0)
        rw [k1, List.length_append, List.length_singleton] at hpl
        unfold kW
        rw [size_mk, List.length_cons]; omega
      have h3 := ug (room := room) hs hg hps (uD (fun q hq => k2 q (List.mem_append_left _ hq))) (fun q hq => k2 q (List.mem_append_left _ hq)) k3
      exact Ev.step (fun k => by rw [bq.j1, if_pos rfl, if_pos (by omega)]) (aj e1 (aj h3 (aj (f := fun _ t => some (x.2.1, t)) e2 (Ev.now (x.2.1, x.2.2.f0)))))
    · have hb : (x.2.2.f1 == node) = false := beq_eq_false_iff_ne.2 hn
      rw [hb] at h ⊢
      refine Ev.step (fun k => by rw [bq.j1, if_neg (by simp), bg (x := j + 1) (by omega) (by omega)]) ?_
      exact qO hs hg L hL M (j + 1) (by omega) (by omega) hd.2 (fun z hz => hM z (List.mem_cons_of_mem _ hz)) h
theorem uR {adj : Int → List Int} {d : Nat} {a y : Int} (h : Deep adj d a) (r : Graph.Reach adj a y) : y ∈ dfs adj d a := by
  refine Graph.Reach.closed ?_ (fun x hx y hy => ?_) r
  · exact (lM h).mem_iff.2 List.mem_cons_self
  · exact (lM h).mem_iff.2 (List.mem_cons_of_mem _ (List.mem_flatMap.2 ⟨x, hx, hy⟩))
theorem wB {ns : List S62} {room node : Int} (hn' : ns.length ≤ 1048576) (hs : ∀ v ∈ ns, eG v) (hg : eH ns room) (h0 : 0 < node) (h1 : node < (ns.length : Int)) (hf : (r62 ns node).f0 ≠ 0) : ∃ (dir : Int) (e : S87), 0 ≤ dir ∧ dir < (ns.length : Int) ∧ e ∈ (r62 ns dir).f6 ∧ e.f1 = node ∧ gM e.f0 = true ∧
    Ev (fun k => aZ.f k ns room 0 node) (dir, e.f0, true) ∧ Ev (fun k => bq.f k ns room node) (dir, e.f0) := by
  have hri := lV hg
  have hrn : ∀ v ∈ ns, ∀ e ∈ v.f6, (0 ≤ e.f1 ∧ e.f1 < (ns.length : Int)) ∧ gM e.f0 = true := fun v hv e he => ⟨hri v hv e he, qc hg.2.1 v hv e he⟩
  have hr8 : ∀ v ∈ ns, ∀ e ∈ v.f6, (0 ≤ e.f1 ∧ e.f1 < (ns.length : Int)) ∧ e.f0.size ≤ 8 := fun v hv e he => ⟨hri v hv e he, jY (hrn v hv e he).2⟩
  have hz : (0 : Int) < (ns.length : Int) := by omega
  obtain ⟨d, hd, hD, hL⟩ := rO hn' hs hg (a := 0) (by omega) hz
  have h46 : (⟨#[46]⟩ : ByteArray).size = 1 := rfl
  obtain ⟨met, hmet⟩ := xC hn' hs hg
  have hr := hmet.reach.1 ((hg.2.2 met hmet node (by omega) h1).2.2 hf)
  have hmem := uR hD hr
  rw [xU ns d (⟨#[46]⟩ : ByteArray) 0, List.mem_cons] at hmem
  have hmem : node ∈ (el ns d (⟨#[46]⟩ : ByteArray) 0).map fun x => x.2.2.f1 := hmem.elim (fun h => absurd h (by omega)) id
  obtain ⟨x0, hx0, ex0⟩ := List.mem_map.1 hmem
  have hway : Way ns (⟨#[46]⟩ : ByteArray) 0 := ⟨[], .inl ⟨toList_mk [46], rfl⟩, fun q hq => (by cases hq), rfl⟩
  have hin := zw ns hrn d (⟨#[46]⟩ : ByteArray) 0 hway (by omega) hz
  have hfi := tT ns room node hs (fun v hv e he => hri v hv e he) d (⟨#[46]⟩ : ByteArray) 0 (by omega) hz hD
  cases hfd : (el ns d (⟨#[46]⟩ : ByteArray) 0).find? fun x => x.2.2.f1 == node with
  | none => exact absurd (beq_iff_eq.2 ex0) (List.find?_eq_none.1 hfd x0 hx0)
  | some y =>
    rw [hfd] at hfi
    have hy := hin y (List.mem_of_find?_eq_some hfd)
    have hyn : y.2.2.f1 = node := by
      have := List.find?_some hfd
      exact beq_iff_eq.1 this
    refine ⟨y.2.1, y.2.2, hy.1.lo, hy.1.hi, hy.1.mem, hyn, hy.1.name, hfi, ?_⟩
    have hw := xK ns room false hs hr8 d (⟨#[46]⟩ : ByteArray) 0 (by omega) (by omega) hz hD (by omega)
    have hll := q9 ns false d (⟨#[46]⟩ : ByteArray) 0 (fun v hv e he => hri v hv e he) (by omega) hz
    have hlm : ((wl ns false d (⟨#[46]⟩ : ByteArray) 0).map (·.f0)).length ≤ 1000000000 := by rw [List.length_map]; omega
    have hmap : (wl ns false d (⟨#[46]⟩ : ByteArray) 0).map (·.f0) = (⟨#[46]⟩ : ByteArray) :: (el ns d (⟨#[46]⟩ : ByteArray) 0).map (fun x => (vU x).f0) := by
      rw [zn, List.map_cons, List.map_map]; rfl
    generalize (wl ns false d (⟨#[46]⟩ : ByteArray) 0).map (·.f0) = L at hw hlm hmap
    have hL1 : 1 ≤ L.length := by rw [hmap, List.length_cons]; omega
    have hloop := qO hs hg L hlm (el ns d (⟨#[46]⟩ : ByteArray) 0) 1 (by omega) (by omega) (by rw [hmap]; rfl) (fun x hx => ⟨(hin x hx).1, by have := (hin x hx).2; omega⟩) hfd
    have hr0 : dx ByteArray.empty L 0 = (⟨#[46]⟩ : ByteArray) := by rw [hmap]; rfl
    refine aj hw (Ev.step (fun k => by rw [bq.l0, if_pos (by omega), if_pos (by omega), if_pos (by omega), hr0, if_pos (show (⟨#[46]⟩ : ByteArray).toList = [46] from toList_mk [46])]) ?_)
    exact Ev.step (fun k => by rw [bq.j1, if_neg (by simp), show wrap64 (0 + 1) = (1 : Int) from bg (x := 0 + 1) (by omega) (by omega)]) hloop
theorem wO (u g : Int) : ∃ q, iR.f u g = some q ∧ gZ.f u g = some q := by
  unfold gZ.f iR.f cu.f ay.f aG.f
  by_cases h1 : u ≥ 0 <;> by_cases h2 : g ≥ 0 <;> by_cases h3 : u ≤ 99 <;> by_cases h4 : g ≤ 99 <;> simp [h1, h2, h3, h4]
theorem uV (ns : List S62) (room u g node : Int) (hn' : ns.length ≤ 1048576) (hs : ∀ v ∈ ns, eG v) :
    ((Ev (fun k => eU.f k ns room u g) false ∨ (Ev (fun k => eU.f k ns room u g) true ∧ ∃ b, iL.f ns room node = some b ∧ ¬ (b = true ∧ node ≠ 0))) ∧ Ev (fun k => fw.f k ns room u g node) false) ∨
    (Ev (fun k => eU.f k ns room u g) true ∧ iL.f ns room node = some true ∧ node ≠ 0 ∧ Ev (fun k => fw.f k ns room u g node) true ∧ eH ns room ∧ 0 < node ∧ node < (ns.length : Int) ∧ (r62 ns node).f0 ≠ 0) := by
  obtain ⟨r, hr, hi, e⟩ := qQ ns room hn' hs
  obtain ⟨q, hq, hq'⟩ := wO u g
  have h1 : Ev (fun k => eU.f k ns room u g) (r && q) := by
    unfold eU.f
    cases r with
    | true => exact aj hr (af rfl (aD hq (Ev.now _)))
    | false => exact aj hr (aH (by simp) (Ev.now _))
  have h2 : Ev (fun k => gP.f k ns room u g) (r && q) := by
    unfold gP.f
    cases r with
    | true => exact aj hi (af rfl (aD hq' (Ev.now _)))
    | false => exact aj hi (aH (by simp) (Ev.now _))
  by_cases hrq : (r && q) = true
  · rw [hrq] at h1 h2
    have hg := e.1 (Bool.and_eq_true_iff.1 hrq).1
    have hn := hg.1.1.1
    obtain ⟨b, hb, eb⟩ := pQ (a := node) hn hn'
    obtain ⟨b', hb', eb'⟩ := bE.is ns room node hn hn'
    have e2 : b' = b := by rw [Bool.eq_iff_iff, eb, eb']
    subst e2
    have h3 : iL.f ns room node = some b' := hb
    by_cases hc : b' = true ∧ node ≠ 0
    · obtain ⟨hbt, hne⟩ := hc
      have ha := eb.1 hbt
      subst hbt
      refine .inr ⟨h1, h3, hne, ?_, hg, ?_, ha.2.1, ha.2.2⟩
      · unfold fw.f
        exact aj h2 (af rfl (aD hb' (af rfl (dE (by simpa using hne)))))
      · have := ha.1; omega
    · refine .inl ⟨.inr ⟨h1, b', h3, hc⟩, ?_⟩
      unfold fw.f
      refine aj h2 (af rfl (aD hb' ?_))
      cases b' with
      | true => exact af rfl (dE (by simpa using hc))
      | false => exact aH (by simp) (Ev.now _)
  · have hf : (r && q) = false := by simpa using hrq
    rw [hf] at h1 h2
    exact .inl ⟨.inl h1, aj h2 (aH (by simp) (Ev.now _))⟩
theorem uo {ns : List S62} {room node : Int} (u g : Int) (hn' : ns.length ≤ 1048576) (hs : ∀ v ∈ ns, eG v) (hg : eH ns room) (h0 : 0 < node) (h1 : node < (ns.length : Int)) (hf : (r62 ns node).f0 ≠ 0) :
    ∃ (dir : Int) (e : S87) (b : Bool) (ns' : List S62) (m : Nat) (fs : List gH), 0 ≤ dir ∧ dir < (ns.length : Int) ∧ e ∈ (r62 ns dir).f6 ∧ e.f1 = node ∧ Gone ns room dir e b ns' ∧ fs.length = m ∧
      Ev (fun k => fu.f k ns room u g node) (ns', room, b, ((m : Int) == 0)) ∧
      Ev (fun k => bq.f k ns room node) (dir, e.f0) ∧
      Ev (fun k => fV.f k ns room u g node) (b, ns', room, fs) := by
  obtain ⟨dir, e, d0, d1, he, hen, hnm, hfirst, hname⟩ := wB hn' hs hg h0 h1 hf
  obtain ⟨d, hd, hD, hL⟩ := rO hn' hs hg (a := e.f1) (by omega) (by omega)
  obtain ⟨b, ns', m, hm, G, hi, hr⟩ := vW room u g d ns dir e hn' hg hs d0 d1 he hD
  have s47 : (⟨#[47]⟩ : ByteArray).size = 1 := rfl
  have s46 : (⟨#[46]⟩ : ByteArray).size = 1 := rfl
  have hm' : ([] : List gH).length + m ≤ 1000000000000 := by rw [List.length_nil]; omega
  obtain ⟨f1, l1, v1⟩ := hi (⟨#[47]⟩ : ByteArray) [] (by omega) hm'
  obtain ⟨f2, l2, v2⟩ := hr (⟨#[46]⟩ : ByteArray) [] (by omega) (by omega) hm'
  rw [List.length_nil, Nat.zero_add] at l1 l2
  refine ⟨dir, e, b, ns', m, f2, d0, d1, he, hen, G, l2, ?_, hname, ?_⟩
  · unfold fu.f
    have ho : jr.f ns room = some (ns, room) := by
      unfold jr.f
      rw [if_pos ⟨by omega, fun x hx => by have := (hs x hx).2.1; omega⟩]
    refine aD ho (af (by show 0 < ns.length; omega) (aj hfirst (aj v1 ?_)))
    exact dE (by rw [l1])
  · unfold fV.f
    exact aj hname (aj (dC.is ns room hn' (fun v hv => (hs v hv).2.1)) v2)
theorem aV.loop (a b : List ByteArray) (hl : a.length = b.length) (hz : a.length ≤ 9223372036854775806) (d : Nat) : ∀ i : Int, 0 ≤ i → i ≤ a.length → (a.length : Int) - i = d →
    Ev (fun k => aV.l0 k a b i) (decide (a.drop i.toNat = b.drop i.toNat)) := by
  induction d with
  | zero =>
    intro i h0 h1 hd
    refine Ev.step (fun k => by rw [aV.l0, if_neg (by omega)]) (dE ?_)
    rw [List.drop_eq_nil_iff.mpr (show a.length ≤ i.toNat by omega), List.drop_eq_nil_iff.mpr (show b.length ≤ i.toNat by omega)]
    exact (decide_eq_true rfl).symm
  | succ d ih =>
    intro i h0 h1 hd
    have hlt : i < (a.length : Int) := by omega
    have hlt' : i < (b.length : Int) := by omega
    rw [jw a i h0 hlt, jw b i h0 hlt']
    refine Ev.step (fun k => by rw [aV.l0, if_pos hlt, if_pos h0, if_pos hlt', bg (by omega) (by omega)]) ?_
    refine ja (fun h => ?_) (fun h => ?_)
    · refine jC (ih (i + 1) (by omega) (by omega) (by omega)) (decide_eq_decide.mpr ?_)
      rw [List.cons.injEq]
      exact ⟨fun hp => ⟨eq_of_toList h, hp⟩, fun hp => hp.2⟩
    · refine dE (decide_eq_false ?_).symm
      rw [List.cons.injEq]
      exact fun hp => h (by rw [hp.1])
theorem aV.is (a b : List ByteArray) (hz : a.length ≤ 9223372036854775806) : Ev (fun k => aV.f k a b) (decide (a = b)) := by
  refine ja (fun h => ?_) (fun h => ?_)
  · exact aV.loop a b (by omega) hz a.length 0 (by omega) (by omega) (by omega)
  · exact dE (decide_eq_false (fun e => h (by rw [e]))).symm
theorem aV.same (a : List ByteArray) (hz : a.length ≤ 9223372036854775806) : Ev (fun k => aV.f k a a) true := jC (aV.is a a hz) (decide_eq_true rfl)
theorem bv.loop (n : Nat) : ∀ (x : Int) (acc : ByteArray), 0 ≤ x → x.toNat ≤ n → acc.size + n ≤ 9223372036854775000 → ∃ r, Ev (fun k => bv.l0 k x acc) r := by
  induction n with
  | zero =>
    intro x acc h0 h1 h2
    refine ⟨_, Ev.step (fun k => by rw [bv.l0, if_neg (by omega), if_pos (by omega)]) (Ev.now _)⟩
  | succ n ih =>
    intro x acc h0 h1 h2
    by_cases hx : x > 0
    · have e : Int.tdiv x 10 = x / 10 := Int.tdiv_eq_ediv_of_nonneg h0
      have hs : (strOfNums [(wrap64 (48 + (Int.tmod x 10))) % 256]).size = 1 := rfl
      have hz : ((strOfNums [(wrap64 (48 + (Int.tmod x 10))) % 256]) ++ acc).size = 1 + acc.size := by rw [ByteArray.size_append, hs]
      obtain ⟨r, hr⟩ := ih (wrap64 (Int.tdiv x 10)) ((strOfNums [(wrap64 (48 + (Int.tmod x 10))) % 256]) ++ acc) (by rw [e]; unfold wrap64; omega) (by rw [e]; unfold wrap64; omega) (by rw [hz]; omega)
      refine ⟨r, Ev.step (fun k => by rw [bv.l0, if_pos hx, Option.bind_some, if_pos (by rw [hs]; omega)]) hr⟩
    · exact ⟨_, Ev.step (fun k => by rw [bv.l0, if_neg hx, if_pos (by omega)]) (Ev.now _)⟩
theorem bv.is (x : Int) (h0 : 0 ≤ x) (h1 : x ≤ 9223372036854770000) : ∃ r, Ev (fun k => bv.f k x) r := by
  by_cases h : x ≤ 0
  · exact ⟨_, af h (Ev.now _)⟩
  · obtain ⟨r, hr⟩ := bv.loop x.toNat x ⟨#[]⟩ h0 (Nat.le_refl _) (by show 0 + _ ≤ _; omega)
    exact ⟨r, aH h hr⟩
noncomputable def markT (x : Int) : ByteArray := open Classical in if h : 0 ≤ x ∧ x ≤ 9223372036854770000 then Classical.choose (bv.is x h.1 h.2) else ⟨#[]⟩
theorem lc (x : Int) (h0 : 0 ≤ x) (h1 : x ≤ 9223372036854770000) : Ev (fun k => bv.f k x) (markT x) := by
  unfold markT; rw [dif_pos ⟨h0, h1⟩]; exact Classical.choose_spec (bv.is x h0 h1)
noncomputable def jZ (n : Nat) (a : Int) : List ByteArray := (List.range n).map fun j : Nat => markT (a + (j : Int))
theorem jB (n : Nat) (a : Int) : (jZ n a).length = n := by simp [jZ]
theorem bG.loop (n : Nat) (hn : n ≤ 4611686018427387904) (a : Int) (ha : 0 ≤ a) (ha2 : a ≤ 1000000000000) (d : Nat) : ∀ (l : List ByteArray) (i : Int), l.length = n → 0 ≤ i → i ≤ n → (n : Int) - i = d → l.take i.toNat = (jZ n a).take i.toNat →
    Ev (fun k => bG.l0 k l (a + i) i) (a + n, jZ n a) := by
  induction d with
  | zero =>
    intro l i hl h0 h1 hd ht
    refine Ev.step (fun k => by rw [bG.l0, if_neg (by omega)]) (dE ?_)
    have hi : i.toNat = n := by omega
    rw [hi, List.take_of_length_le (by omega), List.take_of_length_le (by rw [jB]; omega)] at ht
    rw [ht, show i = (n : Int) by omega]
  | succ d ih =>
    intro l i hl h0 h1 hd ht
    refine Ev.step (fun k => by rw [bG.l0, if_pos (by omega)]) ?_
    refine aj (lc (a + i) (by omega) (by omega)) (af h0 ?_)
    rw [bg (x := a + i + 1) (by omega) (by omega), bg (x := i + 1) (by omega) (by omega), show a + i + 1 = a + (i + 1) by omega]
    refine ih _ (i + 1) (by rw [List.length_set]; exact hl) (by omega) (by omega) (by omega) ?_
    have hil : i.toNat < l.length := by omega
    have him : i.toNat < (jZ n a).length := by rw [jB]; omega
    rw [show (i + 1).toNat = i.toNat + 1 by omega, List.take_add_one, List.take_add_one, List.take_set_of_le (Nat.le_refl _), ht, List.getElem?_set_self hil, List.getElem?_eq_getElem him]
    congr 1
    simp [jZ, show (i.toNat : Int) = i by omega]
theorem bG.is (l : List ByteArray) (hl : l.length ≤ 4611686018427387904) (a : Int) (ha : 0 ≤ a) (ha2 : a ≤ 1000000000000) : Ev (fun k => bG.f k l a) (a + l.length, jZ l.length a) := by
  have h := bG.loop l.length hl a ha ha2 l.length l 0 rfl (by omega) (by omega) (by omega) (by simp)
  rw [Int.add_zero] at h; exact h
theorem bu.loop (n : Nat) (hn : n ≤ 4611686018427387904) (a : Int) (ha : 0 ≤ a) (ha2 : a ≤ 1000000000000) (d : Nat) : ∀ i : Int, 0 ≤ i → i ≤ n → (n : Int) - i = d →
    Ev (fun k => bu.l0 k (jZ n a) (a + i) i) (a + n) := by
  induction d with
  | zero =>
    intro i h0 h1 hd
    exact Ev.step (fun k => by rw [bu.l0, jB, if_neg (by omega)]) (dE (by omega))
  | succ d ih =>
    intro i h0 h1 hd
    refine Ev.step (fun k => by rw [bu.l0, jB, if_pos (by omega), if_pos h0]) ?_
    refine aj (lc (a + i) (by omega) (by omega)) ?_
    have e : dx ByteArray.empty (jZ n a) i = markT (a + i) := by
      have him : i.toNat < (jZ n a).length := by rw [jB]; omega
      unfold dx
      rw [List.getD_eq_getElem?_getD, List.getElem?_eq_getElem him]
      simp [jZ, show (i.toNat : Int) = i by omega]
    refine af (by rw [e]) ?_
    rw [bg (x := a + i + 1) (by omega) (by omega), bg (x := i + 1) (by omega) (by omega), show a + i + 1 = a + (i + 1) by omega]
    exact ih (i + 1) (by omega) (by omega) (by omega)
theorem bu.is (n : Nat) (hn : n ≤ 4611686018427387904) (a : Int) (ha : 0 ≤ a) (ha2 : a ≤ 1000000000000) : Ev (fun k => bu.f k (jZ n a) a) (a + n) := by
  have h := bu.loop n hn a ha ha2 n 0 (by omega) (by omega) (by omega)
  rw [Int.add_zero] at h; exact h
theorem dP.is (n : Nat) (hn : n ≤ 1048576) (d : Nat) : ∀ (a i : Int), 0 ≤ i → i ≤ n → (n : Int) - i = d → 0 ≤ a → a + 2 * d ≤ 1000000000000000 → Ev (fun k => dP.l0 k n a i) (a + 2 * d) := by
  induction d with
  | zero =>
    intro a i h0 hi hd ha ha2
    exact Ev.step (fun k => by rw [dP.l0, if_neg (by omega)]) (dE (by omega))
  | succ d ih =>
    intro a i h0 hi hd ha ha2
    refine Ev.step (fun k => by rw [dP.l0, if_pos (by omega), if_pos h0]) (aj (lc a ha (by omega)) ?_)
    rw [bg (x := a + 1) (by omega) (by omega), bg (x := a + 1 + 1) (by omega) (by omega), bg (x := i + 1) (by omega) (by omega)]
    exact jC (ih (a + 1 + 1) (i + 1) (by omega) (by omega) (by omega) (by omega) (by omega)) (by omega)
theorem dQ.is (ns : List S62) (hn : ns.length ≤ 1048576) (hs : ∀ v ∈ ns, v.f6.length ≤ 1048576) (d : Nat) : ∀ (a i : Int), 0 ≤ i → i ≤ ns.length → (ns.length : Int) - i = d → 0 ≤ a → a + 3000000 * d ≤ 1000000000000000 → ∃ r, Ev (fun k => dQ.l0 k ns a i) r ∧ 0 ≤ r := by
  induction d with
  | zero =>
    intro a i h0 hi hd ha ha2
    exact ⟨a, Ev.step (fun k => by rw [dQ.l0, if_neg (by omega)]) (Ev.now _), ha⟩
  | succ d ih =>
    intro a i h0 hi hd ha ha2
    have hlt : i < (ns.length : Int) := by omega
    have hl := hs _ (je ns z62 i h0 hlt)
    have hl' : (r62 ns i).f6.length ≤ 1048576 := hl
    have hE := dP.is (r62 ns i).f6.length hl' (r62 ns i).f6.length (a + 1 + 1 + 1 + 1 + 1 + 1) 0 (by omega) (by omega) (by omega) (by omega) (by omega)
    obtain ⟨r, hr, e⟩ := ih (a + 1 + 1 + 1 + 1 + 1 + 1 + 2 * ((r62 ns i).f6.length : Int)) (i + 1) (by omega) (by omega) (by omega) (by omega) (by omega)
    refine ⟨r, Ev.step (fun k => by rw [dQ.l0, if_pos hlt, if_pos h0]) ?_, e⟩
    rw [bg (x := a + 1) (by omega) (by omega), bg (x := a + 1 + 1) (by omega) (by omega), bg (x := a + 1 + 1 + 1) (by omega) (by omega), bg (x := a + 1 + 1 + 1 + 1) (by omega) (by omega), bg (x := a + 1 + 1 + 1 + 1 + 1) (by omega) (by omega), bg (x := a + 1 + 1 + 1 + 1 + 1 + 1) (by omega) (by omega), bg (x := i + 1) (by omega) (by omega)]
    exact aj (lc _ (by omega) (by omega)) (aj hE hr)
theorem jq.is (ns : List S62) (x : Int) (hn : ns.length ≤ 1048576) (hs : ∀ v ∈ ns, v.f6.length ≤ 1048576) : ∃ r, Ev (fun k => jq.f k ns x 1) r ∧ 0 ≤ r :=
  dQ.is ns hn hs ns.length 1 0 (by omega) (by omega) (by omega) (by omega) (by omega)
theorem bN.none (l : List S87) (hl : l.length ≤ 1048576) (nm : ByteArray) (h : ∀ x ∈ l, x.f0.toList ≠ nm.toList) (d : Nat) : ∀ i : Int, 0 ≤ i → i ≤ l.length → (l.length : Int) - i = d → Ev (fun k => bN.l0 k nm l (l.length : Int) i) (-1) := by
  induction d with
  | zero =>
    intro i h0 hi hd
    exact Ev.step (f := fun _ => some (-1)) (fun k => by rw [bN.l0, if_neg (by omega)]) (Ev.now _)
  | succ d ih =>
    intro i h0 hi hd
    have hlt : i < (l.length : Int) := by omega
    have hne := h _ (qj l i h0 hlt)
    refine Ev.step (fun k => by rw [bN.l0, if_pos hlt, if_pos h0, if_pos hlt, if_neg hne, bg (x := i + 1) (by omega) (by omega)]) ?_
    exact ih (i + 1) (by omega) (by omega) (by omega)
theorem wW.same (ns : List S62) (room u g node : Int) (hn' : ns.length ≤ 1048576) (hs : ∀ v ∈ ns, eG v) : ∃ (v : List ByteArray) (b : Bool), Ev (fun k => fF.f k ns room u g node) (v, b) ∧ Ev (fun k => fH.f k ns room u g node) (v, b) ∧ v.length ≤ 41943041 := by
  unfold fF.f fH.f
  rcases uV ns room u g node hn' hs with ⟨h1, h2⟩ | ⟨h1, h2, h3, h4, hg, h5, h6, h7⟩
  · refine ⟨[], false, ?_, aj h2 (aH (by simp) (Ev.now _)), by simp⟩
    rcases h1 with h1 | ⟨h1, b, hb, hc⟩
    · exact aj h1 (aH (by simp) (Ev.now _))
    · exact aj h1 (af rfl (aD hb (aH hc (Ev.now _))))
  · obtain ⟨dir, e, b, ns', m, fs, d0, d1, he, hen, G, hfs, k1, k2, k3⟩ := uo u g hn' hs hg h5 h6 h7
    have hl' : ns'.length ≤ 1048576 := by rw [G.len]; exact hn'
    have hd1 : dir < (ns'.length : Int) := by rw [G.len]; exact d1
    have hv := il ns' dir d0 hd1
    have hls := (G.small _ hv).2.1
    cases b with
    | true =>
      have hat : Ev (fun k => bN.f k (r62 ns' dir).f6 e.f0) (-1) := by
        refine bN.none _ hls e.f0 (fun x hx => ?_) _ 0 (by omega) (by omega) (by omega : ((r62 ns' dir).f6.length : Int) - 0 = ((r62 ns' dir).f6.length : Nat))
        rw [G.goes rfl] at hx
        have := (List.mem_filter.1 hx).2
        unfold fq at this
        simpa using this
      exact ⟨[], true, aj h1 (af rfl (aD h2 (af ⟨rfl, h3⟩ (aj k2 (aj k3 (af ⟨d0, hd1⟩ (aj hat (af (by decide) (Ev.now _))))))))), aj h4 (af rfl (aj k1 (af rfl (Ev.now _)))), by simp⟩
    | false =>
      have he' : e ∈ (r62 ns' dir).f6 := by rw [G.stays rfl]; exact he
      have hat := bN.is _ hls (jP G.good.2.1 _ hv) he'
      have hto := good_row (G.good.2.1 dir d0 hd1) e.f1 (List.mem_map.2 ⟨e, he', rfl⟩)
      rw [hen] at hat hto
      have hn1 : node < (ns'.length : Int) := by rw [G.len]; exact h6
      obtain ⟨d, hd, hD, hL⟩ := rO hl' G.small G.good (a := node) (by omega) hn1
      have hri := lV G.good
      have hr8 : ∀ v ∈ ns', ∀ e ∈ v.f6, (0 ≤ e.f1 ∧ e.f1 < (ns'.length : Int)) ∧ e.f0.size ≤ 8 := fun v hv e he => ⟨hri v hv e he, jY (qc G.good.2.1 v hv e he)⟩
      have h46 : (⟨#[46]⟩ : ByteArray).size = 1 := rfl
      have hw := xK ns' room false G.small hr8 d (⟨#[46]⟩ : ByteArray) node (by omega) (by omega) hn1 hD (by omega)
      have hW := vB ns' room false G.small hr8 d (⟨#[46]⟩ : ByteArray) node (by omega) (by omega) hn1 hD
      have hlen := q9 ns' false d (⟨#[46]⟩ : ByteArray) node hri (by omega) hn1
      obtain ⟨r, hr, hi, er⟩ := qQ ns' room hl' G.small
      have hrt := er.2 G.good
      obtain ⟨q, hq, eq⟩ := bE.is ns' room node G.good.1.1.1 hl'
      have hqt : q = true := eq.2 ⟨by omega, hto.2.2⟩
      have hgat := oo ns' room node hl' hi er (fun _ => hq)
      rw [hrt, hqt] at hgat
      generalize wl ns' false d (⟨#[46]⟩ : ByteArray) node = L at hw hW hlen
      have hwl := sw L (by omega) L.length 0 [] (by omega) (by omega) (by omega) (by simp)
      rw [show (0 : Int).toNat = 0 from rfl, List.drop_zero, List.nil_append] at hwl
      have hwd : Ev (fun k => dZ.f k ns' room node false) (L.map (fun w => w.f0), true) := aj hgat (af rfl (aj (g := fun k => iZ.f k ns' room node false) (aj hW (af (by omega) (Ev.now _))) hwl))
      exact ⟨L.map (fun w => w.f0), true, aj h1 (af rfl (aD h2 (af ⟨rfl, h3⟩ (aj k2 (aj k3 (af ⟨d0, hd1⟩ (aj hat (aH (by omega) (aj hw (Ev.now _)))))))))), aj h4 (af rfl (aj k1 (aH (by simp) (aj hwd (Ev.now _))))), by rw [List.length_map]; omega⟩
end Go.Proofs.YtmhjmicplaolmaaGreatDoor.PRm
namespace Go.Proofs.YtmhjmicplaolmaaGreatDoor.Pure
open Go.RowKit Go.Proofs.YtmhjmicplaolmaaGreatDoor.PRm Go.Proofs.YtmhjmicplaolmaaGreatDoorW.PrintWords Go.Proofs.YtmhjmicplaolmaaGreatDoor.Aid
theorem FnExactLeftAfter : laws_FnExactLeftAfter.Pure := by
  intro a n u g x ha hn hu hg hx
  refine Ev.rounds (r := true) ?_
  unfold laws_FnExactLeftAfter.f fB.f
  obtain ⟨r, hr, e⟩ := iO.is a n ha.1 (fun x hx => ⟨(ha.2 x hx).2.2.2.2.2.1, (ha.2 x hx).2.2.2.2.2.2.1, fun y hy => ((ha.2 x hx).2.2.2.2.2.2.2 y hy).1⟩) 1048576 (by omega) (by omega)
  rcases e with e | ⟨e1, e2, e3, e4⟩
  · exact aj hr (af e (Ev.now _))
  refine aj hr (aH (by omega) ?_)
  have ta := fo.is a n e3 e4
  have oa := yN e4
  have sa := xg e4
  have la : (a.map wy).length ≤ 1048576 := by rw [List.length_map]; omega
  generalize a.map wy = A at ta oa sa la
  obtain ⟨v, b, hs, ht, hl⟩ := wW.same A n u g x la sa
  have hv : v.length ≤ 9223372036854775806 := by omega
  obtain ⟨km, hkm, hk0⟩ := jq.is A n la (fun v hv => (sa v hv).2.1)
  have held := bu.is v.length (by omega) 1 (by omega) (by omega)
  refine aj ta (aD rfl (aj hs (aj ta (aD rfl (aj ht (aj (aV.same v hv) (af rfl ?_)))))))
  rw [bne_self_eq_false]
  refine Ev.step (fun k => by rw [laws_FnExactLeftAfter.j0, if_neg (by decide)]) (aj ta (aj (ib.same A n (by omega) oa) (af rfl (aj hkm (aH (show ¬ (km < 0) by omega) (aj (aV.same v hv) (af rfl ?_)))))))
  rw [bne_self_eq_false]
  refine Ev.step (fun k => by rw [laws_FnExactLeftAfter.j1, if_neg (by decide)]) (aj (bG.is v (by omega) 1 (by omega) (by omega)) (aj held (aH (show ¬ ((1 : Int) + (v.length : Int) < 0) by omega) (af rfl (aj ta (aD rfl (aj ht (aj (aV.same v hv) (af rfl ?_)))))))))
  show Ev (fun k => laws_FnExactLeftAfter.j2 k (jZ v.length 1) (1 + v.length) (b != b)) true
  rw [bne_self_eq_false]
  exact Ev.step (fun k => by rw [laws_FnExactLeftAfter.j2, if_neg (by decide)]) (aj held (aH (show ¬ ((1 : Int) + (v.length : Int) < 0) by omega) (af rfl (Ev.now _))))
end Go.Proofs.YtmhjmicplaolmaaGreatDoor.Pure
