/- What the law's own helpers over lists of texts tell: sizes, equality, marks. -/
import Derived.Test.YtkkcpgahgehedaaDoorPathB
namespace Go.Proofs.YtkkcpgahgehedaaDoor.PPath
open Go.RowKit Go.Proofs.YtkkcpgahgehedaaDoorW.PrintWords Go.Proofs.YtkkcpgahgehedaaDoorW.PrintLast Go.Proofs.YtkkcpgahgehedaaDoorW.PrintMore Go.Proofs.YtkkcpgahgehedaaDoor.Aid
set_option linter.unusedSimpArgs false
set_option linter.unusedVariables false

theorem laws_eqStringS.loop (a b : List ByteArray) (hl : a.length = b.length) (hz : a.length ≤ 9223372036854775806) (d : Nat) : ∀ i : Int, 0 ≤ i → i ≤ a.length → (a.length : Int) - i = d →
    Ev (fun k => laws_eqStringS.l0 k a b i) (decide (a.drop i.toNat = b.drop i.toNat)) := by
  induction d with
  | zero =>
    intro i h0 h1 hd
    refine Ev.step (fun k => by rw [laws_eqStringS.l0, if_neg (by omega)]) (ev_some ?_)
    rw [List.drop_eq_nil_iff.mpr (show a.length ≤ i.toNat by omega), List.drop_eq_nil_iff.mpr (show b.length ≤ i.toNat by omega)]
    exact (decide_eq_true rfl).symm
  | succ d ih =>
    intro i h0 h1 hd
    have hlt : i < (a.length : Int) := by omega
    have hlt' : i < (b.length : Int) := by omega
    rw [rdOf_drop a i h0 hlt, rdOf_drop b i h0 hlt']
    refine Ev.step (fun k => by rw [laws_eqStringS.l0, if_pos hlt, if_pos h0, if_pos hlt', wrap_id (by omega) (by omega)]) ?_
    refine ev_ite (fun h => ?_) (fun h => ?_)
    · refine ev_eq (ih (i + 1) (by omega) (by omega) (by omega)) (decide_eq_decide.mpr ?_)
      rw [List.cons.injEq]
      exact ⟨fun hp => ⟨eq_of_toList h, hp⟩, fun hp => hp.2⟩
    · refine ev_some (decide_eq_false ?_).symm
      rw [List.cons.injEq]
      exact fun hp => h (by rw [hp.1])
theorem laws_eqStringS.is (a b : List ByteArray) (hz : a.length ≤ 9223372036854775806) : Ev (fun k => laws_eqStringS.f k a b) (decide (a = b)) := by
  refine ev_ite (fun h => ?_) (fun h => ?_)
  · exact laws_eqStringS.loop a b (by omega) hz a.length 0 (by omega) (by omega) (by omega)
  · exact ev_some (decide_eq_false (fun e => h (by rw [e]))).symm
theorem laws_eqStringS.same (a : List ByteArray) (hz : a.length ≤ 9223372036854775806) : Ev (fun k => laws_eqStringS.f k a a) true := ev_eq (laws_eqStringS.is a a hz) (decide_eq_true rfl)

/- marks -/
theorem laws_markText.loop (n : Nat) : ∀ (x : Int) (acc : ByteArray), 0 ≤ x → x.toNat ≤ n → acc.size + n ≤ 9223372036854775000 → ∃ r, Ev (fun k => laws_markText.l0 k x acc) r := by
  induction n with
  | zero =>
    intro x acc h0 h1 h2
    refine ⟨_, Ev.step (fun k => by rw [laws_markText.l0, if_neg (by omega), if_pos (by omega)]) (Ev.now _)⟩
  | succ n ih =>
    intro x acc h0 h1 h2
    by_cases hx : x > 0
    · have e : Int.tdiv x 10 = x / 10 := Int.tdiv_eq_ediv_of_nonneg h0
      have hs : (strOfNums [(wrap64 (48 + (Int.tmod x 10))) % 256]).size = 1 := rfl
      have hz : ((strOfNums [(wrap64 (48 + (Int.tmod x 10))) % 256]) ++ acc).size = 1 + acc.size := by rw [ByteArray.size_append, hs]
      obtain ⟨r, hr⟩ := ih (wrap64 (Int.tdiv x 10)) ((strOfNums [(wrap64 (48 + (Int.tmod x 10))) % 256]) ++ acc) (by rw [e]; unfold wrap64; omega) (by rw [e]; unfold wrap64; omega) (by rw [hz]; omega)
      refine ⟨r, Ev.step (fun k => by rw [laws_markText.l0, if_pos hx, Option.bind_some, if_pos (by rw [hs]; omega)]) hr⟩
    · exact ⟨_, Ev.step (fun k => by rw [laws_markText.l0, if_neg hx, if_pos (by omega)]) (Ev.now _)⟩
theorem laws_markText.is (x : Int) (h0 : 0 ≤ x) (h1 : x ≤ 9223372036854770000) : ∃ r, Ev (fun k => laws_markText.f k x) r := by
  by_cases h : x ≤ 0
  · exact ⟨_, ev_pos h (Ev.now _)⟩
  · obtain ⟨r, hr⟩ := laws_markText.loop x.toNat x ⟨#[]⟩ h0 (Nat.le_refl _) (by show 0 + _ ≤ _; omega)
    exact ⟨r, ev_neg h hr⟩
noncomputable def markT (x : Int) : ByteArray := open Classical in if h : 0 ≤ x ∧ x ≤ 9223372036854770000 then Classical.choose (laws_markText.is x h.1 h.2) else ⟨#[]⟩
theorem markT_spec (x : Int) (h0 : 0 ≤ x) (h1 : x ≤ 9223372036854770000) : Ev (fun k => laws_markText.f k x) (markT x) := by
  unfold markT; rw [dif_pos ⟨h0, h1⟩]; exact Classical.choose_spec (laws_markText.is x h0 h1)
noncomputable def marksS (n : Nat) (a : Int) : List ByteArray := (List.range n).map fun j : Nat => markT (a + (j : Int))
theorem marksS_length (n : Nat) (a : Int) : (marksS n a).length = n := by simp [marksS]
theorem laws_markStringS.loop (n : Nat) (hn : n ≤ 4611686018427387904) (a : Int) (ha : 0 ≤ a) (ha2 : a ≤ 1000000000000) (d : Nat) : ∀ (l : List ByteArray) (i : Int), l.length = n → 0 ≤ i → i ≤ n → (n : Int) - i = d → l.take i.toNat = (marksS n a).take i.toNat →
    Ev (fun k => laws_markStringS.l0 k l (a + i) i) (a + n, marksS n a) := by
  induction d with
  | zero =>
    intro l i hl h0 h1 hd ht
    refine Ev.step (fun k => by rw [laws_markStringS.l0, if_neg (by omega)]) (ev_some ?_)
    have hi : i.toNat = n := by omega
    rw [hi, List.take_of_length_le (by omega), List.take_of_length_le (by rw [marksS_length]; omega)] at ht
    rw [ht, show i = (n : Int) by omega]
  | succ d ih =>
    intro l i hl h0 h1 hd ht
    refine Ev.step (fun k => by rw [laws_markStringS.l0, if_pos (by omega)]) ?_
    refine ev_bind (markT_spec (a + i) (by omega) (by omega)) (ev_pos h0 ?_)
    rw [wrap_id (x := a + i + 1) (by omega) (by omega), wrap_id (x := i + 1) (by omega) (by omega), show a + i + 1 = a + (i + 1) by omega]
    refine ih _ (i + 1) (by rw [List.length_set]; exact hl) (by omega) (by omega) (by omega) ?_
    have hil : i.toNat < l.length := by omega
    have him : i.toNat < (marksS n a).length := by rw [marksS_length]; omega
    rw [show (i + 1).toNat = i.toNat + 1 by omega, List.take_add_one, List.take_add_one, List.take_set_of_le (Nat.le_refl _), ht, List.getElem?_set_self hil, List.getElem?_eq_getElem him]
    congr 1
    simp [marksS, show (i.toNat : Int) = i by omega]
theorem laws_markStringS.is (l : List ByteArray) (hl : l.length ≤ 4611686018427387904) (a : Int) (ha : 0 ≤ a) (ha2 : a ≤ 1000000000000) : Ev (fun k => laws_markStringS.f k l a) (a + l.length, marksS l.length a) := by
  have h := laws_markStringS.loop l.length hl a ha ha2 l.length l 0 rfl (by omega) (by omega) (by omega) (by simp)
  rw [Int.add_zero] at h; exact h
theorem laws_heldStringS.loop (n : Nat) (hn : n ≤ 4611686018427387904) (a : Int) (ha : 0 ≤ a) (ha2 : a ≤ 1000000000000) (d : Nat) : ∀ i : Int, 0 ≤ i → i ≤ n → (n : Int) - i = d →
    Ev (fun k => laws_heldStringS.l0 k (marksS n a) (a + i) i) (a + n) := by
  induction d with
  | zero =>
    intro i h0 h1 hd
    exact Ev.step (fun k => by rw [laws_heldStringS.l0, marksS_length, if_neg (by omega)]) (ev_some (by omega))
  | succ d ih =>
    intro i h0 h1 hd
    refine Ev.step (fun k => by rw [laws_heldStringS.l0, marksS_length, if_pos (by omega), if_pos h0]) ?_
    refine ev_bind (markT_spec (a + i) (by omega) (by omega)) ?_
    have e : rdOf ByteArray.empty (marksS n a) i = markT (a + i) := by
      have him : i.toNat < (marksS n a).length := by rw [marksS_length]; omega
      unfold rdOf
      rw [List.getD_eq_getElem?_getD, List.getElem?_eq_getElem him]
      simp [marksS, show (i.toNat : Int) = i by omega]
    refine ev_pos (by rw [e]) ?_
    rw [wrap_id (x := a + i + 1) (by omega) (by omega), wrap_id (x := i + 1) (by omega) (by omega), show a + i + 1 = a + (i + 1) by omega]
    exact ih (i + 1) (by omega) (by omega) (by omega)
theorem laws_heldStringS.is (n : Nat) (hn : n ≤ 4611686018427387904) (a : Int) (ha : 0 ≤ a) (ha2 : a ≤ 1000000000000) : Ev (fun k => laws_heldStringS.f k (marksS n a) a) (a + n) := by
  have h := laws_heldStringS.loop n hn a ha ha2 n 0 (by omega) (by omega) (by omega)
  rw [Int.add_zero] at h; exact h

/- sizes, copies -/
theorem laws_szStringS.loop (l : List ByteArray) (hl : l.length ≤ 1000000000) (hz : ∀ p ∈ l, p.size ≤ 9223372036854775807) (N : Nat) (hN : N ≤ 1000000000000) (d : Nat) : ∀ (x i : Int), 0 ≤ i → i ≤ l.length → 0 ≤ x → x ≤ N → (l.length : Int) - i = d →
    ∃ r, Ev (fun k => laws_szStringS.l0 k l x i) r ∧ (r < 0 ∨ (0 ≤ r ∧ r ≤ N ∧ ∀ p ∈ l.drop i.toNat, p.size ≤ N)) := by
  induction d with
  | zero =>
    intro x i h0 h1 hx hx2 hd
    refine ⟨x, Ev.step (fun k => by rw [laws_szStringS.l0, if_neg (by omega)]) (Ev.now _), .inr ⟨hx, hx2, ?_⟩⟩
    rw [List.drop_eq_nil_iff.mpr (by omega)]; simp
  | succ d ih =>
    intro x i h0 h1 hx hx2 hd
    have hlt : i < (l.length : Int) := by omega
    have hm := hz _ (rdOf_mem l i h0 hlt)
    rw [rdOf_drop l i h0 hlt]
    generalize hp : rdOf ByteArray.empty l i = p at hm ⊢
    by_cases hneg : x - (p.size : Int) < 0
    · exact ⟨-1, Ev.step (fun k => by rw [laws_szStringS.l0, if_pos hlt, if_pos h0, hp, wrap_id (x := x - _) (by omega) (by omega), if_pos hneg]) (Ev.now _), .inl (by omega)⟩
    · obtain ⟨r, hr, hx⟩ := ih (x - (p.size : Int)) (i + 1) (by omega) (by omega) (by omega) (by omega) (by omega)
      refine ⟨r, Ev.step (fun k => by rw [laws_szStringS.l0, if_pos hlt, if_pos h0, hp, wrap_id (x := x - _) (by omega) (by omega), if_neg hneg, wrap_id (x := i + 1) (by omega) (by omega)]) hr, ?_⟩
      rcases hx with h | ⟨h1, h2, h3⟩
      · exact .inl h
      · refine .inr ⟨h1, h2, fun q hq => ?_⟩
        rcases List.mem_cons.1 hq with rfl | hq
        · omega
        · exact h3 q hq
theorem laws_szStringS.is (l : List ByteArray) (hl : l.length ≤ 9223372036854775807) (hz : ∀ p ∈ l, p.size ≤ 9223372036854775807) (N : Nat) (hN : N ≤ 1000000000) (x : Int) (hx0 : 0 ≤ x) (hx : x ≤ N) :
    ∃ r, Ev (fun k => laws_szStringS.f k l x) r ∧ (r < 0 ∨ (0 ≤ r ∧ r ≤ N ∧ l.length ≤ N ∧ ∀ p ∈ l, p.size ≤ N)) := by
  have hw : wrap64 (x - (l.length : Int)) = x - (l.length : Int) := wrap_id (by omega) (by omega)
  by_cases h : x - (l.length : Int) < 0
  · exact ⟨-1, ev_pos (by rw [hw]; exact h) (Ev.now _), .inl (by omega)⟩
  · obtain ⟨r, hr, hx⟩ := laws_szStringS.loop l (by omega) hz N (by omega) l.length (x - (l.length : Int)) 0 (by omega) (by omega) (by omega) (by omega) (by omega)
    refine ⟨r, ev_neg (by rw [hw]; exact h) (by rw [hw]; exact hr), ?_⟩
    rcases hx with h | ⟨h1, h2, h3⟩
    · exact .inl h
    · exact .inr ⟨h1, h2, by omega, by simpa using h3⟩
theorem laws_toStringS.loop (l : List ByteArray) (hl : l.length ≤ 1000000000000) (d : Nat) : ∀ (acc : List ByteArray) (i : Int), acc.length = l.length → 0 ≤ i → i ≤ l.length → acc.take i.toNat = l.take i.toNat → (l.length : Int) - i = d →
    Ev (fun k => laws_toStringS.l0 k l acc i) l := by
  induction d with
  | zero =>
    intro acc i hz h0 h1 ht hd
    refine Ev.step (fun k => by rw [laws_toStringS.l0, if_neg (by omega)]) (ev_some ?_)
    rwa [List.take_of_length_le (by omega), List.take_of_length_le (by omega)] at ht
  | succ d ih =>
    intro acc i hz h0 h1 ht hd
    have hlt : i < (l.length : Int) := by omega
    refine Ev.step (fun k => by rw [laws_toStringS.l0, if_pos hlt, if_pos h0, if_pos (by omega), wrap_id (by omega) (by omega)]) ?_
    refine ih _ (i + 1) (by rw [List.length_set]; exact hz) (by omega) (by omega) ?_ (by omega)
    have hil : i.toNat < acc.length := by omega
    have hil' : i.toNat < l.length := by omega
    rw [show (i + 1).toNat = i.toNat + 1 by omega, List.take_add_one, List.take_add_one, List.take_set_of_le (Nat.le_refl _), ht, List.getElem?_set_self hil]
    congr 1
    unfold rdOf
    rw [List.getD_eq_getElem?_getD, List.getElem?_eq_getElem hil']; rfl
theorem laws_toStringS.is (l : List ByteArray) (hl : l.length ≤ 1000000000000) : Ev (fun k => laws_toStringS.f k l) l := by
  refine ev_pos (by omega) (ev_pos (by omega) ?_)
  exact laws_toStringS.loop l hl l.length _ 0 (by simp) (by omega) (by omega) (by simp) (by omega)

/- end -/
end Go.Proofs.YtkkcpgahgehedaaDoor.PPath

