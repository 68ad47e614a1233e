/- A mark's text. No condition. -/
import Derived.Test.YtehgojpiahmalaaPSrtx8
import Derived.Test.YtehgojpiahmalaaLoops
namespace Go.Proofs.Ytehgojpiahmalaa.PSrt
open Go.RowKit Go.Proofs.YtehgojpiahmalaaW.PrintWords Go.Proofs.YtehgojpiahmalaaW.PrintLast Go.Proofs.YtehgojpiahmalaaW.PrintMore Go.Proofs.Ytehgojpiahmalaa.Aid
set_option linter.unusedSimpArgs false
set_option linter.unusedVariables false
/- marks -/
theorem laws_markText.loop (n : Nat) : ∀ (x : Int) (acc : ByteArray), 0 ≤ x → x.toNat ≤ n → acc.size + n ≤ 9223372036854775000 → ∃ r, Ev (fun k => laws_markText.l0 k x acc) r := by
  induction n with
  | zero =>
    intro x acc h0 h1 h2
    refine ⟨_, Ev.step (fun k => by rw [laws_markText.l0, if_neg (by omega), if_pos (by omega)]) (Ev.now _)⟩
  | succ n ih =>
    intro x acc h0 h1 h2
    by_cases hx : x > 0
    · have e : Int.tdiv x 10 = x / 10 := Int.tdiv_eq_ediv_of_nonneg h0
      have hs : (strOfNums [(wrap64 (48 + (Int.tmod x 10))) % 256]).size = 1 := rfl
      have hz : ((strOfNums [(wrap64 (48 + (Int.tmod x 10))) % 256]) ++ acc).size = 1 + acc.size := by rw [ByteArray.size_append, hs]
      obtain ⟨r, hr⟩ := ih (wrap64 (Int.tdiv x 10)) ((strOfNums [(wrap64 (48 + (Int.tmod x 10))) % 256]) ++ acc) (by rw [e]; unfold wrap64; omega) (by rw [e]; unfold wrap64; omega) (by rw [hz]; omega)
      refine ⟨r, Ev.step (fun k => by rw [laws_markText.l0, if_pos hx, Option.bind_some, if_pos (by rw [hs]; omega)]) hr⟩
    · exact ⟨_, Ev.step (fun k => by rw [laws_markText.l0, if_neg hx, if_pos (by omega)]) (Ev.now _)⟩
theorem laws_markText.is (x : Int) (h0 : 0 ≤ x) (h1 : x ≤ 9223372036854770000) : ∃ r, Ev (fun k => laws_markText.f k x) r := by
  by_cases h : x ≤ 0
  · exact ⟨_, ev_pos h (Ev.now _)⟩
  · obtain ⟨r, hr⟩ := laws_markText.loop x.toNat x ⟨#[]⟩ h0 (Nat.le_refl _) (by show 0 + _ ≤ _; omega)
    exact ⟨r, ev_neg h hr⟩
noncomputable def markT (x : Int) : ByteArray := open Classical in if h : 0 ≤ x ∧ x ≤ 9223372036854770000 then Classical.choose (laws_markText.is x h.1 h.2) else ⟨#[]⟩
theorem markT_spec (x : Int) (h0 : 0 ≤ x) (h1 : x ≤ 9223372036854770000) : Ev (fun k => laws_markText.f k x) (markT x) := by
  unfold markT; rw [dif_pos ⟨h0, h1⟩]; exact Classical.choose_spec (laws_markText.is x h0 h1)
end Go.Proofs.Ytehgojpiahmalaa.PSrt

/- SortFaults of the program and of the reference agree at every list of faults; a second call answers anew and shares nothing: no condition. -/
namespace Go.Proofs.Ytehgojpiahmalaa.PSrt
open Go.RowKit Go.Proofs.YtehgojpiahmalaaW.PrintWords Go.Proofs.YtehgojpiahmalaaW.PrintLast Go.Proofs.YtehgojpiahmalaaW.PrintMore Go.Proofs.Ytehgojpiahmalaa.Aid Go.Proofs.Ytehgojpiahmalaa.Loops
set_option linter.unusedSimpArgs false
set_option linter.unusedVariables false
def ft (x : S80) : S82 := ⟨x.f0, x.f1⟩
def fGood (x : S80) : Prop := x.f0.size ≤ 9223372036854775807
theorem laws_eqFault.is (x y : S82) : ∃ r, Ev (fun _ => laws_eqFault.f x.f0 x.f1 y.f0 y.f1) r ∧ (r = true ↔ x = y) := by
  cases x with | mk a b => cases y with | mk c d =>
  unfold laws_eqFault.f
  by_cases h : a.toList = c.toList
  · by_cases h2 : b = d
    · exact ⟨true, ev_pos h (ev_pos h2 (Ev.now _)), by simp [h2, eq_of_toList h]⟩
    · exact ⟨false, ev_pos h (ev_neg h2 (Ev.now _)), by simp [h2]⟩
  · exact ⟨false, ev_neg h (Ev.now _), by simp; intro e; exact absurd (by rw [e]) h⟩
theorem laws_eqFaultS.is (a b : List S82) (hM : a.length ≤ 9223372036854775806) : ∃ r, Ev (fun k => laws_eqFaultS.f k a b) r ∧ (r = true ↔ a = b) :=
  eq_all z82 a b hM _ (fun k i => laws_eqFaultS.l0 k a b i) (fun _ x y => laws_eqFault.f x.f0 x.f1 y.f0 y.f1) (fun k => rfl)
    (fun hl k i h0 h1 => by show laws_eqFaultS.l0 (k + 1) a b i = _; rw [laws_eqFaultS.l0, if_pos h1, if_pos h0, if_pos (by omega)]; rfl)
    (fun k i h => by show laws_eqFaultS.l0 (k + 1) a b i = _; rw [laws_eqFaultS.l0, if_neg h]) (fun x _ y _ => laws_eqFault.is x y)
theorem laws_eqFaultS.same (a : List S82) (hM : a.length ≤ 9223372036854775806) : Ev (fun k => laws_eqFaultS.f k a a) true := by
  obtain ⟨r, hr, e⟩ := laws_eqFaultS.is a a hM
  rwa [e.2 rfl] at hr
theorem laws_szFault.is (e : S80) (he : fGood e) (x : Int) (h0 : 0 ≤ x) (h1 : x ≤ 1048576) : ∃ r, Ev (fun _ => laws_szFault.f e.f0 e.f1 x) r ∧ (r < 0 ∨ (0 ≤ r ∧ r ≤ x ∧ True)) := by
  unfold fGood at he
  have hw : wrap64 (x - (e.f0.size : Int)) = x - (e.f0.size : Int) := wrap_id (by omega) (by omega)
  unfold laws_szFault.f
  rw [hw]
  by_cases h : x - (e.f0.size : Int) < 0
  · exact ⟨-1, ev_pos h (Ev.now _), .inl (by omega)⟩
  · exact ⟨_, ev_neg h (Ev.now _), .inr ⟨by omega, by omega, trivial⟩⟩
theorem laws_szFaultS.is (l : List S80) (hl : l.length ≤ 9223372036854775807) (hg : ∀ e ∈ l, fGood e) (x : Int) (h0 : 0 ≤ x) (h1 : x ≤ 1048576) : ∃ r, Ev (fun k => laws_szFaultS.f k l x) r ∧ (r < 0 ∨ l.length ≤ 1048576) := by
  have hw : wrap64 (x - (l.length : Int)) = x - (l.length : Int) := wrap_id (by omega) (by omega)
  unfold laws_szFaultS.f
  rw [hw]
  by_cases h : x - (l.length : Int) < 0
  · exact ⟨-1, ev_pos h (Ev.now _), .inl (by omega)⟩
  · obtain ⟨r, hr, e⟩ := sz_loop z80 l (by omega) (fun k x i => laws_szFaultS.l0 k l x i) (fun _ e x => laws_szFault.f e.f0 e.f1 x) (fun _ => True) 1048576
      (fun k x i h0 h1 => by show laws_szFaultS.l0 (k + 1) l x i = _; rw [laws_szFaultS.l0, if_pos h1, if_pos h0]; rfl)
      (fun k x i h => by show laws_szFaultS.l0 (k + 1) l x i = _; rw [laws_szFaultS.l0, if_neg h]) (fun e he x h0 h1 => laws_szFault.is e (hg e he) x h0 h1)
      l.length (x - (l.length : Int)) 0 (by omega) (by omega) (by omega) (by omega) (by omega)
    exact ⟨r, ev_neg h hr, .inr (by omega)⟩
theorem laws_toFaultS.is (l : List S80) (hl : l.length ≤ 1048576) : Ev (fun k => laws_toFaultS.f k l) (l.map ft) := by
  unfold laws_toFaultS.f
  refine ev_pos (by omega) (ev_pos (by omega) ?_)
  have h := to_loop z80 l (by omega) (fun k acc i => laws_toFaultS.l0 k l acc i) (fun _ e => laws_toFault.f e.f0 e.f1) (fun y => (⟨y.1, y.2⟩ : S82)) (fun e => (e.f0, e.f1))
    (fun k acc i h0 h1 hz => by
      show laws_toFaultS.l0 (k + 1) l acc i = _
      rw [laws_toFaultS.l0, if_pos h1, if_pos h0]
      have hz' : i < (acc.length : Int) := by omega
      simp only [if_pos hz']; rfl)
    (fun k acc i h => by show laws_toFaultS.l0 (k + 1) l acc i = _; rw [laws_toFaultS.l0, if_neg h]) (fun e _ => Ev.now _) l.length (List.replicate ((l.length : Int) : Int).toNat z82) 0 (by simp) (by omega) (by omega) (by simp) (by omega)
  exact h
/- marks -/
noncomputable def marksF (n : Nat) (a : Int) : List S82 := (List.range n).map fun j : Nat => (⟨markT (a + 2 * (j : Int)), a + 2 * (j : Int) + 1⟩ : S82)
theorem marksF_length (n : Nat) (a : Int) : (marksF n a).length = n := by simp [marksF]
theorem laws_markFaultS.loop (n : Nat) (hn : n ≤ 1000000000000) (a : Int) (ha : 0 ≤ a) (ha2 : a ≤ 1000000000000) (d : Nat) : ∀ (l : List S82) (i : Int), l.length = n → 0 ≤ i → i ≤ n → (n : Int) - i = d → l.take i.toNat = (marksF n a).take i.toNat →
    Ev (fun k => laws_markFaultS.l0 k l (a + 2 * i) i) (a + 2 * n, marksF n a) := by
  induction d with
  | zero =>
    intro l i hl h0 h1 hd ht
    refine Ev.step (fun k => by rw [laws_markFaultS.l0, if_neg (by omega)]) (ev_some ?_)
    have hi : i.toNat = n := by omega
    rw [hi, List.take_of_length_le (by omega), List.take_of_length_le (by rw [marksF_length]; omega)] at ht
    rw [ht, show i = (n : Int) by omega]
  | succ d ih =>
    intro l i hl h0 h1 hd ht
    refine Ev.step (fun k => by rw [laws_markFaultS.l0, if_pos (by omega)]) ?_
    refine ev_bind (markT_spec (a + 2 * i) (by omega) (by omega)) (ev_pos h0 ?_)
    simp only [Option.bind_some]
    have hil : i.toNat < l.length := by omega
    have e1 : (rd_T82 (l.set i.toNat (⟨markT (a + 2 * i), (rd_T82 l i).f1⟩ : S82)) i).f0 = markT (a + 2 * i) := by
      unfold rd_T82
      rw [List.getD_eq_getElem?_getD, List.getElem?_set_self hil]; rfl
    rw [e1, List.set_set, wrap_id (x := a + 2 * i + 1) (by omega) (by omega), wrap_id (x := a + 2 * i + 1 + 1) (by omega) (by omega), wrap_id (x := i + 1) (by omega) (by omega), show a + 2 * i + 1 + 1 = a + 2 * (i + 1) by omega]
    refine ih _ (i + 1) (by rw [List.length_set]; exact hl) (by omega) (by omega) (by omega) ?_
    have him : i.toNat < (marksF n a).length := by rw [marksF_length]; omega
    rw [show (i + 1).toNat = i.toNat + 1 by omega, List.take_add_one, List.take_add_one, List.take_set_of_le (Nat.le_refl _), ht, List.getElem?_set_self hil, List.getElem?_eq_getElem him]
    congr 1
    simp [marksF, show (i.toNat : Int) = i by omega]
theorem laws_markFaultS.is (l : List S82) (hl : l.length ≤ 1000000000000) (a : Int) (ha : 0 ≤ a) (ha2 : a ≤ 1000000000000) : Ev (fun k => laws_markFaultS.f k l a) (a + 2 * l.length, marksF l.length a) := by
  have h := laws_markFaultS.loop l.length hl a ha ha2 l.length l 0 rfl (by omega) (by omega) (by omega) (by simp)
  rw [show a + 2 * (0 : Int) = a by omega] at h; exact h
theorem laws_heldFaultS.loop (n : Nat) (hn : n ≤ 1000000000000) (a : Int) (ha : 0 ≤ a) (ha2 : a ≤ 1000000000000) (d : Nat) : ∀ i : Int, 0 ≤ i → i ≤ n → (n : Int) - i = d →
    Ev (fun k => laws_heldFaultS.l0 k (marksF n a) (a + 2 * i) i) (a + 2 * n) := by
  induction d with
  | zero =>
    intro i h0 h1 hd
    exact Ev.step (fun k => by rw [laws_heldFaultS.l0, marksF_length, if_neg (by omega)]) (ev_some (by omega))
  | succ d ih =>
    intro i h0 h1 hd
    refine Ev.step (fun k => by rw [laws_heldFaultS.l0, marksF_length, if_pos (by omega), if_pos h0]) ?_
    refine ev_bind (markT_spec (a + 2 * i) (by omega) (by omega)) ?_
    have e : rd_T82 (marksF n a) i = ⟨markT (a + 2 * i), a + 2 * i + 1⟩ := by
      have him : i.toNat < (marksF n a).length := by rw [marksF_length]; omega
      unfold rd_T82
      rw [List.getD_eq_getElem?_getD, List.getElem?_eq_getElem him]
      simp [marksF, show (i.toNat : Int) = i by omega]
    rw [e, wrap_id (x := a + 2 * i + 1) (by omega) (by omega), wrap_id (x := a + 2 * i + 1 + 1) (by omega) (by omega), wrap_id (x := i + 1) (by omega) (by omega), show a + 2 * i + 1 + 1 = a + 2 * (i + 1) by omega]
    refine ev_pos rfl (ev_pos rfl ?_)
    exact ih (i + 1) (by omega) (by omega) (by omega)
theorem laws_heldFaultS.is (n : Nat) (hn : n ≤ 1000000000000) (a : Int) (ha : 0 ≤ a) (ha2 : a ≤ 1000000000000) : Ev (fun k => laws_heldFaultS.f k (marksF n a) a) (a + 2 * n) := by
  have h := laws_heldFaultS.loop n hn a ha ha2 n 0 (by omega) (by omega) (by omega)
  rw [show a + 2 * (0 : Int) = a by omega] at h; exact h
/- the reference's insertions -/
theorem spec_l9Less.is (x y : S82) : spec_l9Less.f x.f0 x.f1 y.f0 y.f1 = some (ltOf sortF_cf x y) := by
  rw [sortO_lt]
  unfold spec_l9Less.f
  rw [bytesLess_eq]
  by_cases h1 : x.f0.toList < y.f0.toList
  · simp [h1]
  · by_cases h2 : x.f0.toList = y.f0.toList
    · simp [h2, List.lt_irrefl]
    · simp [h1, h2]
theorem f_eq (x y : S82) : ((y.f0.toList == x.f0.toList) && (y.f1 == x.f1)) = decide (y = x) := by
  cases x with | mk a b => cases y with | mk c d =>
  rw [Bool.eq_iff_iff]
  simp only [Bool.and_eq_true, beq_iff_eq, decide_eq_true_eq, S82.mk.injEq]
  exact ⟨fun ⟨h1, h2⟩ => ⟨eq_of_toList h1, h2⟩, fun ⟨h1, h2⟩ => ⟨by rw [h1], h2⟩⟩
def ins (out : List S82) (x : S82) (n : Nat) : List S82 :=
  if 0 < SortLaw.cut (ltOf sortF_cf) out x n ∧ out.getD (SortLaw.cut (ltOf sortF_cf) out x n - 1) default = x then out else out.take (SortLaw.cut (ltOf sortF_cf) out x n) ++ x :: out.drop (SortLaw.cut (ltOf sortF_cf) out x n)
theorem put_ins (out : List S82) (x : S82) : SortLaw.put (ltOf sortF_cf) out x = ins out x out.length := rfl
theorem put_len (out : List S82) (x : S82) : (SortLaw.put (ltOf sortF_cf) out x).length ≤ out.length + 1 := by
  unfold SortLaw.put
  split
  · omega
  · rw [List.length_append, List.length_cons, List.length_take, List.length_drop]; omega
theorem spec_l9Sort.inner (out l : List S82) (N i : Int) (x : S82) (hM : out.length ≤ 1000000000) (R : List S82) : ∀ n : Nat, n ≤ out.length → Ev (fun k => spec_l9Sort.l0 k (ins out x n) l N (wrap64 (i + 1))) R → Ev (fun k => spec_l9Sort.l1 k out (n : Int) l N i x.f0 x.f1) R := by
  intro n
  induction n with
  | zero =>
    intro hn hR
    have e : ins out x 0 = [] ++ out.take (0 : Int).toNat ++ [x] ++ ([] ++ out.drop (0 : Int).toNat) := by
      unfold ins
      rw [if_neg (fun h => absurd h.1 (Nat.lt_irrefl _))]
      simp [SortLaw.cut]
    rw [e] at hR
    refine Ev.step (fun k => ?_) hR
    rw [show ((0 : Nat) : Int) = 0 from rfl, spec_l9Sort.l1, if_neg (by omega)]
    simp only [Option.bind_some]
    rw [if_pos (by omega), if_pos (by omega), if_pos (by simp; omega), if_pos (by simp), if_pos (by simp), if_pos (by simp; omega)]
  | succ n ih =>
    intro hn hR
    have hlt : n < out.length := by omega
    have hw : wrap64 (((n + 1 : Nat) : Int) - 1) = (n : Int) := by rw [wrap_id (by omega) (by omega)]; omega
    have hrd : rd_T82 out (n : Int) = out.getD n default := rfl
    cases hL : ltOf sortF_cf x (out.getD n default) with
    | true =>
      refine Ev.step (fun k => by rw [spec_l9Sort.l1, if_pos (by omega), hw, if_pos (by omega), if_pos (by omega), hrd, spec_l9Less.is, hL, Option.bind_some, if_pos rfl]) ?_
      refine ih (by omega) ?_
      have : ins out x (n + 1) = ins out x n := by
        unfold ins
        rw [show SortLaw.cut (ltOf sortF_cf) out x (n + 1) = SortLaw.cut (ltOf sortF_cf) out x n from if_pos hL]
      rwa [this] at hR
    | false =>
      have hcut : SortLaw.cut (ltOf sortF_cf) out x (n + 1) = n + 1 := if_neg (by rw [hL]; simp)
      unfold ins at hR
      rw [hcut] at hR
      simp only [Nat.add_sub_cancel] at hR
      by_cases hx : out.getD n default = x
      · rw [if_pos ⟨by omega, hx⟩] at hR
        refine Ev.step (fun k => by rw [spec_l9Sort.l1, if_pos (by omega), hw, if_pos (by omega), if_pos (by omega), hrd, spec_l9Less.is, hL, Option.bind_some, if_neg (by simp), f_eq, if_pos (decide_eq_true hx)]) hR
      · rw [if_neg (fun h => hx h.2)] at hR
        have e : out.take (n + 1) ++ x :: out.drop (n + 1) = [] ++ out.take (((n + 1 : Nat) : Int)).toNat ++ [x] ++ ([] ++ out.drop (((n + 1 : Nat) : Int)).toNat) := by simp
        rw [e] at hR
        refine Ev.step (fun k => ?_) hR
        rw [spec_l9Sort.l1, if_pos (by omega), hw, if_pos (by omega), if_pos (by omega), hrd, spec_l9Less.is, hL, Option.bind_some, if_neg (by simp), f_eq, if_neg (by rw [decide_eq_false hx]; simp)]
        simp only [Option.bind_some]
        rw [if_pos (by omega), if_pos (by omega), if_pos (by simp; omega), if_pos (by simp; omega), if_pos (by simp; omega), if_pos (by simp; omega)]
theorem spec_l9Sort.loop (l : List S82) (hM : l.length ≤ 1000000) (d : Nat) : ∀ (out : List S82) (i : Int), 0 ≤ i → i ≤ l.length → (out.length : Int) ≤ i → (l.length : Int) - i = d →
    Ev (fun k => spec_l9Sort.l0 k out l (l.length : Int) i) ((l.drop i.toNat).foldl (SortLaw.put (ltOf sortF_cf)) out) := by
  induction d with
  | zero =>
    intro out i h0 h1 h2 hd
    rw [List.drop_eq_nil_iff.mpr (by omega)]
    exact Ev.step (fun k => by rw [spec_l9Sort.l0, if_neg (by omega)]) (Ev.now out)
  | succ d ih =>
    intro out i h0 h1 h2 hd
    have hlt : i < (l.length : Int) := by omega
    rw [drop_list l z82 i h0 hlt, List.foldl_cons]
    refine Ev.step (fun k => by rw [spec_l9Sort.l0, if_pos hlt, if_pos h0, if_pos hlt]) ?_
    show Ev (fun k => spec_l9Sort.l1 k out (out.length : Int) l (l.length : Int) i (l.getD i.toNat z82).f0 (l.getD i.toNat z82).f1) _
    refine spec_l9Sort.inner out l _ i _ (by omega) _ out.length (Nat.le_refl _) ?_
    rw [wrap_id (x := i + 1) (by omega) (by omega), ← put_ins]
    have := put_len out (l.getD i.toNat z82)
    exact ih _ (i + 1) (by omega) (by omega) (by omega) (by omega)
def sortR (l : List S82) : List S82 × Bool := if l.length ≤ 100 then (l.foldl (SortLaw.put (ltOf sortF_cf)) [], true) else ([], false)
theorem puts_len : ∀ (l out : List S82), (l.foldl (SortLaw.put (ltOf sortF_cf)) out).length ≤ out.length + l.length
  | [], out => by simp
  | x :: l, out => by
    have h := puts_len l (SortLaw.put (ltOf sortF_cf) out x)
    have h2 := put_len out x
    rw [List.foldl_cons, List.length_cons]; omega
theorem sortR_len (l : List S82) : (sortR l).1.length ≤ 100 := by
  unfold sortR
  split
  · have := puts_len l []
    show (l.foldl (SortLaw.put (ltOf sortF_cf)) []).length ≤ 100
    simp only [List.length_nil] at this
    omega
  · exact Nat.zero_le _
theorem spec_SortFaults.is (l : List S82) : Ev (fun k => spec_SortFaults.f k l) (sortR l) := by
  unfold spec_SortFaults.f sortR
  by_cases h : l.length ≤ 100
  · rw [if_pos h]
    refine ev_neg (by omega) (ev_bind ?_ (Ev.now _))
    have := spec_l9Sort.loop l (by omega) l.length [] 0 (by omega) (by omega) (by simp) (by omega)
    exact this
  · rw [if_neg h]
    exact ev_pos (by omega) (Ev.now _)
theorem impl_SortFaults.is (l : List S82) : impl_SortFaults.f l = some (sortR l) := by
  unfold impl_SortFaults.f impl_sortFaults.f sortR
  by_cases h : l.length ≤ 100
  · rw [if_neg (by omega), if_pos h, if_pos h]; rfl
  · rw [if_pos (by omega), if_neg h]
theorem Pure.FnExactSortFaults : laws_FnExactSortFaults.Pure := by
  intro l0 ⟨hl, hg⟩
  suffices h : Ev (fun k => laws_FnExactSortFaults.f k l0) true by
    obtain ⟨k, hk⟩ := h
    exact ⟨k, hk k (Nat.le_refl _)⟩
  obtain ⟨r, hr, e⟩ := laws_szFaultS.is l0 hl (fun e he => (hg e he).1) 1048576 (by omega) (by omega)
  unfold laws_FnExactSortFaults.f
  refine ev_bind hr (ev_ite (fun _ => Ev.now _) (fun hneg => ?_))
  have hlen : l0.length ≤ 1048576 := by rcases e with e | e
                                        · exact absurd e hneg
                                        · exact e
  have hto := laws_toFaultS.is l0 hlen
  have hmz : (l0.map ft).length ≤ 1048576 := by rw [List.length_map]; exact hlen
  generalize hX : l0.map ft = X at hto hmz
  have hsp := spec_SortFaults.is X
  have him := impl_SortFaults.is X
  have hrl := sortR_len X
  generalize hR : sortR X = R at hsp him hrl
  have heq := laws_eqFaultS.same R.1 (by omega)
  have heX := laws_eqFaultS.same X (by omega)
  refine ev_bind hto (ev_bind hsp (ev_bind hto (ev_bind0 him (ev_bind heq (ev_pos rfl ?_)))))
  rw [show (R.2 != R.2) = false from by cases R.2 <;> rfl]
  refine Ev.step (fun k => by rw [laws_FnExactSortFaults.j0]) (ev_neg (by simp) (ev_bind hto (ev_bind heX (ev_pos rfl (ev_bind (laws_markFaultS.is X (by omega) 1 (by omega) (by omega)) ?_)))))
  refine ev_neg (show ¬ (1 + 2 * (X.length : Int)) < 0 by omega) (ev_bind heq (ev_pos rfl ?_))
  rw [show (R.2 != R.2) = false from by cases R.2 <;> rfl]
  refine Ev.step (fun k => by rw [laws_FnExactSortFaults.j1]) (ev_neg (by simp) (ev_bind (laws_markFaultS.is R.1 (by omega) 1 (by omega) (by omega)) ?_))
  refine ev_bind (laws_heldFaultS.is R.1.length (by omega) 1 (by omega) (by omega)) (ev_neg (by omega) (ev_pos rfl ?_))
  refine ev_bind hto (ev_bind0 him (ev_bind heq (ev_pos rfl ?_)))
  rw [show (R.2 != R.2) = false from by cases R.2 <;> rfl]
  refine Ev.step (fun k => by rw [laws_FnExactSortFaults.j2]) (ev_neg (by simp) (ev_bind (laws_heldFaultS.is R.1.length (by omega) 1 (by omega) (by omega)) (ev_neg (show ¬ (1 + 2 * (R.1.length : Int)) < 0 by omega) (ev_pos rfl (Ev.now _)))))
end Go.Proofs.Ytehgojpiahmalaa.PSrt

