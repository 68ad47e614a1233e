/- A mark's text. No condition. -/
import Derived.Test.YtnmiglfmainhiaaGreatDoorNb
import Derived.Test.YtnmiglfmainhiaaGreatDoorPNbx19
namespace Go.Proofs.YtnmiglfmainhiaaGreatDoor.PNb
open Go.RowKit Go.Proofs.YtnmiglfmainhiaaGreatDoorW.PrintWords Go.Proofs.YtnmiglfmainhiaaGreatDoorW.PrintLast Go.Proofs.YtnmiglfmainhiaaGreatDoorW.PrintMore Go.Proofs.YtnmiglfmainhiaaGreatDoor.Aid
set_option linter.unusedSimpArgs false
set_option linter.unusedVariables false
/- marks -/
theorem laws_markText.loop (n : Nat) : ∀ (x : Int) (acc : ByteArray), 0 ≤ x → x.toNat ≤ n → acc.size + n ≤ 9223372036854775000 → ∃ r, Ev (fun k => laws_markText.l0 k x acc) r := by
  induction n with
  | zero =>
    intro x acc h0 h1 h2
    refine ⟨_, Ev.step (fun k => by rw [laws_markText.l0, if_neg (by omega), if_pos (by omega)]) (Ev.now _)⟩
  | succ n ih =>
    intro x acc h0 h1 h2
    by_cases hx : x > 0
    · have e : Int.tdiv x 10 = x / 10 := Int.tdiv_eq_ediv_of_nonneg h0
      have hs : (strOfNums [(wrap64 (48 + (Int.tmod x 10))) % 256]).size = 1 := rfl
      have hz : ((strOfNums [(wrap64 (48 + (Int.tmod x 10))) % 256]) ++ acc).size = 1 + acc.size := by rw [ByteArray.size_append, hs]
      obtain ⟨r, hr⟩ := ih (wrap64 (Int.tdiv x 10)) ((strOfNums [(wrap64 (48 + (Int.tmod x 10))) % 256]) ++ acc) (by rw [e]; unfold wrap64; omega) (by rw [e]; unfold wrap64; omega) (by rw [hz]; omega)
      refine ⟨r, Ev.step (fun k => by rw [laws_markText.l0, if_pos hx, Option.bind_some, if_pos (by rw [hs]; omega)]) hr⟩
    · exact ⟨_, Ev.step (fun k => by rw [laws_markText.l0, if_neg hx, if_pos (by omega)]) (Ev.now _)⟩
theorem laws_markText.is (x : Int) (h0 : 0 ≤ x) (h1 : x ≤ 9223372036854770000) : ∃ r, Ev (fun k => laws_markText.f k x) r := by
  by_cases h : x ≤ 0
  · exact ⟨_, ev_pos h (Ev.now _)⟩
  · obtain ⟨r, hr⟩ := laws_markText.loop x.toNat x ⟨#[]⟩ h0 (Nat.le_refl _) (by show 0 + _ ≤ _; omega)
    exact ⟨r, ev_neg h hr⟩
noncomputable def markT (x : Int) : ByteArray := open Classical in if h : 0 ≤ x ∧ x ≤ 9223372036854770000 then Classical.choose (laws_markText.is x h.1 h.2) else ⟨#[]⟩
theorem markT_spec (x : Int) (h0 : 0 ≤ x) (h1 : x ≤ 9223372036854770000) : Ev (fun k => laws_markText.f k x) (markT x) := by
  unfold markT; rw [dif_pos ⟨h0, h1⟩]; exact Classical.choose_spec (laws_markText.is x h0 h1)
end Go.Proofs.YtnmiglfmainhiaaGreatDoor.PNb

/- The marks over a file system: how far they count. -/
namespace Go.Proofs.YtnmiglfmainhiaaGreatDoor.PNb
open Go.RowKit Go.Proofs.YtnmiglfmainhiaaGreatDoorW.PrintWords Go.Proofs.YtnmiglfmainhiaaGreatDoorW.PrintLast Go.Proofs.YtnmiglfmainhiaaGreatDoorW.PrintMore Go.Proofs.YtnmiglfmainhiaaGreatDoor.Aid Go.Proofs.YtnmiglfmainhiaaGreatDoor.Loops
set_option linter.unusedSimpArgs false
set_option linter.unusedVariables false
theorem laws_markEntryS.is (n : Nat) (hn : n ≤ 1048576) (d : Nat) : ∀ (a i : Int), 0 ≤ i → i ≤ n → (n : Int) - i = d → 0 ≤ a → a + 2 * d ≤ 1000000000000000 → Ev (fun k => laws_markEntryS.l0 k n a i) (a + 2 * d) := by
  induction d with
  | zero =>
    intro a i h0 hi hd ha ha2
    exact Ev.step (fun k => by rw [laws_markEntryS.l0, if_neg (by omega)]) (ev_some (by omega))
  | succ d ih =>
    intro a i h0 hi hd ha ha2
    refine Ev.step (fun k => by rw [laws_markEntryS.l0, if_pos (by omega), if_pos h0]) (ev_bind (markT_spec a ha (by omega)) ?_)
    rw [wrap_id (x := a + 1) (by omega) (by omega), wrap_id (x := a + 1 + 1) (by omega) (by omega), wrap_id (x := i + 1) (by omega) (by omega)]
    exact ev_eq (ih (a + 1 + 1) (i + 1) (by omega) (by omega) (by omega) (by omega) (by omega)) (by omega)
theorem laws_markNodeS.is (ns : List S74) (hn : ns.length ≤ 1048576) (hs : ∀ v ∈ ns, v.f6.length ≤ 1048576) (d : Nat) : ∀ (a i : Int), 0 ≤ i → i ≤ ns.length → (ns.length : Int) - i = d → 0 ≤ a → a + 3000000 * d ≤ 1000000000000000 → ∃ r, Ev (fun k => laws_markNodeS.l0 k ns a i) r ∧ 0 ≤ r := by
  induction d with
  | zero =>
    intro a i h0 hi hd ha ha2
    exact ⟨a, Ev.step (fun k => by rw [laws_markNodeS.l0, if_neg (by omega)]) (Ev.now _), ha⟩
  | succ d ih =>
    intro a i h0 hi hd ha ha2
    have hlt : i < (ns.length : Int) := by omega
    have hl := hs _ (getD_mem ns z74 i h0 hlt)
    have hl' : (rd_T74 ns i).f6.length ≤ 1048576 := hl
    have hE := laws_markEntryS.is (rd_T74 ns i).f6.length hl' (rd_T74 ns i).f6.length (a + 1 + 1 + 1 + 1 + 1 + 1) 0 (by omega) (by omega) (by omega) (by omega) (by omega)
    obtain ⟨r, hr, e⟩ := ih (a + 1 + 1 + 1 + 1 + 1 + 1 + 2 * ((rd_T74 ns i).f6.length : Int)) (i + 1) (by omega) (by omega) (by omega) (by omega) (by omega)
    refine ⟨r, Ev.step (fun k => by rw [laws_markNodeS.l0, if_pos hlt, if_pos h0]) ?_, e⟩
    rw [wrap_id (x := a + 1) (by omega) (by omega), wrap_id (x := a + 1 + 1) (by omega) (by omega), wrap_id (x := a + 1 + 1 + 1) (by omega) (by omega), wrap_id (x := a + 1 + 1 + 1 + 1) (by omega) (by omega), wrap_id (x := a + 1 + 1 + 1 + 1 + 1) (by omega) (by omega), wrap_id (x := a + 1 + 1 + 1 + 1 + 1 + 1) (by omega) (by omega), wrap_id (x := i + 1) (by omega) (by omega)]
    exact ev_bind (markT_spec _ (by omega) (by omega)) (ev_bind hE hr)
theorem laws_markFs.is (ns : List S74) (x : Int) (hn : ns.length ≤ 1048576) (hs : ∀ v ∈ ns, v.f6.length ≤ 1048576) : ∃ r, Ev (fun k => laws_markFs.f k ns x 1) r ∧ 0 ≤ r :=
  laws_markNodeS.is ns hn hs ns.length 1 0 (by omega) (by omega) (by omega) (by omega) (by omega)
end Go.Proofs.YtnmiglfmainhiaaGreatDoor.PNb

/- Rows of numbers: the law's equality and its marks. No condition. -/
namespace Go.Proofs.YtnmiglfmainhiaaGreatDoor.PNb
open Go.RowKit Go.Proofs.YtnmiglfmainhiaaGreatDoorW.PrintWords Go.Proofs.YtnmiglfmainhiaaGreatDoorW.PrintLast Go.Proofs.YtnmiglfmainhiaaGreatDoorW.PrintMore Go.Proofs.YtnmiglfmainhiaaGreatDoor.Aid Go.Proofs.YtnmiglfmainhiaaGreatDoor.Loops
set_option linter.unusedSimpArgs false
set_option linter.unusedVariables false
theorem laws_eqIntS.is (a b : List Int) (hM : a.length ≤ 9223372036854775806) : ∃ r, Ev (fun k => laws_eqIntS.f k a b) r ∧ (r = true ↔ a = b) :=
  eq_all 0 a b hM _ (fun k i => laws_eqIntS.l0 k a b i) (fun _ x y => some (decide (x = y))) (fun k => rfl)
    (fun hl k i h0 h1 => by
      show laws_eqIntS.l0 (k + 1) a b i = _
      rw [laws_eqIntS.l0, if_pos h1, if_pos h0, if_pos (by omega), Option.bind_some]
      show (if rd a i = rd b i then _ else _) = if decide (rd a i = rd b i) = true then _ else _
      by_cases h : rd a i = rd b i
      · rw [if_pos h, if_pos (decide_eq_true h)]
      · rw [if_neg h, if_neg (by simpa using h)])
    (fun k i h => by show laws_eqIntS.l0 (k + 1) a b i = _; rw [laws_eqIntS.l0, if_neg h]) (fun x _ y _ => ⟨_, Ev.now _, decide_eq_true_iff⟩)
theorem laws_eqIntS.same (a : List Int) (hM : a.length ≤ 9223372036854775806) : Ev (fun k => laws_eqIntS.f k a a) true := by
  obtain ⟨r, hr, e⟩ := laws_eqIntS.is a a hM
  rwa [e.2 rfl] at hr
def marksI (n : Nat) (a : Int) : List Int := (List.range n).map fun j : Nat => a + (j : Int)
theorem marksI_length (n : Nat) (a : Int) : (marksI n a).length = n := by simp [marksI]
theorem laws_markIntS.loop (n : Nat) (hn : n ≤ 4611686018427387904) (a : Int) (ha : 0 ≤ a) (ha2 : a ≤ 1000000000000) (d : Nat) : ∀ (l : List Int) (i : Int), l.length = n → 0 ≤ i → i ≤ n → (n : Int) - i = d → l.take i.toNat = (marksI n a).take i.toNat →
    Ev (fun k => laws_markIntS.l0 k l (a + i) i) (a + n, marksI n a) := by
  induction d with
  | zero =>
    intro l i hl h0 h1 hd ht
    refine Ev.step (fun k => by rw [laws_markIntS.l0, if_neg (by omega)]) (ev_some ?_)
    have hi : i.toNat = n := by omega
    rw [hi, List.take_of_length_le (by omega), List.take_of_length_le (by rw [marksI_length]; omega)] at ht
    rw [ht, show i = (n : Int) by omega]
  | succ d ih =>
    intro l i hl h0 h1 hd ht
    refine Ev.step (fun k => by rw [laws_markIntS.l0, if_pos (by omega), if_pos h0]) ?_
    rw [wrap_id (x := a + i + 1) (by omega) (by omega), wrap_id (x := i + 1) (by omega) (by omega), show a + i + 1 = a + (i + 1) by omega]
    refine ih _ (i + 1) (by rw [List.length_set]; exact hl) (by omega) (by omega) (by omega) ?_
    have hil : i.toNat < l.length := by omega
    have him : i.toNat < (marksI n a).length := by rw [marksI_length]; omega
    rw [show (i + 1).toNat = i.toNat + 1 by omega, List.take_add_one, List.take_add_one, List.take_set_of_le (Nat.le_refl _), ht, List.getElem?_set_self hil, List.getElem?_eq_getElem him]
    congr 1
    simp [marksI, show (i.toNat : Int) = i by omega]
theorem laws_markIntS.is (l : List Int) (hl : l.length ≤ 4611686018427387904) (a : Int) (ha : 0 ≤ a) (ha2 : a ≤ 1000000000000) : Ev (fun k => laws_markIntS.f k l a) (a + l.length, marksI l.length a) := by
  have h := laws_markIntS.loop l.length hl a ha ha2 l.length l 0 rfl (by omega) (by omega) (by omega) (by simp)
  rw [Int.add_zero] at h; exact h
theorem laws_heldIntS.loop (n : Nat) (hn : n ≤ 4611686018427387904) (a : Int) (ha : 0 ≤ a) (ha2 : a ≤ 1000000000000) (d : Nat) : ∀ i : Int, 0 ≤ i → i ≤ n → (n : Int) - i = d →
    Ev (fun k => laws_heldIntS.l0 k (marksI n a) (a + i) i) (a + n) := by
  induction d with
  | zero =>
    intro i h0 h1 hd
    exact Ev.step (fun k => by rw [laws_heldIntS.l0, marksI_length, if_neg (by omega)]) (ev_some (by omega))
  | succ d ih =>
    intro i h0 h1 hd
    have e : rd (marksI n a) i = a + i := by
      have him : i.toNat < (marksI n a).length := by rw [marksI_length]; omega
      show (marksI n a).getD i.toNat 0 = _
      rw [List.getD_eq_getElem?_getD, List.getElem?_eq_getElem him]
      simp [marksI, show (i.toNat : Int) = i by omega]
    refine Ev.step (fun k => by rw [laws_heldIntS.l0, marksI_length, if_pos (by omega), if_pos h0, e, if_pos rfl]) ?_
    rw [wrap_id (x := a + i + 1) (by omega) (by omega), wrap_id (x := i + 1) (by omega) (by omega), show a + i + 1 = a + (i + 1) by omega]
    exact ih (i + 1) (by omega) (by omega) (by omega)
theorem laws_heldIntS.is (n : Nat) (hn : n ≤ 4611686018427387904) (a : Int) (ha : 0 ≤ a) (ha2 : a ≤ 1000000000000) : Ev (fun k => laws_heldIntS.f k (marksI n a) a) (a + n) := by
  have h := laws_heldIntS.loop n hn a ha ha2 n 0 (by omega) (by omega) (by omega)
  rw [Int.add_zero] at h; exact h
end Go.Proofs.YtnmiglfmainhiaaGreatDoor.PNb

/- NodesBelow of the program and of the reference agree at every file system: no condition. -/
namespace Go.Proofs.YtnmiglfmainhiaaGreatDoor.PNb
open Go.RowKit Go.Proofs.YtnmiglfmainhiaaGreatDoorW.PrintWords Go.Proofs.YtnmiglfmainhiaaGreatDoorW.PrintLast Go.Proofs.YtnmiglfmainhiaaGreatDoorW.PrintMore Go.Proofs.YtnmiglfmainhiaaGreatDoor.Aid
set_option linter.unusedVariables false
set_option linter.unusedSimpArgs false
theorem NodesBelow.same (ns : List S74) (room a : Int) (hn' : ns.length ≤ 1048576) (hs : ∀ v ∈ ns, Small1 v) : ∃ (v : List Int) (b : Bool), Ev (fun k => spec_NodesBelow.f k ns room a) (v, b) ∧ Ev (fun k => impl_NodesBelow.f k ns room a) (v, b) ∧ v.length ≤ 41943041 := by
  rcases nodes_at ns room a hn' hs with ⟨h1, h2⟩ | ⟨h1, h2, l, h3, h4, hl, hb⟩
  · exact ⟨[], false, ev_bind h1 (ev_neg (by simp) (Ev.now _)), ev_bind h2 (ev_neg (by simp) (Ev.now _)), by simp⟩
  · exact ⟨l, true, ev_bind h1 (ev_pos rfl (ev_bind h3 (Ev.now _))), ev_bind h2 (ev_pos rfl (ev_bind h4 (ev_bind0 (a := l) (if_pos (by omega)) (Ev.now _)))), by omega⟩
end Go.Proofs.YtnmiglfmainhiaaGreatDoor.PNb
namespace Go.Proofs.YtnmiglfmainhiaaGreatDoor.Pure
open Go.RowKit Go.Proofs.YtnmiglfmainhiaaGreatDoor.PNb Go.Proofs.YtnmiglfmainhiaaGreatDoorW.PrintWords Go.Proofs.YtnmiglfmainhiaaGreatDoor.Aid
theorem FnExactNodesBelow : laws_FnExactNodesBelow.Pure := by
  intro a n x ha hn hx
  refine Ev.rounds (r := true) ?_
  unfold laws_FnExactNodesBelow.f
  obtain ⟨r, hr, e⟩ := laws_szFs.is a n ha.1 (fun x hx => ⟨(ha.2 x hx).2.2.2.2.2.1, (ha.2 x hx).2.2.2.2.2.2.1, fun y hy => ((ha.2 x hx).2.2.2.2.2.2.2 y hy).1⟩) 1048576 (by omega) (by omega)
  rcases e with e | ⟨e1, e2, e3, e4⟩
  · exact ev_bind hr (ev_pos e (Ev.now _))
  refine ev_bind hr (ev_neg (by omega) ?_)
  have ta := laws_toFs.is a n e3 e4
  have oa := nodC_ok e4
  have sa := small_of e4
  have la : (a.map nodC).length ≤ 1048576 := by rw [List.length_map]; omega
  generalize a.map nodC = A at ta oa sa la
  obtain ⟨v, b, hs, ht, hl⟩ := NodesBelow.same A n x la sa
  have hv : v.length ≤ 9223372036854775806 := by omega
  obtain ⟨km, hkm, hk0⟩ := laws_markFs.is A n la (fun v hv => (sa v hv).2.1)
  have held := laws_heldIntS.is v.length (by omega) 1 (by omega) (by omega)
  refine ev_bind ta (ev_bind hs (ev_bind ta (ev_bind ht (ev_bind (laws_eqIntS.same v hv) (ev_pos rfl ?_)))))
  show Ev (fun k => laws_FnExactNodesBelow.j0 k x v b v b (b != b) a n A n) true
  rw [bne_self_eq_false]
  refine Ev.step (fun k => by rw [laws_FnExactNodesBelow.j0, if_neg (by decide)]) (ev_bind ta (ev_bind (laws_eqFs.same A n (by omega) oa) (ev_pos rfl (ev_bind hkm (ev_neg (show ¬ (km < 0) by omega) (ev_bind (laws_eqIntS.same v hv) (ev_pos rfl ?_)))))))
  rw [bne_self_eq_false]
  refine Ev.step (fun k => by rw [laws_FnExactNodesBelow.j1, if_neg (by decide)]) (ev_bind (laws_markIntS.is v (by omega) 1 (by omega) (by omega)) (ev_bind held (ev_neg (show ¬ ((1 : Int) + (v.length : Int) < 0) by omega) (ev_pos rfl (ev_bind ta (ev_bind ht (ev_bind (laws_eqIntS.same v hv) (ev_pos rfl ?_))))))))
  show Ev (fun k => laws_FnExactNodesBelow.j2 k (marksI v.length 1) (1 + v.length) (b != b)) true
  rw [bne_self_eq_false]
  exact Ev.step (fun k => by rw [laws_FnExactNodesBelow.j2, if_neg (by decide)]) (ev_bind held (ev_neg (show ¬ ((1 : Int) + (v.length : Int) < 0) by omega) (ev_pos rfl (Ev.now _))))
end Go.Proofs.YtnmiglfmainhiaaGreatDoor.Pure

