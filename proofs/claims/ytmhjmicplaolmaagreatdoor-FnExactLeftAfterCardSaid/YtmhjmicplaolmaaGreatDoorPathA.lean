/- Paths as lists of parts: plain Lean, no program in sight. No condition. -/
import Derived.Test.YtmhjmicplaolmaaGreatDoorPRmx23
import Derived.Test.YtmhjmicplaolmaaGreatDoorPRmx24
import Derived.Test.YtmhjmicplaolmaaGreatDoorPRmx26
import Derived.Test.YtmhjmicplaolmaaGreatDoorAid
namespace Go.Proofs.YtmhjmicplaolmaaGreatDoor.Aid
open Go.RowKit Go.Proofs.YtmhjmicplaolmaaGreatDoorW.PrintWords Go.Proofs.YtmhjmicplaolmaaGreatDoorW.PrintLast Go.Proofs.YtmhjmicplaolmaaGreatDoorW.PrintMore
set_option linter.unusedSimpArgs false
set_option linter.unusedVariables false
def mk (l : List UInt8) : ByteArray := ⟨l.toArray⟩
theorem toList_mk (l : List UInt8) : (mk l).toList = l := ByteArray.toList_mk l
theorem lZ (s : ByteArray) : mk s.toList = s := eq_of_toList (toList_mk _)
theorem nG (s : ByteArray) : s.data.toList = s.toList := (ByteArray.toList_eq s).symm
theorem toList_extract (s : ByteArray) (a b : Nat) : (s.extract a b).toList = (s.toList.drop a).take (b - a) := by
  rw [Lib.extract_toList, nG]
theorem toList_append (a b : ByteArray) : (a ++ b).toList = a.toList ++ b.toList := by
  rw [ByteArray.toList_eq, ByteArray.toList_eq, ByteArray.toList_eq, ByteArray.data_append, Array.toList_append]
theorem size_mk (l : List UInt8) : (mk l).size = l.length := by rw [size_eq, toList_mk]
theorem qY (s : ByteArray) (i : Int) (h0 : 0 ≤ i) (h1 : i < (s.size : Int)) : ∃ c, s.toList[i.toNat]? = some c ∧ bt s i = (c.toNat : Int) := by
  have h := yc s i h0 h1
  rw [mP, List.getElem?_map] at h
  cases hc : s.toList[i.toNat]? with
  | none => rw [hc] at h; cases h
  | some c => rw [hc] at h; exact ⟨c, rfl, (Option.some.inj h).symm⟩
def jL : List UInt8 → List (List UInt8)
  | [] => [[]]
  | c :: l => if c = 47 then [] :: jL l else match jL l with
    | [] => [[c]]
    | h :: t => (c :: h) :: t
theorem ry (l : List UInt8) : jL l ≠ [] := by
  cases l with
  | nil => simp [jL]
  | cons c l => unfold jL; split; · simp
                split <;> simp
theorem kV (c : UInt8) (l : List UInt8) (h : c ≠ 47) : ∃ a t, jL l = a :: t ∧ jL (c :: l) = (c :: a) :: t := by
  cases hs : jL l with
  | nil => exact absurd hs (ry l)
  | cons a t => exact ⟨a, t, rfl, by rw [jL, if_neg h, hs]⟩
theorem iW (l : List UInt8) : jL (47 :: l) = [] :: jL l := by rw [jL, if_pos rfl]
theorem kz : ∀ l : List UInt8, 47 ∉ l → jL l = [l]
  | [], _ => rfl
  | c :: l, h => by
    have hc : c ≠ 47 := fun e => h (by rw [e]; exact List.mem_cons_self)
    rw [jL, if_neg hc, kz l (fun hm => h (List.mem_cons_of_mem _ hm))]
theorem pV : ∀ (a b : List UInt8), 47 ∉ a → jL (a ++ 47 :: b) = a :: jL b
  | [], b, _ => iW b
  | c :: a, b, h => by
    have hc : c ≠ 47 := fun e => h (by rw [e]; exact List.mem_cons_self)
    rw [List.cons_append, jL, if_neg hc, pV a b (fun hm => h (List.mem_cons_of_mem _ hm))]
theorem oF : ∀ l : List UInt8, (jL l).length ≤ l.length + 1
  | [] => by simp [jL]
  | c :: l => by
    have ih := oF l
    by_cases hc : c = 47
    · subst hc; rw [iW]; simp; omega
    · obtain ⟨a, t, e, e'⟩ := kV c l hc
      rw [e'] ; rw [e] at ih; simp at ih ⊢; omega
theorem ng : ∀ (l p : List UInt8), p ∈ jL l → p.length ≤ l.length
  | [], p, h => by simp [jL] at h; subst h; simp
  | c :: l, p, h => by
    by_cases hc : c = 47
    · subst hc; rw [iW] at h
      rcases List.mem_cons.1 h with rfl | h
      · simp
      · have := ng l p h; simp; omega
    · obtain ⟨a, t, e, e'⟩ := kV c l hc
      rw [e'] at h
      rcases List.mem_cons.1 h with rfl | h
      · have := ng l a (by rw [e]; exact List.mem_cons_self); simp; omega
      · have := ng l p (by rw [e]; exact List.mem_cons_of_mem _ h); simp; omega
theorem qf : ∀ l : List UInt8, Lib.indexByte l 47 = -1 → 47 ∉ l
  | [], _ => by simp
  | c :: l, h => by
    unfold Lib.indexByte at h
    split at h
    · simp at h
    · rename_i hc
      split at h
      · rename_i h'
        have hl := qf l (by simpa using h')
        intro hm
        rcases List.mem_cons.1 hm with e | hm
        · exact hc (by rw [← e]; simp)
        · exact hl hm
      · have := Lib.indexByte_ge l 47; rename_i h'; simp at h'; omega
theorem index_hit : ∀ l : List UInt8, Lib.indexByte l 47 ≠ -1 → 0 ≤ Lib.indexByte l 47 ∧ 47 ∉ l.take (Lib.indexByte l 47).toNat ∧ l = l.take (Lib.indexByte l 47).toNat ++ 47 :: l.drop ((Lib.indexByte l 47).toNat + 1)
  | [], h => absurd rfl h
  | c :: l, h => by
    unfold Lib.indexByte at h ⊢
    by_cases hc : (c == 47) = true
    · rw [if_pos hc]
      have : c = 47 := by simpa using hc
      subst this
      exact ⟨by simp, by simp, by simp⟩
    · rw [if_neg hc] at h ⊢
      by_cases h' : (Lib.indexByte l 47 == -1) = true
      · rw [if_pos h'] at h; exact absurd rfl h
      · rw [if_neg h'] at h ⊢
        obtain ⟨i0, i1, i2⟩ := index_hit l (by simpa using h')
        have e : (Lib.indexByte l 47 + 1).toNat = (Lib.indexByte l 47).toNat + 1 := by omega
        rw [e, List.take_succ_cons, List.drop_succ_cons]
        refine ⟨by omega, ?_, ?_⟩
        · intro hm
          rcases List.mem_cons.1 hm with e2 | hm
          · exact hc (by rw [← e2]; simp)
          · exact i1 hm
        · rw [List.cons_append, ← i2]
theorem oD : ∀ (k : Nat) (l : List UInt8), l.count 47 ≤ k → Lib.splitK [47] 0 k l = jL l
  | 0, l, h => by
    rw [Lib.splitK, kz l (by intro hm; have := List.count_pos_iff.2 hm; omega)]
  | k + 1, l, h => by
    rw [Lib.splitK, Lib.index_one]
    by_cases hx : Lib.indexByte l 47 = -1
    · rw [if_pos (by simp [hx]), kz l (qf l hx)]
    · rw [if_neg (by simpa using hx)]
      obtain ⟨i0, i1, i2⟩ := index_hit l hx
      have hc : l.count 47 = (l.drop ((Lib.indexByte l 47).toNat + 1)).count 47 + 1 := by
        conv => lhs; rw [i2]
        rw [List.count_append, List.count_cons_self, List.count_eq_zero_of_not_mem i1]; omega
      have ih := oD k (l.drop ((Lib.indexByte l 47).toNat + 1)) (by omega)
      rw [Nat.add_zero, show ([47] : List UInt8).length = 1 from rfl, ih]
      conv => rhs; rw [i2]
      rw [pV _ _ i1]
def pieces (s : ByteArray) : List ByteArray := (jL s.toList).map mk
def parts (s : ByteArray) : List ByteArray := (pieces s).filter fun p => !p.toList.isEmpty
theorem qB (s : ByteArray) : Lib.splitB ⟨#[47]⟩ 0 (Lib.countB s ⟨#[47]⟩) s = pieces s := by
  have h := Lib.splitB_data ⟨#[47]⟩ 0 (Lib.countB s ⟨#[47]⟩) s
  have hc : Lib.countB s ⟨#[47]⟩ = s.data.toList.count 47 := Lib.count_one _ _
  rw [hc] at h ⊢
  rw [show (⟨#[47]⟩ : ByteArray).data.toList = [47] from rfl, oD _ _ (Nat.le_refl _)] at h
  unfold pieces
  rw [← nG, ← h, List.map_map]
  conv => lhs; rw [← List.map_id (Lib.splitB _ _ _ _)]
  refine List.map_congr_left fun x _ => ?_
  show x = mk x.data.toList
  rw [nG, lZ]
theorem mq (s : ByteArray) : (pieces s).length ≤ s.size + 1 := by
  unfold pieces; rw [List.length_map, size_eq]; exact oF _
theorem jy (s : ByteArray) : (parts s).length ≤ s.size + 1 := Nat.le_trans (List.length_filter_le _ _) (mq s)
theorem uC {s p : ByteArray} (h : p ∈ parts s) : p.size ≤ s.size := by
  obtain ⟨h1, _⟩ := List.mem_filter.1 h
  obtain ⟨l, hl, rfl⟩ := List.mem_map.1 h1
  rw [size_mk, size_eq s]; exact ng _ _ hl
def ny (s : ByteArray) : Bool := (parts s).all kH && decide (1 ≤ s.size ∧ s.size ≤ 60)
def xI (s : ByteArray) : Bool := (parts s).all kH && decide (1 ≤ s.size)
theorem zG {l : List UInt8} : (l.map fun b => (b.toNat : Int)).all nb = l.all fun b => nb (b.toNat : Int) := by rw [List.all_map]; rfl
theorem wm (s : ByteArray) (h : lL s = true) : kH s = true := by
  unfold lL at h
  have h' : s.toList = [46] ∨ s.toList = [46, 46] := by simpa using h
  unfold kH
  rw [size_eq, mP]
  rcases h' with e | e <;> rw [e] <;> decide
theorem rD (s : ByteArray) : (gM s || lL s) = kH s := by
  unfold gM
  cases hd : lL s with
  | true => rw [wm s hd]; rfl
  | false => simp
def dot (p : ByteArray) : Prop := p.toList = [46]
def dots (p : ByteArray) : Prop := p.toList = [46, 46]
instance (p : ByteArray) : Decidable (dot p) := by unfold dot; infer_instance
instance (p : ByteArray) : Decidable (dots p) := by unfold dots; infer_instance
def joinL (ps : List ByteArray) : List UInt8 := Lib.join (ps.map (·.data.toList)) [47]
theorem qP : joinL [] = [] := rfl
theorem om (p : ByteArray) : joinL [p] = p.toList := by unfold joinL; simp only [List.map_cons, List.map_nil]; rw [Lib.join_one, nG]
theorem mJ (p q : ByteArray) (ps : List ByteArray) : joinL (p :: q :: ps) = p.toList ++ 47 :: joinL (q :: ps) := by
  unfold joinL Lib.join
  simp only [List.map_cons]
  rw [List.intercalate, List.intercalate, List.intersperse_cons_cons, List.flatten_cons, List.flatten_cons, nG]
  simp
def kW (ps : List ByteArray) : ByteArray := mk (47 :: joinL ps)
theorem nC : ∀ (ps : List ByteArray) (n : Nat), (∀ p ∈ ps, p.size ≤ n) → (joinL ps).length ≤ ps.length * (n + 1)
  | [], n, _ => by simp [qP]
  | [p], n, h => by
    rw [om, ← size_eq]; have := h p (by simp); simp; omega
  | p :: q :: ps, n, h => by
    have ih := nC (q :: ps) n (fun r hr => h r (List.mem_cons_of_mem _ hr))
    have h1 := h p (by simp)
    rw [mJ, List.length_append, List.length_cons, ← size_eq]
    simp only [List.length_cons] at ih ⊢
    rw [Nat.add_mul (ps.length + 1) 1]; omega
end Go.Proofs.YtmhjmicplaolmaaGreatDoor.Aid
namespace Go.Proofs.YtmhjmicplaolmaaGreatDoor.PRm
open Go.RowKit Go.Proofs.YtmhjmicplaolmaaGreatDoorW.PrintWords Go.Proofs.YtmhjmicplaolmaaGreatDoorW.PrintLast Go.Proofs.YtmhjmicplaolmaaGreatDoorW.PrintMore Go.Proofs.YtmhjmicplaolmaaGreatDoor.Aid
theorem aG.is (n a b : Int) : aG.f n a b = some (decide (a ≤ n ∧ n ≤ b)) := by
  unfold aG.f
  by_cases h : n ≥ a
  · rw [if_pos h]; simp [show a ≤ n from h]
  · rw [if_neg h]; simp [show ¬ a ≤ n from h]
theorem ay.is (n a b : Int) : ay.f n a b = some (decide (a ≤ n ∧ n ≤ b)) := by
  unfold ay.f
  by_cases h : n ≥ a
  · rw [if_pos h]; simp [show a ≤ n from h]
  · rw [if_neg h]; simp [show ¬ a ≤ n from h]
theorem fe.is (c : Int) : fe.f c = some (nb c) := by
  unfold fe.f nb
  by_cases h : nbP c
  · rw [decide_eq_true h]
    unfold nbP at h
    repeat' split
    all_goals first | rfl | (congr 1; simp; omega) | (exfalso; omega)
  · rw [decide_eq_false h]
    unfold nbP at h
    repeat' split
    all_goals first | rfl | (congr 1; simp; omega) | (exfalso; omega)
theorem gm.is (c : Int) : gm.f c = some (!nb c) := by
  unfold gm.f
  rw [fe.is]; rfl
theorem aK.round (k : Nat) (s : ByteArray) (i : Int) (h0 : 0 ≤ i) (h1 : i < (s.size : Int)) :
    aK.l0 (k + 1) s i = if nb (bt s i) = true then aK.l0 k s (wrap64 (i + 1)) else some false := by
  rw [aK.l0]
  rw [if_pos h1, if_pos h0]
  generalize bt s i = c
  generalize aK.l0 k s (wrap64 (i + 1)) = R
  by_cases h : nbP c
  · rw [show nb c = true from decide_eq_true h]
    simp only [if_true]
    unfold nbP at h
    repeat' split
    all_goals first | rfl | (exfalso; omega)
  · rw [show nb c = false from decide_eq_false h]
    simp only [Bool.false_eq_true, if_false]
    unfold nbP at h
    repeat' split
    all_goals first | rfl | (exfalso; omega)
theorem aK.loop (s : ByteArray) (hs : s.size ≤ 9223372036854775807) (d : Nat) : ∀ i : Int, 0 ≤ i → i ≤ s.size → (s.size : Int) - i = d →
    Ev (fun k => aK.l0 k s i) (((bytesOf s).drop i.toNat).all nb && (decide (1 ≤ s.size ∧ s.size ≤ 8) && !lL s)) := by
  induction d with
  | zero =>
    intro i h0 h1 hd
    refine Ev.step (fun k => by rw [aK.l0, if_neg (by omega), ay.is]) ?_
    rw [xV s i (by omega)]
    simp only [Option.bind_some, List.all_nil, Bool.true_and, decide_eq_true_eq]
    unfold lL
    refine ja (fun h => ?_) (fun h => ?_)
    · rw [decide_eq_true (show 1 ≤ s.size ∧ s.size ≤ 8 by omega)]
      refine ja (fun h => ?_) (fun h => ?_)
      · exact dE (by simp [h])
      · exact dE (by simp [h, bne])
    · exact dE (by rw [decide_eq_false (show ¬ (1 ≤ s.size ∧ s.size ≤ 8) by omega)]; rfl)
  | succ d ih =>
    intro i h0 h1 hd
    have hlt : i < (s.size : Int) := by omega
    refine Ev.step (fun k => aK.round k s i h0 hlt) ?_
    rw [uQ s i h0 hlt, List.all_cons, bg (by omega) (by omega)]
    refine ja (fun h => ?_) (fun h => ?_)
    · refine jC (ih (i + 1) (by omega) (by omega) (by omega)) (by rw [h]; rfl)
    · exact dE (by rw [Bool.eq_false_iff.mpr h]; rfl)
theorem aK.is (s : ByteArray) (hs : s.size ≤ 9223372036854775807) : Ev (fun k => aK.f k s) (gM s) := by
  refine jC (aK.loop s hs s.size 0 (by omega) (by omega) (by omega)) ?_
  unfold gM kH
  show ((bytesOf s).all nb && _) = _
  cases decide (1 ≤ s.size ∧ s.size ≤ 8) <;> cases (bytesOf s).all nb <;> rfl
theorem wI.loop (l : List Int) (hl : l.length ≤ 9223372036854775807) (d : Nat) : ∀ i : Int, 0 ≤ i → i ≤ l.length → (l.length : Int) - i = d →
    ∃ r : Int, Ev (fun k => au.l0 k l (l.length : Int) i) r ∧ decide (r ≥ 0) = !(l.drop i.toNat).all nb := by
  induction d with
  | zero =>
    intro i h0 h1 hd
    refine ⟨-1, Ev.step (fun k => by rw [au.l0, if_neg (by omega)]) (Ev.now _), ?_⟩
    rw [show l.drop i.toNat = [] by rw [List.drop_eq_nil_iff]; omega]; rfl
  | succ d ih =>
    intro i h0 h1 hd
    have hlt : i < (l.length : Int) := by omega
    have hstep : ∀ k, au.l0 (k + 1) l (l.length : Int) i = if (!nb (rd l i)) = true then some i else au.l0 k l (l.length : Int) (i + 1) := fun k => by
      rw [au.l0, if_pos hlt, if_pos h0, if_pos hlt, gm.is, bg (by omega) (by omega)]; rfl
    rw [ic l 0 i h0 hlt, List.all_cons]
    show ∃ r, _ ∧ decide (r ≥ 0) = !(nb (rd l i) && _)
    cases hb : nb (rd l i) with
    | false => exact ⟨i, Ev.step hstep (af (by rw [hb]; rfl) (Ev.now _)), by simp [h0]⟩
    | true =>
      obtain ⟨r, h, e⟩ := ih (i + 1) (by omega) (by omega) (by omega)
      exact ⟨r, Ev.step hstep (aH (by rw [hb]; simp) h), by rw [e]; rfl⟩
theorem d9.is (s : ByteArray) : Ev (fun k => d9.f k s) (kH s) := by
  unfold d9.f kH
  refine aD (aG.is _ _ _) ?_
  refine ja (fun h => ?_) (fun h => ?_)
  · have h' : 1 ≤ s.size ∧ s.size ≤ 8 := by simp at h; omega
    obtain ⟨r, hr, e⟩ := wI.loop (bytesOf s) (by rw [bytesOf_length]; omega) s.size 0 (by omega) (by rw [bytesOf_length]; omega) (by rw [bytesOf_length]; omega)
    refine aj (a := decide (r ≥ 0)) (aj hr (Ev.now _)) ?_
    refine dE ?_
    rw [e, decide_eq_true h']; simp
  · refine dE ?_
    have h' : ¬ (1 ≤ s.size ∧ s.size ≤ 8) := by simp at h; omega
    rw [decide_eq_false h']; rfl
set_option linter.unusedSimpArgs false
set_option linter.unusedVariables false
theorem jw (l : List ByteArray) (i : Int) (h0 : 0 ≤ i) (h1 : i < (l.length : Int)) : l.drop i.toNat = dx ByteArray.empty l i :: l.drop (i + 1).toNat := ic l ByteArray.empty i h0 h1
theorem pX (l : List ByteArray) (i : Int) (h0 : 0 ≤ i) (h1 : i < (l.length : Int)) : dx ByteArray.empty l i ∈ l := by
  have hl : i.toNat < l.length := by omega
  unfold dx
  rw [List.getD_eq_getElem?_getD, List.getElem?_eq_getElem hl]
  exact List.getElem_mem hl
theorem Ah (c : UInt8) : ((c.toNat : Int) = 47) ↔ c = 47 := by
  constructor
  · intro h
    have : c.toNat = (47 : UInt8).toNat := by show c.toNat = 47; omega
    exact UInt8.toNat_inj.mp this
  · rintro rfl; rfl
def nP (c : List UInt8) : List (List UInt8) → List ByteArray
  | [] => [mk c]
  | h :: t => mk (c ++ h) :: t.map mk
theorem oN {l : List (List UInt8)} (h : l ≠ []) : nP [] l = l.map mk := by
  cases l with
  | nil => exact absurd rfl h
  | cons a t => rfl
theorem extract_mk (s : ByteArray) (a b : Nat) : s.extract a b = mk ((s.toList.take b).drop a) := eq_of_toList (by rw [toList_extract, toList_mk, List.drop_take])
theorem bV.loop (s : ByteArray) (hs : s.size < 4294967281) (d : Nat) : ∀ (out : List ByteArray) (a i : Int), 0 ≤ a → a ≤ i → i ≤ s.size → (out.length : Int) ≤ i → (s.size : Int) - i = d →
    Ev (fun k => bV.l0 k s 47 out a i) (out ++ nP ((s.toList.take i.toNat).drop a.toNat) (jL (s.toList.drop i.toNat))) := by
  induction d with
  | zero =>
    intro out a i h0 h1 h2 h3 hd
    refine Ev.step (fun k => by rw [bV.l0, if_neg (by omega), if_pos h0, if_pos (by omega), if_pos (by omega)]) ?_
    refine dE ?_
    have hi : i.toNat = s.size := by omega
    have hl : s.toList.length = s.size := (size_eq s).symm
    rw [extract_mk, hi, List.take_of_length_le (by omega), List.drop_eq_nil_iff.mpr (Nat.le_of_eq hl)]
    simp [jL, nP]
  | succ d ih =>
    intro out a i h0 h1 h2 h3 hd
    have hlt : i < (s.size : Int) := by omega
    obtain ⟨c, hc, hb⟩ := qY s i (by omega) hlt
    have hil : i.toNat < s.toList.length := by rw [← size_eq]; omega
    have hdrop : s.toList.drop i.toNat = c :: s.toList.drop (i + 1).toNat := by
      rw [List.drop_eq_getElem_cons hil, show (i + 1).toNat = i.toNat + 1 by omega]
      rw [List.getElem?_eq_getElem hil] at hc
      rw [Option.some.inj hc]
    have htake : s.toList.take (i + 1).toNat = s.toList.take i.toNat ++ [c] := by
      rw [show (i + 1).toNat = i.toNat + 1 by omega, List.take_add_one, hc]; rfl
    have htl : (s.toList.take i.toNat).length = i.toNat := by rw [List.length_take]; omega
    by_cases h47 : c = 47
    · subst h47
      refine Ev.step (fun k => by rw [bV.l0, if_pos hlt, if_pos (by omega), if_pos (by rw [hb]; rfl), if_pos h0, if_pos h1, if_pos (by omega), if_pos (by omega), bg (by omega) (by omega)]) ?_
      refine jC (ih (out ++ [s.extract a.toNat i.toNat]) (i + 1) (i + 1) (by omega) (by omega) (by omega) (by rw [List.length_append]; simp; omega) (by omega)) ?_
      rw [hdrop, iW, List.drop_eq_nil_iff.mpr (by rw [List.length_take]; omega), oN (ry _), extract_mk]
      simp [nP]
    · refine Ev.step (fun k => by rw [bV.l0, if_pos hlt, if_pos (by omega), if_neg (by rw [hb, Ah]; exact h47), bg (by omega) (by omega)]) ?_
      refine jC (ih out a (i + 1) h0 (by omega) (by omega) (by omega) (by omega)) ?_
      obtain ⟨x, t, e, e'⟩ := kV c (s.toList.drop (i + 1).toNat) h47
      rw [hdrop, e, e', htake, List.drop_append_of_le_length (by omega)]
      simp [nP]
theorem bV.is (s : ByteArray) (hs : s.size < 4294967281) : Ev (fun k => bV.f k s 47) (pieces s) := by
  refine jC (bV.loop s hs s.size [] 0 0 (by omega) (by omega) (by omega) (by simp) (by omega)) ?_
  simp only [Int.toNat_zero, List.take_zero, List.drop_nil, List.drop_zero, List.nil_append]
  rw [oN (ry _)]; rfl
theorem bH.loop (l : List ByteArray) (hl : l.length < 4294967283) (d : Nat) : ∀ (out : List ByteArray) (i : Int), 0 ≤ i → i ≤ l.length → (out.length : Int) ≤ i → (l.length : Int) - i = d →
    Ev (fun k => bH.l0 k out l (l.length : Int) i) (out ++ (l.drop i.toNat).filter fun p => !p.toList.isEmpty) := by
  induction d with
  | zero =>
    intro out i h0 h1 h2 hd
    refine Ev.step (fun k => by rw [bH.l0, if_neg (by omega)]) (dE ?_)
    rw [List.drop_eq_nil_iff.mpr (by omega)]; simp
  | succ d ih =>
    intro out i h0 h1 h2 hd
    have hlt : i < (l.length : Int) := by omega
    rw [jw l i h0 hlt]
    by_cases he : (dx ByteArray.empty l i).toList = ([] : List UInt8)
    · refine Ev.step (fun k => by rw [bH.l0, if_pos hlt, if_pos h0, if_pos hlt, if_pos he, bg (by omega) (by omega)]) ?_
      refine jC (ih out (i + 1) (by omega) (by omega) (by omega) (by omega)) ?_
      rw [List.filter_cons_of_neg (by rw [he]; simp)]
    · refine Ev.step (fun k => by rw [bH.l0, if_pos hlt, if_pos h0, if_pos hlt, if_neg he, if_pos (by omega), bg (by omega) (by omega)]) ?_
      refine jC (ih (out ++ [dx ByteArray.empty l i]) (i + 1) (by omega) (by omega) (by rw [List.length_append]; simp; omega) (by omega)) ?_
      rw [List.filter_cons_of_pos (by simpa using he)]; simp
theorem bH.is (s : ByteArray) (hs : s.size < 4294967281) : Ev (fun k => bH.f k s) (parts s) := by
  have hl := mq s
  refine aj (bV.is s hs) ?_
  exact jC (bH.loop (pieces s) (by omega) (pieces s).length [] 0 (by omega) (by omega) (by simp) (by omega)) (by simp [parts])
theorem bD.is (s : ByteArray) (hs : s.size < 4294967281) : bD.f s = some (parts s) := by
  unfold bD.f bD.raw
  rw [if_pos hs, qB]; rfl
theorem dz.loop (s : ByteArray) (l : List ByteArray) (hl : l.length < 4294967283) (hz : ∀ p ∈ l, p.size ≤ 9223372036854775807) (d : Nat) : ∀ i : Int, 0 ≤ i → i ≤ l.length → (l.length : Int) - i = d →
    Ev (fun k => dz.l0 k s l (l.length : Int) i) ((l.drop i.toNat).all kH && decide (1 ≤ s.size ∧ s.size ≤ 60)) := by
  induction d with
  | zero =>
    intro i h0 h1 hd
    refine Ev.step (fun k => by rw [dz.l0, if_neg (by omega), ay.is]) ?_
    rw [List.drop_eq_nil_iff.mpr (by omega)]
    refine dE ?_
    rw [List.all_nil, Bool.true_and]
    exact decide_eq_decide.mpr (by omega)
  | succ d ih =>
    intro i h0 h1 hd
    have hlt : i < (l.length : Int) := by omega
    refine Ev.step (fun k => by rw [dz.l0, if_pos hlt, if_pos h0, if_pos hlt]) ?_
    rw [jw l i h0 hlt, List.all_cons, bg (by omega) (by omega)]
    have hm := pX l i h0 hlt
    generalize dx ByteArray.empty l i = p at hm ⊢
    have ih' := ih (i + 1) (by omega) (by omega) (by omega)
    refine aj (aK.is p (hz p hm)) ?_
    have hp := rD p
    refine ja (fun h => ?_) (fun h => ?_)
    · rw [← hp, h]; exact ih'
    · have hn : gM p = false := Bool.eq_false_iff.mpr h
      rw [hn, Bool.false_or] at hp
      rw [← hp]
      unfold lL
      refine ja (fun h => ?_) (fun h => ?_)
      · rw [h]; exact ih'
      · refine ja (fun h' => ?_) (fun h' => ?_)
        · rw [h']; exact ih'
        · refine dE ?_
          have e1 : (p.toList == [46]) = false := by simpa using h
          have e2 : (p.toList == [46, 46]) = false := by simpa using h'
          rw [e1, e2]; rfl
theorem dz.is (s : ByteArray) (hs : s.size < 4294967281) : Ev (fun k => dz.f k s) (ny s) := by
  have hl := jy s
  refine aj (bH.is s hs) ?_
  exact dz.loop s (parts s) (by omega) (fun p hp => by have := uC hp; omega) (parts s).length 0 (by omega) (by omega) (by omega)
theorem gp.is (p : ByteArray) : Ev (fun k => gp.f k p) (!kH p) := aj (d9.is p) (Ev.now _)
theorem wJ.loop (l : List ByteArray) (hl : l.length ≤ 9223372036854775807) (d : Nat) : ∀ i : Int, 0 ≤ i → i ≤ l.length → (l.length : Int) - i = d →
    ∃ r : Int, Ev (fun k => ak.l0 k l (l.length : Int) i) r ∧ decide (r ≥ 0) = !(l.drop i.toNat).all kH := by
  induction d with
  | zero =>
    intro i h0 h1 hd
    refine ⟨-1, Ev.step (fun k => by rw [ak.l0, if_neg (by omega)]) (Ev.now _), ?_⟩
    rw [List.drop_eq_nil_iff.mpr (by omega)]; rfl
  | succ d ih =>
    intro i h0 h1 hd
    have hlt : i < (l.length : Int) := by omega
    have hstep : ∀ k, ak.l0 (k + 1) l (l.length : Int) i = (gp.f k (dx ByteArray.empty l i)).bind fun t => if t = true then some i else ak.l0 k l (l.length : Int) (i + 1) := fun k => by
      rw [ak.l0, if_pos hlt, if_pos h0, if_pos hlt, bg (by omega) (by omega)]
    rw [jw l i h0 hlt, List.all_cons]
    generalize dx ByteArray.empty l i = p at hstep ⊢
    have hp := gp.is p
    cases hb : kH p with
    | false =>
      rw [hb] at hp
      exact ⟨i, Ev.step hstep (aj hp (af rfl (Ev.now _))), by simp [h0]⟩
    | true =>
      rw [hb] at hp
      obtain ⟨r, h, e⟩ := ih (i + 1) (by omega) (by omega) (by omega)
      exact ⟨r, Ev.step hstep (aj hp (aH (by simp) h)), by rw [e]; rfl⟩
theorem iE.is (s : ByteArray) (hs : s.size < 4294967281) : Ev (fun k => iE.f k s) (xI s) := by
  unfold iE.f xI
  have hl := jy s
  refine ja (fun h => ?_) (fun h => ?_)
  · refine dE ?_
    rw [show decide (1 ≤ s.size) = false by rw [size_eq, h]; rfl, Bool.and_false]
  · refine aD (bD.is s hs) ?_
    obtain ⟨r, hr, e⟩ := wJ.loop (parts s) (by omega) (parts s).length 0 (by omega) (by omega) (by omega)
    refine aj (a := decide (r ≥ 0)) (aj hr (Ev.now _)) (dE ?_)
    have h1 : 1 ≤ s.size := by
      rw [size_eq]; cases hc : s.toList with
      | nil => exact absurd hc h
      | cons c t => simp
    rw [e, decide_eq_true h1]; simp
theorem gq.is (s : ByteArray) : Ev (fun k => gq.f k s) (ny s) := by
  unfold gq.f
  refine ja (fun h => ?_) (fun h => ?_)
  · refine aj (iE.is s (by omega)) (dE ?_)
    unfold xI ny
    congr 1
    simp; omega
  · refine dE ?_
    unfold ny
    rw [decide_eq_false (show ¬ (1 ≤ s.size ∧ s.size ≤ 60) by omega), Bool.and_false]
end Go.Proofs.YtmhjmicplaolmaaGreatDoor.PRm
