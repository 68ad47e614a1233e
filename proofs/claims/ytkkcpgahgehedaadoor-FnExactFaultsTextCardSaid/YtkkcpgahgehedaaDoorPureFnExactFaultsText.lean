/- FaultsText of the program and of the reference agree at every list of faults: no condition. -/
import Derived.Test.YtkkcpgahgehedaaDoorFaultsA
import Derived.Test.YtkkcpgahgehedaaDoorPFaultsx5
import Derived.Test.YtkkcpgahgehedaaDoorLoops
namespace Go.Proofs.YtkkcpgahgehedaaDoor.PFaults
open Go.RowKit Go.Proofs.YtkkcpgahgehedaaDoorW.PrintWords Go.Proofs.YtkkcpgahgehedaaDoorW.PrintLast Go.Proofs.YtkkcpgahgehedaaDoorW.PrintMore Go.Proofs.YtkkcpgahgehedaaDoor.Aid Go.Proofs.YtkkcpgahgehedaaDoor.Loops 
set_option linter.unusedSimpArgs false
set_option linter.unusedVariables false
def inT (n : Int) : Prop := 1 ≤ n ∧ n ≤ 10
theorem lin_l1In.is (n : Int) : ∃ r, spec_l1In.f n 1 10 = some r ∧ (r = true ↔ inT n) := by
  unfold spec_l1In.f inT
  by_cases h : n ≥ 1
  · exact ⟨_, if_pos h, by rw [decide_eq_true_iff]; exact ⟨fun x => ⟨h, x⟩, fun x => x.2⟩⟩
  · exact ⟨_, if_neg h, fun x => (by cases x), fun x => absurd x.1 (by omega)⟩
theorem lin_isTime.is (n : Int) : ∃ r, impl_within.f n 1 10 = some r ∧ (r = true ↔ inT n) := by
  unfold impl_within.f inT
  by_cases h : n ≥ 1
  · exact ⟨_, by rw [if_pos h], by rw [decide_eq_true_iff]; exact ⟨fun x => ⟨h, x⟩, fun x => x.2⟩⟩
  · exact ⟨_, by rw [if_neg h], fun x => (by cases x), fun x => absurd x.1 (by omega)⟩
def words : List ByteArray := [(⟨#[111, 107]⟩ : ByteArray), (⟨#[112, 97, 116, 104]⟩ : ByteArray), (⟨#[110, 111, 110, 101]⟩ : ByteArray), (⟨#[110, 111, 100, 105, 114]⟩ : ByteArray), (⟨#[109, 97, 121]⟩ : ByteArray), (⟨#[108, 111, 111, 112]⟩ : ByteArray), (⟨#[116, 104, 101, 114, 101]⟩ : ByteArray), (⟨#[105, 115, 100, 105, 114]⟩ : ByteArray), (⟨#[102, 117, 108, 108]⟩ : ByteArray), (⟨#[98, 117, 115, 121]⟩ : ByteArray), (⟨#[102, 97, 117, 108, 116]⟩ : ByteArray)]
theorem words_length : words.length = 11 := rfl
theorem words_size : ∀ p ∈ words, p.size ≤ 5 := by decide
theorem spec_words : spec_l4Words.f = some words := rfl
def num (n : Int) : ByteArray := rdOf ByteArray.empty words n
theorem word_mem {n : Int} (h : inT n) : num n ∈ words := getD_mem words ByteArray.empty n (by have := h.1; omega) (by rw [words_length]; have := h.2; omega)
theorem impl_word {n : Int} (h : inT n) : impl_codeText.f n = some (num n) := by
  have h1 := h.1
  have h2 := h.2
  show (if 0 ≤ n then (if n < (words.length : Int) then (some (rdOf ByteArray.empty words n)) else none) else none) = _
  rw [if_pos (by omega), if_pos (by rw [words_length]; omega)]; rfl
def lok (x : S70) : Prop := inT x.f1 ∧ longB x.f0 = true
def small (l : List S70) : Prop := l.length ≤ 1048576 ∧ ∀ x ∈ l, x.f0.size ≤ 1048576
def ltxt (l : List S70) (acc : ByteArray) : ByteArray := l.foldl (fun a x => a ++ impl_faultsText.piece x.f0 (num x.f1)) acc
theorem T_drop (l : List S70) (i : Int) (h0 : 0 ≤ i) (h1 : i < (l.length : Int)) : l.drop i.toNat = rd_T70 l i :: l.drop (i + 1).toNat := drop_list l z70 i h0 h1
theorem T_mem (l : List S70) (i : Int) (h0 : 0 ≤ i) (h1 : i < (l.length : Int)) : rd_T70 l i ∈ l := getD_mem l z70 i h0 h1
theorem psz {x : S70} (h : inT x.f1) (hs : x.f0.size ≤ 1048576) : ((num x.f1).size : Int) ≤ 5 ∧ ((impl_faultsText.piece x.f0 (num x.f1)).size : Int) ≤ 3000000 := by
  have h1 := words_size _ (word_mem h)
  have h3 := impl_faultsText.piece_size x.f0 (num x.f1)
  omega
theorem spec_FaultsText.loop (X l : List S70) (hl : small l) (d : Nat) : ∀ (acc : ByteArray) (i : Int), 0 ≤ i → i ≤ l.length → (acc.size : Int) ≤ i * 3000000 → (l.length : Int) - i = d →
    ∃ r, Ev (fun k => spec_FaultsText.l0 k X acc l (l.length : Int) i) r ∧ ((∀ x ∈ l.drop i.toNat, lok x) → ¬ (X.length : Int) > 100 → r = (ltxt (l.drop i.toNat) acc, true)) ∧ (((X.length : Int) > 100 ∨ ¬ (∀ x ∈ l.drop i.toNat, lok x)) → r = ((⟨#[]⟩ : ByteArray), false)) := by
  induction d with
  | zero =>
    intro acc i h0 h1 h2 hd
    rw [List.drop_eq_nil_iff.mpr (by omega)]
    by_cases hc : (X.length : Int) > 100
    · exact ⟨_, Ev.step (fun k => by rw [spec_FaultsText.l0, if_neg (by omega), if_pos hc]) (Ev.now _), fun _ h => absurd hc h, fun _ => rfl⟩
    · refine ⟨_, Ev.step (fun k => by rw [spec_FaultsText.l0, if_neg (by omega), if_neg hc]) (Ev.now (acc, true)), fun _ _ => rfl, fun h => ?_⟩
      rcases h with h | h
      · exact absurd h hc
      · exact absurd (fun x hx => by cases hx) h
  | succ d ih =>
    intro acc i h0 h1 h2 hd
    have hlt : i < (l.length : Int) := by omega
    have hsm := hl.2 _ (T_mem l i h0 hlt)
    have hfew := hl.1
    rw [T_drop l i h0 hlt]
    generalize hx : rd_T70 l i = x at hsm ⊢
    obtain ⟨b, hb, eb⟩ := lin_l1In.is x.f1
    have hs : ∀ k, spec_FaultsText.l0 (k + 1) X acc l (l.length : Int) i = (if b = true then ((spec_l8Way.f k x.f0).bind fun t133 => (if t133 = true then (if x.f0.size + 2 ≤ 9223372036854775807 then (if 0 ≤ x.f1 then (if x.f1 < (words.length : Int) then (if x.f0.size + 2 + (num x.f1).size ≤ 9223372036854775807 then (if x.f0.size + 2 + (num x.f1).size + 1 ≤ 9223372036854775807 then (if acc.size + (x.f0.size + 2 + (num x.f1).size + 1) ≤ 9223372036854775807 then (spec_FaultsText.l0 k X (acc ++ impl_faultsText.piece x.f0 (num x.f1)) l (l.length : Int) (i + 1)) else (none)) else (none)) else (none)) else (none)) else (none)) else (none)) else (some ((⟨#[]⟩ : ByteArray), false)))) else (some ((⟨#[]⟩ : ByteArray), false))) := fun k => by
      rw [spec_FaultsText.l0, if_pos hlt, if_pos h0, if_pos hlt, hx, hb, Option.bind_some, wrap_id (x := i + 1) (by omega) (by omega), spec_words]; rfl
    have hw := spec_l8Way.is x.f0 (by omega)
    cases b with
    | false =>
      refine ⟨_, Ev.step hs (ev_neg (by simp) (Ev.now _)), fun h => ?_, fun _ => rfl⟩
      have := eb.2 (h x List.mem_cons_self).1
      cases this
    | true =>
      have hin := eb.1 rfl
      cases hq : longB x.f0 with
      | false =>
        rw [hq] at hw
        refine ⟨_, Ev.step hs (ev_pos rfl (ev_bind hw (ev_neg (by simp) (Ev.now _)))), fun h => ?_, fun _ => rfl⟩
        have := (h x List.mem_cons_self).2
        rw [hq] at this; cases this
      | true =>
        rw [hq] at hw
        have hp := psz hin hsm
        have hps := impl_faultsText.piece_size x.f0 (num x.f1)
        have c0 : i * 3000000 ≤ 1048576 * 3000000 := Int.mul_le_mul_of_nonneg_right (by omega) (by omega)
        have c1 : x.f0.size + 2 ≤ 9223372036854775807 := by omega
        have c2 : x.f0.size + 2 + (num x.f1).size ≤ 9223372036854775807 := by omega
        have c3 : x.f0.size + 2 + (num x.f1).size + 1 ≤ 9223372036854775807 := by omega
        have c4 : acc.size + (x.f0.size + 2 + (num x.f1).size + 1) ≤ 9223372036854775807 := by omega
        have c5 : 0 ≤ x.f1 := by have := hin.1; omega
        have c6 : x.f1 < (words.length : Int) := by rw [words_length]; have := hin.2; omega
        obtain ⟨r, hr, e1, e2⟩ := ih (acc ++ impl_faultsText.piece x.f0 (num x.f1)) (i + 1) (by omega) (by omega) (by rw [ByteArray.size_append]; omega) (by omega)
        refine ⟨r, Ev.step hs (ev_pos rfl (ev_bind hw (ev_pos rfl (ev_pos c1 (ev_pos c5 (ev_pos c6 (ev_pos c2 (ev_pos c3 (ev_pos c4 hr))))))))), fun h hc => ?_, fun h => e2 ?_⟩
        · exact e1 (fun y hy => h y (List.mem_cons_of_mem _ hy)) hc
        · rcases h with h | h
          · exact Or.inl h
          · refine Or.inr (fun h' => h (fun y hy => ?_))
            rcases List.mem_cons.1 hy with rfl | hy
            · exact ⟨hin, hq⟩
            · exact h' y hy
theorem go_nil (acc : ByteArray) : impl_faultsText.go [] acc = some acc := by rw [impl_faultsText.go]
theorem go_cons (x : S70) (l : List S70) (acc t : ByteArray) (hi : impl_codeText.f x.f1 = some t) (hc : x.f0.size + 2 + t.size + 1 ≤ 35184372088832 ∧ acc.size ≤ 35184372088832) : impl_faultsText.go (x :: l) acc = impl_faultsText.go l (acc ++ impl_faultsText.piece x.f0 t) := by
  rw [impl_faultsText.go, hi, Option.bind_some, if_pos hc]
theorem go_all (l : List S70) : ∀ (acc : ByteArray) (m : Int), (∀ x ∈ l, lok x ∧ x.f0.size ≤ 1048576) → (acc.size : Int) ≤ m * 3000000 → m + (l.length : Int) ≤ 100 → impl_faultsText.go l acc = some (ltxt l acc) := by
  induction l with
  | nil => intro acc m _ _ _; rw [go_nil]; rfl
  | cons x l ih =>
    intro acc m h ha hm
    have hx := h x List.mem_cons_self
    have hp := psz hx.1.1 hx.2
    have hps := impl_faultsText.piece_size x.f0 (num x.f1)
    rw [List.length_cons] at hm
    have hsz : ((acc ++ impl_faultsText.piece x.f0 (num x.f1)).size : Int) ≤ (m + 1) * 3000000 := by rw [ByteArray.size_append]; omega
    rw [go_cons x l acc (num x.f1) (impl_word hx.1.1) ⟨by omega, by omega⟩]
    exact ih _ (m + 1) (fun y hy => h y (List.mem_cons_of_mem _ hy)) hsz (by omega)
theorem impl_areFaults.loop (X l : List S70) (hl : small l) (d : Nat) : ∀ (i : Int), 0 ≤ i → i ≤ l.length → (l.length : Int) - i = d →
    ∃ r, Ev (fun k => impl_areFaults.l0 k X l (l.length : Int) i) r ∧ (r = true ↔ (∀ x ∈ l.drop i.toNat, lok x) ∧ ¬ (X.length : Int) > 100) := by
  induction d with
  | zero =>
    intro i h0 h1 hd
    rw [List.drop_eq_nil_iff.mpr (by omega)]
    refine ⟨_, Ev.step (fun k => by rw [impl_areFaults.l0, if_neg (by omega)]) (Ev.now _), ?_⟩
    rw [decide_eq_true_iff]
    exact ⟨fun h => ⟨fun x hx => (by cases hx), by omega⟩, fun h => by have := h.2; omega⟩
  | succ d ih =>
    intro i h0 h1 hd
    have hlt : i < (l.length : Int) := by omega
    have hsm := hl.2 _ (T_mem l i h0 hlt)
    have hfew := hl.1
    rw [T_drop l i h0 hlt]
    generalize hx : rd_T70 l i = x at hsm ⊢
    obtain ⟨b, hb, eb⟩ := lin_isTime.is x.f1
    have hs : ∀ k, impl_areFaults.l0 (k + 1) X l (l.length : Int) i = (if b = true then ((impl_isLong.f k x.f0).bind fun t162 => (if t162 = true then (impl_areFaults.l0 k X l (l.length : Int) (i + 1)) else (some false))) else (some false)) := fun k => by
      rw [impl_areFaults.l0, if_pos hlt, if_pos h0, if_pos hlt, hx, hb, Option.bind_some, wrap_id (x := i + 1) (by omega) (by omega)]
    have hw := impl_isLong.is x.f0 (by omega)
    cases b with
    | false =>
      refine ⟨false, Ev.step hs (ev_neg (by simp) (Ev.now _)), fun h => (by cases h), fun h => ?_⟩
      exact eb.2 (h.1 x List.mem_cons_self).1
    | true =>
      have hin := eb.1 rfl
      cases hq : longB x.f0 with
      | false =>
        rw [hq] at hw
        refine ⟨false, Ev.step hs (ev_pos rfl (ev_bind hw (ev_neg (by simp) (Ev.now _)))), fun h => (by cases h), fun h => ?_⟩
        have := (h.1 x List.mem_cons_self).2
        rw [hq] at this; exact this
      | true =>
        rw [hq] at hw
        obtain ⟨r, hr, er⟩ := ih (i + 1) (by omega) (by omega) (by omega)
        refine ⟨r, Ev.step hs (ev_pos rfl (ev_bind hw (ev_pos rfl hr))), ?_⟩
        rw [er]
        refine ⟨fun h => ⟨fun y hy => ?_, h.2⟩, fun h => ⟨fun y hy => h.1 y (List.mem_cons_of_mem _ hy), h.2⟩⟩
        rcases List.mem_cons.1 hy with rfl | hy
        · exact ⟨hin, hq⟩
        · exact h.1 y hy
theorem both (l : List S70) (hl : small l) : ∃ r, Ev (fun k => spec_FaultsText.f k l) r ∧ Ev (fun k => impl_FaultsText.f k l) r := by
  obtain ⟨r, hr, e1, e2⟩ := spec_FaultsText.loop l l hl l.length ⟨#[]⟩ 0 (by omega) (by omega) (by decide) (by omega)
  obtain ⟨b, hb, eb⟩ := impl_areFaults.loop l l hl l.length 0 (by omega) (by omega) (by omega)
  simp only [Int.toNat_zero, List.drop_zero] at e1 e2 eb
  refine ⟨r, hr, ?_⟩
  have hb' : Ev (fun k => impl_areFaults.f k l) b := hb
  cases b with
  | false =>
    rw [e2 (by
      by_cases hc : (l.length : Int) > 100
      · exact Or.inl hc
      · exact Or.inr (fun h => by have := eb.2 ⟨h, hc⟩; cases this))]
    exact ev_bind hb' (ev_neg (by simp) (Ev.now _))
  | true =>
    have hall := eb.1 rfl
    rw [e1 hall.1 hall.2]
    refine ev_bind hb' (ev_pos rfl (ev_bind0 (a := ltxt l ⟨#[]⟩) ?_ (Ev.now _)))
    have := hall.2
    exact go_all l ⟨#[]⟩ 0 (fun x hx => ⟨hall.1 x hx, hl.2 x hx⟩) (by decide) (by omega)
/- the law's helpers -/
theorem laws_eqFault.is (x y : S70) : ∃ r, Ev (fun _ => laws_eqFault.f x.f0 x.f1 y.f0 y.f1) r ∧ (r = true ↔ x = y) := by
  cases x with | mk a b => cases y with | mk c d =>
  unfold laws_eqFault.f
  by_cases h : a.toList = c.toList
  · by_cases h2 : b = d
    · exact ⟨true, ev_pos h (ev_pos h2 (Ev.now _)), by simp [h2, eq_of_toList h]⟩
    · exact ⟨false, ev_pos h (ev_neg h2 (Ev.now _)), by simp [h2]⟩
  · exact ⟨false, ev_neg h (Ev.now _), by simp; intro e; exact absurd (by rw [e]) h⟩
theorem laws_eqFaultS.same (a : List S70) (hM : a.length ≤ 9223372036854775806) : Ev (fun k => laws_eqFaultS.f k a a) true := by
  obtain ⟨r, hr, e⟩ := eq_all z70 a a hM (fun k => laws_eqFaultS.f k a a) (fun k i => laws_eqFaultS.l0 k a a i) (fun _ x y => laws_eqFault.f x.f0 x.f1 y.f0 y.f1) (fun k => rfl)
    (fun hl k i h0 h1 => by show laws_eqFaultS.l0 (k + 1) a a i = _; rw [laws_eqFaultS.l0, if_pos h1, if_pos h0, if_pos h1]; rfl)
    (fun k i h => by show laws_eqFaultS.l0 (k + 1) a a i = _; rw [laws_eqFaultS.l0, if_neg h]) (fun x _ y _ => laws_eqFault.is x y)
  rwa [e.2 rfl] at hr
theorem laws_szFault.is (e : S69) (he : e.f0.size ≤ 9223372036854775807) (x : Int) (h0 : 0 ≤ x) (h1 : x ≤ 1048576) : ∃ r, Ev (fun _ => laws_szFault.f e.f0 e.f1 x) r ∧ (r < 0 ∨ (0 ≤ r ∧ r ≤ x ∧ e.f0.size ≤ 1048576)) := by
  have hw : wrap64 (x - (e.f0.size : Int)) = x - (e.f0.size : Int) := wrap_id (by omega) (by omega)
  unfold laws_szFault.f
  rw [hw]
  by_cases h : x - (e.f0.size : Int) < 0
  · exact ⟨-1, ev_pos h (Ev.now _), .inl (by omega)⟩
  · exact ⟨_, ev_neg h (Ev.now _), .inr ⟨by omega, by omega, by omega⟩⟩
theorem laws_szFaultS.is (l : List S69) (hl : l.length ≤ 9223372036854775807) (hg : ∀ e ∈ l, e.f0.size ≤ 9223372036854775807) (x : Int) (h0 : 0 ≤ x) (h1 : x ≤ 1048576) : ∃ r, Ev (fun k => laws_szFaultS.f k l x) r ∧ (r < 0 ∨ (0 ≤ r ∧ r ≤ x ∧ l.length ≤ 1048576 ∧ ∀ e ∈ l, e.f0.size ≤ 1048576)) := by
  have hw : wrap64 (x - (l.length : Int)) = x - (l.length : Int) := wrap_id (by omega) (by omega)
  unfold laws_szFaultS.f
  rw [hw]
  by_cases h : x - (l.length : Int) < 0
  · exact ⟨-1, ev_pos h (Ev.now _), .inl (by omega)⟩
  · obtain ⟨r, hr, e⟩ := sz_loop z69 l (by omega) (fun k x i => laws_szFaultS.l0 k l x i) (fun _ e x => laws_szFault.f e.f0 e.f1 x) (fun e => e.f0.size ≤ 1048576) 1048576
      (fun k x i h0 h1 => by show laws_szFaultS.l0 (k + 1) l x i = _; rw [laws_szFaultS.l0, if_pos h1, if_pos h0]; rfl)
      (fun k x i h => by show laws_szFaultS.l0 (k + 1) l x i = _; rw [laws_szFaultS.l0, if_neg h]) (fun e he x h0 h1 => laws_szFault.is e (hg e he) x h0 h1)
      l.length (x - (l.length : Int)) 0 (by omega) (by omega) (by omega) (by omega) (by omega)
    refine ⟨r, ev_neg h hr, ?_⟩
    rcases e with e | ⟨e1, e2, e3⟩
    · exact .inl e
    · exact .inr ⟨e1, by omega, by omega, by simpa using e3⟩
def linC (e : S69) : S70 := ⟨e.f0, e.f1⟩
theorem laws_toFaultS.is (l : List S69) (hl : l.length ≤ 1048576) : Ev (fun k => laws_toFaultS.f k l) (l.map linC) := by
  unfold laws_toFaultS.f
  refine ev_pos (by omega) (ev_pos (by omega) ?_)
  have h := to_loop z69 l (by omega) (fun k acc i => laws_toFaultS.l0 k l acc i) (fun _ e => laws_toFault.f e.f0 e.f1) (fun y => (⟨y.1, y.2⟩ : S70)) (fun e => (e.f0, e.f1))
    (fun k acc i h0 h1 hz => by
      show laws_toFaultS.l0 (k + 1) l acc i = _
      rw [laws_toFaultS.l0, if_pos h1, if_pos h0]
      have hz' : i < (acc.length : Int) := by omega
      simp only [if_pos hz']; rfl)
    (fun k acc i h => by show laws_toFaultS.l0 (k + 1) l acc i = _; rw [laws_toFaultS.l0, if_neg h]) (fun e _ => Ev.now _) l.length (List.replicate ((l.length : Int) : Int).toNat z70) 0 (by simp) (by omega) (by omega) (by simp) (by omega)
  exact h
end Go.Proofs.YtkkcpgahgehedaaDoor.PFaults
namespace Go.Proofs.YtkkcpgahgehedaaDoor.Pure
open Go.RowKit Go.Proofs.YtkkcpgahgehedaaDoor.PFaults Go.Proofs.YtkkcpgahgehedaaDoorW.PrintWords Go.Proofs.YtkkcpgahgehedaaDoor.Aid
theorem FnExactFaultsText : laws_FnExactFaultsText.Pure := by
  intro l hd
  refine Ev.rounds (r := true) ?_
  unfold laws_FnExactFaultsText.f
  obtain ⟨r, hr, e⟩ := laws_szFaultS.is l hd.1 (fun x hx => (hd.2 x hx).1) 1048576 (by omega) (by omega)
  rcases e with e | ⟨e1, e2, e3, e4⟩
  · exact ev_bind hr (ev_pos e (Ev.now _))
  refine ev_bind hr (ev_neg (by omega) ?_)
  have td := laws_toFaultS.is l e3
  have hsm : small (l.map linC) := ⟨by rw [List.length_map]; exact e3, fun x hx => by
    obtain ⟨y, hy, rfl⟩ := List.mem_map.1 hx
    exact e4 y hy⟩
  generalize l.map linC = L at td hsm
  obtain ⟨v, hs, hi⟩ := both L hsm
  have hfew := hsm.1
  have he := laws_eqFaultS.same L (by omega)
  refine ev_bind td (ev_bind hs (ev_bind td (ev_bind hi (ev_pos rfl ?_))))
  refine Ev.step (fun k => by rw [laws_FnExactFaultsText.j0, if_neg (by simp)]) ?_
  exact ev_bind td (ev_bind he (ev_pos rfl (Ev.now _)))
end Go.Proofs.YtkkcpgahgehedaaDoor.Pure

