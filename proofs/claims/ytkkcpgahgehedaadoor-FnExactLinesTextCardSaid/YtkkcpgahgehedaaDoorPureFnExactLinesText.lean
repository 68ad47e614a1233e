/- LinesText of the program and of the reference agree at every list of lines: no condition. -/
import Derived.Test.YtkkcpgahgehedaaDoorLinesNum
import Derived.Test.YtkkcpgahgehedaaDoorLoops
namespace Go.Proofs.YtkkcpgahgehedaaDoor.PLines
open Go.RowKit Go.Proofs.YtkkcpgahgehedaaDoorW.PrintWords Go.Proofs.YtkkcpgahgehedaaDoorW.PrintLast Go.Proofs.YtkkcpgahgehedaaDoorW.PrintMore Go.Proofs.YtkkcpgahgehedaaDoor.Aid Go.Proofs.YtkkcpgahgehedaaDoor.Loops 
set_option linter.unusedSimpArgs false
set_option linter.unusedVariables false
def inT (n : Int) : Prop := 0 ≤ n ∧ n ≤ 1000000
theorem lin_l1In.is (n : Int) : ∃ r, spec_l1In.f n 0 1000000 = some r ∧ (r = true ↔ inT n) := by
  unfold spec_l1In.f inT
  by_cases h : n ≥ 0
  · exact ⟨_, if_pos h, by rw [decide_eq_true_iff]; exact ⟨fun x => ⟨h, x⟩, fun x => x.2⟩⟩
  · exact ⟨_, if_neg h, fun x => (by cases x), fun x => absurd x.1 (by omega)⟩
theorem lin_isTime.is (n : Int) : ∃ r, impl_isTime.f n = some r ∧ (r = true ↔ inT n) := by
  unfold impl_isTime.f impl_within.f inT
  by_cases h : n ≥ 0
  · exact ⟨_, by rw [if_pos h]; rfl, by rw [decide_eq_true_iff]; exact ⟨fun x => ⟨h, x⟩, fun x => x.2⟩⟩
  · exact ⟨_, by rw [if_neg h]; rfl, fun x => (by cases x), fun x => absurd x.1 (by omega)⟩
def lok (x : S61) : Prop := inT x.f0 ∧ longB x.f1 = true
def small (l : List S61) : Prop := l.length ≤ 1048576 ∧ ∀ x ∈ l, x.f1.size ≤ 1048576
def ltxt (l : List S61) (acc : ByteArray) : ByteArray := l.foldl (fun a x => a ++ impl_linesText.piece (num x.f0) x.f1) acc
theorem T_drop (l : List S61) (i : Int) (h0 : 0 ≤ i) (h1 : i < (l.length : Int)) : l.drop i.toNat = rd_T61 l i :: l.drop (i + 1).toNat := drop_list l z61 i h0 h1
theorem T_mem (l : List S61) (i : Int) (h0 : 0 ≤ i) (h1 : i < (l.length : Int)) : rd_T61 l i ∈ l := getD_mem l z61 i h0 h1
theorem psz {x : S61} (h : inT x.f0) (hs : x.f1.size ≤ 1048576) : ((num x.f0).size : Int) ≤ 1000001 ∧ ((impl_linesText.piece (num x.f0) x.f1).size : Int) ≤ 3000000 := by
  have h1 := num_size h.1
  have h2 := h.2
  have h3 := impl_linesText.piece_size (num x.f0) x.f1
  omega
theorem spec_LinesText.loop (X l : List S61) (hl : small l) (d : Nat) : ∀ (acc : ByteArray) (i : Int), 0 ≤ i → i ≤ l.length → (acc.size : Int) ≤ i * 3000000 → (l.length : Int) - i = d →
    ∃ r, Ev (fun k => spec_LinesText.l0 k X acc l (l.length : Int) i) r ∧ ((∀ x ∈ l.drop i.toNat, lok x) → ¬ (X.length : Int) > 100 → r = (ltxt (l.drop i.toNat) acc, true)) ∧ (((X.length : Int) > 100 ∨ ¬ (∀ x ∈ l.drop i.toNat, lok x)) → r = ((⟨#[]⟩ : ByteArray), false)) := by
  induction d with
  | zero =>
    intro acc i h0 h1 h2 hd
    rw [List.drop_eq_nil_iff.mpr (by omega)]
    by_cases hc : (X.length : Int) > 100
    · exact ⟨_, Ev.step (fun k => by rw [spec_LinesText.l0, if_neg (by omega), if_pos hc]) (Ev.now _), fun _ h => absurd hc h, fun _ => rfl⟩
    · refine ⟨_, Ev.step (fun k => by rw [spec_LinesText.l0, if_neg (by omega), if_neg hc]) (Ev.now (acc, true)), fun _ _ => rfl, fun h => ?_⟩
      rcases h with h | h
      · exact absurd h hc
      · exact absurd (fun x hx => by cases hx) h
  | succ d ih =>
    intro acc i h0 h1 h2 hd
    have hlt : i < (l.length : Int) := by omega
    have hsm := hl.2 _ (T_mem l i h0 hlt)
    have hfew := hl.1
    rw [T_drop l i h0 hlt]
    generalize hx : rd_T61 l i = x at hsm ⊢
    obtain ⟨b, hb, eb⟩ := lin_l1In.is x.f0
    have hs : ∀ k, spec_LinesText.l0 (k + 1) X acc l (l.length : Int) i = (if b = true then ((spec_l8Way.f k x.f1).bind fun t133 => (if t133 = true then ((spec_l1Num.f k x.f0).bind fun t134 => (if t134.size + 1 ≤ 9223372036854775807 then (if t134.size + 1 + x.f1.size ≤ 9223372036854775807 then (if t134.size + 1 + x.f1.size + 1 ≤ 9223372036854775807 then (if acc.size + (t134.size + 1 + x.f1.size + 1) ≤ 9223372036854775807 then (spec_LinesText.l0 k X (acc ++ impl_linesText.piece t134 x.f1) l (l.length : Int) (i + 1)) else (none)) else (none)) else (none)) else (none))) else (some ((⟨#[]⟩ : ByteArray), false)))) else (some ((⟨#[]⟩ : ByteArray), false))) := fun k => by
      rw [spec_LinesText.l0, if_pos hlt, if_pos h0, if_pos hlt, hx, hb, Option.bind_some, wrap_id (x := i + 1) (by omega) (by omega)]; rfl
    have hw := spec_l8Way.is x.f1 (by omega)
    cases b with
    | false =>
      refine ⟨_, Ev.step hs (ev_neg (by simp) (Ev.now _)), fun h => ?_, fun _ => rfl⟩
      have := eb.2 (h x List.mem_cons_self).1
      cases this
    | true =>
      have hin := eb.1 rfl
      cases hq : longB x.f1 with
      | false =>
        rw [hq] at hw
        refine ⟨_, Ev.step hs (ev_pos rfl (ev_bind hw (ev_neg (by simp) (Ev.now _)))), fun h => ?_, fun _ => rfl⟩
        have := (h x List.mem_cons_self).2
        rw [hq] at this; cases this
      | true =>
        rw [hq] at hw
        have hp := psz hin hsm
        have hps := impl_linesText.piece_size (num x.f0) x.f1
        have c0 : i * 3000000 ≤ 1048576 * 3000000 := Int.mul_le_mul_of_nonneg_right (by omega) (by omega)
        have c1 : (num x.f0).size + 1 ≤ 9223372036854775807 := by omega
        have c2 : (num x.f0).size + 1 + x.f1.size ≤ 9223372036854775807 := by omega
        have c3 : (num x.f0).size + 1 + x.f1.size + 1 ≤ 9223372036854775807 := by omega
        have c4 : acc.size + ((num x.f0).size + 1 + x.f1.size + 1) ≤ 9223372036854775807 := by omega
        have hn2 : x.f0 ≤ 9223372036854775000 := Int.le_trans hin.2 (by decide)
        have hnum := spec_l1Num.is x.f0.toNat x.f0 hin.1 hn2 (Eq.refl _)
        obtain ⟨r, hr, e1, e2⟩ := ih (acc ++ impl_linesText.piece (num x.f0) x.f1) (i + 1) (by omega) (by omega) (by rw [ByteArray.size_append]; omega) (by omega)
        refine ⟨r, Ev.step hs (ev_pos rfl (ev_bind hw (ev_pos rfl (ev_bind hnum (ev_pos c1 (ev_pos c2 (ev_pos c3 (ev_pos c4 hr)))))))), fun h hc => ?_, fun h => e2 ?_⟩
        · exact e1 (fun y hy => h y (List.mem_cons_of_mem _ hy)) hc
        · rcases h with h | h
          · exact Or.inl h
          · refine Or.inr (fun h' => h (fun y hy => ?_))
            rcases List.mem_cons.1 hy with rfl | hy
            · exact ⟨hin, hq⟩
            · exact h' y hy
theorem go_nil (acc : ByteArray) : impl_linesText.go [] acc = some acc := by rw [impl_linesText.go]
theorem go_cons (x : S61) (l : List S61) (acc t : ByteArray) (hi : strconv_Itoa.f x.f0 = some t) (hc : t.size + 1 + x.f1.size + 1 ≤ 35184372088832 ∧ acc.size ≤ 35184372088832) : impl_linesText.go (x :: l) acc = impl_linesText.go l (acc ++ impl_linesText.piece t x.f1) := by
  rw [impl_linesText.go, hi, Option.bind_some, if_pos hc]
theorem itoa_num (n : Int) (h : inT n) : strconv_Itoa.f n = some (num n) := by
  have h1 := h.1
  have h2 := h.2
  unfold strconv_Itoa.f
  exact if_pos ⟨by omega, by omega⟩
theorem go_all (l : List S61) : ∀ (acc : ByteArray) (m : Int), (∀ x ∈ l, lok x ∧ x.f1.size ≤ 1048576) → (acc.size : Int) ≤ m * 3000000 → m + (l.length : Int) ≤ 100 → impl_linesText.go l acc = some (ltxt l acc) := by
  induction l with
  | nil => intro acc m _ _ _; rw [go_nil]; rfl
  | cons x l ih =>
    intro acc m h ha hm
    have hx := h x List.mem_cons_self
    have hp := psz hx.1.1 hx.2
    have hps := impl_linesText.piece_size (num x.f0) x.f1
    rw [List.length_cons] at hm
    have hsz : ((acc ++ impl_linesText.piece (num x.f0) x.f1).size : Int) ≤ (m + 1) * 3000000 := by rw [ByteArray.size_append]; omega
    rw [go_cons x l acc (num x.f0) (itoa_num x.f0 hx.1.1) ⟨by omega, by omega⟩]
    exact ih _ (m + 1) (fun y hy => h y (List.mem_cons_of_mem _ hy)) hsz (by omega)
theorem impl_LinesText.loop (X l : List S61) (hl : small l) (d : Nat) : ∀ (i : Int), 0 ≤ i → i ≤ l.length → (l.length : Int) - i = d →
    ∃ b : Bool, (b = true ↔ ∀ x ∈ l.drop i.toNat, lok x) ∧ (b = false → Ev (fun k => impl_LinesText.l0 k X l (l.length : Int) i) ((⟨#[]⟩ : ByteArray), false)) ∧
      (b = true → ∀ r, (if (X.length : Int) > 100 then (some ((⟨#[]⟩ : ByteArray), false)) else ((impl_linesText.f X).bind fun t158 => (some (t158, true)))) = some r → Ev (fun k => impl_LinesText.l0 k X l (l.length : Int) i) r) := by
  induction d with
  | zero =>
    intro i h0 h1 hd
    rw [List.drop_eq_nil_iff.mpr (by omega)]
    exact ⟨true, ⟨fun _ x hx => (by cases hx), fun _ => rfl⟩, fun h => (by cases h), fun _ r hr => Ev.step (fun k => by rw [impl_LinesText.l0, if_neg (by omega)]) (ev_of hr)⟩
  | succ d ih =>
    intro i h0 h1 hd
    have hlt : i < (l.length : Int) := by omega
    have hsm := hl.2 _ (T_mem l i h0 hlt)
    have hfew := hl.1
    rw [T_drop l i h0 hlt]
    generalize hx : rd_T61 l i = x at hsm ⊢
    obtain ⟨b, hb, eb⟩ := lin_isTime.is x.f0
    have hs : ∀ k, impl_LinesText.l0 (k + 1) X l (l.length : Int) i = (if b = true then ((impl_isLong.f k x.f1).bind fun t162 => (if t162 = true then (impl_LinesText.l0 k X l (l.length : Int) (i + 1)) else (some ((⟨#[]⟩ : ByteArray), false)))) else (some ((⟨#[]⟩ : ByteArray), false))) := fun k => by
      rw [impl_LinesText.l0, if_pos hlt, if_pos h0, if_pos hlt, hx, hb, Option.bind_some, wrap_id (x := i + 1) (by omega) (by omega)]
    have hw := impl_isLong.is x.f1 (by omega)
    cases b with
    | false =>
      refine ⟨false, ⟨fun h => (by cases h), fun h => ?_⟩, fun _ => Ev.step hs (ev_neg (by simp) (Ev.now _)), fun h => (by cases h)⟩
      have := eb.2 (h x List.mem_cons_self).1
      cases this
    | true =>
      have hin := eb.1 rfl
      cases hq : longB x.f1 with
      | false =>
        rw [hq] at hw
        refine ⟨false, ⟨fun h => (by cases h), fun h => ?_⟩, fun _ => Ev.step hs (ev_pos rfl (ev_bind hw (ev_neg (by simp) (Ev.now _)))), fun h => (by cases h)⟩
        have := (h x List.mem_cons_self).2
        rw [hq] at this; cases this
      | true =>
        rw [hq] at hw
        obtain ⟨c, ec, g1, g2⟩ := ih (i + 1) (by omega) (by omega) (by omega)
        refine ⟨c, ?_, fun h => Ev.step hs (ev_pos rfl (ev_bind hw (ev_pos rfl (g1 h)))), fun h r hr => Ev.step hs (ev_pos rfl (ev_bind hw (ev_pos rfl (g2 h r hr))))⟩
        rw [ec]
        refine ⟨fun h y hy => ?_, fun h y hy => h y (List.mem_cons_of_mem _ hy)⟩
        rcases List.mem_cons.1 hy with rfl | hy
        · exact ⟨hin, hq⟩
        · exact h y hy
theorem both (l : List S61) (hl : small l) : ∃ r, Ev (fun k => spec_LinesText.f k l) r ∧ Ev (fun k => impl_LinesText.f k l) r := by
  obtain ⟨r, hr, e1, e2⟩ := spec_LinesText.loop l l hl l.length ⟨#[]⟩ 0 (by omega) (by omega) (by decide) (by omega)
  obtain ⟨b, eb, g1, g2⟩ := impl_LinesText.loop l l hl l.length 0 (by omega) (by omega) (by omega)
  simp only [Int.toNat_zero, List.drop_zero] at e1 e2 eb
  refine ⟨r, hr, ?_⟩
  cases b with
  | false =>
    rw [e2 (Or.inr (fun h => by have := eb.2 h; cases this))]
    exact g1 rfl
  | true =>
    have hall := eb.1 rfl
    refine g2 rfl r ?_
    by_cases hc : (l.length : Int) > 100
    · rw [if_pos hc, e2 (Or.inl hc)]
    · rw [if_neg hc, e1 hall hc]
      unfold impl_linesText.f
      rw [go_all l ⟨#[]⟩ 0 (fun x hx => ⟨hall x hx, hl.2 x hx⟩) (by decide) (by omega)]; rfl
/- the law's helpers -/
theorem laws_eqLine.is (x y : S61) : ∃ r, Ev (fun _ => laws_eqLine.f x.f0 x.f1 y.f0 y.f1) r ∧ (r = true ↔ x = y) := by
  cases x with | mk a b => cases y with | mk c d =>
  unfold laws_eqLine.f
  by_cases h : a = c
  · by_cases h2 : b.toList = d.toList
    · exact ⟨true, ev_pos h (ev_pos h2 (Ev.now _)), by simp [h, eq_of_toList h2]⟩
    · exact ⟨false, ev_pos h (ev_neg h2 (Ev.now _)), by simp; intro _ e; exact absurd (by rw [e]) h2⟩
  · exact ⟨false, ev_neg h (Ev.now _), by simp [h]⟩
theorem laws_eqLineS.same (a : List S61) (hM : a.length ≤ 9223372036854775806) : Ev (fun k => laws_eqLineS.f k a a) true := by
  obtain ⟨r, hr, e⟩ := eq_all z61 a a hM (fun k => laws_eqLineS.f k a a) (fun k i => laws_eqLineS.l0 k a a i) (fun _ x y => laws_eqLine.f x.f0 x.f1 y.f0 y.f1) (fun k => rfl)
    (fun hl k i h0 h1 => by show laws_eqLineS.l0 (k + 1) a a i = _; rw [laws_eqLineS.l0, if_pos h1, if_pos h0, if_pos h1]; rfl)
    (fun k i h => by show laws_eqLineS.l0 (k + 1) a a i = _; rw [laws_eqLineS.l0, if_neg h]) (fun x _ y _ => laws_eqLine.is x y)
  rwa [e.2 rfl] at hr
theorem laws_szLine.is (e : S60) (he : e.f1.size ≤ 9223372036854775807) (x : Int) (h0 : 0 ≤ x) (h1 : x ≤ 1048576) : ∃ r, Ev (fun _ => laws_szLine.f e.f0 e.f1 x) r ∧ (r < 0 ∨ (0 ≤ r ∧ r ≤ x ∧ e.f1.size ≤ 1048576)) := by
  have hw : wrap64 (x - (e.f1.size : Int)) = x - (e.f1.size : Int) := wrap_id (by omega) (by omega)
  unfold laws_szLine.f
  rw [hw]
  by_cases h : x - (e.f1.size : Int) < 0
  · exact ⟨-1, ev_pos h (Ev.now _), .inl (by omega)⟩
  · exact ⟨_, ev_neg h (Ev.now _), .inr ⟨by omega, by omega, by omega⟩⟩
theorem laws_szLineS.is (l : List S60) (hl : l.length ≤ 9223372036854775807) (hg : ∀ e ∈ l, e.f1.size ≤ 9223372036854775807) (x : Int) (h0 : 0 ≤ x) (h1 : x ≤ 1048576) : ∃ r, Ev (fun k => laws_szLineS.f k l x) r ∧ (r < 0 ∨ (0 ≤ r ∧ r ≤ x ∧ l.length ≤ 1048576 ∧ ∀ e ∈ l, e.f1.size ≤ 1048576)) := by
  have hw : wrap64 (x - (l.length : Int)) = x - (l.length : Int) := wrap_id (by omega) (by omega)
  unfold laws_szLineS.f
  rw [hw]
  by_cases h : x - (l.length : Int) < 0
  · exact ⟨-1, ev_pos h (Ev.now _), .inl (by omega)⟩
  · obtain ⟨r, hr, e⟩ := sz_loop z60 l (by omega) (fun k x i => laws_szLineS.l0 k l x i) (fun _ e x => laws_szLine.f e.f0 e.f1 x) (fun e => e.f1.size ≤ 1048576) 1048576
      (fun k x i h0 h1 => by show laws_szLineS.l0 (k + 1) l x i = _; rw [laws_szLineS.l0, if_pos h1, if_pos h0]; rfl)
      (fun k x i h => by show laws_szLineS.l0 (k + 1) l x i = _; rw [laws_szLineS.l0, if_neg h]) (fun e he x h0 h1 => laws_szLine.is e (hg e he) x h0 h1)
      l.length (x - (l.length : Int)) 0 (by omega) (by omega) (by omega) (by omega) (by omega)
    refine ⟨r, ev_neg h hr, ?_⟩
    rcases e with e | ⟨e1, e2, e3⟩
    · exact .inl e
    · exact .inr ⟨e1, by omega, by omega, by simpa using e3⟩
def linC (e : S60) : S61 := ⟨e.f0, e.f1⟩
theorem laws_toLineS.is (l : List S60) (hl : l.length ≤ 1048576) : Ev (fun k => laws_toLineS.f k l) (l.map linC) := by
  unfold laws_toLineS.f
  refine ev_pos (by omega) (ev_pos (by omega) ?_)
  have h := to_loop z60 l (by omega) (fun k acc i => laws_toLineS.l0 k l acc i) (fun _ e => laws_toLine.f e.f0 e.f1) (fun y => (⟨y.1, y.2⟩ : S61)) (fun e => (e.f0, e.f1))
    (fun k acc i h0 h1 hz => by
      show laws_toLineS.l0 (k + 1) l acc i = _
      rw [laws_toLineS.l0, if_pos h1, if_pos h0]
      have hz' : i < (acc.length : Int) := by omega
      simp only [if_pos hz']; rfl)
    (fun k acc i h => by show laws_toLineS.l0 (k + 1) l acc i = _; rw [laws_toLineS.l0, if_neg h]) (fun e _ => Ev.now _) l.length (List.replicate ((l.length : Int) : Int).toNat z61) 0 (by simp) (by omega) (by omega) (by simp) (by omega)
  exact h
end Go.Proofs.YtkkcpgahgehedaaDoor.PLines
namespace Go.Proofs.YtkkcpgahgehedaaDoor.Pure
open Go.RowKit Go.Proofs.YtkkcpgahgehedaaDoor.PLines Go.Proofs.YtkkcpgahgehedaaDoorW.PrintWords Go.Proofs.YtkkcpgahgehedaaDoor.Aid
theorem FnExactLinesText : laws_FnExactLinesText.Pure := by
  intro l hd
  refine Ev.rounds (r := true) ?_
  unfold laws_FnExactLinesText.f
  obtain ⟨r, hr, e⟩ := laws_szLineS.is l hd.1 (fun x hx => (hd.2 x hx).2) 1048576 (by omega) (by omega)
  rcases e with e | ⟨e1, e2, e3, e4⟩
  · exact ev_bind hr (ev_pos e (Ev.now _))
  refine ev_bind hr (ev_neg (by omega) ?_)
  have td := laws_toLineS.is l e3
  have hsm : small (l.map linC) := ⟨by rw [List.length_map]; exact e3, fun x hx => by
    obtain ⟨y, hy, rfl⟩ := List.mem_map.1 hx
    exact e4 y hy⟩
  generalize l.map linC = L at td hsm
  obtain ⟨v, hs, hi⟩ := both L hsm
  have hfew := hsm.1
  have he := laws_eqLineS.same L (by omega)
  refine ev_bind td (ev_bind hs (ev_bind td (ev_bind hi (ev_pos rfl ?_))))
  refine Ev.step (fun k => by rw [laws_FnExactLinesText.j0, if_neg (by simp)]) ?_
  exact ev_bind td (ev_bind he (ev_pos rfl (Ev.now _)))
end Go.Proofs.YtkkcpgahgehedaaDoor.Pure

