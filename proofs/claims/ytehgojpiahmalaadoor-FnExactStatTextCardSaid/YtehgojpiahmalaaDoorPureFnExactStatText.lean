/- StatText of the program and of the reference agree at every stat: no condition. -/
import Derived.Test.YtehgojpiahmalaaDoorNumText
namespace Go.Proofs.YtehgojpiahmalaaDoor.PStat
open Go.RowKit Go.Proofs.YtehgojpiahmalaaDoorW.PrintWords Go.Proofs.YtehgojpiahmalaaDoorW.PrintLast Go.Proofs.YtehgojpiahmalaaDoorW.PrintMore Go.Proofs.YtehgojpiahmalaaDoor.Aid
set_option linter.unusedSimpArgs false
set_option linter.unusedVariables false
theorem signs_all : ∀ n : Fin 512, spec_l1Signs.f 10 (n.val : Int) = impl_modeText.f (n.val : Int) := by decide +kernel
theorem spec_l1Signs.is {x : Int} (h0 : 0 ≤ x) (h1 : x < 512) : Ev (fun k => spec_l1Signs.f k x) (strOfNums (impl_modeText.list x)) := by
  obtain ⟨n, rfl⟩ := Int.eq_ofNat_of_zero_le h0
  exact Ev.of (spec_l1Signs.mono _) (signs_all ⟨n, by omega⟩)
theorem mode_within (n a b : Int) : impl_within.f n a b = some (decide (a ≤ n ∧ n ≤ b)) := by
  unfold impl_within.f
  by_cases h : n ≥ a
  · rw [if_pos h]; simp [show a ≤ n from h]
  · rw [if_neg h]; simp [show ¬ a ≤ n from h]
theorem mode_l1In (n a b : Int) : spec_l1In.f n a b = some (decide (a ≤ n ∧ n ≤ b)) := by
  unfold spec_l1In.f
  by_cases h : n ≥ a
  · rw [if_pos h]; simp [show a ≤ n from h]
  · rw [if_neg h]; simp [show ¬ a ≤ n from h]
theorem rd_drop (l : List Int) (i : Int) (h0 : 0 ≤ i) (h1 : i < (l.length : Int)) : l.drop i.toNat = rd l i :: l.drop (i + 1).toNat := drop_list l 0 i h0 h1
theorem spec_l1In.is' (a b c : Int) : ∃ r, spec_l1In.f a b c = some r ∧ (r = true ↔ b ≤ a ∧ a ≤ c) := by
  unfold spec_l1In.f
  by_cases h : a ≥ b
  · exact ⟨_, if_pos h, by rw [decide_eq_true_iff]; exact ⟨fun x => ⟨h, x⟩, fun x => x.2⟩⟩
  · exact ⟨_, if_neg h, fun x => (by cases x), fun x => absurd x.1 (by omega)⟩
theorem impl_within.is' (a b c : Int) : ∃ r, impl_within.f a b c = some r ∧ (r = true ↔ b ≤ a ∧ a ≤ c) := by
  unfold impl_within.f
  by_cases h : a ≥ b
  · exact ⟨_, if_pos h, by rw [decide_eq_true_iff]; exact ⟨fun x => ⟨h, x⟩, fun x => x.2⟩⟩
  · exact ⟨_, if_neg h, fun x => (by cases x), fun x => absurd x.1 (by omega)⟩
theorem spec_l1All.loop (l : List Int) (lo hi : Int) (hM : l.length ≤ 1048576) (d : Nat) : ∀ i : Int, 0 ≤ i → i ≤ l.length → (l.length : Int) - i = d → ∃ r, Ev (fun k => spec_l1All.l0 k lo hi l (l.length : Int) i) r ∧ (r = true ↔ ∀ x ∈ l.drop i.toNat, lo ≤ x ∧ x ≤ hi) := by
  induction d with
  | zero =>
    intro i h0 hi' hd
    refine ⟨true, Ev.step (fun k => by rw [spec_l1All.l0, if_neg (by omega)]) (Ev.now _), ?_⟩
    rw [List.drop_eq_nil_iff.mpr (by omega)]; simp
  | succ d ih =>
    intro i h0 hi' hd
    have hlt : i < (l.length : Int) := by omega
    obtain ⟨b, hb, eb⟩ := spec_l1In.is' (rd l i) lo hi
    rw [rd_drop l i h0 hlt]
    cases b with
    | false => exact ⟨false, Ev.step (fun k => by rw [spec_l1All.l0, if_pos hlt, if_pos h0, if_pos hlt, hb, Option.bind_some, if_neg (by simp)]) (Ev.now _), fun x => (by cases x), fun x => eb.2 (x _ List.mem_cons_self)⟩
    | true =>
      obtain ⟨r, hr, e⟩ := ih (i + 1) (by omega) (by omega) (by omega)
      refine ⟨r, Ev.step (fun k => by rw [spec_l1All.l0, if_pos hlt, if_pos h0, if_pos hlt, hb, Option.bind_some, if_pos rfl, wrap_id (by omega) (by omega)]) hr, ?_⟩
      rw [e]
      refine ⟨fun h x hx => ?_, fun h x hx => h x (List.mem_cons_of_mem _ hx)⟩
      rcases List.mem_cons.1 hx with rfl | hx
      · exact eb.1 rfl
      · exact h x hx
theorem spec_l1All.is (l : List Int) (lo hi : Int) (hM : l.length ≤ 1048576) : ∃ r, Ev (fun k => spec_l1All.f k l lo hi) r ∧ (r = true ↔ ∀ x ∈ l, lo ≤ x ∧ x ≤ hi) := by
  obtain ⟨r, hr, e⟩ := spec_l1All.loop l lo hi hM l.length 0 (by omega) (by omega) (by omega)
  exact ⟨r, hr, by simpa using e⟩
theorem signs_size (x : Int) : (strOfNums (impl_modeText.list x)).size = 9 := by
  unfold impl_modeText.list; rfl
def inT (n : Int) : Prop := 0 ≤ n ∧ n ≤ 1000000
def txt (l : List Int) (acc : ByteArray) : ByteArray := l.foldl (fun a n => a ++ ((⟨#[32]⟩ : ByteArray) ++ num n)) acc
theorem piece_size {n : Int} (h : inT n) : (((⟨#[32]⟩ : ByteArray) ++ num n).size : Int) ≤ 1000002 ∧ ((num n).size : Int) ≤ 1000001 := by
  have := num_size h.1
  have h2 := h.2
  rw [ByteArray.size_append, show (⟨#[32]⟩ : ByteArray).size = 1 from rfl]; omega
theorem spec_l6Text.loop (l : List Int) (hl : l.length ≤ 5) (hr : ∀ n ∈ l, inT n) (d : Nat) : ∀ (acc : ByteArray) (i : Int), 0 ≤ i → i ≤ l.length → (acc.size : Int) ≤ 20 + i * 1000002 → (l.length : Int) - i = d →
    Ev (fun k => spec_l6Text.l0 k acc l (l.length : Int) i) (txt (l.drop i.toNat) acc) := by
  induction d with
  | zero =>
    intro acc i h0 h1 h2 hd
    refine Ev.step (fun k => by rw [spec_l6Text.l0, if_neg (by omega)]) (ev_some ?_)
    rw [List.drop_eq_nil_iff.mpr (by omega)]; rfl
  | succ d ih =>
    intro acc i h0 h1 h2 hd
    have hlt : i < (l.length : Int) := by omega
    have hin : inT (rd l i) := by
      have hl' : i.toNat < l.length := by omega
      refine hr _ ?_
      unfold rd; rw [List.getD_eq_getElem?_getD, List.getElem?_eq_getElem hl']; exact List.getElem_mem hl'
    have hp := piece_size hin
    have hn2 : rd l i ≤ 9223372036854775000 := Int.le_trans hin.2 (by decide)
    have c1 : 1 + (num (rd l i)).size ≤ 9223372036854775807 := by omega
    have c2 : acc.size + 1 + (num (rd l i)).size ≤ 9223372036854775807 := by omega
    have hnum := spec_l1Num.is (rd l i).toNat (rd l i) hin.1 hn2 (Eq.refl _)
    refine Ev.step (fun k => by rw [spec_l6Text.l0, if_pos hlt, if_pos h0, if_pos hlt, wrap_id (x := i + 1) (by omega) (by omega)]) (ev_bind hnum (ev_pos c1 (ev_pos c2 ?_)))
    rw [rd_drop l i h0 hlt]
    exact ih _ (i + 1) (by omega) (by omega) (by rw [ByteArray.size_append]; omega) (by omega)
theorem impl_isTime.is (n : Int) : ∃ r, impl_isTime.f n = some r ∧ (r = true ↔ inT n) := by
  unfold impl_isTime.f inT
  rw [mode_within]
  exact ⟨_, rfl, decide_eq_true_iff⟩
theorem impl_StatText.loop (l : List Int) (hl : l.length ≤ 5) (d : Nat) : ∀ (acc : ByteArray) (i : Int), 0 ≤ i → i ≤ l.length → (acc.size : Int) ≤ 20 + i * 1000002 → (l.length : Int) - i = d →
    ∃ r, Ev (fun k => impl_StatText.l0 k acc l (l.length : Int) i) r ∧ ((∀ n ∈ l.drop i.toNat, inT n) → r = (txt (l.drop i.toNat) acc, true)) ∧ (¬ (∀ n ∈ l.drop i.toNat, inT n) → r = ((⟨#[]⟩ : ByteArray), false)) := by
  induction d with
  | zero =>
    intro acc i h0 h1 h2 hd
    rw [List.drop_eq_nil_iff.mpr (by omega)]
    exact ⟨(acc, true), Ev.step (fun k => by rw [impl_StatText.l0, if_neg (by omega)]) (Ev.now _), fun _ => rfl, fun h => absurd (fun n hn => by cases hn) h⟩
  | succ d ih =>
    intro acc i h0 h1 h2 hd
    have hlt : i < (l.length : Int) := by omega
    obtain ⟨b, hb, eb⟩ := impl_isTime.is (rd l i)
    have hs : ∀ k, impl_StatText.l0 (k + 1) acc l (l.length : Int) i = (if b = true then ((strconv_Itoa.f (rd l i)).bind fun t142 => (if 1 + t142.size ≤ 9223372036854775807 then (if acc.size + 1 + t142.size ≤ 9223372036854775807 then (impl_StatText.l0 k (acc ++ ((⟨#[32]⟩ : ByteArray) ++ t142)) l (l.length : Int) (i + 1)) else (none)) else (none))) else (some ((⟨#[]⟩ : ByteArray), false))) := fun k => by
      rw [impl_StatText.l0, if_pos hlt, if_pos h0, if_pos hlt, hb, Option.bind_some, wrap_id (x := i + 1) (by omega) (by omega)]
    rw [rd_drop l i h0 hlt]
    cases b with
    | false =>
      refine ⟨_, Ev.step hs (ev_neg (by simp) (Ev.now _)), fun h => ?_, fun _ => rfl⟩
      have := eb.2 (h _ List.mem_cons_self)
      cases this
    | true =>
      have hin := eb.1 rfl
      have hp := piece_size hin
      obtain ⟨r, hr, e1, e2⟩ := ih (acc ++ ((⟨#[32]⟩ : ByteArray) ++ num (rd l i))) (i + 1) (by omega) (by omega) (by rw [ByteArray.size_append]; omega) (by omega)
      refine ⟨r, Ev.step hs (ev_pos rfl (ev_bind0 (a := num (rd l i)) (by unfold strconv_Itoa.f; rw [if_pos (by have := hin.1; have := hin.2; omega)]; rfl) (ev_pos (by omega) (ev_pos (by omega) hr)))), fun h => ?_, fun h => ?_⟩
      · exact e1 (fun n hn => h n (List.mem_cons_of_mem _ hn))
      · refine e2 (fun h' => h (fun n hn => ?_))
        rcases List.mem_cons.1 hn with rfl | hn
        · exact hin
        · exact h' n hn
theorem sign_same : ∀ d : Fin 4, 1 ≤ d.val → (⟨#[63, 45, 100, 108]⟩ : ByteArray).extract d.val (d.val + 1) = (⟨#[32, 45, 100, 108]⟩ : ByteArray).extract d.val (d.val + 1) ∧ ((⟨#[32, 45, 100, 108]⟩ : ByteArray).extract d.val (d.val + 1)).size = 1 := by decide +kernel
theorem sign_eq {a : Int} (h : 1 ≤ a ∧ a ≤ 3) : (⟨#[63, 45, 100, 108]⟩ : ByteArray).extract a.toNat (wrap64 (a + 1)).toNat = (⟨#[32, 45, 100, 108]⟩ : ByteArray).extract a.toNat (wrap64 (a + 1)).toNat ∧ ((⟨#[32, 45, 100, 108]⟩ : ByteArray).extract a.toNat (wrap64 (a + 1)).toNat).size = 1 := by
  rw [wrap_id (by omega) (by omega), show (a + 1).toNat = a.toNat + 1 by omega]
  exact sign_same ⟨a.toNat, by omega⟩ (by show 1 ≤ a.toNat; omega)
def sgn (a b : Int) : ByteArray := (⟨#[32, 45, 100, 108]⟩ : ByteArray).extract a.toNat (wrap64 (a + 1)).toNat ++ strOfNums (impl_modeText.list b)
theorem sgn_size {a b : Int} (h : 1 ≤ a ∧ a ≤ 3) : (sgn a b).size = 10 := by
  unfold sgn; rw [ByteArray.size_append, (sign_eq h).2, signs_size]
theorem spec_l6Text.is (a0 a1 a2 a3 a4 a5 a6 a7 : Int) (h1 : 1 ≤ a1 ∧ a1 ≤ 3) (h2 : 0 ≤ a2 ∧ a2 ≤ 511) (hr : ∀ n ∈ [a7, a3, a4, a6, a5], inT n) : Ev (fun k => spec_l6Text.f k a0 a1 a2 a3 a4 a5 a6 a7) (txt [a7, a3, a4, a6, a5] (sgn a1 a2)) := by
  have hw : wrap64 (a1 + 1) = a1 + 1 := wrap_id (by omega) (by omega)
  have hs := sign_eq h1
  have hz := signs_size a2
  have hg := @sgn_size a1 a2 h1
  refine ev_pos (by omega) (ev_pos (by rw [hw]; omega) (ev_pos (by rw [hw]; omega) (ev_bind (spec_l1Signs.is h2.1 (by omega)) (ev_pos (by rw [hs.1, hs.2, hz]; omega) (ev_bind0 rfl ?_)))))
  rw [hs.1]
  exact spec_l6Text.loop [a7, a3, a4, a6, a5] (by simp) hr 5 (sgn a1 a2) 0 (by omega) (by simp) (by rw [hg]; omega) (by simp)
open Classical in
noncomputable def statR (a0 a1 a2 a3 a4 a5 a6 a7 : Int) : ByteArray × Bool := if (1 ≤ a1 ∧ a1 ≤ 3) ∧ (0 ≤ a2 ∧ a2 ≤ 511) ∧ inT a0 ∧ (∀ n ∈ [a7, a3, a4, a6, a5], inT n) then (txt [a7, a3, a4, a6, a5] (sgn a1 a2), true) else ((⟨#[]⟩ : ByteArray), false)
theorem spec_StatText.is (a0 a1 a2 a3 a4 a5 a6 a7 : Int) : Ev (fun k => spec_StatText.f k a0 a1 a2 a3 a4 a5 a6 a7) (statR a0 a1 a2 a3 a4 a5 a6 a7) := by
  unfold spec_StatText.f spec_l1Mode.f
  rw [mode_l1In, mode_l1In]
  simp only [Option.bind_some]
  by_cases h1 : 1 ≤ a1 ∧ a1 ≤ 3
  · by_cases h2 : 0 ≤ a2 ∧ a2 ≤ 511
    · obtain ⟨b, hb, eb⟩ := spec_l1All.is [a0, a7, a3, a4, a6, a5] 0 1000000 (by simp)
      refine ev_pos (decide_eq_true h1) (ev_pos (decide_eq_true h2) (ev_bind hb ?_))
      cases b with
      | true =>
        have hall := eb.1 rfl
        have hr : ∀ n ∈ [a7, a3, a4, a6, a5], inT n := fun n hn => hall n (List.mem_cons_of_mem _ hn)
        refine ev_pos rfl (ev_bind (spec_l6Text.is a0 a1 a2 a3 a4 a5 a6 a7 h1 h2 hr) (ev_some ?_))
        unfold statR; rw [if_pos ⟨h1, h2, hall a0 List.mem_cons_self, hr⟩]
      | false =>
        refine ev_neg (by simp) (ev_some ?_)
        unfold statR; rw [if_neg (fun h => ?_)]
        have := eb.2 (fun n hn => by
          rcases List.mem_cons.1 hn with rfl | hn
          · exact h.2.2.1
          · exact h.2.2.2 n hn)
        cases this
    · exact ev_pos (decide_eq_true h1) (ev_neg (by simpa using h2) (ev_some (by unfold statR; rw [if_neg (fun h => h2 h.2.1)])))
  · exact ev_neg (by simpa using h1) (ev_some (by unfold statR; rw [if_neg (fun h => h1 h.1)]))
theorem impl_StatText.no (a0 a1 a2 a3 a4 a5 a6 a7 : Int) : Ev (fun k => impl_StatText.j0 k true a0 a1 a2 a3 a4 a5 a6 a7) ((⟨#[]⟩ : ByteArray), false) := Ev.step (fun k => by rw [impl_StatText.j0, if_pos rfl]) (Ev.now _)
theorem impl_StatText.is (a0 a1 a2 a3 a4 a5 a6 a7 : Int) : Ev (fun k => impl_StatText.f k a0 a1 a2 a3 a4 a5 a6 a7) (statR a0 a1 a2 a3 a4 a5 a6 a7) := by
  unfold impl_StatText.f impl_isMode.f
  rw [mode_within, mode_within]
  simp only [Option.bind_some]
  have hno := impl_StatText.no a0 a1 a2 a3 a4 a5 a6 a7
  by_cases h1 : 1 ≤ a1 ∧ a1 ≤ 3
  · by_cases h2 : 0 ≤ a2 ∧ a2 ≤ 511
    · obtain ⟨b, hb, eb⟩ := impl_isTime.is a0
      refine ev_pos (decide_eq_true h1) (ev_pos (decide_eq_true h2) (ev_bind0 hb ?_))
      cases b with
      | true =>
        have hw : wrap64 (a1 + 1) = a1 + 1 := wrap_id (by omega) (by omega)
        have hs := sign_eq h1
        have hz := signs_size a2
        have hg := @sgn_size a1 a2 h1
        obtain ⟨r, hr, e1, e2⟩ := impl_StatText.loop [a7, a3, a4, a6, a5] (by simp) 5 (sgn a1 a2) 0 (by omega) (by simp) (by rw [hg]; omega) (by simp)
        have hk : impl_kindSign.f a1 = some ((⟨#[32, 45, 100, 108]⟩ : ByteArray).extract a1.toNat (wrap64 (a1 + 1)).toNat) := by
          unfold impl_kindSign.f; rw [if_pos (by omega), if_pos (by rw [hw]; omega), if_pos (by rw [hw]; omega)]
        refine ev_eq (Ev.step (fun k => by rw [impl_StatText.j0, if_neg (by simp), hk, Option.bind_some, show impl_modeText.f a2 = some (strOfNums (impl_modeText.list a2)) from rfl, Option.bind_some, if_pos (by rw [hs.2, hz]; omega), Option.bind_some]; rfl) hr) ?_
        unfold statR
        by_cases hall : ∀ n ∈ [a7, a3, a4, a6, a5], inT n
        · rw [if_pos ⟨h1, h2, eb.1 rfl, hall⟩]; exact e1 hall
        · rw [if_neg (fun h => hall h.2.2.2)]; exact e2 hall
      | false => exact ev_eq hno (by unfold statR; rw [if_neg (fun h => by have := eb.2 h.2.2.1; cases this)])
    · exact ev_pos (decide_eq_true h1) (ev_neg (by simpa using h2) (ev_eq hno (by unfold statR; rw [if_neg (fun h => h2 h.2.1)])))
  · exact ev_neg (by simpa using h1) (ev_eq hno (by unfold statR; rw [if_neg (fun h => h1 h.1)]))
end Go.Proofs.YtehgojpiahmalaaDoor.PStat
namespace Go.Proofs.YtehgojpiahmalaaDoor.Pure
open Go.RowKit Go.Proofs.YtehgojpiahmalaaDoor.PStat Go.Proofs.YtehgojpiahmalaaDoorW.PrintWords Go.Proofs.YtehgojpiahmalaaDoor.Aid
theorem FnExactStatText : laws_FnExactStatText.Pure := by
  intro a0 a1 a2 a3 a4 a5 a6 a7 _ _ _ _ _ _ _ _
  refine Ev.rounds (r := true) ?_
  unfold laws_FnExactStatText.f laws_toStat.f
  have hs := spec_StatText.is a0 a1 a2 a3 a4 a5 a6 a7
  have hi := impl_StatText.is a0 a1 a2 a3 a4 a5 a6 a7
  generalize statR a0 a1 a2 a3 a4 a5 a6 a7 = v at hs hi
  refine ev_bind0 rfl (ev_bind hs (ev_bind0 rfl (ev_bind hi (ev_of ?_))))
  rw [if_pos rfl, bne_self_eq_false]; rfl
end Go.Proofs.YtehgojpiahmalaaDoor.Pure

