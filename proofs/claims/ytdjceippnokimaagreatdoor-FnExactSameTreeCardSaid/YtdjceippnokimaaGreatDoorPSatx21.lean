import Derived.Test.YtdjceippnokimaaGreatDoorPSatx0
import Derived.Test.YtdjceippnokimaaGreatDoorPSatx19
import Derived.Test.YtdjceippnokimaaGreatDoorPSatx20
namespace Go.Proofs.YtdjceippnokimaaGreatDoor.PSat
open Go.RowKit Go.Proofs.YtdjceippnokimaaGreatDoorW.PrintWords Go.Proofs.YtdjceippnokimaaGreatDoorW.PrintLast Go.Proofs.YtdjceippnokimaaGreatDoorW.PrintMore
attribute [local go_sem] max2_int min2_int max_two min_two max_three min_three max_four min_four
set_option linter.unusedVariables false
set_option linter.unusedSimpArgs false
set_option maxHeartbeats 8000000
set_option maxRecDepth 100000
/-! ### impl_Fs_treeText: function 24 -/
theorem isBuilderF_below {T e : TypeId} {B b : Nat} {bs : List Value} {w w1 : World} (h : Lib.IsBuilderF T e B b bs w) (hb : Below w.heap.size w w1) : Lib.IsBuilderF T e B b bs w1 := by
 have key : ∀ p, Lib.BuilderAtF T e B b p bs w → Lib.BuilderAtF T e B b p bs w1 := fun p ⟨h1, v, h2, h3, h4⟩ => ⟨h1, v, (hb.block b (blk_lt h2)).trans h2, ⟨h3.1, h3.2.imp id (fun ⟨g, cap, cur, fz, hv, hbg, hg, rest⟩ => ⟨g, cap, cur, fz, hv, hbg, (hb.block g (blk_lt hg)).trans hg, rest⟩)⟩, h4⟩
 exact h.elim (fun x => .inl (key _ x)) (fun x => .inr (key _ x))
theorem builder_write (B b : Nat) (bs : List Value) (s : ByteArray) (w : World) (h : Lib.IsBuilderF 71 5 B b bs w) (hlen : bs.length + s.size ≤ 140737488355328) (hBw : B ≤ w.heap.size) :
  Calls Tryz.prog 44 #[.pointer (some ⟨b, 0, none⟩), .string s] w fun e w' => e = .returned (.tuple #[.int .i64 s.size, .nilIface]) ∧ (Lib.BuilderAtF 71 5 B b (.pointer (some ⟨b, 0, none⟩)) (bs ++ Lib.strCells s) w' ∧ Below B w w' ∧ Lib.OthersKept 5 (some b) w w') := Any.Builder_WriteString_k Tryz.lays166 Tryz.Builder_Extra_166 B b bs s w h hlen hBw
theorem builder_string (B b : Nat) (l : List UInt8) (w : World) (h : Lib.IsBuilderF 71 5 B b (Lib.byteCells l) w) (hBw : B ≤ w.heap.size) :
  Calls Tryz.prog 46 #[.pointer (some ⟨b, 0, none⟩)] w fun e w' => e = .returned (.string ⟨l.toArray⟩) ∧ (Lib.IsBuilderF 71 5 B b (Lib.byteCells l) w' ∧ Below B w w' ∧ Lib.OthersKept 5 (some b) w w') := Tryz.Builder_String_any_k B b l w h hBw
theorem bytes_cells (acc s : ByteArray) : Lib.byteCells acc.data.toList ++ Lib.strCells s = Lib.byteCells (acc ++ s).data.toList := by
 simp [Lib.byteCells, Lib.strCells]
theorem bytes_len (acc : ByteArray) : (Lib.byteCells acc.data.toList).length = acc.size := by
 rw [Lib.byteCells_length]; rfl
def impl_Fs_treeText.go (ns : List S65) (room : Int) : List S75 → ByteArray → Option ByteArray
 | [], acc => some acc
 | x :: l, acc => (impl_Fs_wayText.f ns room x.f0 x.f1).bind fun t => if t.size ≤ 35184372088832 ∧ acc.size ≤ 105553116266496 then impl_Fs_treeText.go ns room l (acc ++ t) else none
def impl_Fs_treeText.f (k : Nat) (lq : List (S65)) (aq : Int) (a1 : Int) : Option ByteArray := (impl_Fs_ways.f k lq aq a1 false).bind fun ws => impl_Fs_treeText.go lq aq ws ⟨#[]⟩
theorem impl_Fs_treeText.calls (k : Nat) (Aq : Option Addr) (cq : Nat) (lq : List (S65)) (aq : Int) (a1 : Int) (r : ByteArray) (w : World) (hr0_0 : Kd.C k65 w Aq lq.length lq) (hc0_0 : lq.length ≤ cq) (htab : Lib.TabIs Tryz.prog w "internal/strconv.uint64pow10" .u64 Lib.pow10Tab) (h : impl_Fs_treeText.f k lq aq a1 = some r) :
  Calls Tryz.prog 24 #[.agg #[.slice Aq lq.length cq, .int .i64 aq], .int .i64 a1] w fun e w' => e = .returned (.string r) ∧ Below w.heap.size w w' := by
 have hu30 := Tryz.underlying30; have hu75 := Tryz.underlying75; obtain ⟨ws, A1, h⟩ := Option.bind_eq_some_iff.mp h; have HA := aM A1; have HR := aM hr0_0; have HC := aM hc0_0; have H0 := aM h; have HTAB := aM htab; have HB := b0 w; clear h A1 hr0_0 hc0_0 htab; go_enter Tryz.func24, Tryz.ntmps24
 go_wp2_with (first
  | ((with_reducible refine gd 2 rfl ?_); refine bxE 2 #[.slice Aq lq.length cq, .int .i64 aq] 30 ?_; intro gF hg w2 hbox hb; have BF := aM hbox; replace HB := nSB hb; clear hb hbox hg; have hcF := cb2 BF)
  | ((with_reducible refine gd 5 rfl ?_); refine bxE 5 #[.pointer none, .slice none 0 0] 71 ?_; intro gB hg w3 hbox hb; have BB := aM hbox; have GB := aM (show w.heap.size ≤ gB by rw [hg]; exact HB.out.size); have NFB := nL BF hg; have NBF := nH BF hg; replace BF := nK BF hb; replace HB := nSB hb; clear hb hbox hg hcF; have hcB := cb2 BB; have hfB0 := fz BB 0; have hfB1 := fz BB 1; have hcF := cb2 BF; have hne1 := NFB.out; have hne2 := NBF.out)
  | (go_at_call 43; (refine (impl_Fs_ways.calls k _ _ lq aq a1 false ws _ ?s1 HC.out HA.out).mono ?_; (case s1 => exact Kd.C_below HR.out (below_set (below_set HB.out GB.out) GB.out)); rintro e w5 ⟨v, rfl, ho, hb⟩; have B5 := aM (below_step (below_set (below_set HB.out GB.out) GB.out) hb); have BF5 := aM (blk_below (g := gF) (blk_far (blk_far BF.out NFB.out _) NFB.out _) hb); have BB5 := aM (blk_below (g := gB) (blk_put (blk_put BB.out 0 _ rfl) 1 _ rfl) hb); have HO5 := aM (Kd.R_tight rfl (Kd.R_lower ho (below_size (below_set (below_set HB.out GB.out) GB.out)))); obtain ⟨Aw, cw, ew⟩ := Kd.R_slice ho; subst ew; clear ho hb hcF hcB hfB0 hfB1 HB BF BB)))
 have hsum : ws.length ≤ 9223372036854775807 := (Kd.R_reads' HO5.out).2.2.2.1
 go_loopg [13] ws.length (fun kq v13 w' => ∃ (i : Nat) (acc : ByteArray), v13 = .int .i64 (i : Int) ∧ Aside0 (i + kq = ws.length) ∧ Aside0 (impl_Fs_treeText.go lq aq (ws.drop i) acc = some r) ∧ Aside0 (Lib.IsBuilderF 71 5 w.heap.size gB (Lib.byteCells acc.data.toList) w') ∧ Aside0 (w'.heap[gF]? = some (.cells #[.slice Aq lq.length cq, .int .i64 aq] 30 (0, 0))) ∧ Aside0 (Kd.R k75 75 w' w.heap.size (fun k_ => some k_ = (Value.slice Aw ws.length cw).ownBlock) (.slice Aw ws.length cw) ws) ∧ Aside0 (Below w.heap.size w w'))
 case atStart =>
  refine ⟨0, ⟨#[]⟩, rfl, ⟨by omega⟩, ⟨by simpa using H0.out⟩, ⟨?_⟩, BF5, HO5, B5⟩; exact .inl ⟨GB.out, .slice none 0 0, BB5.out, World.ownsRowF_of (own_nil _ _ _ _), by simp [Value.ownBlock]⟩
 case round =>
  clear H0 BB5 BF5 HO5 B5; obtain ⟨i, acc, rfl, HI, HG, HBU, BF, HO, HB⟩ := hrel; by_cases hlt : i < ws.length
  ·obtain ⟨k1, rfl⟩ : ∃ k1, gk = k1 + 1 := ⟨gk - 1, by have := HI.out; omega⟩; have hq : (i : Int) < (ws.length : Int) := by omega
   have hG := HG.out; clear HG
   rw [show ws.drop i = r75 ws (i : Int) :: ws.drop (i + 1) from by
    rw [List.drop_eq_getElem_cons hlt]; unfold r75
    rw [List.getD_eq_getElem?_getD, show (i : Int).toNat = i by omega, List.getElem?_eq_getElem hlt]; rfl] at hG
   unfold impl_Fs_treeText.go at hG; obtain ⟨t, ht, hG⟩ := Option.bind_eq_some_iff.mp hG
   split at hG
   rotate_left
   ·cases hG
   rename_i hsz
   have HT := aM ht; have HS := aM hsz; have HG := aM hG; clear ht hsz hG; obtain ⟨ad, e_, hx0, hx1⟩ := at_T75 (Kd.R_reads' HO.out).2.2 (i : Int) (by omega) hq; cases e_; simp only [Int.toNat_natCast] at hx0 hx1; have hcF := cb2 BF; have p_ := eq_true (show 0 ≤ (i : Int) by omega); have q_ := eq_true hq; generalize r75 ws (i : Int) = x at hx0 hx1 HT
   go_wp2_with (first
    | ((with_reducible refine gd 7 rfl ?_); refine bxE 7 #[.string (⟨#[]⟩ : ByteArray), .int .i64 0] 75 ?_; intro gx hg w9 hbox hb; have BX := aM hbox; have HM := aM hb; have GX := aM (show wr.heap.size ≤ gx by rw [hg]; exact Nat.le_refl _); have hnx : gF ≠ gx := (by have := blk_lt BF.out; rw [hg]; omega); have hnx2 : gx ≠ gF := (fun e => hnx e.symm); clear hbox; replace hcF := cb2 (aM (blk_below (g := gF) BF.out hb)); clear hb hg hx0 hx1; have hcX := cb2 BX; have hfX0 := fz BX 0; have hfX1 := fz BX 1)
    | (go_at_call 45; (refine (impl_Fs_wayText.calls Aq cq lq aq x.f0 x.f1 t _ ?s1 HC.out ?s2 HT.out).mono ?_; (case s1 => exact Kd.C_below HR.out (below_step HB.out (below_set (below_set HM.out GX.out) GX.out))); (case s2 => exact tab_below HTAB.out (below_step HB.out (below_set (below_set HM.out GX.out) GX.out))); rintro e w10 ⟨rfl, hb⟩; have HM2 := aM (below_step (below_set (below_set HM.out GX.out) GX.out) hb); clear hb hcF hcX hfX0 hfX1))
    | (go_at_call 44; (refine (builder_write w.heap.size gB _ t _ (isBuilderF_below HBU.out HM2.out) (by rw [bytes_len]; have := HS.out; omega) (Nat.le_trans (below_size HB.out) (below_size HM2.out))).mono ?_; rintro e w11 ⟨rfl, hbu, hb2, hk2⟩)))
   go_roundg k1
   case measure => omega
   case rel =>
    have hty : ∀ (g : Nat) (cs : Array Value) (T : Nat), w10.heap[g]? = some (.cells cs T (0, 0)) → T ≠ 71 → g ≠ gB := by
     intro g cs T hg hT e_; obtain ⟨_, v_, hv_, _⟩ | ⟨_, v_, hv_, _⟩ := isBuilderF_below HBU.out HM2.out <;> (rw [e_, hv_] at hg; injection hg with hg; injection hg with _ hg; exact hT hg.symm)
    have hF := blk_below (g := gF) BF.out HM2.out; have hR10 := Kd.R_below HO.out HM2.out; refine ⟨i + 1, acc ++ t, ?_, ⟨by have := HI.out; omega⟩, HG, ⟨?_⟩, ⟨?_⟩, ⟨?_⟩, ⟨?_⟩⟩
    ·have hw_ : wrap64 ((i : Int) + 1) = ((i + 1 : Nat) : Int) := by unfold wrap64; omega
     first | rfl | (simp; done) | (simp [hw_]; done) | (rw [hw_])
    ·rw [← bytes_cells]; exact .inr hbu
    ·exact hk2 gF _ hF (fun e_ => hty gF _ _ hF (by decide) (Option.some.inj e_)) (fun c_ f_ e_ => by cases e_)
    ·exact Kd.R_step hR10 (fun k_ hk_ hlt_ => by
      obtain ⟨cells, hc⟩ := Kd.R_typed hR10 k_ hk_.symm
      rw [hk2 k_ _ hc (fun e_ => hty k_ _ _ hc (by decide) (Option.some.inj e_)) (fun c_ f_ e_ => by cases e_), hc])
    ·exact (below_step HB.out HM2.out).trans hb2
  ·have hG := HG.out; clear HG; rw [List.drop_eq_nil_iff.mpr (by omega)] at hG; obtain rfl := Option.some.inj hG; have hq : ¬ (i : Int) < (ws.length : Int) := by omega
   go_wp2_with (go_at_call 46; refine (builder_string w.heap.size gB acc.data.toList _ HBU.out (below_size HB.out)).mono ?_; rintro e W1 ⟨rfl, _, b1, _⟩)
   go_ret
   exact ⟨by simp, HB.out.trans b1⟩
def impl_Fs_isDir.f (lq : List (S65)) (aq : Int) (a1 : Int) : Option (Bool) := if 0 ≤ a1 then (if a1 < (lq.length : Int) then (some (((r65 lq a1).f0) == 2)) else (none)) else (none)
theorem impl_Fs_isDir.calls (Aq : Option Addr) (cq : Nat) (lq : List (S65)) (aq : Int) (a1 : Int) (r : Bool) (w : World) (hr0_0 : Kd.C k65 w Aq lq.length lq) (hc0_0 : lq.length ≤ cq) (h : impl_Fs_isDir.f lq aq a1 = some r) :
  Calls Tryz.prog 47 #[.agg #[.slice Aq lq.length cq, .int .i64 aq], .int .i64 a1] w fun e w' => e = .returned (.bool r) ∧ Below w.heap.size w w' := by
 have hu30 := Tryz.underlying30; have Hq := aM hr0_0; have Kq := aM hc0_0; clear hr0_0 hc0_0; have HB := b0 w; have H : (if 0 ≤ a1 then (if a1 < (lq.length : Int) then (some (((r65 lq a1).f0) == 2)) else (none)) else (none)) = some r := h; clear h; by_cases c3 : 0 ≤ a1
 ·rw [if_pos c3] at H; have c3b0 := decide_eq_true c3; clear c3; obtain ⟨c4, H⟩ := iN H; have c4b0 := decide_eq_true c4; clear c4; obtain rfl := sI H; go_enter Tryz.func47, Tryz.ntmps47
  go_wp2_with (first | ((with_reducible refine gd 2 rfl ?_); refine bxE 2 #[.slice Aq lq.length cq, .int .i64 aq] 30 ?_; intro gb465 hg w5 hbox hb; have BK465 := aM hbox; have GW465 := nGB hg; have GE465 := nGB hg; replace HB := nSB hb; clear hb hbox hg; have hcz6 := cb2 BK465; have p466 : 0 ≤ (a1 : Int) := sO; have q466 : a1 < (lq.length : Int) := sO; obtain ⟨ad466, A466_6, c466_6, e466, hx466_0, hx466_1, hx466_2, hx466_3, hx466_4, hx466_5, hx466_6, hl466_6, hi466_6⟩ := ab65 Hq.out HB a1 p466 q466; cases e466; have HR466_6 := aM hi466_6; have HC466_6 := aM hl466_6; clear hi466_6 hl466_6; replace p466 := eq_true p466; replace q466 := eq_true q466))
  go_ret
  exact ⟨sE, sC⟩
 ·rw [if_neg c3] at H; exact absurd H (by simp)
def gr_step (ns : List S65) (st : List Int × List (List ByteArray)) (x : S75) : List Int × List (List ByteArray) :=
 if (r65 ns x.f1).f0 = 2 then st
 else if x.f1 ∈ st.1 then (st.1, st.2.set (st.1.idxOf x.f1) (st.2.getD (st.1.idxOf x.f1) [] ++ [x.f0]))
 else (st.1 ++ [x.f1], st.2 ++ [[x.f0]])
def gr_at (ns : List S65) (ws : List S75) : List Int × List (List ByteArray) := ws.foldl (gr_step ns) ([], [])
theorem gr_snoc (ns : List S65) (ws : List S75) (x : S75) : gr_at ns (ws ++ [x]) = gr_step ns (gr_at ns ws) x := by
 unfold gr_at; rw [List.foldl_append]; rfl
theorem gr_len (ns : List S65) (ws : List S75) : (gr_at ns ws).2.length = (gr_at ns ws).1.length ∧ (gr_at ns ws).1.length ≤ ws.length := by
 suffices h : ∀ (ws : List S75) (st : List Int × List (List ByteArray)), st.2.length = st.1.length → (ws.foldl (gr_step ns) st).2.length = (ws.foldl (gr_step ns) st).1.length ∧ (ws.foldl (gr_step ns) st).1.length ≤ st.1.length + ws.length by
  have := h ws ([], []) rfl; exact ⟨this.1, by show (ws.foldl (gr_step ns) ([], [])).1.length ≤ ws.length; simpa using this.2⟩
 intro ws
 induction ws with
 | nil => intro st h; exact ⟨h, by simp⟩
 | cons x ws ih =>
  intro st h; rw [List.foldl_cons]; have hs : (gr_step ns st x).2.length = (gr_step ns st x).1.length ∧ (gr_step ns st x).1.length ≤ st.1.length + 1 := by
   unfold gr_step
   split
   ·exact ⟨h, by omega⟩
   ·split
    ·exact ⟨by simpa using h, Nat.le_succ _⟩
    ·exact ⟨by simp [h], by simp⟩
  have := ih _ hs.1; refine ⟨this.1, ?_⟩; rw [List.length_cons]; omega
def gr_D (D : DataW Unit) (ks : List Int) : Prop := (∀ n : Int, (Lit.int .i64 n).wf = true → Maps.has D (.int .i64 n) = decide (n ∈ ks)) ∧ ∀ n ∈ ks, D.atKey (.int .i64 n) (.lit (.int .i64 0)) = .lit (.int .i64 (ks.idxOf n : Int))
theorem gr_D_nil : gr_D (.map []) [] := ⟨fun n _ => by simp [Maps.has], fun n h => by cases h⟩
theorem gr_D_put {D : DataW Unit} {ks : List Int} (hM : Maps.IsMap D) (h : gr_D D ks) {n : Int} (hn : n ∉ ks) : gr_D (D.put (.int .i64 n) (.lit (.int .i64 (ks.length : Int)))) (ks ++ [n]) := by
 have hk : WideAt.IsKeyLit (.int .i64 n) := trivial; refine ⟨fun m hm => ?_, fun m hm => ?_⟩
 ·by_cases e : m = n
  ·subst e; rw [Maps.has_put_same hM hk]; simp
  ·rw [Maps.has_put_other (fun e2 => e (by injection e2)), h.1 m hm]
   simp [e]
 ·by_cases e : m = n
  ·subst e; rw [Maps.atKey_put_same hM hk, List.idxOf_append, if_neg hn]; simp
  ·rw [Maps.atKey_put_other (fun e2 => e (by injection e2))]; have hm' : m ∈ ks := by
    rcases List.mem_append.1 hm with h1 | h1
    ·exact h1
    ·exact absurd (List.mem_singleton.1 h1) e
   rw [h.2 m hm', List.idxOf_append, if_pos hm']
theorem gr_map_move {P : Program} {w w' : World} {b n : Nat} {D : DataW Unit} (h : w.ownsMap P 3 (plainElem P 3) b n D) (he : w'.heap[b]? = w.heap[b]?) : w'.ownsMap P 3 (plainElem P 3) b n D := by
 obtain ⟨es, clock, hb, F, hs, hd⟩ := h; exact ⟨es, clock, he.trans hb, F, hs, hd⟩
theorem gr_made (w : World) (base : Nat) (hb : base ≤ w.heap.size) : Kd.S (Kd.slice 9 Kd.string) 49 (w.alloc (Obj.cells #[] 49)) base (fun _ => True) (.slice (some ⟨w.heap.size, 0, none⟩) 0 0) ([] : List (List ByteArray)) :=
 ⟨fun _ => 0, fun _ _ => trivial, [], own_weaken (World.ownsRow_made w #[] 0 (Nat.le_refl _) (Nat.zero_le _) rfl) hb, Reps.none _ _⟩
def gr_keep (P : Nat → Prop) (w w' : World) : Prop := ∀ k o, P k → w.heap[k]? = some o → (∀ cs, o ≠ .cells cs 49 (0, 0) ∧ o ≠ .cells cs 9 (0, 0)) → w'.heap[k]? = some o
theorem gr_keep.trans {P : Nat → Prop} {a b c : World} (h : gr_keep P a b) (h2 : gr_keep P b c) : gr_keep P a c := fun k o p e n => h2 k o p (h k o p e n) n
theorem gr_keep.below {P : Nat → Prop} {a b : World} (h : Below a.heap.size a b) : gr_keep P a b := fun k o _ e _ => (h.block k (by
 rcases Nat.lt_or_ge k a.heap.size with h1 | h1
 ·exact h1
 ·rw [Array.getElem?_eq_none h1] at e; cases e)).trans e
theorem gr_keep.grown {P : Nat → Prop} {a b : World} {row : Option Nat} (h : a.grownBy b row) (hr : ∀ k, row = some k → ∃ cs T, a.heap[k]? = some (.cells cs T (0, 0)) ∧ (T = 49 ∨ T = 9)) : gr_keep P a b := fun k o _ e n => (h.block k (by
 rcases Nat.lt_or_ge k a.heap.size with h1 | h1
 ·exact h1
 ·rw [Array.getElem?_eq_none h1] at e; cases e) (fun e2 => by
  obtain ⟨cs, T, h3, h4⟩ := hr k e2.symm; rw [h3] at e
  injection e with e
  subst e
  rcases h4 with rfl | rfl
  ·exact (n cs).1 rfl
  ·exact (n cs).2 rfl)).trans e
theorem gr_keep.map {a b : World} {g : Nat} (h : a.grownBy b (some g)) : gr_keep (fun k => k ≠ g) a b := fun k o p e n => (h.block k (by
 rcases Nat.lt_or_ge k a.heap.size with h1 | h1
 ·exact h1
 ·rw [Array.getElem?_eq_none h1] at e; cases e) (fun e2 => p (by injection e2))).trans e
theorem gr_keep.set {P : Nat → Prop} {a : World} {g j : Nat} {cs : Array Value} (h : a.heap[g]? = some (.cells cs 49 (0, 0))) (u : Value) : gr_keep P a (a.setCell ⟨g, j, none⟩ u) := fun k o _ e n => (Below.heap_setCell a ⟨g, j, none⟩ u k (fun e2 => by
 have e2 : k = g := e2; subst e2; rw [h] at e; injection e with e; subst e
 exact (n cs).1 rfl)).trans e
theorem gr_keep.ownsMap {Q : Program} {w w' : World} {b n : Nat} {D : DataW Unit} {P : Nat → Prop} (hk : gr_keep P w w') (p : P b) (h : w.ownsMap Q 3 (plainElem Q 3) b n D) : w'.ownsMap Q 3 (plainElem Q 3) b n D := by
 obtain ⟨es, clock, hb, F, hs, hd⟩ := h; exact ⟨es, clock, hk b _ p hb (fun cs => ⟨(fun e => by cases e), (fun e => by cases e)⟩), F, hs, hd⟩
theorem gr_keep.cells {w w' : World} {g T : Nat} {cs : Array Value} {P : Nat → Prop} (hk : gr_keep P w w') (p : P g) (h : w.heap[g]? = some (.cells cs T (0, 0))) (h1 : T ≠ 49) (h2 : T ≠ 9) : w'.heap[g]? = some (.cells cs T (0, 0)) := hk g _ p h (fun c => ⟨fun e => by injection e with _ e; exact h1 e, fun e => by injection e with _ e; exact h2 e⟩)
theorem gr_map_cells {Q : Program} {w : World} {b n g T : Nat} {cs : Array Value} {D : DataW Unit} (h : w.ownsMap Q 3 (plainElem Q 3) b n D) (hc : w.heap[g]? = some (.cells cs T (0, 0))) : g ≠ b := by
 obtain ⟨es, clock, hb, _⟩ := h; rintro rfl; rw [hb] at hc; cases hc
theorem gr_row (ns : List S65) (ws : List S75) : ∀ l ∈ (gr_at ns ws).2, l.length ≤ ws.length := by
 suffices h : ∀ (ws : List S75) (st : List Int × List (List ByteArray)) (m : Nat), (∀ l ∈ st.2, l.length ≤ m) → ∀ l ∈ (ws.foldl (gr_step ns) st).2, l.length ≤ m + ws.length by
  have := h ws ([], []) 0 (fun l hl => by cases hl); intro l hl; have := this l hl
  omega
 intro ws
 induction ws with
 | nil => intro st m h l hl; exact h l hl
 | cons x ws ih =>
  intro st m h l hl; rw [List.foldl_cons] at hl; have hs : ∀ l ∈ (gr_step ns st x).2, l.length ≤ m + 1 := by
   intro l hl; unfold gr_step at hl
   split at hl
   ·exact Nat.le_succ_of_le (h l hl)
   ·split at hl
    ·rcases List.mem_or_eq_of_mem_set hl with h1 | h1
     ·exact Nat.le_succ_of_le (h l h1)
     ·subst h1; rw [List.length_append, List.getD_eq_getElem?_getD]; cases e : st.2[List.idxOf x.f1 st.1]? with
      | none => simp
      | some y =>
       have := h y (List.mem_of_getElem? e)
       simp; omega
    ·rcases List.mem_append.1 hl with h1 | h1
     ·exact Nat.le_succ_of_le (h l h1)
     ·rw [List.mem_singleton.1 h1]; simp
  have := ih _ (m + 1) hs l hl; rw [List.length_cons]; omega
theorem gr_R {w w1 : World} {base : Nat} {v : Value} {xs : List S75} {P : Nat → Prop} (hk : gr_keep P w w1) (hP : ∀ k cs T, w.heap[k]? = some (.cells cs T (0, 0)) → P k) (h : Kd.R k75 75 w base (fun k_ => some k_ = v.ownBlock) v xs) : Kd.R k75 75 w1 base (fun k_ => some k_ = v.ownBlock) v xs :=
 Kd.R_step h (fun k_ hk_ _ => by
  obtain ⟨cells, hc⟩ := Kd.R_typed h k_ hk_.symm
  rw [hk.cells (hP _ _ _ hc) hc (by decide) (by decide), hc])
theorem gr_S {Q : Program} {w w1 : World} {base b n : Nat} {v : Value} {xs : List (List ByteArray)} {D : DataW Unit} (hM : w.ownsMap Q 3 (plainElem Q 3) b n D) (hg : w.grownBy w1 (some b)) (h : Kd.S (Kd.slice 9 Kd.string) 49 w base (fun _ => True) v xs) : Kd.S (Kd.slice 9 Kd.string) 49 w1 base (fun _ => True) v xs :=
 Kd.S_mono (Kd.S_step (Kd.S_bound h) (fun k hk hlt => hg.block k hlt (fun e => by
  obtain ⟨_, _, _, q, _, cells, hc⟩ := hk
  exact gr_map_cells hM hc (by injection e)))) (fun _ _ => trivial)
theorem gr_info : (Tryz.prog.info? 49).map (fun i => (i.zero, i.size, i.bytes)) = some (some (.slice none 0 0), 1, 24) := by kernel_rfl
theorem gr_put {W w14 : World} {base g n cap ci c14 : Nat} {xs : List (List ByteArray)} {row : List ByteArray} {y : ByteArray} {Ai A14 : Option Addr} {c : Int} {oki : Nat → Prop} (hH : Kd.H (Kd.slice 9 Kd.string) 49 W base (fun _ => True) (.slice (some ⟨g, 0, none⟩) n cap) xs c (fun k => oki k ∨ True ∧ W.heap.size ≤ k) [.slice Ai row.length ci])
  (hR : Kd.string.R 9 W base (fun k => oki k ∨ True ∧ W.heap.size ≤ k) (.slice Ai row.length ci) row) (hok : ∀ k, oki k → True ∧ k ≠ g) (hgl : g < W.heap.size) (hS : ∃ cells, W.heap[g]? = some (.cells cells 49 (0, 0)))
  (hG : W.grownBy w14 (Value.slice Ai row.length ci).ownBlock) (hR14 : Kd.string.R 9 w14 base (fun k => oki k ∨ True ∧ W.heap.size ≤ k) (.slice A14 (row ++ [y]).length c14) (row ++ [y])) (h0 : 0 ≤ c) (h1 : c < (n : Int)) :
  Kd.S (Kd.slice 9 Kd.string) 49 (w14.setCell ⟨g, c.toNat, none⟩ (.slice A14 (row.length + 1) c14)) base (fun _ => True) (.slice (some ⟨g, 0, none⟩) n cap) (xs.set c.toNat (row ++ [y])) ∧ ∀ P, gr_keep P W (w14.setCell ⟨g, c.toNat, none⟩ (.slice A14 (row.length + 1) c14)) := by
 have hix : c.toNat * (Kd.slice 9 Kd.string).sz + 0 = c.toNat := by show c.toNat * 1 + 0 = c.toNat; omega
 have hne : ∀ k, (oki k ∨ True ∧ W.heap.size ≤ k) → some k ≠ some g := fun k hk e => by
  injection e with e
  subst e
  rcases hk with hk | hk
  ·exact (hok k hk).2 rfl
  ·omega
 have hH14 := Kd.H_grown hH hG (fun k hk => hR.1 k hk); obtain ⟨hH2, hG2⟩ := Kd.H_seg (seg := [Value.slice A14 (row ++ [y]).length c14]) (j := 0) hH14 h0 h1 (Nat.le_refl 1) (fun q hq => by rw [List.mem_singleton.1 hq]; rfl); have hR4 := Kd.R_step (w1 := w14.setCells g (c.toNat * (Kd.slice 9 Kd.string).sz + 0) [Value.slice A14 (row ++ [y]).length c14]) hR14 (fun k hk hlt => hG2.block k hlt (hne k hk)); have hS5 := Kd.H_back hH2 (x' := row ++ [y]) (okp := fun k => oki k ∨ True ∧ W.heap.size ≤ k) ⟨_, rfl, hR4⟩ (fun k hk => hk); rw [hix] at hS5; simp only [List.length_append, List.length_cons, List.length_nil, Nat.zero_add] at hS5; obtain ⟨cells, hc⟩ := hS; refine ⟨hS5, fun P => (gr_keep.grown hG (fun k hk => ?_)).trans (gr_keep.set ((hG.block g hgl (fun e => hne g (hR.1 g e.symm) rfl)).trans hc) _)⟩; obtain ⟨cs, h⟩ := Kd.R_typed hR k hk; exact ⟨cs, 9, h, .inr rfl⟩
theorem gr_ar {i k n : Nat} (h : i + (k + 1) = n) : i + 1 + k = n := by omega
theorem gr_wrap {i n : Nat} (h : i < n) (h2 : n ≤ 41943041) : wrap64 ((i : Int) + 1) = ((i + 1 : Nat) : Int) := by unfold wrap64; omega
theorem gr_B {w0 w w1 : World} {b : Nat} (h : Below w0.heap.size w0 w) (hg : w.grownBy w1 (some b)) (hb : w0.heap.size ≤ b) : Below w0.heap.size w0 w1 := h.grown hg h.size (fun k e => by injection e with e; omega)
theorem gr_zero (w : World) : (zeroValue 3).run Tryz.prog w = .ok (.int .i64 0) w := by kernel_rfl
theorem gr_key {n : Int} (h0 : 0 ≤ n) (h1 : n < 9223372036854775808) : (Lit.int .i64 n).wf = true := by
 have h2 : IntKind.min .i64 = -9223372036854775808 := by rfl
 have h3 : IntKind.max .i64 = 9223372036854775807 := by rfl
 simp only [Lit.wf, h2, h3, Bool.and_eq_true, decide_eq_true_eq]; omega
theorem gr_lt (w : World) (o : Obj) : w.heap.size < (w.alloc o).heap.size := by simp
theorem gr_lt2 (w : World) (o o' : Obj) : w.heap.size < ((w.alloc o).alloc o').heap.size := Nat.lt_trans (gr_lt w o) (gr_lt _ o')
def gr_enc (t : Option Addr × Nat × Nat) : Value := .slice t.1 t.2.1 t.2.2
theorem gr_keepAt {α β : Type} (p : α → Bool) (q : β → Bool) : ∀ (xs : List α) (ts : List β) (i : Nat), xs.length = ts.length → (∀ (j : Nat) (x : α) (t : β), xs[j]? = some x → ts[j]? = some t → p x = q t) →
  (xs.filter p).length = (ts.filter q).length ∧ ∃ s : List Nat, s.length = (xs.filter p).length ∧ s.Pairwise (· < ·) ∧ (∀ m ∈ s, i ≤ m) ∧ ∀ (j : Nat) (x : α) (t : β), (xs.filter p)[j]? = some x → (ts.filter q)[j]? = some t → ∃ m : Nat, s[j]? = some (i + m) ∧ xs[m]? = some x ∧ ts[m]? = some t
 | [], [], i, _, _ => ⟨rfl, [], rfl, List.Pairwise.nil, fun _ h => (by cases h), fun j x t h => by simp at h⟩
 | [], _ :: _, _, h, _ => by simp at h
 | _ :: _, [], _, h, _ => by simp at h
 | x :: xs, t :: ts, i, h, hpq => by
  have h0 := hpq 0 x t rfl rfl; obtain ⟨hl, s, hs1, hs2, hs3, hs4⟩ := gr_keepAt p q xs ts (i + 1) (by simpa using h) (fun j y u hy hu => hpq (j + 1) y u (by simpa using hy) (by simpa using hu)); cases hx : p x with
  | false =>
   rw [List.filter_cons_of_neg (by simp [hx]), List.filter_cons_of_neg (by simp [← h0, hx])]; refine ⟨hl, s, hs1, hs2, fun m hm => Nat.le_of_succ_le (hs3 m hm), fun j y u hy hu => ?_⟩; obtain ⟨m, h1, h2, h3⟩ := hs4 j y u hy hu; exact ⟨m + 1, by rw [h1]; congr 1; omega, by simpa using h2, by simpa using h3⟩
  | true =>
   rw [List.filter_cons_of_pos hx, List.filter_cons_of_pos (by rw [← h0, hx])]; refine ⟨by simp [hl], i :: s, by simp [hs1], List.Pairwise.cons (fun m hm => hs3 m hm) hs2, fun m hm => ?_, fun j y u hy hu => ?_⟩
   ·rcases List.mem_cons.1 hm with rfl | hm
    ·exact Nat.le_refl _
    ·exact Nat.le_of_succ_le (hs3 m hm)
   ·cases j with
    | zero =>
     obtain rfl := Option.some.inj hy; obtain rfl := Option.some.inj hu; exact ⟨0, by simp, rfl, rfl⟩
    | succ j =>
     obtain ⟨m, h1, h2, h3⟩ := hs4 j y u (by simpa using hy) (by simpa using hu); exact ⟨m + 1, by simp [h1]; omega, by simpa using h2, by simpa using h3⟩
theorem gr_filter {w : World} {base : Nat} {ok : Nat → Prop} {v : Value} {xs : List (List ByteArray)} (p : Nat → Bool) (h : Kd.S (Kd.slice 9 Kd.string) 49 w base ok v xs) :
  ∃ ts : List (Option Addr × Nat × Nat), ts.length = xs.length ∧ w.ownsRow base 49 1 v xs.length (ts.map gr_enc) ∧ (ts.filter fun t => p t.2.1).length = (xs.filter fun x => p x.length).length ∧
   ∀ (w' : World) (v' : Value) (ok' : Nat → Prop), (∀ k, k < w.heap.size → some k ≠ v.ownBlock → w'.heap[k]? = w.heap[k]?) → (∀ k, ok k → ok' k) → (∀ k, v'.ownBlock = some k → ok' k ∧ (some k = v.ownBlock ∨ w.heap.size ≤ k)) →
    w'.ownsRow base 49 1 v' (xs.filter fun x => p x.length).length ((ts.filter fun t => p t.2.1).map gr_enc) → Kd.S (Kd.slice 9 Kd.string) 49 w' base ok' v' (xs.filter fun x => p x.length) := by
 obtain ⟨f, h0, inner, ho, hr⟩ := h; rw [List.length_zipIdx] at ho; have hil : inner.length = xs.length := by have := hr.1; rw [List.length_zipIdx] at this; exact this.trans (Nat.mul_one _)
 have hel : ∀ j x, xs[j]? = some x → ∃ A c, inner[j]? = some (.slice A x.length c) ∧ Kd.string.R 9 w base (fun k => (ok k ∧ some k ≠ v.ownBlock) ∧ f k = j) (.slice A x.length c) x := fun j x hx => by
  obtain ⟨u, hu, hR⟩ := hr.2 j (x, j) (Kd.zip_at hx); obtain ⟨A, c, rfl⟩ := Kd.R_slice hR; refine ⟨A, c, ?_, hR⟩; have hu : List.take 1 (List.drop (j * 1) inner) = [Value.slice A x.length c] := hu; have : (List.take 1 (List.drop (j * 1) inner))[0]? = some (Value.slice A x.length c) := by rw [hu]; rfl
  rw [List.getElem?_take, List.getElem?_drop] at this
  simpa using this
 let dec : Value → Option Addr × Nat × Nat := fun u => match u with | .slice A n c => (A, n, c) | _ => (none, 0, 0)
 have htm : (inner.map dec).map gr_enc = inner := by
  rw [List.map_map]; refine List.ext_getElem? (fun j => ?_); rw [List.getElem?_map]
  rcases Nat.lt_or_ge j xs.length with hj | hj
  ·obtain ⟨A, c, hc, _⟩ := hel j _ (List.getElem?_eq_getElem hj); rw [hc]; rfl
  ·rw [List.getElem?_eq_none (by omega)]; rfl
 obtain ⟨hl, s, hs1, hs2, _, hs4⟩ := gr_keepAt (fun x : List ByteArray => p x.length) (fun t : Option Addr × Nat × Nat => p t.2.1) xs (inner.map dec) 0 (by rw [List.length_map, hil]) (fun j x t hx ht => by
  obtain ⟨A, c, hc, _⟩ := hel j x hx; rw [List.getElem?_map, hc] at ht; obtain rfl := Option.some.inj ht
  rfl)
 refine ⟨inner.map dec, by rw [List.length_map, hil], by rw [htm]; exact ho, hl.symm, fun w' v' ok' hm hok hv' hown => ?_⟩; have hnd : ∀ i j m, s[i]? = some m → s[j]? = some m → i = j := fun i j m hi hj => by
  obtain ⟨hi1, hi2⟩ := List.getElem?_eq_some_iff.1 hi; obtain ⟨hj1, hj2⟩ := List.getElem?_eq_some_iff.1 hj
  rcases Nat.lt_trichotomy i j with h | h | h
  ·have := List.pairwise_iff_getElem.1 hs2 i j hi1 hj1 h; omega
  ·exact h
  ·have := List.pairwise_iff_getElem.1 hs2 j i hj1 hi1 h; omega
 have hrep : ∀ (j : Nat) (x : List ByteArray), (xs.filter fun x => p x.length)[j]? = some x → (Kd.slice 9 Kd.string).M w' base (fun k => (ok' k ∧ some k ≠ v'.ownBlock) ∧ ∃ m, s[j]? = some m ∧ f k = m) x (((((inner.map dec).filter fun t => p t.2.1).map gr_enc).drop (j * (Kd.slice 9 Kd.string).sz)).take (Kd.slice 9 Kd.string).sz) := fun j x hx => by
  have hjl := (List.getElem?_eq_some_iff.1 hx).1; obtain ⟨t, ht⟩ : ∃ t, ((inner.map dec).filter fun t => p t.2.1)[j]? = some t := ⟨_, List.getElem?_eq_getElem (by rw [← hl]; exact hjl)⟩; obtain ⟨m, hm1, hm2, hm3⟩ := hs4 j x t hx ht; rw [Nat.zero_add] at hm1; obtain ⟨A, c, hc, hR⟩ := hel m x hm2; rw [List.getElem?_map, hc] at hm3; obtain rfl := Option.some.inj hm3; refine ⟨.slice A x.length c, ?_, ?_⟩
  ·show List.take 1 (List.drop (j * 1) _) = _
   rw [Nat.mul_one]; refine List.ext_getElem? (fun q => ?_); rw [List.getElem?_take]; cases q with
   | zero => simp [List.getElem?_map, ht]; rfl
   | succ q => simp
  ·have hb := Kd.R_bound hR; refine Kd.R_mono (Kd.R_move hb (fun k hk => hm k hk.2.2.1 hk.1.1.2)) (fun k hk => ⟨⟨hok k hk.1.1.1, fun e => ?_⟩, m, hm1, hk.1.2⟩)
   rcases (hv' k e.symm).2 with e2 | e2
   ·exact hk.1.1.2 e2
   ·omega
 obtain ⟨f', hf'⟩ := Kd.reps_tag (d := Kd.slice 9 Kd.string) (w := w') (base := base) (ok := fun k => ok' k ∧ some k ≠ v'.ownBlock) (xs := xs.filter fun x => p x.length) (inner := ((inner.map dec).filter fun t => p t.2.1).map gr_enc)
  (fun j k => (ok' k ∧ some k ≠ v'.ownBlock) ∧ ∃ m, s[j]? = some m ∧ f k = m) (fun i j k ⟨_, m, h1, h2⟩ ⟨_, m', h3, h4⟩ => hnd i j m h1 (by rw [h3, ← h4, h2])) (fun _ _ hk => hk.1) (by rw [List.length_map, ← hl]; exact (Nat.mul_one _).symm) hrep
 exact ⟨f', fun k hk => (hv' k hk).1, _, by rw [List.length_zipIdx]; exact hown, hf'⟩
theorem gr_cl_gives (t : Option Addr × Nat × Nat) (W : World) : FnGives Tryz.prog 49 #[] #[gr_enc t] (.bool (decide (t.2.1 < 2))) W := by
 obtain ⟨A, n, c⟩ := t; have hd : (decide ((n : Int) < 2)) = decide (n < 2) := by rw [decide_eq_decide]; omega
 show Calls Tryz.prog 49 #[.slice A n c] W _
 go_enter Tryz.func49, Tryz.ntmps49; go_wp2; go_ret
 exact ⟨by simp [hd], 0, rfl⟩
theorem gr_deleteFunc {w : World} {base g n cap : Nat} {xs : List (List ByteArray)} (h : Kd.S (Kd.slice 9 Kd.string) 49 w base (fun _ => True) (.slice (some ⟨g, 0, none⟩) n cap) xs) :
  Calls Tryz.prog 48 #[.slice (some ⟨g, 0, none⟩) n cap, .func (.func 49) #[] #[]] w fun e w' => ∃ v : Value, e = .returned v ∧ Kd.S (Kd.slice 9 Kd.string) 49 w' base (fun _ => True) v (xs.filter fun x => decide (2 ≤ x.length)) ∧ (∀ w0 : World, w0.heap.size = base → Below base w0 w → Below base w0 w') := by
 have hn := (Kd.S_reads' h).1; subst hn; obtain ⟨ts, hl, hown, hfl, hback⟩ := gr_filter (fun m => decide (2 ≤ m)) h; obtain ⟨g', cap', e1, hb, hlt, hcap, hm, hz, hH⟩ := Lib.holds_of_ownsRow hown (by intro e; cases e)
 injection e1 with e1 _ e3
 injection e1 with e1
 injection e1 with e1
 subst e1; subst e3; have hp : PredAt Tryz.prog 49 #[] gr_enc (fun t => decide (t.2.1 < 2)) w := fun W x _ => gr_cl_gives x W
 have hpo : PredOver Tryz.prog 49 #[] gr_enc (fun t => decide (t.2.1 < 2)) g 0 ts.toArray.size w := fun _ _ _ x _ => gr_cl_gives x _
 have hsz : ts.toArray.size = xs.length := by simpa using hl
 have := Tryz.slices_DeleteFunc_f48 gr_enc (fun _ => rfl) (fun t => decide (t.2.1 < 2)) 49 #[] (fun _ _ => by rfl) (none, 0, 0) (fun _ => by kernel_rfl) g 0 cap ts.toArray w hp hpo hH (by rw [hsz]; unfold maxLen at hm; omega) (by rw [hsz]; exact hcap); rw [hsz] at this; have hfe : (ts.filter fun x => !decide (x.2.1 < 2)) = ts.filter fun t => decide (2 ≤ t.2.1) := List.filter_congr (fun t _ => by rw [← decide_not]; exact decide_eq_decide.2 (by omega))
 simp only [List.toList_toArray] at this; rw [hfe] at this; refine this.mono fun e w' ⟨he, q, hw⟩ => ⟨_, he, ?_, fun w0 _ hB => by rw [hw]; exact Lib.below_putRow hB hb⟩
 have h4 := Lib.ownsRow_putRow (q := q) (k := (ts.filter fun t => decide (2 ≤ t.2.1)).length) (ys := (ts.filter fun t => decide (2 ≤ t.2.1)) ++ List.replicate (xs.length - (ts.filter fun t => decide (2 ≤ t.2.1)).length) (none, 0, 0)) hown
  (by rw [List.length_append, List.length_replicate]; have := List.length_filter_le (fun t : Option Addr × Nat × Nat => decide (2 ≤ t.2.1)) ts; omega) (by have := List.length_filter_le (fun t : Option Addr × Nat × Nat => decide (2 ≤ t.2.1)) ts; omega)
 rw [List.take_left, ← hw] at h4; refine hback w' _ _ (fun k _ hne => ?_) (fun _ _ => trivial) (fun k hk => ⟨trivial, .inl hk.symm⟩) (by rw [hfl] at h4 ⊢; exact h4); rw [hw]; exact ((by simp [Sort.putRow, Sort.mapBlock, Sort.ahead, Array.getElem?_modify, Ne.symm (show k ≠ g from fun e => hne (by rw [e]; rfl))]))
def impl_Fs_groups.f (k : Nat) (lq : List (S65)) (aq : Int) (a1 : Int) : Option (List (List ByteArray)) := (impl_Fs_ways.f k lq aq a1 false).bind fun ws => if ws.length ≤ 41943041 ∧ lq.length ≤ 9223372036854775807 ∧ ∀ x ∈ ws, 0 ≤ x.f1 ∧ x.f1 < (lq.length : Int) then some ((gr_at lq ws).2.filter fun l => decide (2 ≤ l.length)) else none
theorem impl_Fs_groups.calls (k : Nat) (Aq : Option Addr) (cq : Nat) (lq : List (S65)) (aq : Int) (a1 : Int) (r : List (List ByteArray)) (w : World) (hr0_0 : Kd.C k65 w Aq lq.length lq) (hc0_0 : lq.length ≤ cq) (h : impl_Fs_groups.f k lq aq a1 = some r) :
  Calls Tryz.prog 26 #[.agg #[.slice Aq lq.length cq, .int .i64 aq], .int .i64 a1] w fun e w' => ∃ v0_ : Value, e = .returned v0_ ∧ Kd.S (Kd.slice 9 Kd.string) 49 w' w.heap.size (fun _ => True) v0_ r ∧ Below w.heap.size w w' := by
 have hu30 := Tryz.underlying30; have hu75 := Tryz.underlying75; have law : Maps.Keyed Tryz.prog 3 := Maps.int_keyed Tryz.underlying3; obtain ⟨ws, A1, h⟩ := Option.bind_eq_some_iff.mp h
 split at h
 rotate_left
 ·cases h
 rename_i hws
 obtain rfl := Option.some.inj h; have HA := aM A1; have HR := aM hr0_0; have HC := aM hc0_0; have HWS := aM hws; have HB := b0 w; clear h A1 hr0_0 hc0_0 hws; have hmm := @run_makeMap Tryz.prog; go_enter Tryz.func26, Tryz.ntmps26
 go_wp2_with (first
  | ((with_reducible refine gd 2 rfl ?_); refine bxE 2 #[.slice Aq lq.length cq, .int .i64 aq] 30 ?_; intro gF hg w2 hbox hb; have BF := aM hbox; replace HB := nSB hb; have HGM := aM (below_size HB.out); clear hb hbox hg; have HA2 := aM (below_alloc (below_alloc (Below.refl w2.heap.size w2) (Obj.map #[] 0)) (Obj.cells #[] 49)); have hcF := cb2 (aM (blk_below (g := gF) BF.out HA2.out)))
  | (go_at_call 43; go_loud (refine (impl_Fs_ways.calls k _ _ lq aq a1 false ws _ ?s1 HC.out HA.out).mono ?_; (case s1 => exact Kd.C_below HR.out (below_step HB.out HA2.out)); rintro e w5 ⟨v, rfl, ho, hb⟩; have hbM := aM (gr_map_move (World.ownsMap_made (H := Unit) w2 Tryz.prog 3 (plainElem Tryz.prog 3)) ((hb.block _ (gr_lt2 _ _ _)).trans (Below.heap_alloc _ _ _ (gr_lt _ _)))); have HB5 := aM (below_step (below_step HB.out HA2.out) hb); have BF5 := aM (blk_below (g := gF) (blk_below (g := gF) BF.out HA2.out) hb); have HS5 := aM (Kd.S_below (gr_made (w2.alloc (Obj.map #[] 0)) w.heap.size (Nat.le_trans (below_size HB.out) (by simp))) hb); have HO5 := aM (Kd.R_tight rfl (Kd.R_lower ho (below_size (below_step HB.out HA2.out)))); obtain ⟨Aw, cw, ew⟩ := Kd.R_slice ho; subst ew; clear ho hb hcF HB HA2 BF)))
 go_loopg [6, 17] ws.length (fun kq v6 v17 w' => ∃ (i : Nat) (D : DataW Unit) (nD : Nat), v17 = .int .i64 (i : Int) ∧ Aside0 (i + kq = ws.length) ∧ Aside0 (nD ≤ i) ∧ Aside0 (w'.ownsMap Tryz.prog 3 (plainElem Tryz.prog 3) w2.heap.size nD D) ∧ Aside0 (gr_D D (gr_at lq (ws.take i)).1) ∧ Aside0 (Kd.S (Kd.slice 9 Kd.string) 49 w' w.heap.size (fun _ => True) v6 (gr_at lq (ws.take i)).2) ∧ Aside0 (∃ g n c : Nat, v6 = .slice (some ⟨g, 0, none⟩) n c) ∧ Aside0 (w'.heap[gF]? = some (.cells #[.slice Aq lq.length cq, .int .i64 aq] 30 (0, 0))) ∧ Aside0 (Kd.R k75 75 w' w.heap.size (fun k_ => some k_ = (Value.slice Aw ws.length cw).ownBlock) (.slice Aw ws.length cw) ws) ∧ Aside0 (Below w.heap.size w w'))
 case atStart => exact ⟨0, .map [], 0, rfl, ⟨by omega⟩, ⟨Nat.le_refl _⟩, hbM, ⟨gr_D_nil⟩, ⟨by simpa [gr_at] using HS5.out⟩, ⟨⟨_, _, _, rfl⟩⟩, BF5, HO5, HB5⟩
 case round =>
  clear hbM HS5 BF5 HO5 HB5; obtain ⟨i, D, nD, rfl, HI, HN, HM, HD, HS, HV, BF, HO, HB⟩ := hrel; by_cases hlt : i < ws.length
  ·obtain ⟨k1, rfl⟩ : ∃ k1, gk = k1 + 1 := ⟨gk - 1, by have := HI.out; omega⟩; have hq : (i : Int) < (ws.length : Int) := by omega
   obtain ⟨ad, e_, hx0, hx1⟩ := at_T75 (Kd.R_reads' HO.out).2.2 (i : Int) (by omega) hq; cases e_; simp only [Int.toNat_natCast] at hx0 hx1
   have hXW := HWS.out.2.2 (r75 ws (i : Int)) (by
    unfold r75
    rw [show (i : Int).toNat = i by omega, List.getD_eq_getElem?_getD, List.getElem?_eq_getElem hlt]; exact List.getElem_mem hlt)
   have hsn : gr_at lq (ws.take (i + 1)) = gr_step lq (gr_at lq (ws.take i)) (r75 ws (i : Int)) := by
    rw [← gr_snoc]
    congr 1
    unfold r75; rw [show (i : Int).toNat = i by omega, List.getD_eq_getElem?_getD, List.getElem?_eq_getElem hlt, List.take_add_one, List.getElem?_eq_getElem hlt]; rfl
   have hln := gr_len lq (ws.take i); have hrw := gr_row lq (ws.take i); rw [List.length_take] at hln hrw; have hsum := HWS.out.1; have hcF := cb2 BF; have p_ := eq_true (show 0 ≤ (i : Int) by omega); have q_ := eq_true hq; generalize r75 ws (i : Int) = x at hx0 hx1 hXW hsn; generalize gr_at lq (ws.take i) = st at hln hrw hsn HD HS; have HX := aM hXW; have HLN := aM hln; have HRW := aM hrw; clear hln hrw; have hisd : impl_Fs_isDir.f lq aq x.f1 = some ((r65 lq x.f1).f0 == 2) := by
    unfold impl_Fs_isDir.f; rw [if_pos hXW.1, if_pos hXW.2]
   have HID := aM hisd; have hkey : keyOf Tryz.prog 3 (.int .i64 x.f1) = some (.int .i64 x.f1) := Maps.keyOf_int_mk Tryz.underlying3 (gr_key hXW.1 (by have := HWS.out.2.1; have := hXW.2; omega)); have HSN := aM hsn; clear hisd hsn; cases hdir : ((r65 lq x.f1).f0 == 2) with
   | true =>
    rw [hdir] at HID
    go_wp2_with (first
     | ((with_reducible refine gd 8 rfl ?_); refine bxE 8 #[.string (⟨#[]⟩ : ByteArray), .int .i64 0] 75 ?_; intro gx hg w9 hbox hb; have BX := aM hbox; have MM := aM hb; have GX := aM (show wr.heap.size ≤ gx by rw [hg]; exact Nat.le_refl _); have hnx : gF ≠ gx := (by have := blk_lt BF.out; rw [hg]; omega); have hnx2 : gx ≠ gF := (fun e => hnx e.symm); clear hbox; replace hcF := cb2 (aM (blk_below (g := gF) BF.out hb)); clear hb hg hx0 hx1; have hcX := cb2 BX; have hfX0 := fz BX 0; have hfX1 := fz BX 1)
     | (go_at_call 47; (refine (impl_Fs_isDir.calls Aq cq lq aq x.f1 true _ ?s1 HC.out HID.out).mono ?_; (case s1 => exact Kd.C_below HR.out (below_step HB.out (below_set (below_set MM.out GX.out) GX.out))); rintro e w10 ⟨rfl, hb⟩; have HM2 := aM (below_step (below_set (below_set MM.out GX.out) GX.out) hb); clear hb hcF hcX hfX0 hfX1)))
    go_roundg k1
    case measure => omega
    case rel =>
     have hw_ : wrap64 ((i : Int) + 1) = ((i + 1 : Nat) : Int) := by unfold wrap64; omega
     refine ⟨i + 1, D, nD, by first | rfl | (simp; done) | (simp [hw_]; done) | (rw [hw_]), ⟨by have := HI.out; omega⟩, ⟨Nat.le_succ_of_le HN.out⟩, ⟨(gr_keep.below (P := fun _ => True) HM2.out).ownsMap trivial HM.out⟩, ⟨?_⟩, ⟨?_⟩, HV, ⟨blk_below BF.out HM2.out⟩, ⟨Kd.R_below HO.out HM2.out⟩, ⟨below_step HB.out HM2.out⟩⟩
     ·rw [HSN.out]; unfold gr_step; rw [if_pos (beq_iff_eq.1 hdir)]; exact HD.out
     ·rw [HSN.out]; unfold gr_step; rw [if_pos (beq_iff_eq.1 hdir)]; exact Kd.S_below HS.out HM2.out
   | false =>
    rw [hdir] at HID; have hnd : ¬ (r65 lq x.f1).f0 = 2 := by simpa using hdir
    have hhas := HD.out.1 x.f1 (gr_key hXW.1 (by have := HWS.out.2.1; have := hXW.2; omega)); by_cases hin : x.f1 ∈ st.1
    ·have hix1 : st.1.idxOf x.f1 < st.1.length := List.idxOf_lt_length_iff.2 hin; rw [decide_eq_true hin] at hhas; have hat0 := HD.out.2 x.f1 hin; obtain ⟨g, cap, e6, hg1, hg2, cellsg, hgc⟩ := Kd.S_form HS.out (by have := HLN.out; omega); subst e6; clear hgc
     go_wp2_with (first
      | ((with_reducible refine gd 8 rfl ?_); refine bxE 8 #[.string (⟨#[]⟩ : ByteArray), .int .i64 0] 75 ?_; intro gx hg w9 hbox hb; have BX := aM hbox; have MM := aM hb; have GX := aM (show wr.heap.size ≤ gx by rw [hg]; exact Nat.le_refl _); have hnx : gF ≠ gx := (by have := blk_lt BF.out; rw [hg]; omega); have hnx2 : gx ≠ gF := (fun e => hnx e.symm); clear hbox; replace hcF := cb2 (aM (blk_below (g := gF) BF.out hb)); clear hb hg hx0 hx1; have hcX := cb2 BX; have hfX0 := fz BX 0; have hfX1 := fz BX 1)
      | (go_at_call 47; (refine (impl_Fs_isDir.calls Aq cq lq aq x.f1 false _ ?s1 HC.out HID.out).mono ?_; (case s1 => exact Kd.C_below HR.out (below_step HB.out (below_set (below_set MM.out GX.out) GX.out))); rintro e w10 ⟨rfl, hb⟩; have MM2 := aM (below_step (below_set (below_set MM.out GX.out) GX.out) hb); have BX10 := aM (show w10.heap[gx]? = some (.cells #[.string x.f0, .int .i64 x.f1] 75 (0, 0)) from blk_below (g := gx) (blk_put (blk_put BX.out 0 (.string x.f0) rfl) 1 (.int .i64 x.f1) rfl) hb); have HM10 := aM ((gr_keep.below (P := fun _ => True) MM2.out).ownsMap trivial HM.out); have HS10 := aM (Kd.S_below HS.out MM2.out); have BF10 := aM (blk_below BF.out MM2.out); have HO10 := aM (Kd.R_below HO.out MM2.out); have HB10 := aM (below_step HB.out MM2.out); clear hb hcF hcX hfX0 hfX1 HM HS BF HO HB MM MM2 BX; have hcX := cb2 BX10))
      | (at_lookup; refine wpList_lookup_own_ok_int _ rfl _ _ 82 rfl 3 3 .i64 law Tryz.underlying82 Tryz.underlying3 (gr_zero _) w2.heap.size nD D rfl HM10.out _ _ rfl hkey ?_; intro c hat hwc; rw [hhas]; have HC9 := aM (show c = (st.1.idxOf x.f1 : Int) by rw [hat0] at hat; injection hat with hat; injection hat with _ hat; exact hat.symm); clear hat hwc hat0 hhas))
     have hJ0 : 0 ≤ c := by have := HC9.out; have := HLN.out; omega
     have hJ1 : c < ((st.2.length : Nat) : Int) := by have := HC9.out; have := HLN.out; omega
     have hrw2 : ∀ j : Nat, (st.2.getD j []).length ≤ i := fun j => by
      rw [List.getD_eq_getElem?_getD]; cases e : st.2[j]? with
      | none => simp
      | some y => have := HRW.out y (List.mem_of_getElem? e); simp; omega
     obtain ⟨oki, cc, hcl, hM1, hcc, hfr, hoki, hH⟩ := Kd.S_elem HS10.out ([] : List ByteArray) (c) hJ0 hJ1; have hix : (c).toNat * (Kd.slice 9 Kd.string).sz + 0 = (c).toNat := by show (c).toNat * 1 + 0 = (c).toNat; omega
     obtain ⟨vi, rfl, hR⟩ := hM1; obtain ⟨Ai, ci, rfl⟩ := Kd.R_slice hR; have hx := hcc 0 _ rfl; have hf := hfr 0; rw [hix] at hx hf; have hgn := fun e => (hoki g (hR.1 g e)).2 rfl
     have hgl := Kd.S_lt HS10.out g (by simp [Value.ownBlock]); have HSG := aM (Kd.S_typed HS10.out g (by simp [Value.ownBlock])); have hrl : (st.2.getD (c).toNat []).length ≤ i := hrw2 _; generalize hrow : st.2.getD (c).toNat [] = row at *; have hJd0 := eq_true hJ0; have hJd1 := eq_true hJ1; have HH := aM (Kd.H_widen (Kd.H_drew hH)); have HRi := aM (Kd.R_mono (ok' := fun k_ => oki k_ ∨ True ∧ (World.drew w10).heap.size ≤ k_) (Kd.R_drew hR) (fun _ h_ => .inl h_)); have HOK := aM hoki; have hgl2 : g < (World.drew w10).heap.size := hgl; have HGN := aM hgn; have HBd := aM (below_drew HB10.out); have HRL := aM (show (row.length + 1) * 16 ≤ 140737488355328 by omega); have hxa : (w10.alloc (.cells #[.string x.f0] 9)).cell? ⟨g, c.toNat, none⟩ = _ := ((below_alloc (Below.refl w10.heap.size w10) (.cells #[.string x.f0] 9)).cell hgl).trans hx; clear hH hR hcc hfr hoki hgn hgl hrl
     go_region_law (refine Kd.R_append_step Kd.string (w0 := w) w.heap.size (by rfl) (.tmp 48) (.tmp 51) 49 9 (.string ⟨#[]⟩) 16 rfl Tryz.underlying49 info9 rfl (by decide) (by omega) (.slice Ai row.length ci) row x.f0 [.string x.f0] (fun k_ => oki k_ ∨ True ∧ (World.drew w10).heap.size ≤ k_) (fun _ => False) (by simp [Act.eval, Act.put]) (by simp [Act.eval, Act.put]) rfl (fun _ hk => hk.elim) (fun _ h_ => .inr ⟨trivial, h_⟩) HRi.out HBd.out (below_size HBd.out) HRL.out ?_; intro v14 w14 hR14 hB14 hG14 hat14; obtain ⟨A14, c14, rfl⟩ := Kd.R_slice hR14; have hx14 := (World.cell?_of_block (a := ⟨g, c.toNat, none⟩) (hG14.block g hgl2 (fun e => HGN.out e.symm))).trans hx; have hf14 := (World.frozen?_of_block (a := ⟨g, c.toNat, none⟩) (hG14.block g hgl2 (fun e => HGN.out e.symm))).trans hf; have HG14 := aM hG14; have HR14 := aM hR14; have HB14 := aM hB14; clear hat14 hB14 hG14 hR14 hx hf hcX hxa)
     all_goals go_wp2
     all_goals go_roundg k1
     case measure => omega
     case measure => omega
     case measure => omega
     all_goals
      have hw_ : wrap64 ((i : Int) + 1) = ((i + 1 : Nat) : Int) := gr_wrap hlt hsum; obtain ⟨hS2, hK2⟩ := gr_put HH.out HRi.out HOK.out hgl2 HSG.out HG14.out HR14.out hJ0 hJ1; have hK2 := (gr_keep.below (P := fun _ => True) (below_drew (Below.refl w10.heap.size w10))).trans (hK2 _); have hcn : c.toNat = st.1.idxOf x.f1 := by rw [HC9.out]; exact Int.toNat_natCast _
      refine ⟨i + 1, D, nD, by first | rfl | (simp; done) | (simp [hw_]; done) | (rw [hw_]), ⟨gr_ar HI.out⟩, ⟨Nat.le_succ_of_le HN.out⟩, ⟨hK2.ownsMap trivial HM10.out⟩, ⟨?_⟩, ⟨?_⟩, ⟨⟨_, _, _, rfl⟩⟩, ⟨hK2.cells trivial BF10.out (by decide) (by decide)⟩, ⟨gr_R hK2 (fun _ _ _ _ => trivial) HO10.out⟩, ⟨Below.setCell HB14.out (p := ⟨g, c.toNat, none⟩) hg1 _⟩⟩
      ·rw [HSN.out]; unfold gr_step; rw [if_neg hnd, if_pos hin]; exact HD.out
      ·rw [HSN.out]; unfold gr_step; rw [if_neg hnd, if_pos hin, ← hcn, hrow]; exact hS2
    ·rw [decide_eq_false hin] at hhas; obtain ⟨A6, c6, e6⟩ := Kd.S_slice HS.out; subst e6; have HIM := aM (HM.out.isMap); have HWF := aM (gr_key (n := (st.2.length : Int)) (by omega) (by have := HLN.out; omega)); have HNL := aM (show nD < maxLen by have := HN.out; simp only [maxLen]; omega); have HAL := aM (show (st.2.length + 1) * 24 ≤ 140737488355328 by have := HLN.out; omega)
     go_wp2_with (first
      | ((with_reducible refine gd 8 rfl ?_); refine bxE 8 #[.string (⟨#[]⟩ : ByteArray), .int .i64 0] 75 ?_; intro gx hg w9 hbox hb; have BX := aM hbox; have MM := aM hb; have GX := aM (show wr.heap.size ≤ gx by rw [hg]; exact Nat.le_refl _); have hnx : gF ≠ gx := (by have := blk_lt BF.out; rw [hg]; omega); have hnx2 : gx ≠ gF := (fun e => hnx e.symm); clear hbox; replace hcF := cb2 (aM (blk_below (g := gF) BF.out hb)); clear hb hg hx0 hx1; have hcX := cb2 BX; have hfX0 := fz BX 0; have hfX1 := fz BX 1)
      | (go_at_call 47; (refine (impl_Fs_isDir.calls Aq cq lq aq x.f1 false _ ?s1 HC.out HID.out).mono ?_; (case s1 => exact Kd.C_below HR.out (below_step HB.out (below_set (below_set MM.out GX.out) GX.out))); rintro e w10 ⟨rfl, hb⟩; have MM2 := aM (below_step (below_set (below_set MM.out GX.out) GX.out) hb); have BX10 := aM (show w10.heap[gx]? = some (.cells #[.string x.f0, .int .i64 x.f1] 75 (0, 0)) from blk_below (g := gx) (blk_put (blk_put BX.out 0 (.string x.f0) rfl) 1 (.int .i64 x.f1) rfl) hb); have HM10 := aM ((gr_keep.below (P := fun _ => True) MM2.out).ownsMap trivial HM.out); have HS10 := aM (Kd.S_below HS.out MM2.out); have BF10 := aM (blk_below BF.out MM2.out); have HO10 := aM (Kd.R_below HO.out MM2.out); have HB10 := aM (below_step HB.out MM2.out); clear hb hcF hcX hfX0 hfX1 HM HS BF HO HB MM MM2 BX; have hcX := cb2 BX10))
      | (at_lookup; refine wpList_lookup_own_ok_int _ rfl _ _ 82 rfl 3 3 .i64 law Tryz.underlying82 Tryz.underlying3 (gr_zero _) w2.heap.size nD D rfl HM10.out _ _ rfl hkey ?_; intro clk hat hwc; rw [hhas]; clear hat hwc hhas)
      | (at_mapUpdate; (refine wpList_mapUpdate_own _ rfl _ _ _ 82 rfl 3 3 law Tryz.underlying82 _ w2.heap.size nD D rfl HM10.out HNL.out _ _ (.int .i64 x.f1) rfl rfl hkey (.lit (.int .i64 (st.2.length : Int))) [] (plainElem_int Tryz.underlying3 HWF.out) ?_; intro w11 hown hg11; have HM11 := aM hown; have HS11 := aM (gr_S HM10.out hg11 HS10.out); have KM := aM (gr_keep.map hg11); have BX11 := aM (KM.out.cells (gr_map_cells HM10.out BX10.out) BX10.out (by decide) (by decide)); have BF11 := aM (KM.out.cells (gr_map_cells HM10.out BF10.out) BF10.out (by decide) (by decide)); have HO11 := aM (gr_R KM.out (fun _ _ _ h_ => gr_map_cells HM10.out h_) HO10.out); have HB11 := aM (gr_B HB10.out hg11 HGM.out); clear hown hg11 hcX HM10 HS10 BX10 BF10 HO10 HB10 KM))
      | ((with_reducible refine gate_builtin (b := .append) (xs := #[.tmp 40, .tmp 41]) rfl ?_); at_builtin; refine Kd.S_append (Kd.slice 9 Kd.string) (w0 := w) w.heap.size rfl (.tmp 40) (.tmp 41) 34 49 (.slice none 0 0) 24 rfl Tryz.underlying34 gr_info rfl (by decide) (by omega) (.slice A6 st.2.length c6) st.2 [] [.slice none 0 0] (fun _ => True) (fun _ => False) rfl rfl ?aP (fun _ hk => hk.elim) (fun _ _ => trivial) (Kd.S_mono HS11.out (fun _ _ => ⟨trivial, fun h => h⟩)) HB11.out (below_size HB11.out) HAL.out ?_; (case aP => exact Kd.M_row (Kd.R_nil _ _ _ _ _)); intro v12 w12 hS12 hB12 hg12 hat12; generalize hrows : st.2 ++ [[]] = rows at hS12; have HRO := aM hrows; have hrl0 : rows.length = st.2.length + 1 := (by rw [← hrows, List.length_append]; rfl); obtain ⟨g, cap, rfl, hg1, _, _, _⟩ := Kd.S_form hS12 (by omega); have HRO2 := aM hrl0; have K12 := aM (gr_keep.grown (P := fun _ => True) hg12 (fun k hk => by obtain ⟨cs, h_⟩ := Kd.S_typed HS11.out k hk; exact ⟨cs, 49, h_, .inl rfl⟩)); have HS10 := aM hS12; have HB10 := aM hB12; have HM10 := aM (K12.out.ownsMap trivial HM11.out); have BX10 := aM (K12.out.cells trivial BX11.out (by decide) (by decide)); have BF10 := aM (K12.out.cells trivial BF11.out (by decide) (by decide)); have HO10 := aM (gr_R K12.out (fun _ _ _ _ => trivial) HO11.out); clear hrows hrl0 hS12 hB12 hg12 hat12 HS11 HB11 HM11 BX11 BF11 HO11 K12; have hcX := cb2 BX10))
     generalize hcl9 : ((st.2.length : Nat) : Int) = c; have HC9 := aM hcl9; clear hcl9; have hJ0 : 0 ≤ c := by have := HC9.out; omega
     have hJ1 : c < ((rows.length : Nat) : Int) := by have := HC9.out; have := HRO2.out; omega
     have hrw2 : ∀ j : Nat, (rows.getD j []).length ≤ i := fun j => by
      rw [← HRO.out, List.getD_eq_getElem?_getD]; cases e : (st.2 ++ [[]])[j]? with
      | none => simp
      | some y =>
       rcases List.mem_append.1 (List.mem_of_getElem? e) with h_ | h_
       ·have := HRW.out y h_; simp; omega
       ·rw [List.mem_singleton.1 h_]; simp
     obtain ⟨oki, cc, hcl, hM1, hcc, hfr, hoki, hH⟩ := Kd.S_elem HS10.out ([] : List ByteArray) (c) hJ0 hJ1; have hix : (c).toNat * (Kd.slice 9 Kd.string).sz + 0 = (c).toNat := by show (c).toNat * 1 + 0 = (c).toNat; omega
     obtain ⟨vi, rfl, hR⟩ := hM1; obtain ⟨Ai, ci, rfl⟩ := Kd.R_slice hR; have hx := hcc 0 _ rfl; have hf := hfr 0; rw [hix] at hx hf; have hgn := fun e => (hoki g (hR.1 g e)).2 rfl
     have hgl := Kd.S_lt HS10.out g (by simp [Value.ownBlock]); have HSG := aM (Kd.S_typed HS10.out g (by simp [Value.ownBlock])); have hrl : (rows.getD (c).toNat []).length ≤ i := hrw2 _; generalize hrow : rows.getD (c).toNat [] = row at *; have hJd0 := eq_true hJ0; have hJd1 := eq_true hJ1; have HH := aM (Kd.H_widen (Kd.H_drew hH)); have HRi := aM (Kd.R_mono (ok' := fun k_ => oki k_ ∨ True ∧ (World.drew w12).heap.size ≤ k_) (Kd.R_drew hR) (fun _ h_ => .inl h_)); have HOK := aM hoki; have hgl2 : g < (World.drew w12).heap.size := hgl; have HGN := aM hgn; have HBd := aM (below_drew HB10.out); have HRL := aM (show (row.length + 1) * 16 ≤ 140737488355328 by omega); have hxa : (w12.alloc (.cells #[.string x.f0] 9)).cell? ⟨g, c.toNat, none⟩ = _ := ((below_alloc (Below.refl w12.heap.size w12) (.cells #[.string x.f0] 9)).cell hgl).trans hx; clear hH hR hcc hfr hoki hgn hgl hrl
     go_region_law (refine Kd.R_append_step Kd.string (w0 := w) w.heap.size (by rfl) (.tmp 48) (.tmp 51) 49 9 (.string ⟨#[]⟩) 16 rfl Tryz.underlying49 info9 rfl (by decide) (by omega) (.slice Ai row.length ci) row x.f0 [.string x.f0] (fun k_ => oki k_ ∨ True ∧ (World.drew w12).heap.size ≤ k_) (fun _ => False) (by simp [Act.eval, Act.put]) (by simp [Act.eval, Act.put]) rfl (fun _ hk => hk.elim) (fun _ h_ => .inr ⟨trivial, h_⟩) HRi.out HBd.out (below_size HBd.out) HRL.out ?_; intro v14 w14 hR14 hB14 hG14 hat14; obtain ⟨A14, c14, rfl⟩ := Kd.R_slice hR14; have hx14 := (World.cell?_of_block (a := ⟨g, c.toNat, none⟩) (hG14.block g hgl2 (fun e => HGN.out e.symm))).trans hx; have hf14 := (World.frozen?_of_block (a := ⟨g, c.toNat, none⟩) (hG14.block g hgl2 (fun e => HGN.out e.symm))).trans hf; have HG14 := aM hG14; have HR14 := aM hR14; have HB14 := aM hB14; clear hat14 hB14 hG14 hR14 hx hf hcX hxa)
     all_goals go_wp2
     all_goals go_roundg k1
     case measure => omega
     case measure => omega
     case measure => omega
     all_goals
      have hw_ : wrap64 ((i : Int) + 1) = ((i + 1 : Nat) : Int) := gr_wrap hlt hsum; obtain ⟨hS2, hK2⟩ := gr_put HH.out HRi.out HOK.out hgl2 HSG.out HG14.out HR14.out hJ0 hJ1; have hK2 := (gr_keep.below (P := fun _ => True) (below_drew (Below.refl w12.heap.size w12))).trans (hK2 _); have hcn : c.toNat = st.2.length := by rw [← HC9.out]; exact Int.toNat_natCast _
      have hrow0 : row = [] := by rw [← hrow, hcn, ← HRO.out]; simp
      refine ⟨i + 1, D.put (.int .i64 x.f1) (.lit (.int .i64 (st.1.length : Int))), nD + 1, by first | rfl | (simp; done) | (simp [hw_]; done) | (rw [hw_]), ⟨gr_ar HI.out⟩, ⟨Nat.succ_le_succ HN.out⟩, ⟨?_⟩, ⟨?_⟩, ⟨?_⟩, ⟨⟨_, _, _, rfl⟩⟩, ⟨hK2.cells trivial BF10.out (by decide) (by decide)⟩, ⟨gr_R hK2 (fun _ _ _ _ => trivial) HO10.out⟩, ⟨Below.setCell HB14.out (p := ⟨g, c.toNat, none⟩) hg1 _⟩⟩
      ·have h_ := hK2.ownsMap trivial HM10.out; rw [HLN.out.1] at h_; exact h_
      ·rw [HSN.out]; unfold gr_step; rw [if_neg hnd, if_neg hin]; exact gr_D_put HIM.out HD.out hin
      ·rw [HSN.out]; unfold gr_step; rw [if_neg hnd, if_neg hin]; have e_ : rows.set c.toNat (row ++ [x.f0]) = st.2 ++ [[x.f0]] := by rw [hcn, hrow0, ← HRO.out]; simp
       rw [e_] at hS2; have e2 : rows.length = (st.2 ++ [[x.f0]]).length := by rw [HRO2.out]; simp
       exact hS2
  ·have hq : ¬ (i : Int) < (ws.length : Int) := by omega
   obtain ⟨g, n, c, rfl⟩ := HV.out; have hSf := HS.out; rw [List.take_of_length_le (by omega)] at hSf; have HSf := aM hSf; clear hSf HS HV
   go_wp2_with (go_at_call 48; refine (gr_deleteFunc HSf.out).mono ?_; rintro e W1 ⟨v, rfl, hS, hBl⟩)
   go_ret
   exact ⟨_, rfl, hS, hBl w rfl HB.out⟩
def eqS.l0 : Nat → List ByteArray → List ByteArray → Int → Int → Option (Bool)
 | 0, _, _, _, _ => none
 | k + 1, x0, x1, x12, x13 => if x13 < x12 then (if 0 ≤ x13 then (if x13 < (x0.length : Int) then (if x13 < (x1.length : Int) then (if (rdOf ByteArray.empty x0 x13).toList = (rdOf ByteArray.empty x1 x13).toList then (eqS.l0 k x0 x1 x12 (wrap64 (x13 + 1))) else (some false)) else (none)) else (none)) else (none)) else (some true)
def eqS.f (k : Nat) (l0 : List ByteArray) (l1 : List ByteArray) : Option (Bool) := if (l0.length : Int) = (l1.length : Int) then (eqS.l0 k l0 l1 (l0.length : Int) 0) else (some false)
theorem eqS.calls (k : Nat) (A0 : Option Addr) (c0 : Nat) (l0 : List ByteArray) (A1 : Option Addr) (c1 : Nat) (l1 : List ByteArray) (r : Bool) (w : World) (hr0 : Kd.C Kd.string w A0 l0.length l0) (hc0 : l0.length ≤ c0) (hr1 : Kd.C Kd.string w A1 l1.length l1) (hc1 : l1.length ≤ c1) (h : eqS.f k l0 l1 = some r) :
  Calls Tryz.prog 27 #[.slice A0 l0.length c0, .slice A1 l1.length c1] w fun e w' => e = .returned (.bool r) ∧ Drawn0 w w' := by
 have HR0 := aM hr0; have HC0 := aM hc0; clear hr0 hc0; have HR1 := aM hr1; have HC1 := aM hc1; clear hr1 hc1; have H : (if (l0.length : Int) = (l1.length : Int) then (eqS.l0 k l0 l1 (l0.length : Int) 0) else (some false)) = some r := h; clear h; by_cases c3 : (l0.length : Int) = (l1.length : Int)
 ·rw [if_pos c3] at H; have c3b0 := beq_iff_eq.mpr c3; have c3b1 := bne_eq_false_iff_eq.mpr c3; have c3b2 : (l0.length == l1.length) = true := by first | simpa using c3 | (simp at c3 ⊢; omega)
  clear c3; have H' := aM H; clear H; go_enter Tryz.func27, Tryz.ntmps27; go_wp2
  repeat (go_quiet (fail); try go_wp2)
  go_loopg [13] k (fun kq v13 w' => ∃ (x13_1 : Int), v13 = .int .i64 x13_1 ∧ Aside0 (eqS.l0 kq l0 l1 (l0.length : Int) x13_1 = some r) ∧ Aside0 (kq ≤ k) ∧ Drawn0 w w')
  case atStart => exact ⟨(0), sR, H', ⟨Nat.le_refl _⟩, by repeat (first | exact Drawn0.refl _ | apply Drawn0.step)⟩
  case round =>
   clear H'; obtain ⟨x13_1, rfl, HA, HK1, ⟨m1, rfl⟩⟩ := hrel; cases gk with
   | zero => exact absurd HA.out (by simp [eqS.l0])
   | succ k1 =>
    have H := HA.out; clear HA; simp only [eqS.l0] at H; by_cases c4 : x13_1 < (l0.length : Int)
    ·rw [if_pos c4] at H; have c4b0 := decide_eq_true c4; clear c4; obtain ⟨c5, H⟩ := iN H; have c5b0 := decide_eq_true c5; clear c5; obtain ⟨c6, H⟩ := iN H; have c6b0 := decide_eq_true c6; clear c6; obtain ⟨c7, H⟩ := iN H; have c7b0 := decide_eq_true c7; clear c7; by_cases c8 : (rdOf ByteArray.empty l0 x13_1).toList = (rdOf ByteArray.empty l1 x13_1).toList
     ·rw [if_pos c8] at H; have c8b0 := beq_iff_eq.mpr c8; have c8b1 := bne_eq_false_iff_eq.mpr c8; clear c8; have H' := aM H; clear H; have p467 : 0 ≤ (x13_1 : Int) := sO; have q467 : x13_1 < (l0.length : Int) := sO; obtain ⟨ad467, e467, hx467_0⟩ := Kd.at_string HR0.out x13_1 p467 q467; cases e467; replace p467 := eq_true p467; replace q467 := eq_true q467; have p468 : 0 ≤ (x13_1 : Int) := sO; have q468 : x13_1 < (l1.length : Int) := sO; obtain ⟨ad468, e468, hx468_0⟩ := Kd.at_string HR1.out x13_1 p468 q468; cases e468; replace p468 := eq_true p468; replace q468 := eq_true q468; go_wp2
      repeat (go_quiet (fail); try go_wp2)
      go_roundg k1
      case measure => have := HK1.out; omega
      case rel => exact ⟨(wrap64 (x13_1 + 1)), sR, H', ⟨by have := HK1.out; omega⟩, by repeat (first | exact Drawn0.refl _ | apply Drawn0.step)⟩
     ·rw [if_neg c8] at H; have c8b0 := beq_eq_false_iff_ne.mpr c8; have c8b1 := bne_iff_ne.mpr c8; obtain rfl := sI H; have p467 : 0 ≤ (x13_1 : Int) := sO; have q467 : x13_1 < (l0.length : Int) := sO; obtain ⟨ad467, e467, hx467_0⟩ := Kd.at_string HR0.out x13_1 p467 q467; cases e467; replace p467 := eq_true p467; replace q467 := eq_true q467; have p468 : 0 ≤ (x13_1 : Int) := sO; have q468 : x13_1 < (l1.length : Int) := sO; obtain ⟨ad468, e468, hx468_0⟩ := Kd.at_string HR1.out x13_1 p468 q468; cases e468; replace p468 := eq_true p468; replace q468 := eq_true q468; go_wp2
      repeat (go_quiet (fail); try go_wp2)
      go_ret
      exact eD
    ·rw [if_neg c4] at H; have c4b0 := decide_eq_false c4; clear c4; obtain rfl := sI H; go_wp2
     repeat (go_quiet (fail); try go_wp2)
     go_ret
     exact eD
 ·rw [if_neg c3] at H; have c3b0 := beq_eq_false_iff_ne.mpr c3; have c3b1 := bne_iff_ne.mpr c3; have c3b2 : (l0.length == l1.length) = false := by first | simpa using c3 | (simp at c3 ⊢; omega)
  obtain rfl := sI H; go_enter Tryz.func27, Tryz.ntmps27; go_wp2
  repeat (go_quiet (fail); try go_wp2)
  go_ret
  exact eD
end Go.Proofs.YtdjceippnokimaaGreatDoor.PSat
