/- GoodDecks of the program and of the reference agree at every list of decks: no condition. -/
import Derived.Test.YtehgojpiahmalaaDecks
namespace Go.Proofs.Ytehgojpiahmalaa.Pure
open Go.RowKit Go.Proofs.Ytehgojpiahmalaa.PDecks Go.Proofs.YtehgojpiahmalaaW.PrintWords Go.Proofs.Ytehgojpiahmalaa.Aid
theorem FnExactGoodDecks : laws_FnExactGoodDecks.Pure := by
  intro d hd
  refine Ev.rounds (r := true) ?_
  unfold laws_FnExactGoodDecks.f
  obtain ⟨r, hr, e⟩ := laws_szIntSS.is d hd.1 (fun x hx => (hd.2 x hx).1) 1048576 (by omega) (by omega)
  rcases e with e | ⟨e1, e2, e3, e4⟩
  · exact ev_bind hr (ev_pos e (Ev.now _))
  refine ev_bind hr (ev_neg (by omega) ?_)
  have td := laws_toIntSS.is d e3 e4
  obtain ⟨s, hs, es⟩ := spec_l12Good.is d ⟨e3, e4⟩
  obtain ⟨t, ht, et⟩ := impl_GoodDecks.is d ⟨e3, e4⟩
  have hst : t = s := by rw [Bool.eq_iff_iff, es, et]
  subst hst
  refine ev_bind td (ev_bind (a := t) (ev_bind hs (Ev.now _)) (ev_bind td (ev_bind ht (ev_neg (by simp) ?_))))
  exact ev_bind td (ev_bind (laws_eqIntSS.same d (by omega) e4) (ev_pos rfl (Ev.now _)))
end Go.Proofs.Ytehgojpiahmalaa.Pure

