import Derived.Test.YtghngiekkkeohaaPuTerm
import Derived.Test.YtghngiekkkeohaaFlawsszGuard
import Derived.Test.YtghngiekkkeohaaFlawstoGuard
/-! Guards: sized, copied, compared. -/
namespace Go.Proofs.Ytghngiekkkeohaa.Pu
set_option linter.unusedSimpArgs false
set_option linter.unusedVariables false
open Go.RowKit Go.Proofs.Ytghngiekkkeohaa.F Go.Proofs.YtghngiekkkeohaaW.PrintWords
theorem szGuard_ev (z : S33) (h : G33 z) (a : Int) (h0 : 0 ≤ a) (h1 : a ≤ 1048576) : ∃ r, Ev (fun k => laws_szGuard.f k z.f0 z.f1.f0 z.f1.f1 z.f1.f2 z.f1.f3 z.f2.f0 z.f2.f1 z.f2.f2 z.f2.f3 a) r ∧ (r < 0 ∨ (0 ≤ r ∧ r + (wt z.f1 : Int) + (wt z.f2 : Int) ≤ a)) := by
  unfold laws_szGuard.f
  obtain ⟨r, hr, hb⟩ := szTerm_ev z.f1 h.2.1 a h0 h1
  by_cases hn : r < 0
  · exact ⟨-1, ev_bind hr (ev_pos hn (Ev.now _)), .inl (by omega)⟩
  · obtain ⟨r1, hr1, hb1⟩ := szTerm_ev z.f2 h.2.2 r (by omega) (by omega)
    by_cases hn1 : r1 < 0
    · exact ⟨-1, ev_bind hr (ev_neg hn (ev_bind hr1 (ev_pos hn1 (Ev.now _)))), .inl (by omega)⟩
    · exact ⟨r1, ev_bind hr (ev_neg hn (ev_bind hr1 (ev_neg hn1 (Ev.now _)))), .inr (by omega)⟩
theorem toGuard_ev (z : S33) (h1 : wt z.f1 ≤ 1048576) (h2 : wt z.f2 ≤ 1048576) : Ev (fun k => laws_toGuard.f k z.f0 z.f1.f0 z.f1.f1 z.f1.f2 z.f1.f3 z.f2.f0 z.f2.f1 z.f2.f2 z.f2.f3) (z.f0, (conv z.f1).f0, (conv z.f1).f1, (conv z.f1).f2, (conv z.f1).f3, (conv z.f2).f0, (conv z.f2).f1, (conv z.f2).f2, (conv z.f2).f3) := by
  unfold laws_toGuard.f
  exact ev_bind (toTerm_ev z.f1 h1) (ev_bind (toTerm_ev z.f2 h2) (Ev.now _))
end Go.Proofs.Ytghngiekkkeohaa.Pu
