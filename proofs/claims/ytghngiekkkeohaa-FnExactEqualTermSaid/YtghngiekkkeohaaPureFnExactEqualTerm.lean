import Derived.Test.YtghngiekkkeohaaPuSpecEqual
import Derived.Test.YtghngiekkkeohaaPuImplEqual
import Derived.Test.YtghngiekkkeohaaFO
import Derived.Test.YtghngiekkkeohaaFlawsFnExactEqualTerm
namespace Go.Proofs.Ytghngiekkkeohaa.Pure
set_option linter.unusedSimpArgs false
set_option linter.unusedVariables false
open Go.RowKit Go.Proofs.Ytghngiekkkeohaa.F Go.Proofs.Ytghngiekkkeohaa.Pu Go.Proofs.YtghngiekkkeohaaW.PrintWords Go.Proofs.YtghngiekkkeohaaW.PrintLast

theorem FnExactEqualTerm : ∀ (z0 : S24) (z1 : S24), (G24 z0) → (G24 z1) → ∃ k, laws_FnExactEqualTerm.f k z0.f0 z0.f1 z0.f2 z0.f3 z1.f0 z1.f1 z1.f2 z1.f3 = some true := by
  intro z y hG hG1
  refine Ev.rounds ?_
  unfold laws_FnExactEqualTerm.f
  obtain ⟨r, hr, hb⟩ := szTerm_ev z hG 1048576 (by omega) (by omega)
  refine ev_bind hr (ev_ite (fun _ => Ev.now _) (fun hn => ?_))
  obtain ⟨r1, hr1, hb1⟩ := szTerm_ev y hG1 r (by omega) (by omega)
  refine ev_bind hr1 (ev_ite (fun _ => Ev.now _) (fun hn1 => ?_))
  have hT := toTerm_ev z (by omega)
  have hT1 := toTerm_ev y (by omega)
  have hnd := nd_conv z
  have hnd1 := nd_conv y
  have hE := eqTerm_refl (conv z) (by omega)
  have hE1 := eqTerm_refl (conv y) (by omega)
  refine ev_bind hT (ev_bind hT1 (ev_bind (spec_Equal_ev (conv z) (conv y) (by omega)) (ev_bind hT (ev_bind hT1 (ev_bind (impl_Equal_ev (conv z) (conv y) (by omega)) (ev_neg (by simp) (ev_bind hT (ev_bind hE (ev_pos rfl ?_)))))))))
  exact ev_bind hT1 (ev_bind hE1 (ev_pos rfl (Ev.now _)))
end Go.Proofs.Ytghngiekkkeohaa.Pure
