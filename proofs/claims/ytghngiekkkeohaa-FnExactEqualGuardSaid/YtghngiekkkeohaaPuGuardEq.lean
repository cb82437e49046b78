import Derived.Test.YtghngiekkkeohaaPuGuard
import Derived.Test.YtghngiekkkeohaaFlawseqGuard
namespace Go.Proofs.Ytghngiekkkeohaa.Pu
set_option linter.unusedSimpArgs false
set_option linter.unusedVariables false
open Go.RowKit Go.Proofs.Ytghngiekkkeohaa.F Go.Proofs.YtghngiekkkeohaaW.PrintWords
theorem eqGuard_refl (a : Int) (x y : S29) (h1 : nd x ≤ 9223372036854775806) (h2 : nd y ≤ 9223372036854775806) : Ev (fun k => laws_eqGuard.f k a x.f0 x.f1 x.f2 x.f3 y.f0 y.f1 y.f2 y.f3 a x.f0 x.f1 x.f2 x.f3 y.f0 y.f1 y.f2 y.f3) true := by
  unfold laws_eqGuard.f
  exact ev_pos rfl (ev_bind (eqTerm_refl x h1) (ev_pos rfl (ev_bind (eqTerm_refl y h2) (ev_pos rfl (Ev.now _)))))
end Go.Proofs.Ytghngiekkkeohaa.Pu
