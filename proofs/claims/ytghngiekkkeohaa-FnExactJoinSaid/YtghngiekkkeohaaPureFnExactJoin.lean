import Derived.Test.YtghngiekkkeohaaPuJoin
import Derived.Test.YtghngiekkkeohaaFO
import Derived.Test.YtghngiekkkeohaaFlawsFnExactJoin
namespace Go.Proofs.Ytghngiekkkeohaa.Pure
set_option linter.unusedSimpArgs false
set_option linter.unusedVariables false
open Go.RowKit Go.Proofs.Ytghngiekkkeohaa.F Go.Proofs.Ytghngiekkkeohaa.Pu Go.Proofs.YtghngiekkkeohaaW.PrintWords Go.Proofs.YtghngiekkkeohaaW.PrintLast

theorem FnExactJoin : ∀ (z0 : List ByteArray) (a1 : ByteArray), (z0.length ≤ maxLen ∧ ∀ y, y ∈ z0 → y.size ≤ maxLen) → (a1.size ≤ maxLen) → ∃ k, laws_FnExactJoin.f k z0 a1 = some true := by
  intro l s h1 h2
  refine Ev.rounds ?_
  unfold laws_FnExactJoin.f
  refine ev_ite (fun _ => Ev.now _) (fun hn0 => ?_)
  obtain ⟨r, hr, hb⟩ := szStringS_ev l h1.1 h1.2 1048576 (by omega) (by omega)
  refine ev_bind hr (ev_ite (fun _ => Ev.now _) (fun hn => ?_))
  have hl : l.length ≤ 1048576 := by omega
  have hT := toStringS_ev l hl
  have hE := eqStringS_refl l (by omega)
  exact ev_bind hT (ev_bind (spec_Join_ev l s hl (by omega) (by omega)) (ev_bind hT (ev_bind0 (impl_Join_eq l s hl (by omega) (by omega)) (ev_pos rfl (ev_bind hT (ev_bind hE (ev_pos rfl (Ev.now _))))))))
end Go.Proofs.Ytghngiekkkeohaa.Pure
