import Derived.Test.YtdgjddkibiffnaaPuStr
import Derived.Test.YtdgjddkibiffnaaPuDistinct
import Derived.Test.YtdgjddkibiffnaaFO
import Derived.Test.YtdgjddkibiffnaaFlawsFnExactAllDistinct
namespace Go.Proofs.Ytdgjddkibiffnaa.Pure
set_option linter.unusedSimpArgs false
set_option linter.unusedVariables false
open Go.RowKit Go.Proofs.Ytdgjddkibiffnaa.F Go.Proofs.Ytdgjddkibiffnaa.Pu Go.Proofs.YtdgjddkibiffnaaW.PrintWords Go.Proofs.YtdgjddkibiffnaaW.PrintLast

theorem FnExactAllDistinct : ∀ (z0 : List ByteArray), (z0.length ≤ maxLen ∧ ∀ y, y ∈ z0 → y.size ≤ maxLen) → ∃ k, laws_FnExactAllDistinct.f k z0 = some true := by
  intro l h1
  refine Ev.rounds ?_
  unfold laws_FnExactAllDistinct.f
  obtain ⟨r, hr, hb⟩ := szStringS_ev l h1.1 h1.2 1048576 (by omega) (by omega)
  refine ev_bind hr (ev_ite (fun _ => Ev.now _) (fun hn => ?_))
  have hl : l.length ≤ 1048576 := by omega
  have hT := toStringS_ev l hl
  have hE := eqStringS_refl l (by omega)
  have hS := spec_Distinct_ev l (by omega)
  have hI := impl_Distinct_eq l (by omega)
  exact ev_bind hT (ev_bind hS (ev_bind hT (ev_bind0 hI (ev_neg (by simp) (ev_bind hT (ev_bind hE (ev_pos rfl (Ev.now _))))))))
end Go.Proofs.Ytdgjddkibiffnaa.Pure
