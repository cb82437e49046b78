import Derived.Test.YtdgjddkibiffnaaPuStr
import Derived.Test.YtdgjddkibiffnaaPuMark
import Derived.Test.YtdgjddkibiffnaaPuSortN
import Derived.Test.YtdgjddkibiffnaaFO
import Derived.Test.YtdgjddkibiffnaaFlawsFnExactSortNames
namespace Go.Proofs.Ytdgjddkibiffnaa.Pure
set_option linter.unusedSimpArgs false
set_option linter.unusedVariables false
open Go.RowKit Go.Proofs.Ytdgjddkibiffnaa.F Go.Proofs.Ytdgjddkibiffnaa.Pu Go.Proofs.YtdgjddkibiffnaaW.PrintWords Go.Proofs.YtdgjddkibiffnaaW.PrintLast

theorem FnExactSortNames : ∀ (z0 : List ByteArray), (z0.length ≤ maxLen ∧ ∀ y, y ∈ z0 → y.size ≤ maxLen) → ∃ k, laws_FnExactSortNames.f k z0 = some true := by
  intro l h1
  refine Ev.rounds ?_
  unfold laws_FnExactSortNames.f
  obtain ⟨r, hr, hb⟩ := szStringS_ev l h1.1 h1.2 1048576 (by omega) (by omega)
  refine ev_bind hr (ev_ite (fun _ => Ev.now _) (fun hn => ?_))
  have hl : l.length ≤ 1048576 := by omega
  have hT := toStringS_ev l hl
  have hE := eqStringS_refl l (by omega)
  have hS := spec_Sort_ev l (by omega)
  have hI := impl_Sort_eq l (by omega)
  have hw := names_length l
  have hEw := eqStringS_refl (namesB l) (by omega)
  have hM := markStringS_ev (namesB l) 1 (by omega) (by omega)
  have hH := heldStringS_ev (namesB l).length 1 (by omega) (by omega)
  refine ev_bind hT (ev_bind hS (ev_bind hT (ev_bind0 hI (ev_bind hEw (ev_pos rfl (ev_bind hT (ev_bind hE (ev_pos rfl ?_))))))))
  refine ev_bind (markStringS_ev l 1 (by omega) (by omega)) (ev_neg (by omega) (ev_bind hEw ?_))
  refine Ev.step (fun k => by rw [laws_FnExactSortNames.j0]) ?_
  refine ev_neg (by simp) (ev_bind hM (ev_bind hH (ev_neg (by omega) (ev_pos rfl (ev_bind hT (ev_bind0 hI (ev_bind hEw (ev_pos rfl ?_))))))))
  exact ev_bind hH (ev_neg (by omega) (ev_pos rfl (Ev.now _)))
end Go.Proofs.Ytdgjddkibiffnaa.Pure
