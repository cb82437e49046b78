import Derived.Test.YtdgjddkibiffnaaPuIx
import Derived.Test.YtdgjddkibiffnaaFspecIndexOf
namespace Go.Proofs.Ytdgjddkibiffnaa.Pu
set_option linter.unusedSimpArgs false
set_option linter.unusedVariables false
open Go.RowKit Go.Proofs.Ytdgjddkibiffnaa.F Go.Proofs.YtdgjddkibiffnaaW.PrintWords
theorem spec_IndexOf_ev (l : List ByteArray) (s : ByteArray) (hl : l.length ≤ 9223372036854775806) : Ev (fun k => spec_IndexOf.f k l s) (ixL s l 0) := by
  unfold spec_IndexOf.f
  have h := loop_to l.length (fun i k => spec_IndexOf.l0 k l s (i : Int)) (fun i => ixL s (l.drop i) i) ?_ ?_ 0 (by omega)
  · simpa using h
  · intro i hi ih
    refine Ev.step (fun k => by rw [spec_IndexOf.l0]) (ev_pos (by omega) (ev_pos (by omega) ?_))
    rw [rdOf_at _ _ _ hi]
    simp only [ixL_step s l i hi]
    refine ev_ite (fun h => ev_now (by rw [if_pos h])) (fun h => ?_)
    rw [wrap_succ (by omega), if_neg h]
    exact ih
  · exact Ev.step (fun k => by rw [spec_IndexOf.l0]) (ev_neg (by omega) (ev_now (by rw [ixL_end])))
end Go.Proofs.Ytdgjddkibiffnaa.Pu
