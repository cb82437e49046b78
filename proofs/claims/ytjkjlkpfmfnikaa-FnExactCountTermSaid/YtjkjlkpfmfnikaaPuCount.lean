import Derived.Test.YtjkjlkpfmfnikaaPuTerm
import Derived.Test.YtjkjlkpfmfnikaaFimplCountTerm
import Derived.Test.YtjkjlkpfmfnikaaFspecCountTerm
namespace Go.Proofs.Ytjkjlkpfmfnikaa.Pu
open Go.RowKit Go.Proofs.Ytjkjlkpfmfnikaa.F Go.Proofs.YtjkjlkpfmfnikaaW.PrintWords
theorem impl_Count_ev (z : S42) : nd z ≤ 4611686018427387904 → Ev (fun k => impl_CountTerm.f k z.f0 z.f1 z.f2 z.f3) (nd z : Int) := by
  induction z using term_ind with
  | h z ih =>
    intro hz
    have h1 := nd_fields z
    have h2 := ndL_length z.f3
    refine Ev.step (fun k => by rw [impl_CountTerm.f]) ?_
    have h := loop_ev z.f3.length (fun i k => impl_CountTerm.l0 k ((1 + ndL (z.f3.take i) : Nat) : Int) z.f3 (z.f3.length : Int) (i : Int)) (nd z : Int) ?_ ?_
    · simpa [ndL] using h
    · intro i hi ih2
      have h3 := ndL_mem z.f3 i hi
      have h4 := ndL_take_succ z.f3 i hi
      have h5 : ndL (z.f3.take (i + 1)) ≤ ndL z.f3 := by
        have := ndL_append (z.f3.take (i + 1)) (z.f3.drop (i + 1))
        rw [List.take_append_drop] at this
        omega
      refine Ev.step (fun k => by rw [impl_CountTerm.l0]) (ev_pos (by omega) (ev_pos (by omega) (ev_pos (by omega) ?_)))
      rw [rdT_at _ _ hi]
      refine ev_bind (ih i hi (by omega)) ?_
      rw [wrap_succ (by omega), wrap_in (by omega) (by omega), show ((1 + ndL (z.f3.take i) : Nat) : Int) + (nd z.f3[i] : Int) = ((1 + ndL (z.f3.take (i + 1)) : Nat) : Int) by omega]
      exact ih2
    · exact Ev.step (fun k => by rw [impl_CountTerm.l0]) (ev_neg (by omega) (ev_now (by rw [List.take_length, h1])))
theorem spec_Count_ev (z : S42) : nd z ≤ 4611686018427387904 → Ev (fun k => spec_CountTerm.f k z.f0 z.f1 z.f2 z.f3) (nd z : Int) := by
  induction z using term_ind with
  | h z ih =>
    intro hz
    have h1 := nd_fields z
    have h2 := ndL_length z.f3
    refine Ev.step (fun k => by rw [spec_CountTerm.f]) ?_
    have h := loop_ev z.f3.length (fun i k => spec_CountTerm.l0 k ((1 + ndL (z.f3.take i) : Nat) : Int) (i : Int) z.f0 z.f1 z.f2 z.f3) (nd z : Int) ?_ ?_
    · simpa [ndL] using h
    · intro i hi ih2
      have h3 := ndL_mem z.f3 i hi
      have h4 := ndL_take_succ z.f3 i hi
      have h5 : ndL (z.f3.take (i + 1)) ≤ ndL z.f3 := by
        have := ndL_append (z.f3.take (i + 1)) (z.f3.drop (i + 1))
        rw [List.take_append_drop] at this
        omega
      refine Ev.step (fun k => by rw [spec_CountTerm.l0]) (ev_pos (by omega) (ev_pos (by omega) ?_))
      rw [rdT_at _ _ hi]
      refine ev_bind (ih i hi (by omega)) ?_
      rw [wrap_succ (by omega), wrap_in (by omega) (by omega), show ((1 + ndL (z.f3.take i) : Nat) : Int) + (nd z.f3[i] : Int) = ((1 + ndL (z.f3.take (i + 1)) : Nat) : Int) by omega]
      exact ih2
    · exact Ev.step (fun k => by rw [spec_CountTerm.l0]) (ev_neg (by omega) (ev_now (by rw [List.take_length, h1])))
end Go.Proofs.Ytjkjlkpfmfnikaa.Pu
