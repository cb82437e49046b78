import Derived.Test.YtjkjlkpfmfnikaaPuNames
import Derived.Test.YtjkjlkpfmfnikaaFspecl3Vars
namespace Go.Proofs.Ytjkjlkpfmfnikaa.Pu
open Go.RowKit Go.Proofs.Ytjkjlkpfmfnikaa.F Go.Proofs.YtjkjlkpfmfnikaaW.PrintWords
theorem spec_names_ev (z : S42) : ∀ p : List ByteArray, p.length + nd z ≤ 4000000000000 → Ev (fun k => spec_l3Vars.f k z.f0 z.f1 z.f2 z.f3 p) (p ++ nm z) := by
  induction z using term_ind with
  | h z ih =>
    intro p0 hz
    have h1 := nd_fields z
    have h2 := ndL_length z.f3
    have loop : ∀ p : List ByteArray, p.length ≤ p0.length + 1 → Ev (fun k => spec_l3Vars.j0 k p z.f0 z.f1 z.f2 z.f3) (p ++ nmL z.f3) := by
      intro p hp
      refine Ev.step (fun k => by rw [spec_l3Vars.j0]) ?_
      have h := loop_ev z.f3.length (fun i k => spec_l3Vars.l0 k (p ++ nmL (z.f3.take i)) (i : Int) z.f0 z.f1 z.f2 z.f3) (p ++ nmL z.f3) ?_ ?_
      · simpa [nmL] using h
      · intro i hi ih2
        have h4 := ndL_take_succ z.f3 i hi
        have h5 : ndL (z.f3.take (i + 1)) ≤ ndL z.f3 := by
          have := ndL_append (z.f3.take (i + 1)) (z.f3.drop (i + 1))
          rw [List.take_append_drop] at this
          omega
        have h6 := nmL_le (z.f3.take i)
        refine Ev.step (fun k => by rw [spec_l3Vars.l0]) (ev_pos (by omega) (ev_pos (by omega) ?_))
        rw [rdT_at _ _ hi]
        refine ev_bind (ih i hi _ (by rw [List.length_append]; omega)) ?_
        rw [wrap_succ (by omega), List.append_assoc, ← nmL_take_succ _ _ hi]
        exact ih2
      · exact Ev.step (fun k => by rw [spec_l3Vars.l0]) (ev_neg (by omega) (ev_now (by rw [List.take_length])))
    rw [nm_fields]
    refine Ev.step (fun k => by rw [spec_l3Vars.f]) (ev_ite (fun hk => ev_pos (by omega) ?_) (fun hk => ?_))
    · rw [if_pos hk, ← List.append_assoc]
      exact loop (p0 ++ [z.f2]) (by simp)
    · rw [if_neg hk, List.nil_append]
      exact loop p0 (by omega)
end Go.Proofs.Ytjkjlkpfmfnikaa.Pu
