import Derived.Test.YtjkjlkpfmfnikaaPuNamed
import Derived.Test.YtjkjlkpfmfnikaaFspecIsVarName
import Derived.Test.YtjkjlkpfmfnikaaFimplIsVarName
namespace Go.Proofs.Ytjkjlkpfmfnikaa.Pu
open Go.RowKit Go.Proofs.Ytjkjlkpfmfnikaa.F Go.Proofs.YtjkjlkpfmfnikaaW.PrintWords
theorem impl_IsVarName_ev (a : ByteArray) (hs : a.size ≤ 4611686018427387904) : Ev (fun k => impl_IsVarName.f k a) (named 65 90 a) := by
  unfold impl_IsVarName.f
  exact ev_bind (isNamed_ev 65 90 a hs) (Ev.now _)
theorem spec_IsVarName_ev (a : ByteArray) (hs : a.size ≤ 4611686018427387904) : Ev (fun k => spec_IsVarName.f k a) (named 65 90 a) := by
  unfold spec_IsVarName.f
  refine ev_ite (fun h => ev_now ?_) (fun h => ?_)
  · have := list_empty a h
    have e1 : decide (1 ≤ (a.size : Int)) = false := by simp; omega
    unfold named
    rw [e1]; simp
  · have h1 : 1 ≤ a.size := by
      rcases Nat.eq_zero_or_pos a.size with h0 | h0
      · exact absurd (empty_list a h0) h
      · exact h0
    refine ev_pos (by omega) ?_
    have e1 : decide (1 ≤ (a.size : Int)) = true := by simp; omega
    unfold named
    rw [e1]
    refine ev_ite (fun e => ?_) (fun e => ev_now ?_)
    · have e2 : decide (65 ≤ bt a 0) = true := by simp; omega
      rw [e2]
      refine ev_ite (fun e => ev_bind (rest_ev a hs h1) (ev_now ?_)) (fun e => ev_now ?_)
      · have e3 : decide (bt a 0 ≤ 90) = true := by simp; omega
        rw [e3]
        cases okB a (a.size - 1) 1 <;> cases decide ((a.size : Int) ≤ 8) <;> rfl
      · have e3 : decide (bt a 0 ≤ 90) = false := by simp; omega
        rw [e3]
        simp
    · have e2 : decide (65 ≤ bt a 0) = false := by simp; omega
      rw [e2]
      simp
end Go.Proofs.Ytjkjlkpfmfnikaa.Pu
