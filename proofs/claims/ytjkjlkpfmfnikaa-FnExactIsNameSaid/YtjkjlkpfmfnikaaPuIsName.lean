import Derived.Test.YtjkjlkpfmfnikaaPuNamed
import Derived.Test.YtjkjlkpfmfnikaaFspecIsName
import Derived.Test.YtjkjlkpfmfnikaaFimplIsName
namespace Go.Proofs.Ytjkjlkpfmfnikaa.Pu
open Go.RowKit Go.Proofs.Ytjkjlkpfmfnikaa.F Go.Proofs.YtjkjlkpfmfnikaaW.PrintWords
theorem impl_IsName_ev (a : ByteArray) (hs : a.size ≤ 4611686018427387904) : Ev (fun k => impl_IsName.f k a) (named 97 122 a) := by
  unfold impl_IsName.f
  exact ev_bind (isNamed_ev 97 122 a hs) (Ev.now _)
theorem spec_IsName_ev (a : ByteArray) (hs : a.size ≤ 4611686018427387904) : Ev (fun k => spec_IsName.f k a) (named 97 122 a) := by
  unfold spec_IsName.f
  refine ev_ite (fun h => ev_now ?_) (fun h => ?_)
  · have := list_empty a h
    have e1 : decide (1 ≤ (a.size : Int)) = false := by simp; omega
    unfold named
    rw [e1]; simp
  · have h1 : 1 ≤ a.size := by
      rcases Nat.eq_zero_or_pos a.size with h0 | h0
      · exact absurd (empty_list a h0) h
      · exact h0
    refine ev_pos (by omega) (ev_bind0 (lower_eq _) ?_)
    have e1 : decide (1 ≤ (a.size : Int)) = true := by simp; omega
    unfold named
    rw [e1]
    refine ev_ite (fun e => ev_bind (rest_ev a hs h1) (ev_now ?_)) (fun e => ev_now ?_)
    · rw [e]
      cases okB a (a.size - 1) 1 <;> cases decide ((a.size : Int) ≤ 8) <;> rfl
    · rw [Bool.eq_false_iff.2 e]
      simp
end Go.Proofs.Ytjkjlkpfmfnikaa.Pu
