import Derived.Test.YtjkjlkpfmfnikaaPuTerm
import Derived.Test.YtjkjlkpfmfnikaaFimplDepthOfTerm
import Derived.Test.YtjkjlkpfmfnikaaFspecDepthOfTerm
namespace Go.Proofs.Ytjkjlkpfmfnikaa.Pu
open Go.RowKit Go.Proofs.Ytjkjlkpfmfnikaa.F Go.Proofs.YtjkjlkpfmfnikaaW.PrintWords
mutual
def dp : S42 → Nat
  | ⟨_, _, _, l⟩ => 1 + dpL l
def dpL : List S42 → Nat
  | [] => 0
  | x :: xs => max (dp x) (dpL xs)
end
theorem dp_fields (z : S42) : dp z = 1 + dpL z.f3 := by
  cases z
  rfl
theorem dpL_append (l m : List S42) : dpL (l ++ m) = max (dpL l) (dpL m) := by
  induction l with
  | nil => simp [dpL]
  | cons x xs ih => simp only [List.cons_append, dpL, ih]; omega
theorem dpL_take_succ (l : List S42) (i : Nat) (h : i < l.length) : dpL (l.take (i + 1)) = max (dpL (l.take i)) (dp l[i]) := by
  rw [List.take_succ_eq_append_getElem h, dpL_append]
  simp [dpL]
mutual
theorem dp_le : ∀ z : S42, dp z ≤ nd z
  | ⟨a, b, c, l⟩ => by
    have := dpL_le l
    simp only [dp, nd]
    omega
theorem dpL_le : ∀ l : List S42, dpL l ≤ ndL l
  | [] => by simp [dpL]
  | x :: xs => by
    have h1 := dp_le x
    have h2 := dpL_le xs
    simp only [dpL, ndL]
    omega
end
theorem dpL_take_le (l : List S42) (i : Nat) : dpL (l.take i) ≤ dpL l := by
  have := dpL_append (l.take i) (l.drop i)
  rw [List.take_append_drop] at this
  omega
theorem mx_nat (a b : Nat) : Go.Proofs.YtjkjlkpfmfnikaaW.PrintWords.mx (a : Int) (b : Int) = ((max a b : Nat) : Int) := by
  unfold Go.Proofs.YtjkjlkpfmfnikaaW.PrintWords.mx
  split <;> omega
theorem impl_Depth_ev (z : S42) : nd z ≤ 4611686018427387904 → Ev (fun k => impl_DepthOfTerm.f k z.f0 z.f1 z.f2 z.f3) (dp z : Int) := by
  induction z using term_ind with
  | h z ih =>
    intro hz
    have h0 := dp_le z
    have h1 := nd_fields z
    have hd := dp_fields z
    have h2 := ndL_length z.f3
    refine Ev.step (fun k => by rw [impl_DepthOfTerm.f]) ?_
    have h := loop_ev z.f3.length (fun i k => impl_DepthOfTerm.l0 k ((dpL (z.f3.take i) : Nat) : Int) z.f3 (z.f3.length : Int) (i : Int)) (dp z : Int) ?_ ?_
    · simpa [dpL] using h
    · intro i hi ih2
      have h3 := ndL_mem z.f3 i hi
      have h4 := dpL_take_succ z.f3 i hi
      refine Ev.step (fun k => by rw [impl_DepthOfTerm.l0]) (ev_pos (by omega) (ev_pos (by omega) (ev_pos (by omega) ?_)))
      rw [rdT_at _ _ hi]
      refine ev_bind (ih i hi (by omega)) ?_
      rw [wrap_succ (by omega), mx_nat, ← h4]
      exact ih2
    · refine Ev.step (fun k => by rw [impl_DepthOfTerm.l0]) (ev_neg (by omega) (ev_now ?_))
      rw [List.take_length, wrap_in (by omega) (by omega)]
      omega
theorem spec_Depth_ev (z : S42) : nd z ≤ 4611686018427387904 → Ev (fun k => spec_DepthOfTerm.f k z.f0 z.f1 z.f2 z.f3) (dp z : Int) := by
  induction z using term_ind with
  | h z ih =>
    intro hz
    have h0 := dp_le z
    have h1 := nd_fields z
    have hd := dp_fields z
    have h2 := ndL_length z.f3
    refine Ev.step (fun k => by rw [spec_DepthOfTerm.f]) ?_
    have h := loop_ev z.f3.length (fun i k => spec_DepthOfTerm.l0 k ((dpL (z.f3.take i) : Nat) : Int) (i : Int) z.f0 z.f1 z.f2 z.f3) (dp z : Int) ?_ ?_
    · simpa [dpL] using h
    · intro i hi ih2
      have h3 := ndL_mem z.f3 i hi
      have h4 := dpL_take_succ z.f3 i hi
      refine Ev.step (fun k => by rw [spec_DepthOfTerm.l0]) (ev_pos (by omega) (ev_pos (by omega) ?_))
      rw [rdT_at _ _ hi]
      refine ev_bind (ih i hi (by omega)) ?_
      have hm : spec_l1Max.f ((dpL (z.f3.take i) : Nat) : Int) (dp z.f3[i] : Int) = some ((dpL (z.f3.take (i + 1)) : Nat) : Int) := by
        unfold spec_l1Max.f
        split <;> (congr 1; omega)
      refine ev_bind0 hm ?_
      rw [wrap_succ (by omega)]
      exact ih2
    · refine Ev.step (fun k => by rw [spec_DepthOfTerm.l0]) (ev_neg (by omega) (ev_now ?_))
      rw [List.take_length, wrap_in (by omega) (by omega)]
      omega
end Go.Proofs.Ytjkjlkpfmfnikaa.Pu
