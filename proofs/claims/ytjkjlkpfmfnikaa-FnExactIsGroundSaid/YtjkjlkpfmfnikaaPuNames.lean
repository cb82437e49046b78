import Derived.Test.YtjkjlkpfmfnikaaPuTerm
import Derived.Test.YtjkjlkpfmfnikaaFimplnamesIn
/-! The names of a term's variables, in order. -/
namespace Go.Proofs.Ytjkjlkpfmfnikaa.Pu
open Go.RowKit Go.Proofs.Ytjkjlkpfmfnikaa.F Go.Proofs.YtjkjlkpfmfnikaaW.PrintWords
mutual
def nm : S42 → List ByteArray
  | ⟨a, _, c, l⟩ => (if a = 1 then [c] else []) ++ nmL l
def nmL : List S42 → List ByteArray
  | [] => []
  | x :: xs => nm x ++ nmL xs
end
theorem nm_fields (z : S42) : nm z = (if z.f0 = 1 then [z.f2] else []) ++ nmL z.f3 := by
  cases z
  rfl
theorem nmL_append (l m : List S42) : nmL (l ++ m) = nmL l ++ nmL m := by
  induction l with
  | nil => simp [nmL]
  | cons x xs ih => simp [nmL, ih]
theorem nmL_take_succ (l : List S42) (i : Nat) (h : i < l.length) : nmL (l.take (i + 1)) = nmL (l.take i) ++ nm l[i] := by
  rw [List.take_succ_eq_append_getElem h, nmL_append]
  simp [nmL]
mutual
theorem nm_le : ∀ z : S42, (nm z).length ≤ nd z
  | ⟨a, b, c, l⟩ => by
    have := nmL_le l
    simp only [nm, nd, List.length_append]
    split <;> simp <;> omega
theorem nmL_le : ∀ l : List S42, (nmL l).length ≤ ndL l
  | [] => by simp [nmL]
  | x :: xs => by
    have h1 := nm_le x
    have h2 := nmL_le xs
    simp only [nmL, ndL, List.length_append]
    omega
end
theorem nmL_take_le (l : List S42) (i : Nat) : (nmL (l.take i)).length ≤ ndL l := by
  have h1 := nmL_le (l.take i)
  have h2 := ndL_append (l.take i) (l.drop i)
  rw [List.take_append_drop] at h2
  omega
theorem impl_names_ev (z : S42) : nd z ≤ 4000000000000 → Ev (fun k => impl_namesIn.f k z.f0 z.f1 z.f2 z.f3) (nm z) := by
  induction z using term_ind with
  | h z ih =>
    intro hz
    have h1 := nd_fields z
    have h2 := ndL_length z.f3
    have loop : ∀ p : List ByteArray, p.length ≤ 1 → Ev (fun k => impl_namesIn.j0 k p z.f0 z.f1 z.f2 z.f3) (p ++ nmL z.f3) := by
      intro p hp
      refine Ev.step (fun k => by rw [impl_namesIn.j0]) ?_
      have h := loop_ev z.f3.length (fun i k => impl_namesIn.l0 k (p ++ nmL (z.f3.take i)) z.f3 (z.f3.length : Int) (i : Int)) (p ++ nmL z.f3) ?_ ?_
      · simpa [nmL] using h
      · intro i hi ih2
        have h3 := ndL_mem z.f3 i hi
        have h5 := nm_le z.f3[i]
        have h6 := nmL_take_le z.f3 i
        refine Ev.step (fun k => by rw [impl_namesIn.l0]) (ev_pos (by omega) (ev_pos (by omega) (ev_pos (by omega) ?_)))
        rw [rdT_at _ _ hi]
        refine ev_bind (ih i hi (by omega)) (ev_pos (by rw [List.length_append]; omega) ?_)
        rw [wrap_succ (by omega), List.append_assoc, ← nmL_take_succ _ _ hi]
        exact ih2
      · exact Ev.step (fun k => by rw [impl_namesIn.l0]) (ev_neg (by omega) (ev_now (by rw [List.take_length])))
    rw [nm_fields]
    refine Ev.step (fun k => by rw [impl_namesIn.f]) (ev_ite (fun hk => ev_pos (by simp) ?_) (fun hk => ?_))
    · rw [if_pos hk]
      simpa using loop [z.f2] (by simp)
    · rw [if_neg hk]
      simpa using loop [] (by simp)
end Go.Proofs.Ytjkjlkpfmfnikaa.Pu
