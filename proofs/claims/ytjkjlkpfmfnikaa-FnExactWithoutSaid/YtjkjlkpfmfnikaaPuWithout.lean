import Derived.Test.YtjkjlkpfmfnikaaPuIndex
import Derived.Test.YtjkjlkpfmfnikaaPuContains
import Derived.Test.YtjkjlkpfmfnikaaFspecWithout
import Derived.Test.YtjkjlkpfmfnikaaFimplWithout
namespace Go.Proofs.Ytjkjlkpfmfnikaa.Pu
open Go.RowKit Go.Proofs.Ytjkjlkpfmfnikaa.F Go.Proofs.YtjkjlkpfmfnikaaW.PrintWords
/-- What of l does not stand in m. -/
def without (l m : List ByteArray) : List ByteArray := l.filter fun s => decide (ixL s m 0 < 0)
theorem without_snoc (l m : List ByteArray) (i : Nat) (h : i < l.length) : without (l.take (i + 1)) m = without (l.take i) m ++ (if ixL l[i] m 0 < 0 then [l[i]] else []) := by
  unfold without
  rw [List.take_succ_eq_append_getElem h, List.filter_append]
  congr 1
  by_cases hx : ixL l[i] m 0 < 0 <;> simp [hx]
theorem without_le (l m : List ByteArray) (i : Nat) : (without (l.take i) m).length ≤ i := by
  unfold without
  have h1 := List.length_filter_le (fun s => decide (ixL s m 0 < 0)) (l.take i)
  have h2 := List.length_take_le i l
  omega
theorem spec_Without_ev (l m : List ByteArray) (hl : l.length ≤ 1048576) (hm : m.length ≤ 1048576) : Ev (fun k => spec_Without.f k l m) (without l m) := by
  unfold spec_Without.f
  have h := loop_ev l.length (fun i k => spec_Without.l0 k l m (without (l.take i) m) (i : Int)) (without l m) ?_ ?_
  · simpa [without] using h
  · intro i hi ih
    refine Ev.step (fun k => by rw [spec_Without.l0]) (ev_pos (by omega) (ev_pos (by omega) (ev_bind (spec_IndexOf_ev m _ (by omega)) ?_)))
    have hle := without_le l m i
    rw [rdOf_at _ _ _ hi, wrap_succ (by omega)]
    rw [without_snoc l m i hi] at ih
    refine ev_ite (fun hx => ev_pos (by omega) ?_) (fun hx => ?_)
    · rw [if_pos hx] at ih
      exact ih
    · rw [if_neg hx, List.append_nil] at ih
      exact ih
  · exact Ev.step (fun k => by rw [spec_Without.l0]) (ev_neg (by omega) (ev_now (by rw [List.take_length])))
theorem impl_Without_ev (l m : List ByteArray) (hl : l.length ≤ 1048576) (hm : m.length ≤ 1048576) : Ev (fun k => impl_Without.f k l m) (without l m) := by
  unfold impl_Without.f
  have h := loop_ev l.length (fun i k => impl_Without.l0 k m (without (l.take i) m) l (l.length : Int) (i : Int)) (without l m) ?_ ?_
  · simpa [without] using h
  · intro i hi ih
    refine Ev.step (fun k => by rw [impl_Without.l0]) (ev_pos (by omega) (ev_pos (by omega) (ev_pos (by omega) (ev_bind (slices_Contains_ev m _ (by omega)) ?_))))
    have hle := without_le l m i
    rw [rdOf_at _ _ _ hi, wrap_succ (by omega)]
    rw [without_snoc l m i hi] at ih
    refine ev_ite (fun hx => ?_) (fun hx => ev_pos (by omega) ?_)
    · rw [if_neg (by have := of_decide_eq_true hx; omega), List.append_nil] at ih
      exact ih
    · rw [if_pos (by have := of_decide_eq_false (Bool.eq_false_iff.2 hx); omega)] at ih
      exact ih
  · exact Ev.step (fun k => by rw [impl_Without.l0]) (ev_neg (by omega) (ev_now (by rw [List.take_length])))
end Go.Proofs.Ytjkjlkpfmfnikaa.Pu
