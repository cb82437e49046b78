import Derived.Test.YtjkjlkpfmfnikaaPuBase
import Derived.Test.YtjkjlkpfmfnikaaFspecIsPrefix
import Derived.Test.YtjkjlkpfmfnikaaFimplIsPrefix
namespace Go.Proofs.Ytjkjlkpfmfnikaa.Pu
open Go.RowKit Go.Proofs.Ytjkjlkpfmfnikaa.F Go.Proofs.YtjkjlkpfmfnikaaW.PrintWords
theorem spec_IsPrefix_ev (p q : List Int) (hp : p.length ≤ 9223372036854775806) : Ev (fun k => spec_IsPrefix.f k p q) (p.isPrefixOf q) := by
  unfold spec_IsPrefix.f
  have h := loop_to p.length (fun i k => spec_IsPrefix.l0 k p q (i : Int)) (fun i => (p.drop i).isPrefixOf (q.drop i)) ?_ ?_ 0 (by omega)
  · simpa using h
  · intro i hi ih
    refine Ev.step (fun k => by rw [spec_IsPrefix.l0]) (ev_pos (by omega) (ev_ite (fun h => ev_now ?_) (fun h => ev_pos (by omega) (ev_pos (by omega) ?_))))
    · rw [List.drop_eq_getElem_cons hi, show q.drop i = [] from List.drop_eq_nil_of_le (by omega)]
      rfl
    · have hq : i < q.length := by omega
      rw [rd_at _ _ hi, rd_at _ _ hq, wrap_succ (by omega)]
      simp only [List.drop_eq_getElem_cons hi, List.drop_eq_getElem_cons hq, List.isPrefixOf]
      refine ev_ite (fun e => ?_) (fun e => ev_now ?_)
      · rw [e]; simpa using ih
      · simp [e]
  · refine Ev.step (fun k => by rw [spec_IsPrefix.l0]) (ev_neg (by omega) (ev_now ?_))
    rw [List.drop_length]
    simp
theorem isPrefixOf_long (p q : List Int) (h : q.length < p.length) : p.isPrefixOf q = false := by
  cases e : p.isPrefixOf q with
  | false => rfl
  | true =>
    have := (List.isPrefixOf_iff_prefix.1 e).length_le
    omega
theorem impl_IsPrefix_ev (p q : List Int) (hp : p.length ≤ 9223372036854775806) : Ev (fun k => impl_IsPrefix.f k p q) (p.isPrefixOf q) := by
  unfold impl_IsPrefix.f
  refine ev_ite (fun hle => ev_pos (by omega) ?_) (fun h => ev_now (isPrefixOf_long p q (by omega)).symm)
  rw [Int.toNat_natCast]
  refine ev_bind ?_ (Ev.now _)
  unfold slices_Equal_int_int.f
  have hl : (q.take p.length).length = p.length := by simp; omega
  refine ev_pos (by rw [hl]) ?_
  have h := loop_to p.length (fun i k => slices_Equal_int_int.l0 k p (q.take p.length) (p.length : Int) (i : Int)) (fun i => (p.drop i).isPrefixOf (q.drop i)) ?_ ?_ 0 (by omega)
  · simpa using h
  · intro i hi ih
    refine Ev.step (fun k => by rw [slices_Equal_int_int.l0]) (ev_pos (by omega) (ev_pos (by omega) (ev_pos (by omega) (ev_pos (by rw [hl]; omega) ?_))))
    have hq : i < q.length := by omega
    rw [rd_at _ _ hi, rd_at _ _ (by omega), List.getElem_take, wrap_succ (by omega)]
    simp only [List.drop_eq_getElem_cons hi, List.drop_eq_getElem_cons hq, List.isPrefixOf]
    refine ev_ite (fun e => ?_) (fun e => ev_now ?_)
    · rw [e]; simpa using ih
    · simp [e]
  · refine Ev.step (fun k => by rw [slices_Equal_int_int.l0]) (ev_neg (by omega) (ev_now ?_))
    rw [List.drop_length]
    simp
end Go.Proofs.Ytjkjlkpfmfnikaa.Pu
