import Derived.Test.YtjkjlkpfmfnikaaPuBase
import Derived.Test.YtjkjlkpfmfnikaaFspecIndexOf
import Derived.Test.YtjkjlkpfmfnikaaFslicesIndexstringstring
/-! Where a string stands in a list. -/
namespace Go.Proofs.Ytjkjlkpfmfnikaa.Pu
open Go.RowKit Go.Proofs.Ytjkjlkpfmfnikaa.F Go.Proofs.YtjkjlkpfmfnikaaW.PrintWords
/-- The first place of s in a list whose first place has the number i; -1 where there is none. -/
def ixL (s : ByteArray) : List ByteArray → Nat → Int
  | [], _ => -1
  | x :: xs, i => if x.toList = s.toList then (i : Int) else ixL s xs (i + 1)
theorem ixL_step (s : ByteArray) (l : List ByteArray) (i : Nat) (h : i < l.length) : ixL s (l.drop i) i = if l[i].toList = s.toList then (i : Int) else ixL s (l.drop (i + 1)) (i + 1) := by
  rw [List.drop_eq_getElem_cons h, ixL]
theorem ixL_end (s : ByteArray) (l : List ByteArray) : ixL s (l.drop l.length) l.length = -1 := by
  rw [List.drop_length, ixL]
theorem spec_IndexOf_ev (l : List ByteArray) (s : ByteArray) (hl : l.length ≤ 9223372036854775806) : Ev (fun k => spec_IndexOf.f k l s) (ixL s l 0) := by
  unfold spec_IndexOf.f
  have h := loop_to l.length (fun i k => spec_IndexOf.l0 k l s (i : Int)) (fun i => ixL s (l.drop i) i) ?_ ?_ 0 (by omega)
  · simpa using h
  · intro i hi ih
    refine Ev.step (fun k => by rw [spec_IndexOf.l0]) (ev_pos (by omega) (ev_pos (by omega) ?_))
    rw [rdOf_at _ _ _ hi]
    simp only [ixL_step s l i hi]
    refine ev_ite (fun h => ev_now (by rw [if_pos h])) (fun h => ?_)
    rw [wrap_succ (by omega), if_neg h]
    exact ih
  · exact Ev.step (fun k => by rw [spec_IndexOf.l0]) (ev_neg (by omega) (ev_now (by rw [ixL_end])))
theorem slices_Index_ev (l : List ByteArray) (s : ByteArray) (hl : l.length ≤ 9223372036854775806) : Ev (fun k => slices_Index_string_string.f k l s) (ixL s l 0) := by
  unfold slices_Index_string_string.f
  have h := loop_to l.length (fun i k => slices_Index_string_string.l0 k l s (l.length : Int) (i : Int)) (fun i => ixL s (l.drop i) i) ?_ ?_ 0 (by omega)
  · simpa using h
  · intro i hi ih
    refine Ev.step (fun k => by rw [slices_Index_string_string.l0]) (ev_pos (by omega) (ev_pos (by omega) (ev_pos (by omega) ?_)))
    rw [rdOf_at _ _ _ hi]
    simp only [ixL_step s l i hi]
    refine ev_ite (fun h => ev_now (by rw [if_pos h.symm])) (fun h => ?_)
    rw [wrap_succ (by omega), if_neg (fun e => h e.symm)]
    exact ih
  · exact Ev.step (fun k => by rw [slices_Index_string_string.l0]) (ev_neg (by omega) (ev_now (by rw [ixL_end])))
theorem ixL_ge (s : ByteArray) (l : List ByteArray) (i : Nat) : ixL s l i = -1 ∨ (0 ≤ ixL s l i) := by
  induction l generalizing i with
  | nil => exact .inl rfl
  | cons x xs ih =>
    rw [ixL]
    split
    · right; omega
    · exact ih (i + 1)
theorem ixL_mem (s : ByteArray) (l : List ByteArray) (i : Nat) : 0 ≤ ixL s l i ↔ ∃ x, x ∈ l ∧ x.toList = s.toList := by
  induction l generalizing i with
  | nil => simp [ixL]
  | cons x xs ih =>
    rw [ixL]
    by_cases h : x.toList = s.toList
    · rw [if_pos h]
      simp only [List.mem_cons, exists_eq_or_imp]
      exact ⟨fun _ => .inl h, fun _ => by omega⟩
    · rw [if_neg h, ih]
      simp [h]
end Go.Proofs.Ytjkjlkpfmfnikaa.Pu
