import Derived.Test.YtdgjddkibiffnaaPuBase
/-! Where a string stands in a list. -/
namespace Go.Proofs.Ytdgjddkibiffnaa.Pu
set_option linter.unusedSimpArgs false
set_option linter.unusedVariables false
open Go.RowKit Go.Proofs.YtdgjddkibiffnaaW.PrintWords
/-- The first place of s in a list whose first place has the number i; -1 where there is none. -/
def ixL (s : ByteArray) : List ByteArray → Nat → Int
  | [], _ => -1
  | x :: xs, i => if x.toList = s.toList then (i : Int) else ixL s xs (i + 1)
theorem ixL_step (s : ByteArray) (l : List ByteArray) (i : Nat) (h : i < l.length) : ixL s (l.drop i) i = if l[i].toList = s.toList then (i : Int) else ixL s (l.drop (i + 1)) (i + 1) := by
  rw [List.drop_eq_getElem_cons h, ixL]
theorem ixL_end (s : ByteArray) (l : List ByteArray) : ixL s (l.drop l.length) l.length = -1 := by
  rw [List.drop_length, ixL]
theorem ixL_ge (s : ByteArray) (l : List ByteArray) (i : Nat) : ixL s l i = -1 ∨ (0 ≤ ixL s l i) := by
  induction l generalizing i with
  | nil => exact .inl rfl
  | cons x xs ih =>
    rw [ixL]
    split
    · right; omega
    · exact ih (i + 1)
theorem ixL_mem (s : ByteArray) (l : List ByteArray) (i : Nat) : 0 ≤ ixL s l i ↔ ∃ x, x ∈ l ∧ x.toList = s.toList := by
  induction l generalizing i with
  | nil => simp [ixL]
  | cons x xs ih =>
    rw [ixL]
    by_cases h : x.toList = s.toList
    · rw [if_pos h]
      simp only [List.mem_cons, exists_eq_or_imp]
      exact ⟨fun _ => .inl h, fun _ => by omega⟩
    · rw [if_neg h, ih]
      simp [h]
end Go.Proofs.Ytdgjddkibiffnaa.Pu
