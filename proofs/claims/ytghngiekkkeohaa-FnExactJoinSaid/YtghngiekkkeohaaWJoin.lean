import Derived.Lib.Join
import Derived.Test.YtghngiekkkeohaaWWords
/-! A row of strings that came in, as the library's words have it. -/
namespace Go.Proofs.YtghngiekkkeohaaW.PrintWords
open Go.RowKit
theorem Kd.C_cells {w : World} {A : Option Addr} {xs : List ByteArray} (h : Kd.C Kd.string w A xs.length xs) (hp : 0 < xs.length) : ∃ bk o, A = some ⟨bk, o, none⟩ ∧ bk < w.heap.size ∧ ∀ (j : Nat) (x : ByteArray), xs[j]? = some x → w.cell? ⟨bk, o + j, none⟩ = some (.string x) := by
  have hat : ∀ j, (hj : j < xs.length) → ∃ ad, A = some ad ∧ w.cell? (ad.add j) = some (.string xs[j]) := by
    intro j hj
    obtain ⟨ad, e, hc⟩ := Kd.at_string h (j : Int) (by omega) (by omega)
    rw [Int.toNat_natCast] at hc
    refine ⟨ad, e, hc.trans ?_⟩
    simp [rdOf, List.getD_eq_getElem?_getD, List.getElem?_eq_getElem hj]
  obtain ⟨⟨bk, o, sp⟩, e, h0⟩ := hat 0 hp
  have h0' : w.cell? ⟨bk, o, sp⟩ = some (.string xs[0]) := by simpa [Addr.add] using h0
  have hsp : sp = none := by
    cases sp with
    | none => rfl
    | some s =>
      unfold World.cell? at h0'
      split at h0'
      · simp at h0'
      · cases h0'
  subst hsp
  refine ⟨bk, o, e, World.block_lt_of_cell? w _ h0', fun j x hx => ?_⟩
  obtain ⟨hj, rfl⟩ := List.getElem?_eq_some_iff.1 hx
  obtain ⟨ad, e2, hc⟩ := hat j hj
  rw [e] at e2
  injection e2 with e2
  subst e2
  by_cases hz : j = 0
  · subst hz
    simpa [Addr.add] using hc
  · unfold Addr.add at hc
    rw [if_neg hz] at hc
    exact hc
/-- The parts with the separator between. -/
def joinB (xs : List ByteArray) (sep : ByteArray) : ByteArray := ⟨(Lib.join (xs.map (·.data.toList)) sep.data.toList).toArray⟩
end Go.Proofs.YtghngiekkkeohaaW.PrintWords
