/- What a law's arguments read as. -/
import Derived.Test.YtibcegfhllkdgaaDoorD5
import Derived.Test.YtibcegfhllkdgaaDoorR1
namespace Go.Proofs.YtibcegfhllkdgaaDoor.AM
open Go Go.Proofs
set_option linter.unusedVariables false
set_option linter.unusedSimpArgs false

theorem list_S {α : Type} {l : List α} {n : Nat} (h : l.length = n + 1) : ∃ a l2, l = a :: l2 ∧ l2.length = n := by
  match l, h with
  | a :: l2, h => exact ⟨a, l2, rfl, by simpa using h⟩
theorem toldA_int {H : Type} {enc : TypeId × Value → H} {P : Program} {w : World} {t : TypeId} {k : IntKind} (ht : P.underlying t = some (.int k)) {fuel : Nat} {cs : List Value} {x : DataW H × List MemPlace} (h : DataW.trod enc P w 0 (fun _ => true) true fuel t cs = some x) :
    ∃ z, cs = [.int k z] ∧ (Lit.int k z).wf = true := by
  obtain ⟨n, rfl, _, hw⟩ := DataW.trod_int ht h
  exact ⟨n, rfl, hw⟩
theorem toldA_str {H : Type} {enc : TypeId × Value → H} {P : Program} {w : World} {t : TypeId} (ht : P.underlying t = some .string) {fuel : Nat} {cs : List Value} {x : DataW H × List MemPlace} (h : DataW.trod enc P w 0 (fun _ => true) true fuel t cs = some x) :
    ∃ z, cs = [.string z] ∧ z.size ≤ maxLen := by
  obtain ⟨n, rfl, _, hw⟩ := DataW.trod_string ht h
  exact ⟨n, rfl, hw⟩

end Go.Proofs.YtibcegfhllkdgaaDoor.AM
