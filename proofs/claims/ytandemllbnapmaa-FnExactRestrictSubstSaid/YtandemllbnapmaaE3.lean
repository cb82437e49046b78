/- Arguments: rows of strings. -/
import Derived.Test.YtandemllbnapmaaE1
import Derived.Test.YtandemllbnapmaaDT
namespace Go.Proofs.Ytandemllbnapmaa.AM
open Go Go.Proofs
set_option linter.unusedVariables false
theorem open_strs {H : Type} {enc : TypeId × Value → H} {w : World} (fuel : Nat) (cs : List Value) (x : DataW H × List MemPlace) (h : DataW.trod enc Try.prog w 0 (fun _ => true) true fuel 23 cs = some x) :
    ∃ s, ∃ xs : List ByteArray, cs = [s] ∧ Told w s ∧ Rw (absS w) xs (absV w.heap.size s) ∧ xs.length ≤ maxLen ∧ ∀ z ∈ xs, z.size ≤ maxLen :=
  open_rowA (E := Kind.enc (α := ByteArray) (absS w)) (G := fun z => z.size ≤ maxLen) (sz := 1) Try.underlying23 (by kernel_rfl) (by omega) h fun n_ cs_ y_ hn_ hy_ => by
    obtain ⟨z, rfl, hw⟩ := toldA_str Try.underlying9 hy_
    exact ⟨z, rfl, hw, fun c hc => by cases List.mem_singleton.1 hc; rfl⟩
end Go.Proofs.Ytandemllbnapmaa.AM
