/- Arguments: rows of numbers. -/
import Derived.Test.YtjdokceabfaklaaE1
import Derived.Test.YtjdokceabfaklaaDT
namespace Go.Proofs.Ytjdokceabfaklaa.AM
open Go Go.Proofs
set_option linter.unusedVariables false
theorem open_ints {H : Type} {enc : TypeId × Value → H} {w : World} (fuel : Nat) (cs : List Value) (x : DataW H × List MemPlace) (h : DataW.trod enc Try.prog w 0 (fun _ => true) true fuel 25 cs = some x) :
    ∃ s, ∃ xs : List Int, cs = [s] ∧ Told w s ∧ Rw (absS w) xs (absV w.heap.size s) ∧ xs.length ≤ maxLen ∧ ∀ z ∈ xs, (Lit.int .i64 z).wf = true :=
  open_rowA (E := Kind.enc (α := Int) (absS w)) (G := fun z => (Lit.int .i64 z).wf = true) (sz := 1) Try.underlying25 (by kernel_rfl) (by omega) h fun n_ cs_ y_ hn_ hy_ => by
    obtain ⟨z, rfl, hw⟩ := toldA_int Try.underlying3 hy_
    exact ⟨z, rfl, hw, fun c hc => by cases List.mem_singleton.1 hc; rfl⟩
end Go.Proofs.Ytjdokceabfaklaa.AM
