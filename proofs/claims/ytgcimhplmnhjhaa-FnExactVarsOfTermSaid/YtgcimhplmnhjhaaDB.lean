/- Kinds: bindings. -/
import Derived.Test.YtgcimhplmnhjhaaDT
namespace Go.Proofs.Ytgcimhplmnhjhaa.AM
open Go
set_option linter.unusedVariables false
set_option linter.unusedSimpArgs false

/-- A binding. -/
structure Bnd where
  nm : ByteArray
  tm : T
def EncB (st : St) (b : Bnd) (cs : List Value) : Prop := ∃ c, cs = .string b.nm :: c ∧ Enc st b.tm c
def OwnB (st : St) (b : Bnd) (cs : List Value) (L : List Nat) : Prop := ∃ c, cs = .string b.nm :: c ∧ Own 30 st b.tm c L
end Go.Proofs.Ytgcimhplmnhjhaa.AM
