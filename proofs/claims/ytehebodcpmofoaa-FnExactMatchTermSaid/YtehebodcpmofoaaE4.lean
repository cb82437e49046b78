/- Arguments: rows of bindings. -/
import Derived.Test.YtehebodcpmofoaaE1
import Derived.Test.YtehebodcpmofoaaDB
namespace Go.Proofs.Ytehebodcpmofoaa.AM
open Go Go.Proofs
set_option linter.unusedVariables false
def LensB (b : Bnd) : Prop := Lens b.tm ∧ b.nm.size ≤ maxLen
end Go.Proofs.Ytehebodcpmofoaa.AM
