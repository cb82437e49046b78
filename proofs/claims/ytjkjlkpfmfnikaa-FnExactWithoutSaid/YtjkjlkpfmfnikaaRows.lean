/-
  NARROWER THAN 'FOR EVERY INPUT', by the rows' own cells (each row's printed sentence says how): FnExactCountTerm: loops · FnExactDepthOfTerm: loops · FnExactIsGround: loops · FnExactCompareTerms: loops.
  DERIVED. THE GIVEN ROWS OF THIS SEAT. 12 by the template 'for every input the law returns true; each argument reads behind the call as it read before'; 0 by the template 'total and deterministic' (their statements: YtjkjlkpfmfnikaaTotals.lean).
  GIVEN WITH THE SEED: the statements are not yours to turn. If you find one false, say at which input.
  Laid BY PROGRAM, IN A SANDBOX (cutbox-rows.mjs): the forced cells as the released guide's own fill.sh prints them over the translation fd055742a0c88c51… (all of the seat's roots in one cut). By AI agents, Wed Nov 11 2026. No macro, syntax, notation, axiom, sorry.
-/
import Derived.Test.YtjkjlkpfmfnikaaChecked
import GoSem.Claim
import GoSem.ClaimJoined
import GoSem.ClaimMapViews
import Derived.JoinedTies
import Derived.KernelRfl
namespace Go.Proofs.Ytjkjlkpfmfnikaa
/- THE CELL 'sum', in the pinned program and in every row, IS THE sha256 OF THE DUMP (.gsa) THAT YtjkjlkpfmfnikaaProg.lean LOADS. Nothing in Lean hashes anything: it is a label: what it is worth is what the hold of that sum in a sandbox is worth. -/
noncomputable def Try.pinned : Pinned := { name := "ytjkjlkpfmfnikaa", sum := "fd055742a0c88c515ce949145db887dee6047ea7ef665400ba3d9fd07d119205", checked := Try.checked }
namespace Rows
def none {H : Type} : Left H := { results := [], args := [] }

/-- 'laws.FnExactConstants': WHATEVER THE INPUT: true; the input reads as it did. -/
def fnExactConstantsSpec : ChangeSpec := { name := "fnExactConstants", fn := fun _ => fun
  | [] => { results := [.lit (.bool true)], args := [] }
  | _ => none }
def fnExactConstantsRow : OpenClaim := { program := "ytjkjlkpfmfnikaa", sum := "fd055742a0c88c515ce949145db887dee6047ea7ef665400ba3d9fd07d119205", func := "loop.example/g00517/laws.FnExactConstants", spec := "fnExactConstants", apart := false }
def FnExactConstantsSaid : Prop := fnExactConstantsRow.holds Try.pinned (OpenSpec.ofChange fnExactConstantsSpec)

/-- ITS FALSE NEIGHBOUR: 'it returns false'. Refute it at one input. -/
def fnExactConstantsWrong : ChangeSpec := { name := "fnExactConstants", fn := fun _ => fun
  | [] => { results := [.lit (.bool false)], args := [] }
  | _ => none }
def FnExactConstantsWrongFalsely : Prop := fnExactConstantsRow.holds Try.pinned (OpenSpec.ofChange fnExactConstantsWrong)

/-- 'laws.FnExactIsBuiltin': WHATEVER THE INPUT: true; the input reads as it did. -/
def fnExactIsBuiltinSpec : ChangeSpec := { name := "fnExactIsBuiltin", fn := fun _ => fun
  | [d] => { results := [.lit (.bool true)], args := [d] }
  | _ => none }
def fnExactIsBuiltinRow : OpenClaim := { program := "ytjkjlkpfmfnikaa", sum := "fd055742a0c88c515ce949145db887dee6047ea7ef665400ba3d9fd07d119205", func := "loop.example/g00517/laws.FnExactIsBuiltin", spec := "fnExactIsBuiltin", apart := false }
def FnExactIsBuiltinSaid : Prop := fnExactIsBuiltinRow.holds Try.pinned (OpenSpec.ofChange fnExactIsBuiltinSpec)

/-- ITS FALSE NEIGHBOUR: 'it returns false'. Refute it at one input. -/
def fnExactIsBuiltinWrong : ChangeSpec := { name := "fnExactIsBuiltin", fn := fun _ => fun
  | [d] => { results := [.lit (.bool false)], args := [d] }
  | _ => none }
def FnExactIsBuiltinWrongFalsely : Prop := fnExactIsBuiltinRow.holds Try.pinned (OpenSpec.ofChange fnExactIsBuiltinWrong)

/-- 'laws.FnExactIsName': WHATEVER THE INPUT: true; the input reads as it did. -/
def fnExactIsNameSpec : ChangeSpec := { name := "fnExactIsName", fn := fun _ => fun
  | [d] => { results := [.lit (.bool true)], args := [d] }
  | _ => none }
def fnExactIsNameRow : OpenClaim := { program := "ytjkjlkpfmfnikaa", sum := "fd055742a0c88c515ce949145db887dee6047ea7ef665400ba3d9fd07d119205", func := "loop.example/g00517/laws.FnExactIsName", spec := "fnExactIsName", apart := false }
def FnExactIsNameSaid : Prop := fnExactIsNameRow.holds Try.pinned (OpenSpec.ofChange fnExactIsNameSpec)

/-- ITS FALSE NEIGHBOUR: 'it returns false'. Refute it at one input. -/
def fnExactIsNameWrong : ChangeSpec := { name := "fnExactIsName", fn := fun _ => fun
  | [d] => { results := [.lit (.bool false)], args := [d] }
  | _ => none }
def FnExactIsNameWrongFalsely : Prop := fnExactIsNameRow.holds Try.pinned (OpenSpec.ofChange fnExactIsNameWrong)

/-- 'laws.FnExactIsVarName': WHATEVER THE INPUT: true; the input reads as it did. -/
def fnExactIsVarNameSpec : ChangeSpec := { name := "fnExactIsVarName", fn := fun _ => fun
  | [d] => { results := [.lit (.bool true)], args := [d] }
  | _ => none }
def fnExactIsVarNameRow : OpenClaim := { program := "ytjkjlkpfmfnikaa", sum := "fd055742a0c88c515ce949145db887dee6047ea7ef665400ba3d9fd07d119205", func := "loop.example/g00517/laws.FnExactIsVarName", spec := "fnExactIsVarName", apart := false }
def FnExactIsVarNameSaid : Prop := fnExactIsVarNameRow.holds Try.pinned (OpenSpec.ofChange fnExactIsVarNameSpec)

/-- ITS FALSE NEIGHBOUR: 'it returns false'. Refute it at one input. -/
def fnExactIsVarNameWrong : ChangeSpec := { name := "fnExactIsVarName", fn := fun _ => fun
  | [d] => { results := [.lit (.bool false)], args := [d] }
  | _ => none }
def FnExactIsVarNameWrongFalsely : Prop := fnExactIsVarNameRow.holds Try.pinned (OpenSpec.ofChange fnExactIsVarNameWrong)

/-- 'laws.FnExactIsPrefix': WHATEVER THE INPUT: true; the input reads as it did. -/
def fnExactIsPrefixSpec : ChangeSpec := { name := "fnExactIsPrefix", fn := fun _ => fun
  | [d1, d2] => { results := [.lit (.bool true)], args := [d1, d2] }
  | _ => none }
def fnExactIsPrefixRow : OpenClaim := { program := "ytjkjlkpfmfnikaa", sum := "fd055742a0c88c515ce949145db887dee6047ea7ef665400ba3d9fd07d119205", func := "loop.example/g00517/laws.FnExactIsPrefix", spec := "fnExactIsPrefix", apart := false }
def FnExactIsPrefixSaid : Prop := fnExactIsPrefixRow.holds Try.pinned (OpenSpec.ofChange fnExactIsPrefixSpec)

/-- ITS FALSE NEIGHBOUR: 'it returns false'. Refute it at one input. -/
def fnExactIsPrefixWrong : ChangeSpec := { name := "fnExactIsPrefix", fn := fun _ => fun
  | [d1, d2] => { results := [.lit (.bool false)], args := [d1, d2] }
  | _ => none }
def FnExactIsPrefixWrongFalsely : Prop := fnExactIsPrefixRow.holds Try.pinned (OpenSpec.ofChange fnExactIsPrefixWrong)

/-- 'laws.FnExactIndexOf': WHATEVER THE INPUT: true; the input reads as it did. -/
def fnExactIndexOfSpec : ChangeSpec := { name := "fnExactIndexOf", fn := fun _ => fun
  | [d1, d2] => { results := [.lit (.bool true)], args := [d1, d2] }
  | _ => none }
def fnExactIndexOfRow : OpenClaim := { program := "ytjkjlkpfmfnikaa", sum := "fd055742a0c88c515ce949145db887dee6047ea7ef665400ba3d9fd07d119205", func := "loop.example/g00517/laws.FnExactIndexOf", spec := "fnExactIndexOf", apart := false }
def FnExactIndexOfSaid : Prop := fnExactIndexOfRow.holds Try.pinned (OpenSpec.ofChange fnExactIndexOfSpec)

/-- ITS FALSE NEIGHBOUR: 'it returns false'. Refute it at one input. -/
def fnExactIndexOfWrong : ChangeSpec := { name := "fnExactIndexOf", fn := fun _ => fun
  | [d1, d2] => { results := [.lit (.bool false)], args := [d1, d2] }
  | _ => none }
def FnExactIndexOfWrongFalsely : Prop := fnExactIndexOfRow.holds Try.pinned (OpenSpec.ofChange fnExactIndexOfWrong)

/-- 'laws.FnExactSplitByte': WHATEVER THE INPUT: true; the input reads as it did. -/
def fnExactSplitByteSpec : ChangeSpec := { name := "fnExactSplitByte", fn := fun _ => fun
  | [d1, d2] => { results := [.lit (.bool true)], args := [d1, d2] }
  | _ => none }
def fnExactSplitByteRow : OpenClaim := { program := "ytjkjlkpfmfnikaa", sum := "fd055742a0c88c515ce949145db887dee6047ea7ef665400ba3d9fd07d119205", func := "loop.example/g00517/laws.FnExactSplitByte", spec := "fnExactSplitByte", apart := false }
def FnExactSplitByteSaid : Prop := fnExactSplitByteRow.holds Try.pinned (OpenSpec.ofChange fnExactSplitByteSpec)

/-- ITS FALSE NEIGHBOUR: 'it returns false'. Refute it at one input. -/
def fnExactSplitByteWrong : ChangeSpec := { name := "fnExactSplitByte", fn := fun _ => fun
  | [d1, d2] => { results := [.lit (.bool false)], args := [d1, d2] }
  | _ => none }
def FnExactSplitByteWrongFalsely : Prop := fnExactSplitByteRow.holds Try.pinned (OpenSpec.ofChange fnExactSplitByteWrong)

/-- 'laws.FnExactCountTerm': WHATEVER THE INPUT: true; the input reads as it did. -/
def fnExactCountTermSpec : ChangeSpec := { name := "fnExactCountTerm", fn := fun _ => fun
  | [d] => { results := [.lit (.bool true)], args := [d] }
  | _ => none }
def fnExactCountTermRow : OpenClaim := { program := "ytjkjlkpfmfnikaa", sum := "fd055742a0c88c515ce949145db887dee6047ea7ef665400ba3d9fd07d119205", func := "loop.example/g00517/laws.FnExactCountTerm", spec := "fnExactCountTerm", recurses := true, loops := true, apart := false }
def FnExactCountTermSaid : Prop := fnExactCountTermRow.holds Try.pinned (OpenSpec.ofChange fnExactCountTermSpec)

/-- ITS FALSE NEIGHBOUR: 'it returns false'. Refute it at one input. -/
def fnExactCountTermWrong : ChangeSpec := { name := "fnExactCountTerm", fn := fun _ => fun
  | [d] => { results := [.lit (.bool false)], args := [d] }
  | _ => none }
def FnExactCountTermWrongFalsely : Prop := fnExactCountTermRow.holds Try.pinned (OpenSpec.ofChange fnExactCountTermWrong)

/-- 'laws.FnExactDepthOfTerm': WHATEVER THE INPUT: true; the input reads as it did. -/
def fnExactDepthOfTermSpec : ChangeSpec := { name := "fnExactDepthOfTerm", fn := fun _ => fun
  | [d] => { results := [.lit (.bool true)], args := [d] }
  | _ => none }
def fnExactDepthOfTermRow : OpenClaim := { program := "ytjkjlkpfmfnikaa", sum := "fd055742a0c88c515ce949145db887dee6047ea7ef665400ba3d9fd07d119205", func := "loop.example/g00517/laws.FnExactDepthOfTerm", spec := "fnExactDepthOfTerm", recurses := true, loops := true, apart := false }
def FnExactDepthOfTermSaid : Prop := fnExactDepthOfTermRow.holds Try.pinned (OpenSpec.ofChange fnExactDepthOfTermSpec)

/-- ITS FALSE NEIGHBOUR: 'it returns false'. Refute it at one input. -/
def fnExactDepthOfTermWrong : ChangeSpec := { name := "fnExactDepthOfTerm", fn := fun _ => fun
  | [d] => { results := [.lit (.bool false)], args := [d] }
  | _ => none }
def FnExactDepthOfTermWrongFalsely : Prop := fnExactDepthOfTermRow.holds Try.pinned (OpenSpec.ofChange fnExactDepthOfTermWrong)

/-- 'laws.FnExactIsGround': WHATEVER THE INPUT: true; the input reads as it did. -/
def fnExactIsGroundSpec : ChangeSpec := { name := "fnExactIsGround", fn := fun _ => fun
  | [d] => { results := [.lit (.bool true)], args := [d] }
  | _ => none }
def fnExactIsGroundRow : OpenClaim := { program := "ytjkjlkpfmfnikaa", sum := "fd055742a0c88c515ce949145db887dee6047ea7ef665400ba3d9fd07d119205", func := "loop.example/g00517/laws.FnExactIsGround", spec := "fnExactIsGround", recurses := true, loops := true, apart := false }
def FnExactIsGroundSaid : Prop := fnExactIsGroundRow.holds Try.pinned (OpenSpec.ofChange fnExactIsGroundSpec)

/-- ITS FALSE NEIGHBOUR: 'it returns false'. Refute it at one input. -/
def fnExactIsGroundWrong : ChangeSpec := { name := "fnExactIsGround", fn := fun _ => fun
  | [d] => { results := [.lit (.bool false)], args := [d] }
  | _ => none }
def FnExactIsGroundWrongFalsely : Prop := fnExactIsGroundRow.holds Try.pinned (OpenSpec.ofChange fnExactIsGroundWrong)

/-- 'laws.FnExactWithout': WHATEVER THE INPUT: true; the input reads as it did. -/
def fnExactWithoutSpec : ChangeSpec := { name := "fnExactWithout", fn := fun _ => fun
  | [d1, d2] => { results := [.lit (.bool true)], args := [d1, d2] }
  | _ => none }
def fnExactWithoutRow : OpenClaim := { program := "ytjkjlkpfmfnikaa", sum := "fd055742a0c88c515ce949145db887dee6047ea7ef665400ba3d9fd07d119205", func := "loop.example/g00517/laws.FnExactWithout", spec := "fnExactWithout", apart := false }
def FnExactWithoutSaid : Prop := fnExactWithoutRow.holds Try.pinned (OpenSpec.ofChange fnExactWithoutSpec)

/-- ITS FALSE NEIGHBOUR: 'it returns false'. Refute it at one input. -/
def fnExactWithoutWrong : ChangeSpec := { name := "fnExactWithout", fn := fun _ => fun
  | [d1, d2] => { results := [.lit (.bool false)], args := [d1, d2] }
  | _ => none }
def FnExactWithoutWrongFalsely : Prop := fnExactWithoutRow.holds Try.pinned (OpenSpec.ofChange fnExactWithoutWrong)

/-- 'laws.FnExactCompareTerms': WHATEVER THE INPUT: true; the input reads as it did. -/
def fnExactCompareTermsSpec : ChangeSpec := { name := "fnExactCompareTerms", fn := fun _ => fun
  | [d1, d2] => { results := [.lit (.bool true)], args := [d1, d2] }
  | _ => none }
def fnExactCompareTermsRow : OpenClaim := { program := "ytjkjlkpfmfnikaa", sum := "fd055742a0c88c515ce949145db887dee6047ea7ef665400ba3d9fd07d119205", func := "loop.example/g00517/laws.FnExactCompareTerms", spec := "fnExactCompareTerms", recurses := true, loops := true, apart := false }
def FnExactCompareTermsSaid : Prop := fnExactCompareTermsRow.holds Try.pinned (OpenSpec.ofChange fnExactCompareTermsSpec)

/-- ITS FALSE NEIGHBOUR: 'it returns false'. Refute it at one input. -/
def fnExactCompareTermsWrong : ChangeSpec := { name := "fnExactCompareTerms", fn := fun _ => fun
  | [d1, d2] => { results := [.lit (.bool false)], args := [d1, d2] }
  | _ => none }
def FnExactCompareTermsWrongFalsely : Prop := fnExactCompareTermsRow.holds Try.pinned (OpenSpec.ofChange fnExactCompareTermsWrong)

/- THE SECOND FORM. 'bulk': how many values and letters a reading holds, each counted each time it is reached (what is shared counts as often as it is met; a slice's spare places count too). A statement '..UptoSaid' is the law's where the arguments, and the package variables that the reading takes, are together of bulk at most 1048576: NARROWER than '..Said'. Prove '..Said' where nothing that the law and all that it calls make is longer than what came in: it says more and counts as full. Else prove '..UptoSaid'. A law counts once. -/
mutual
def uptoBulk {H : Type} : DataW H → Nat
  | .lit (.string bytes) => bytes.length + 1
  | .lit _ => 1
  | .nil => 1
  | .ptr d => uptoBulk d + 1
  | .slice elems spare => uptoBulkAll elems + uptoBulkAll spare + 1
  | .agg parts => uptoBulkAll parts + 1
  | .iface _ d => uptoBulk d + 1
  | .map entries => uptoBulkEntries entries + 1
  | .held _ => 1
def uptoBulkAll {H : Type} : List (DataW H) → Nat
  | [] => 0
  | d :: r => uptoBulk d + uptoBulkAll r
def uptoBulkEntries {H : Type} : List (Lit × DataW H) → Nat
  | [] => 0
  | x :: r => uptoBulkEntry x + uptoBulkEntries r
def uptoBulkEntry {H : Type} : Lit × DataW H → Nat
  | (.string bytes, d) => bytes.length + uptoBulk d + 1
  | (_, d) => uptoBulk d + 1
 end
def uptoSmall : (H : Type) → List (DataW H) → Bool := fun _ ds => decide (uptoBulkAll ds ≤ 1048576)
def OpenSpec.upto (s : _root_.Go.ChangeSpec) : _root_.Go.OpenSpec := { _root_.Go.OpenSpec.ofChange s with cond := some uptoSmall }

/-- 'laws.FnExactConstants', WHERE WHAT IT READS IS OF BULK AT MOST 1048576: true; the input reads as it did. -/
def fnExactConstantsUptoRow : OpenClaim := { program := "ytjkjlkpfmfnikaa", sum := "fd055742a0c88c515ce949145db887dee6047ea7ef665400ba3d9fd07d119205", func := "loop.example/g00517/laws.FnExactConstants", spec := "fnExactConstants", apart := false, narrowed := true }
def FnExactConstantsUptoSaid : Prop := fnExactConstantsUptoRow.holds Try.pinned (OpenSpec.upto fnExactConstantsSpec)

/-- 'laws.FnExactIsBuiltin', WHERE WHAT IT READS IS OF BULK AT MOST 1048576: true; the input reads as it did. -/
def fnExactIsBuiltinUptoRow : OpenClaim := { program := "ytjkjlkpfmfnikaa", sum := "fd055742a0c88c515ce949145db887dee6047ea7ef665400ba3d9fd07d119205", func := "loop.example/g00517/laws.FnExactIsBuiltin", spec := "fnExactIsBuiltin", apart := false, narrowed := true }
def FnExactIsBuiltinUptoSaid : Prop := fnExactIsBuiltinUptoRow.holds Try.pinned (OpenSpec.upto fnExactIsBuiltinSpec)

/-- 'laws.FnExactIsName', WHERE WHAT IT READS IS OF BULK AT MOST 1048576: true; the input reads as it did. -/
def fnExactIsNameUptoRow : OpenClaim := { program := "ytjkjlkpfmfnikaa", sum := "fd055742a0c88c515ce949145db887dee6047ea7ef665400ba3d9fd07d119205", func := "loop.example/g00517/laws.FnExactIsName", spec := "fnExactIsName", apart := false, narrowed := true }
def FnExactIsNameUptoSaid : Prop := fnExactIsNameUptoRow.holds Try.pinned (OpenSpec.upto fnExactIsNameSpec)

/-- 'laws.FnExactIsVarName', WHERE WHAT IT READS IS OF BULK AT MOST 1048576: true; the input reads as it did. -/
def fnExactIsVarNameUptoRow : OpenClaim := { program := "ytjkjlkpfmfnikaa", sum := "fd055742a0c88c515ce949145db887dee6047ea7ef665400ba3d9fd07d119205", func := "loop.example/g00517/laws.FnExactIsVarName", spec := "fnExactIsVarName", apart := false, narrowed := true }
def FnExactIsVarNameUptoSaid : Prop := fnExactIsVarNameUptoRow.holds Try.pinned (OpenSpec.upto fnExactIsVarNameSpec)

/-- 'laws.FnExactIsPrefix', WHERE WHAT IT READS IS OF BULK AT MOST 1048576: true; the input reads as it did. -/
def fnExactIsPrefixUptoRow : OpenClaim := { program := "ytjkjlkpfmfnikaa", sum := "fd055742a0c88c515ce949145db887dee6047ea7ef665400ba3d9fd07d119205", func := "loop.example/g00517/laws.FnExactIsPrefix", spec := "fnExactIsPrefix", apart := false, narrowed := true }
def FnExactIsPrefixUptoSaid : Prop := fnExactIsPrefixUptoRow.holds Try.pinned (OpenSpec.upto fnExactIsPrefixSpec)

/-- 'laws.FnExactIndexOf', WHERE WHAT IT READS IS OF BULK AT MOST 1048576: true; the input reads as it did. -/
def fnExactIndexOfUptoRow : OpenClaim := { program := "ytjkjlkpfmfnikaa", sum := "fd055742a0c88c515ce949145db887dee6047ea7ef665400ba3d9fd07d119205", func := "loop.example/g00517/laws.FnExactIndexOf", spec := "fnExactIndexOf", apart := false, narrowed := true }
def FnExactIndexOfUptoSaid : Prop := fnExactIndexOfUptoRow.holds Try.pinned (OpenSpec.upto fnExactIndexOfSpec)

/-- 'laws.FnExactSplitByte', WHERE WHAT IT READS IS OF BULK AT MOST 1048576: true; the input reads as it did. -/
def fnExactSplitByteUptoRow : OpenClaim := { program := "ytjkjlkpfmfnikaa", sum := "fd055742a0c88c515ce949145db887dee6047ea7ef665400ba3d9fd07d119205", func := "loop.example/g00517/laws.FnExactSplitByte", spec := "fnExactSplitByte", apart := false, narrowed := true }
def FnExactSplitByteUptoSaid : Prop := fnExactSplitByteUptoRow.holds Try.pinned (OpenSpec.upto fnExactSplitByteSpec)

/-- 'laws.FnExactCountTerm', WHERE WHAT IT READS IS OF BULK AT MOST 1048576: true; the input reads as it did. -/
def fnExactCountTermUptoRow : OpenClaim := { program := "ytjkjlkpfmfnikaa", sum := "fd055742a0c88c515ce949145db887dee6047ea7ef665400ba3d9fd07d119205", func := "loop.example/g00517/laws.FnExactCountTerm", spec := "fnExactCountTerm", recurses := true, loops := true, apart := false, narrowed := true }
def FnExactCountTermUptoSaid : Prop := fnExactCountTermUptoRow.holds Try.pinned (OpenSpec.upto fnExactCountTermSpec)

/-- 'laws.FnExactDepthOfTerm', WHERE WHAT IT READS IS OF BULK AT MOST 1048576: true; the input reads as it did. -/
def fnExactDepthOfTermUptoRow : OpenClaim := { program := "ytjkjlkpfmfnikaa", sum := "fd055742a0c88c515ce949145db887dee6047ea7ef665400ba3d9fd07d119205", func := "loop.example/g00517/laws.FnExactDepthOfTerm", spec := "fnExactDepthOfTerm", recurses := true, loops := true, apart := false, narrowed := true }
def FnExactDepthOfTermUptoSaid : Prop := fnExactDepthOfTermUptoRow.holds Try.pinned (OpenSpec.upto fnExactDepthOfTermSpec)

/-- 'laws.FnExactIsGround', WHERE WHAT IT READS IS OF BULK AT MOST 1048576: true; the input reads as it did. -/
def fnExactIsGroundUptoRow : OpenClaim := { program := "ytjkjlkpfmfnikaa", sum := "fd055742a0c88c515ce949145db887dee6047ea7ef665400ba3d9fd07d119205", func := "loop.example/g00517/laws.FnExactIsGround", spec := "fnExactIsGround", recurses := true, loops := true, apart := false, narrowed := true }
def FnExactIsGroundUptoSaid : Prop := fnExactIsGroundUptoRow.holds Try.pinned (OpenSpec.upto fnExactIsGroundSpec)

/-- 'laws.FnExactWithout', WHERE WHAT IT READS IS OF BULK AT MOST 1048576: true; the input reads as it did. -/
def fnExactWithoutUptoRow : OpenClaim := { program := "ytjkjlkpfmfnikaa", sum := "fd055742a0c88c515ce949145db887dee6047ea7ef665400ba3d9fd07d119205", func := "loop.example/g00517/laws.FnExactWithout", spec := "fnExactWithout", apart := false, narrowed := true }
def FnExactWithoutUptoSaid : Prop := fnExactWithoutUptoRow.holds Try.pinned (OpenSpec.upto fnExactWithoutSpec)

/-- 'laws.FnExactCompareTerms', WHERE WHAT IT READS IS OF BULK AT MOST 1048576: true; the input reads as it did. -/
def fnExactCompareTermsUptoRow : OpenClaim := { program := "ytjkjlkpfmfnikaa", sum := "fd055742a0c88c515ce949145db887dee6047ea7ef665400ba3d9fd07d119205", func := "loop.example/g00517/laws.FnExactCompareTerms", spec := "fnExactCompareTerms", recurses := true, loops := true, apart := false, narrowed := true }
def FnExactCompareTermsUptoSaid : Prop := fnExactCompareTermsUptoRow.holds Try.pinned (OpenSpec.upto fnExactCompareTermsSpec)

end Rows
end Go.Proofs.Ytjkjlkpfmfnikaa
