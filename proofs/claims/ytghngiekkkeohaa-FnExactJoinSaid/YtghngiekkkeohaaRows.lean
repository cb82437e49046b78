/-
  NARROWER THAN 'FOR EVERY INPUT', by the rows' own cells (each row's printed sentence says how): FnExactEqualTerm: loops · FnExactEqualGuard: loops · FnExactRenameVars: loops · FnExactReduceWords: loops · FnExactPositionsOf: loops · FnExactIsValidTerm: loops · FnExactTermAt: loops · FnExactIsInstance: loops · FnExactIsVariant: loops.
  DERIVED. THE GIVEN ROWS OF THIS SEAT. 11 by the template 'for every input the law returns true; each argument reads behind the call as it read before'; 0 by the template 'total and deterministic' (their statements: YtghngiekkkeohaaTotals.lean).
  GIVEN WITH THE SEED: the statements are not yours to turn. If you find one false, say at which input.
  Laid BY PROGRAM, IN A SANDBOX (cutbox-rows.mjs): the forced cells as the released guide's own fill.sh prints them over the translation f7ac07464c67393e… (all of the seat's roots in one cut). By AI agents, Wed Nov 11 2026. No macro, syntax, notation, axiom, sorry.
-/
import Derived.Test.YtghngiekkkeohaaChecked
import GoSem.Claim
import GoSem.ClaimJoined
import GoSem.ClaimMapViews
import Derived.JoinedTies
import Derived.KernelRfl
namespace Go.Proofs.Ytghngiekkkeohaa
/- THE CELL 'sum', in the pinned program and in every row, IS THE sha256 OF THE DUMP (.gsa) THAT YtghngiekkkeohaaProg.lean LOADS. Nothing in Lean hashes anything: it is a label: what it is worth is what the hold of that sum in a sandbox is worth. -/
noncomputable def Try.pinned : Pinned := { name := "ytghngiekkkeohaa", sum := "f7ac07464c67393e20f85857374c82745ea84223110db15a889a707c5b61091a", checked := Try.checked }
namespace Rows
def none {H : Type} : Left H := { results := [], args := [] }

/-- 'laws.FnExactEqualTerm': WHATEVER THE INPUT: true; the input reads as it did. -/
def fnExactEqualTermSpec : ChangeSpec := { name := "fnExactEqualTerm", fn := fun _ => fun
  | [d1, d2] => { results := [.lit (.bool true)], args := [d1, d2] }
  | _ => none }
def fnExactEqualTermRow : OpenClaim := { program := "ytghngiekkkeohaa", sum := "f7ac07464c67393e20f85857374c82745ea84223110db15a889a707c5b61091a", func := "loop.example/g00517/laws.FnExactEqualTerm", spec := "fnExactEqualTerm", unfollowed := true, recurses := true, loops := true, apart := false }
def FnExactEqualTermSaid : Prop := fnExactEqualTermRow.holds Try.pinned (OpenSpec.ofChange fnExactEqualTermSpec)

/-- ITS FALSE NEIGHBOUR: 'it returns false'. Refute it at one input. -/
def fnExactEqualTermWrong : ChangeSpec := { name := "fnExactEqualTerm", fn := fun _ => fun
  | [d1, d2] => { results := [.lit (.bool false)], args := [d1, d2] }
  | _ => none }
def FnExactEqualTermWrongFalsely : Prop := fnExactEqualTermRow.holds Try.pinned (OpenSpec.ofChange fnExactEqualTermWrong)

/-- 'laws.FnExactEqualGuard': WHATEVER THE INPUT: true; the input reads as it did. -/
def fnExactEqualGuardSpec : ChangeSpec := { name := "fnExactEqualGuard", fn := fun _ => fun
  | [d1, d2] => { results := [.lit (.bool true)], args := [d1, d2] }
  | _ => none }
def fnExactEqualGuardRow : OpenClaim := { program := "ytghngiekkkeohaa", sum := "f7ac07464c67393e20f85857374c82745ea84223110db15a889a707c5b61091a", func := "loop.example/g00517/laws.FnExactEqualGuard", spec := "fnExactEqualGuard", unfollowed := true, recurses := true, loops := true, apart := false }
def FnExactEqualGuardSaid : Prop := fnExactEqualGuardRow.holds Try.pinned (OpenSpec.ofChange fnExactEqualGuardSpec)

/-- ITS FALSE NEIGHBOUR: 'it returns false'. Refute it at one input. -/
def fnExactEqualGuardWrong : ChangeSpec := { name := "fnExactEqualGuard", fn := fun _ => fun
  | [d1, d2] => { results := [.lit (.bool false)], args := [d1, d2] }
  | _ => none }
def FnExactEqualGuardWrongFalsely : Prop := fnExactEqualGuardRow.holds Try.pinned (OpenSpec.ofChange fnExactEqualGuardWrong)

/-- 'laws.FnExactJoin': WHATEVER THE INPUT: true; the input reads as it did. -/
def fnExactJoinSpec : ChangeSpec := { name := "fnExactJoin", fn := fun _ => fun
  | [d1, d2] => { results := [.lit (.bool true)], args := [d1, d2] }
  | _ => none }
def fnExactJoinRow : OpenClaim := { program := "ytghngiekkkeohaa", sum := "f7ac07464c67393e20f85857374c82745ea84223110db15a889a707c5b61091a", func := "loop.example/g00517/laws.FnExactJoin", spec := "fnExactJoin", inPlace := ["internal/abi.NoEscape", "internal/bytealg.MakeNoZero"], apart := false }
def FnExactJoinSaid : Prop := fnExactJoinRow.holds Try.pinned (OpenSpec.ofChange fnExactJoinSpec)

/-- ITS FALSE NEIGHBOUR: 'it returns false'. Refute it at one input. -/
def fnExactJoinWrong : ChangeSpec := { name := "fnExactJoin", fn := fun _ => fun
  | [d1, d2] => { results := [.lit (.bool false)], args := [d1, d2] }
  | _ => none }
def FnExactJoinWrongFalsely : Prop := fnExactJoinRow.holds Try.pinned (OpenSpec.ofChange fnExactJoinWrong)

/-- 'laws.FnExactRenameVars': WHATEVER THE INPUT: true; the input reads as it did. -/
def fnExactRenameVarsSpec : ChangeSpec := { name := "fnExactRenameVars", fn := fun _ => fun
  | [d1, d2] => { results := [.lit (.bool true)], args := [d1, d2] }
  | _ => none }
def fnExactRenameVarsRow : OpenClaim := { program := "ytghngiekkkeohaa", sum := "f7ac07464c67393e20f85857374c82745ea84223110db15a889a707c5b61091a", func := "loop.example/g00517/laws.FnExactRenameVars", spec := "fnExactRenameVars", recurses := true, loops := true, apart := false }
def FnExactRenameVarsSaid : Prop := fnExactRenameVarsRow.holds Try.pinned (OpenSpec.ofChange fnExactRenameVarsSpec)

/-- ITS FALSE NEIGHBOUR: 'it returns false'. Refute it at one input. -/
def fnExactRenameVarsWrong : ChangeSpec := { name := "fnExactRenameVars", fn := fun _ => fun
  | [d1, d2] => { results := [.lit (.bool false)], args := [d1, d2] }
  | _ => none }
def FnExactRenameVarsWrongFalsely : Prop := fnExactRenameVarsRow.holds Try.pinned (OpenSpec.ofChange fnExactRenameVarsWrong)

/-- 'laws.FnExactReduceWords': WHATEVER THE INPUT: true; the input reads as it did. -/
def fnExactReduceWordsSpec : ChangeSpec := { name := "fnExactReduceWords", fn := fun _ => fun
  | [d] => { results := [.lit (.bool true)], args := [d] }
  | _ => none }
def fnExactReduceWordsRow : OpenClaim := { program := "ytghngiekkkeohaa", sum := "f7ac07464c67393e20f85857374c82745ea84223110db15a889a707c5b61091a", func := "loop.example/g00517/laws.FnExactReduceWords", spec := "fnExactReduceWords", recurses := true, loops := true, apart := false }
def FnExactReduceWordsSaid : Prop := fnExactReduceWordsRow.holds Try.pinned (OpenSpec.ofChange fnExactReduceWordsSpec)

/-- ITS FALSE NEIGHBOUR: 'it returns false'. Refute it at one input. -/
def fnExactReduceWordsWrong : ChangeSpec := { name := "fnExactReduceWords", fn := fun _ => fun
  | [d] => { results := [.lit (.bool false)], args := [d] }
  | _ => none }
def FnExactReduceWordsWrongFalsely : Prop := fnExactReduceWordsRow.holds Try.pinned (OpenSpec.ofChange fnExactReduceWordsWrong)

/-- 'laws.FnExactPositionsOf': WHATEVER THE INPUT: true; the input reads as it did. -/
def fnExactPositionsOfSpec : ChangeSpec := { name := "fnExactPositionsOf", fn := fun _ => fun
  | [d] => { results := [.lit (.bool true)], args := [d] }
  | _ => none }
def fnExactPositionsOfRow : OpenClaim := { program := "ytghngiekkkeohaa", sum := "f7ac07464c67393e20f85857374c82745ea84223110db15a889a707c5b61091a", func := "loop.example/g00517/laws.FnExactPositionsOf", spec := "fnExactPositionsOf", recurses := true, loops := true, apart := false }
def FnExactPositionsOfSaid : Prop := fnExactPositionsOfRow.holds Try.pinned (OpenSpec.ofChange fnExactPositionsOfSpec)

/-- ITS FALSE NEIGHBOUR: 'it returns false'. Refute it at one input. -/
def fnExactPositionsOfWrong : ChangeSpec := { name := "fnExactPositionsOf", fn := fun _ => fun
  | [d] => { results := [.lit (.bool false)], args := [d] }
  | _ => none }
def FnExactPositionsOfWrongFalsely : Prop := fnExactPositionsOfRow.holds Try.pinned (OpenSpec.ofChange fnExactPositionsOfWrong)

/-- 'laws.FnExactIsValidTerm': WHATEVER THE INPUT: true; the input reads as it did. -/
def fnExactIsValidTermSpec : ChangeSpec := { name := "fnExactIsValidTerm", fn := fun _ => fun
  | [d] => { results := [.lit (.bool true)], args := [d] }
  | _ => none }
def fnExactIsValidTermRow : OpenClaim := { program := "ytghngiekkkeohaa", sum := "f7ac07464c67393e20f85857374c82745ea84223110db15a889a707c5b61091a", func := "loop.example/g00517/laws.FnExactIsValidTerm", spec := "fnExactIsValidTerm", recurses := true, loops := true, apart := false }
def FnExactIsValidTermSaid : Prop := fnExactIsValidTermRow.holds Try.pinned (OpenSpec.ofChange fnExactIsValidTermSpec)

/-- ITS FALSE NEIGHBOUR: 'it returns false'. Refute it at one input. -/
def fnExactIsValidTermWrong : ChangeSpec := { name := "fnExactIsValidTerm", fn := fun _ => fun
  | [d] => { results := [.lit (.bool false)], args := [d] }
  | _ => none }
def FnExactIsValidTermWrongFalsely : Prop := fnExactIsValidTermRow.holds Try.pinned (OpenSpec.ofChange fnExactIsValidTermWrong)

/-- 'laws.FnExactTermAt': WHATEVER THE INPUT: true; the input reads as it did. -/
def fnExactTermAtSpec : ChangeSpec := { name := "fnExactTermAt", fn := fun _ => fun
  | [d1, d2] => { results := [.lit (.bool true)], args := [d1, d2] }
  | _ => none }
def fnExactTermAtRow : OpenClaim := { program := "ytghngiekkkeohaa", sum := "f7ac07464c67393e20f85857374c82745ea84223110db15a889a707c5b61091a", func := "loop.example/g00517/laws.FnExactTermAt", spec := "fnExactTermAt", recurses := true, loops := true, apart := false }
def FnExactTermAtSaid : Prop := fnExactTermAtRow.holds Try.pinned (OpenSpec.ofChange fnExactTermAtSpec)

/-- ITS FALSE NEIGHBOUR: 'it returns false'. Refute it at one input. -/
def fnExactTermAtWrong : ChangeSpec := { name := "fnExactTermAt", fn := fun _ => fun
  | [d1, d2] => { results := [.lit (.bool false)], args := [d1, d2] }
  | _ => none }
def FnExactTermAtWrongFalsely : Prop := fnExactTermAtRow.holds Try.pinned (OpenSpec.ofChange fnExactTermAtWrong)

/-- 'laws.FnExactFindOp': WHATEVER THE INPUT: true; the input reads as it did. -/
def fnExactFindOpSpec : ChangeSpec := { name := "fnExactFindOp", fn := fun _ => fun
  | [d1, d2] => { results := [.lit (.bool true)], args := [d1, d2] }
  | _ => none }
def fnExactFindOpRow : OpenClaim := { program := "ytghngiekkkeohaa", sum := "f7ac07464c67393e20f85857374c82745ea84223110db15a889a707c5b61091a", func := "loop.example/g00517/laws.FnExactFindOp", spec := "fnExactFindOp", apart := false }
def FnExactFindOpSaid : Prop := fnExactFindOpRow.holds Try.pinned (OpenSpec.ofChange fnExactFindOpSpec)

/-- ITS FALSE NEIGHBOUR: 'it returns false'. Refute it at one input. -/
def fnExactFindOpWrong : ChangeSpec := { name := "fnExactFindOp", fn := fun _ => fun
  | [d1, d2] => { results := [.lit (.bool false)], args := [d1, d2] }
  | _ => none }
def FnExactFindOpWrongFalsely : Prop := fnExactFindOpRow.holds Try.pinned (OpenSpec.ofChange fnExactFindOpWrong)

/-- 'laws.FnExactIsInstance': WHATEVER THE INPUT: true; the input reads as it did. -/
def fnExactIsInstanceSpec : ChangeSpec := { name := "fnExactIsInstance", fn := fun _ => fun
  | [d1, d2] => { results := [.lit (.bool true)], args := [d1, d2] }
  | _ => none }
def fnExactIsInstanceRow : OpenClaim := { program := "ytghngiekkkeohaa", sum := "f7ac07464c67393e20f85857374c82745ea84223110db15a889a707c5b61091a", func := "loop.example/g00517/laws.FnExactIsInstance", spec := "fnExactIsInstance", unfollowed := true, recurses := true, loops := true, apart := false }
def FnExactIsInstanceSaid : Prop := fnExactIsInstanceRow.holds Try.pinned (OpenSpec.ofChange fnExactIsInstanceSpec)

/-- ITS FALSE NEIGHBOUR: 'it returns false'. Refute it at one input. -/
def fnExactIsInstanceWrong : ChangeSpec := { name := "fnExactIsInstance", fn := fun _ => fun
  | [d1, d2] => { results := [.lit (.bool false)], args := [d1, d2] }
  | _ => none }
def FnExactIsInstanceWrongFalsely : Prop := fnExactIsInstanceRow.holds Try.pinned (OpenSpec.ofChange fnExactIsInstanceWrong)

/-- 'laws.FnExactIsVariant': WHATEVER THE INPUT: true; the input reads as it did. -/
def fnExactIsVariantSpec : ChangeSpec := { name := "fnExactIsVariant", fn := fun _ => fun
  | [d1, d2] => { results := [.lit (.bool true)], args := [d1, d2] }
  | _ => none }
def fnExactIsVariantRow : OpenClaim := { program := "ytghngiekkkeohaa", sum := "f7ac07464c67393e20f85857374c82745ea84223110db15a889a707c5b61091a", func := "loop.example/g00517/laws.FnExactIsVariant", spec := "fnExactIsVariant", unfollowed := true, recurses := true, loops := true, apart := false }
def FnExactIsVariantSaid : Prop := fnExactIsVariantRow.holds Try.pinned (OpenSpec.ofChange fnExactIsVariantSpec)

/-- ITS FALSE NEIGHBOUR: 'it returns false'. Refute it at one input. -/
def fnExactIsVariantWrong : ChangeSpec := { name := "fnExactIsVariant", fn := fun _ => fun
  | [d1, d2] => { results := [.lit (.bool false)], args := [d1, d2] }
  | _ => none }
def FnExactIsVariantWrongFalsely : Prop := fnExactIsVariantRow.holds Try.pinned (OpenSpec.ofChange fnExactIsVariantWrong)

/- THE SECOND FORM. 'bulk': how many values and letters a reading holds, each counted each time it is reached (what is shared counts as often as it is met; a slice's spare places count too). A statement '..UptoSaid' is the law's where the arguments, and the package variables that the reading takes, are together of bulk at most 1048576: NARROWER than '..Said'. Prove '..Said' where nothing that the law and all that it calls make is longer than what came in: it says more and counts as full. Else prove '..UptoSaid'. A law counts once. -/
mutual
def uptoBulk {H : Type} : DataW H → Nat
  | .lit (.string bytes) => bytes.length + 1
  | .lit _ => 1
  | .nil => 1
  | .ptr d => uptoBulk d + 1
  | .slice elems spare => uptoBulkAll elems + uptoBulkAll spare + 1
  | .agg parts => uptoBulkAll parts + 1
  | .iface _ d => uptoBulk d + 1
  | .map entries => uptoBulkEntries entries + 1
  | .held _ => 1
def uptoBulkAll {H : Type} : List (DataW H) → Nat
  | [] => 0
  | d :: r => uptoBulk d + uptoBulkAll r
def uptoBulkEntries {H : Type} : List (Lit × DataW H) → Nat
  | [] => 0
  | x :: r => uptoBulkEntry x + uptoBulkEntries r
def uptoBulkEntry {H : Type} : Lit × DataW H → Nat
  | (.string bytes, d) => bytes.length + uptoBulk d + 1
  | (_, d) => uptoBulk d + 1
 end
def uptoSmall : (H : Type) → List (DataW H) → Bool := fun _ ds => decide (uptoBulkAll ds ≤ 1048576)
def OpenSpec.upto (s : _root_.Go.ChangeSpec) : _root_.Go.OpenSpec := { _root_.Go.OpenSpec.ofChange s with cond := some uptoSmall }

/-- 'laws.FnExactEqualTerm', WHERE WHAT IT READS IS OF BULK AT MOST 1048576: true; the input reads as it did. -/
def fnExactEqualTermUptoRow : OpenClaim := { program := "ytghngiekkkeohaa", sum := "f7ac07464c67393e20f85857374c82745ea84223110db15a889a707c5b61091a", func := "loop.example/g00517/laws.FnExactEqualTerm", spec := "fnExactEqualTerm", unfollowed := true, recurses := true, loops := true, apart := false, narrowed := true }
def FnExactEqualTermUptoSaid : Prop := fnExactEqualTermUptoRow.holds Try.pinned (OpenSpec.upto fnExactEqualTermSpec)

/-- 'laws.FnExactEqualGuard', WHERE WHAT IT READS IS OF BULK AT MOST 1048576: true; the input reads as it did. -/
def fnExactEqualGuardUptoRow : OpenClaim := { program := "ytghngiekkkeohaa", sum := "f7ac07464c67393e20f85857374c82745ea84223110db15a889a707c5b61091a", func := "loop.example/g00517/laws.FnExactEqualGuard", spec := "fnExactEqualGuard", unfollowed := true, recurses := true, loops := true, apart := false, narrowed := true }
def FnExactEqualGuardUptoSaid : Prop := fnExactEqualGuardUptoRow.holds Try.pinned (OpenSpec.upto fnExactEqualGuardSpec)

/-- 'laws.FnExactJoin', WHERE WHAT IT READS IS OF BULK AT MOST 1048576: true; the input reads as it did. -/
def fnExactJoinUptoRow : OpenClaim := { program := "ytghngiekkkeohaa", sum := "f7ac07464c67393e20f85857374c82745ea84223110db15a889a707c5b61091a", func := "loop.example/g00517/laws.FnExactJoin", spec := "fnExactJoin", inPlace := ["internal/abi.NoEscape", "internal/bytealg.MakeNoZero"], apart := false, narrowed := true }
def FnExactJoinUptoSaid : Prop := fnExactJoinUptoRow.holds Try.pinned (OpenSpec.upto fnExactJoinSpec)

/-- 'laws.FnExactRenameVars', WHERE WHAT IT READS IS OF BULK AT MOST 1048576: true; the input reads as it did. -/
def fnExactRenameVarsUptoRow : OpenClaim := { program := "ytghngiekkkeohaa", sum := "f7ac07464c67393e20f85857374c82745ea84223110db15a889a707c5b61091a", func := "loop.example/g00517/laws.FnExactRenameVars", spec := "fnExactRenameVars", recurses := true, loops := true, apart := false, narrowed := true }
def FnExactRenameVarsUptoSaid : Prop := fnExactRenameVarsUptoRow.holds Try.pinned (OpenSpec.upto fnExactRenameVarsSpec)

/-- 'laws.FnExactReduceWords', WHERE WHAT IT READS IS OF BULK AT MOST 1048576: true; the input reads as it did. -/
def fnExactReduceWordsUptoRow : OpenClaim := { program := "ytghngiekkkeohaa", sum := "f7ac07464c67393e20f85857374c82745ea84223110db15a889a707c5b61091a", func := "loop.example/g00517/laws.FnExactReduceWords", spec := "fnExactReduceWords", recurses := true, loops := true, apart := false, narrowed := true }
def FnExactReduceWordsUptoSaid : Prop := fnExactReduceWordsUptoRow.holds Try.pinned (OpenSpec.upto fnExactReduceWordsSpec)

/-- 'laws.FnExactPositionsOf', WHERE WHAT IT READS IS OF BULK AT MOST 1048576: true; the input reads as it did. -/
def fnExactPositionsOfUptoRow : OpenClaim := { program := "ytghngiekkkeohaa", sum := "f7ac07464c67393e20f85857374c82745ea84223110db15a889a707c5b61091a", func := "loop.example/g00517/laws.FnExactPositionsOf", spec := "fnExactPositionsOf", recurses := true, loops := true, apart := false, narrowed := true }
def FnExactPositionsOfUptoSaid : Prop := fnExactPositionsOfUptoRow.holds Try.pinned (OpenSpec.upto fnExactPositionsOfSpec)

/-- 'laws.FnExactIsValidTerm', WHERE WHAT IT READS IS OF BULK AT MOST 1048576: true; the input reads as it did. -/
def fnExactIsValidTermUptoRow : OpenClaim := { program := "ytghngiekkkeohaa", sum := "f7ac07464c67393e20f85857374c82745ea84223110db15a889a707c5b61091a", func := "loop.example/g00517/laws.FnExactIsValidTerm", spec := "fnExactIsValidTerm", recurses := true, loops := true, apart := false, narrowed := true }
def FnExactIsValidTermUptoSaid : Prop := fnExactIsValidTermUptoRow.holds Try.pinned (OpenSpec.upto fnExactIsValidTermSpec)

/-- 'laws.FnExactTermAt', WHERE WHAT IT READS IS OF BULK AT MOST 1048576: true; the input reads as it did. -/
def fnExactTermAtUptoRow : OpenClaim := { program := "ytghngiekkkeohaa", sum := "f7ac07464c67393e20f85857374c82745ea84223110db15a889a707c5b61091a", func := "loop.example/g00517/laws.FnExactTermAt", spec := "fnExactTermAt", recurses := true, loops := true, apart := false, narrowed := true }
def FnExactTermAtUptoSaid : Prop := fnExactTermAtUptoRow.holds Try.pinned (OpenSpec.upto fnExactTermAtSpec)

/-- 'laws.FnExactFindOp', WHERE WHAT IT READS IS OF BULK AT MOST 1048576: true; the input reads as it did. -/
def fnExactFindOpUptoRow : OpenClaim := { program := "ytghngiekkkeohaa", sum := "f7ac07464c67393e20f85857374c82745ea84223110db15a889a707c5b61091a", func := "loop.example/g00517/laws.FnExactFindOp", spec := "fnExactFindOp", apart := false, narrowed := true }
def FnExactFindOpUptoSaid : Prop := fnExactFindOpUptoRow.holds Try.pinned (OpenSpec.upto fnExactFindOpSpec)

/-- 'laws.FnExactIsInstance', WHERE WHAT IT READS IS OF BULK AT MOST 1048576: true; the input reads as it did. -/
def fnExactIsInstanceUptoRow : OpenClaim := { program := "ytghngiekkkeohaa", sum := "f7ac07464c67393e20f85857374c82745ea84223110db15a889a707c5b61091a", func := "loop.example/g00517/laws.FnExactIsInstance", spec := "fnExactIsInstance", unfollowed := true, recurses := true, loops := true, apart := false, narrowed := true }
def FnExactIsInstanceUptoSaid : Prop := fnExactIsInstanceUptoRow.holds Try.pinned (OpenSpec.upto fnExactIsInstanceSpec)

/-- 'laws.FnExactIsVariant', WHERE WHAT IT READS IS OF BULK AT MOST 1048576: true; the input reads as it did. -/
def fnExactIsVariantUptoRow : OpenClaim := { program := "ytghngiekkkeohaa", sum := "f7ac07464c67393e20f85857374c82745ea84223110db15a889a707c5b61091a", func := "loop.example/g00517/laws.FnExactIsVariant", spec := "fnExactIsVariant", unfollowed := true, recurses := true, loops := true, apart := false, narrowed := true }
def FnExactIsVariantUptoSaid : Prop := fnExactIsVariantUptoRow.holds Try.pinned (OpenSpec.upto fnExactIsVariantSpec)

end Rows
end Go.Proofs.Ytghngiekkkeohaa
