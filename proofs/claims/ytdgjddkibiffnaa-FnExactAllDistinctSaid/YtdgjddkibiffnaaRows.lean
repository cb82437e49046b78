/-
  NARROWER THAN 'FOR EVERY INPUT', by the rows' own cells (each row's printed sentence says how): FnExactReplaceAt: loops · FnExactHoldsGuard: loops · FnExactFindBind: loops · FnExactApplySubst: loops · FnExactSameSubst: loops · FnExactComposeSubst: loops · FnExactApplyToGuard: loops · FnExactSortOf: loops · FnExactInferVars: loops.
  DERIVED. THE GIVEN ROWS OF THIS SEAT. 11 by the template 'for every input the law returns true; each argument reads behind the call as it read before'; 0 by the template 'total and deterministic' (their statements: YtdgjddkibiffnaaTotals.lean).
  GIVEN WITH THE SEED: the statements are not yours to turn. If you find one false, say at which input.
  Laid BY PROGRAM, IN A SANDBOX (cutbox-rows.mjs): the forced cells as the released guide's own fill.sh prints them over the translation 74cd547ed7444ab2… (all of the seat's roots in one cut). By AI agents, Wed Nov 11 2026. No macro, syntax, notation, axiom, sorry.
-/
import Derived.Test.YtdgjddkibiffnaaChecked
import GoSem.Claim
import GoSem.ClaimJoined
import GoSem.ClaimMapViews
import Derived.JoinedTies
import Derived.KernelRfl
namespace Go.Proofs.Ytdgjddkibiffnaa
/- THE CELL 'sum', in the pinned program and in every row, IS THE sha256 OF THE DUMP (.gsa) THAT YtdgjddkibiffnaaProg.lean LOADS. Nothing in Lean hashes anything: it is a label: what it is worth is what the hold of that sum in a sandbox is worth. -/
noncomputable def Try.pinned : Pinned := { name := "ytdgjddkibiffnaa", sum := "74cd547ed7444ab2cb7ee408c09d26f59a999b729715355edd2e59a7e86e5fe7", checked := Try.checked }
namespace Rows
def none {H : Type} : Left H := { results := [], args := [] }

/-- 'laws.FnExactReplaceAt': WHATEVER THE INPUT: true; the input reads as it did. -/
def fnExactReplaceAtSpec : ChangeSpec := { name := "fnExactReplaceAt", fn := fun _ => fun
  | [d1, d2, d3] => { results := [.lit (.bool true)], args := [d1, d2, d3] }
  | _ => none }
def fnExactReplaceAtRow : OpenClaim := { program := "ytdgjddkibiffnaa", sum := "74cd547ed7444ab2cb7ee408c09d26f59a999b729715355edd2e59a7e86e5fe7", func := "loop.example/g00517/laws.FnExactReplaceAt", spec := "fnExactReplaceAt", recurses := true, loops := true, apart := false }
def FnExactReplaceAtSaid : Prop := fnExactReplaceAtRow.holds Try.pinned (OpenSpec.ofChange fnExactReplaceAtSpec)

/-- ITS FALSE NEIGHBOUR: 'it returns false'. Refute it at one input. -/
def fnExactReplaceAtWrong : ChangeSpec := { name := "fnExactReplaceAt", fn := fun _ => fun
  | [d1, d2, d3] => { results := [.lit (.bool false)], args := [d1, d2, d3] }
  | _ => none }
def FnExactReplaceAtWrongFalsely : Prop := fnExactReplaceAtRow.holds Try.pinned (OpenSpec.ofChange fnExactReplaceAtWrong)

/-- 'laws.FnExactHoldsGuard': WHATEVER THE INPUT: true; the input reads as it did. -/
def fnExactHoldsGuardSpec : ChangeSpec := { name := "fnExactHoldsGuard", fn := fun _ => fun
  | [d] => { results := [.lit (.bool true)], args := [d] }
  | _ => none }
def fnExactHoldsGuardRow : OpenClaim := { program := "ytdgjddkibiffnaa", sum := "74cd547ed7444ab2cb7ee408c09d26f59a999b729715355edd2e59a7e86e5fe7", func := "loop.example/g00517/laws.FnExactHoldsGuard", spec := "fnExactHoldsGuard", unfollowed := true, recurses := true, loops := true, apart := false }
def FnExactHoldsGuardSaid : Prop := fnExactHoldsGuardRow.holds Try.pinned (OpenSpec.ofChange fnExactHoldsGuardSpec)

/-- ITS FALSE NEIGHBOUR: 'it returns false'. Refute it at one input. -/
def fnExactHoldsGuardWrong : ChangeSpec := { name := "fnExactHoldsGuard", fn := fun _ => fun
  | [d] => { results := [.lit (.bool false)], args := [d] }
  | _ => none }
def FnExactHoldsGuardWrongFalsely : Prop := fnExactHoldsGuardRow.holds Try.pinned (OpenSpec.ofChange fnExactHoldsGuardWrong)

/-- 'laws.FnExactFindBind': WHATEVER THE INPUT: true; the input reads as it did. -/
def fnExactFindBindSpec : ChangeSpec := { name := "fnExactFindBind", fn := fun _ => fun
  | [d1, d2] => { results := [.lit (.bool true)], args := [d1, d2] }
  | _ => none }
def fnExactFindBindRow : OpenClaim := { program := "ytdgjddkibiffnaa", sum := "74cd547ed7444ab2cb7ee408c09d26f59a999b729715355edd2e59a7e86e5fe7", func := "loop.example/g00517/laws.FnExactFindBind", spec := "fnExactFindBind", recurses := true, loops := true, apart := false }
def FnExactFindBindSaid : Prop := fnExactFindBindRow.holds Try.pinned (OpenSpec.ofChange fnExactFindBindSpec)

/-- ITS FALSE NEIGHBOUR: 'it returns false'. Refute it at one input. -/
def fnExactFindBindWrong : ChangeSpec := { name := "fnExactFindBind", fn := fun _ => fun
  | [d1, d2] => { results := [.lit (.bool false)], args := [d1, d2] }
  | _ => none }
def FnExactFindBindWrongFalsely : Prop := fnExactFindBindRow.holds Try.pinned (OpenSpec.ofChange fnExactFindBindWrong)

/-- 'laws.FnExactApplySubst': WHATEVER THE INPUT: true; the input reads as it did. -/
def fnExactApplySubstSpec : ChangeSpec := { name := "fnExactApplySubst", fn := fun _ => fun
  | [d1, d2] => { results := [.lit (.bool true)], args := [d1, d2] }
  | _ => none }
def fnExactApplySubstRow : OpenClaim := { program := "ytdgjddkibiffnaa", sum := "74cd547ed7444ab2cb7ee408c09d26f59a999b729715355edd2e59a7e86e5fe7", func := "loop.example/g00517/laws.FnExactApplySubst", spec := "fnExactApplySubst", recurses := true, loops := true, apart := false }
def FnExactApplySubstSaid : Prop := fnExactApplySubstRow.holds Try.pinned (OpenSpec.ofChange fnExactApplySubstSpec)

/-- ITS FALSE NEIGHBOUR: 'it returns false'. Refute it at one input. -/
def fnExactApplySubstWrong : ChangeSpec := { name := "fnExactApplySubst", fn := fun _ => fun
  | [d1, d2] => { results := [.lit (.bool false)], args := [d1, d2] }
  | _ => none }
def FnExactApplySubstWrongFalsely : Prop := fnExactApplySubstRow.holds Try.pinned (OpenSpec.ofChange fnExactApplySubstWrong)

/-- 'laws.FnExactSameSubst': WHATEVER THE INPUT: true; the input reads as it did. -/
def fnExactSameSubstSpec : ChangeSpec := { name := "fnExactSameSubst", fn := fun _ => fun
  | [d1, d2] => { results := [.lit (.bool true)], args := [d1, d2] }
  | _ => none }
def fnExactSameSubstRow : OpenClaim := { program := "ytdgjddkibiffnaa", sum := "74cd547ed7444ab2cb7ee408c09d26f59a999b729715355edd2e59a7e86e5fe7", func := "loop.example/g00517/laws.FnExactSameSubst", spec := "fnExactSameSubst", unfollowed := true, recurses := true, loops := true, apart := false }
def FnExactSameSubstSaid : Prop := fnExactSameSubstRow.holds Try.pinned (OpenSpec.ofChange fnExactSameSubstSpec)

/-- ITS FALSE NEIGHBOUR: 'it returns false'. Refute it at one input. -/
def fnExactSameSubstWrong : ChangeSpec := { name := "fnExactSameSubst", fn := fun _ => fun
  | [d1, d2] => { results := [.lit (.bool false)], args := [d1, d2] }
  | _ => none }
def FnExactSameSubstWrongFalsely : Prop := fnExactSameSubstRow.holds Try.pinned (OpenSpec.ofChange fnExactSameSubstWrong)

/-- 'laws.FnExactComposeSubst': WHATEVER THE INPUT: true; the input reads as it did. -/
def fnExactComposeSubstSpec : ChangeSpec := { name := "fnExactComposeSubst", fn := fun _ => fun
  | [d1, d2] => { results := [.lit (.bool true)], args := [d1, d2] }
  | _ => none }
def fnExactComposeSubstRow : OpenClaim := { program := "ytdgjddkibiffnaa", sum := "74cd547ed7444ab2cb7ee408c09d26f59a999b729715355edd2e59a7e86e5fe7", func := "loop.example/g00517/laws.FnExactComposeSubst", spec := "fnExactComposeSubst", recurses := true, loops := true, apart := false }
def FnExactComposeSubstSaid : Prop := fnExactComposeSubstRow.holds Try.pinned (OpenSpec.ofChange fnExactComposeSubstSpec)

/-- ITS FALSE NEIGHBOUR: 'it returns false'. Refute it at one input. -/
def fnExactComposeSubstWrong : ChangeSpec := { name := "fnExactComposeSubst", fn := fun _ => fun
  | [d1, d2] => { results := [.lit (.bool false)], args := [d1, d2] }
  | _ => none }
def FnExactComposeSubstWrongFalsely : Prop := fnExactComposeSubstRow.holds Try.pinned (OpenSpec.ofChange fnExactComposeSubstWrong)

/-- 'laws.FnExactApplyToGuard': WHATEVER THE INPUT: true; the input reads as it did. -/
def fnExactApplyToGuardSpec : ChangeSpec := { name := "fnExactApplyToGuard", fn := fun _ => fun
  | [d1, d2] => { results := [.lit (.bool true)], args := [d1, d2] }
  | _ => none }
def fnExactApplyToGuardRow : OpenClaim := { program := "ytdgjddkibiffnaa", sum := "74cd547ed7444ab2cb7ee408c09d26f59a999b729715355edd2e59a7e86e5fe7", func := "loop.example/g00517/laws.FnExactApplyToGuard", spec := "fnExactApplyToGuard", recurses := true, loops := true, apart := false }
def FnExactApplyToGuardSaid : Prop := fnExactApplyToGuardRow.holds Try.pinned (OpenSpec.ofChange fnExactApplyToGuardSpec)

/-- ITS FALSE NEIGHBOUR: 'it returns false'. Refute it at one input. -/
def fnExactApplyToGuardWrong : ChangeSpec := { name := "fnExactApplyToGuard", fn := fun _ => fun
  | [d1, d2] => { results := [.lit (.bool false)], args := [d1, d2] }
  | _ => none }
def FnExactApplyToGuardWrongFalsely : Prop := fnExactApplyToGuardRow.holds Try.pinned (OpenSpec.ofChange fnExactApplyToGuardWrong)

/-- 'laws.FnExactSortOf': WHATEVER THE INPUT: true; the input reads as it did. -/
def fnExactSortOfSpec : ChangeSpec := { name := "fnExactSortOf", fn := fun _ => fun
  | [d1, d2, d3] => { results := [.lit (.bool true)], args := [d1, d2, d3] }
  | _ => none }
def fnExactSortOfRow : OpenClaim := { program := "ytdgjddkibiffnaa", sum := "74cd547ed7444ab2cb7ee408c09d26f59a999b729715355edd2e59a7e86e5fe7", func := "loop.example/g00517/laws.FnExactSortOf", spec := "fnExactSortOf", recurses := true, loops := true, apart := false }
def FnExactSortOfSaid : Prop := fnExactSortOfRow.holds Try.pinned (OpenSpec.ofChange fnExactSortOfSpec)

/-- ITS FALSE NEIGHBOUR: 'it returns false'. Refute it at one input. -/
def fnExactSortOfWrong : ChangeSpec := { name := "fnExactSortOf", fn := fun _ => fun
  | [d1, d2, d3] => { results := [.lit (.bool false)], args := [d1, d2, d3] }
  | _ => none }
def FnExactSortOfWrongFalsely : Prop := fnExactSortOfRow.holds Try.pinned (OpenSpec.ofChange fnExactSortOfWrong)

/-- 'laws.FnExactAllDistinct': WHATEVER THE INPUT: true; the input reads as it did. -/
def fnExactAllDistinctSpec : ChangeSpec := { name := "fnExactAllDistinct", fn := fun _ => fun
  | [d] => { results := [.lit (.bool true)], args := [d] }
  | _ => none }
def fnExactAllDistinctRow : OpenClaim := { program := "ytdgjddkibiffnaa", sum := "74cd547ed7444ab2cb7ee408c09d26f59a999b729715355edd2e59a7e86e5fe7", func := "loop.example/g00517/laws.FnExactAllDistinct", spec := "fnExactAllDistinct", recurses := true, apart := false }
def FnExactAllDistinctSaid : Prop := fnExactAllDistinctRow.holds Try.pinned (OpenSpec.ofChange fnExactAllDistinctSpec)

/-- ITS FALSE NEIGHBOUR: 'it returns false'. Refute it at one input. -/
def fnExactAllDistinctWrong : ChangeSpec := { name := "fnExactAllDistinct", fn := fun _ => fun
  | [d] => { results := [.lit (.bool false)], args := [d] }
  | _ => none }
def FnExactAllDistinctWrongFalsely : Prop := fnExactAllDistinctRow.holds Try.pinned (OpenSpec.ofChange fnExactAllDistinctWrong)

/-- 'laws.FnExactInferVars': WHATEVER THE INPUT: true; the input reads as it did. -/
def fnExactInferVarsSpec : ChangeSpec := { name := "fnExactInferVars", fn := fun _ => fun
  | [d1, d2, d3] => { results := [.lit (.bool true)], args := [d1, d2, d3] }
  | _ => none }
def fnExactInferVarsRow : OpenClaim := { program := "ytdgjddkibiffnaa", sum := "74cd547ed7444ab2cb7ee408c09d26f59a999b729715355edd2e59a7e86e5fe7", func := "loop.example/g00517/laws.FnExactInferVars", spec := "fnExactInferVars", recurses := true, loops := true, apart := false }
def FnExactInferVarsSaid : Prop := fnExactInferVarsRow.holds Try.pinned (OpenSpec.ofChange fnExactInferVarsSpec)

/-- ITS FALSE NEIGHBOUR: 'it returns false'. Refute it at one input. -/
def fnExactInferVarsWrong : ChangeSpec := { name := "fnExactInferVars", fn := fun _ => fun
  | [d1, d2, d3] => { results := [.lit (.bool false)], args := [d1, d2, d3] }
  | _ => none }
def FnExactInferVarsWrongFalsely : Prop := fnExactInferVarsRow.holds Try.pinned (OpenSpec.ofChange fnExactInferVarsWrong)

/-- 'laws.FnExactSortNames': WHATEVER THE INPUT: true; the input reads as it did. -/
def fnExactSortNamesSpec : ChangeSpec := { name := "fnExactSortNames", fn := fun _ => fun
  | [d] => { results := [.lit (.bool true)], args := [d] }
  | _ => none }
def fnExactSortNamesRow : OpenClaim := { program := "ytdgjddkibiffnaa", sum := "74cd547ed7444ab2cb7ee408c09d26f59a999b729715355edd2e59a7e86e5fe7", func := "loop.example/g00517/laws.FnExactSortNames", spec := "fnExactSortNames", recurses := true, apart := false }
def FnExactSortNamesSaid : Prop := fnExactSortNamesRow.holds Try.pinned (OpenSpec.ofChange fnExactSortNamesSpec)

/-- ITS FALSE NEIGHBOUR: 'it returns false'. Refute it at one input. -/
def fnExactSortNamesWrong : ChangeSpec := { name := "fnExactSortNames", fn := fun _ => fun
  | [d] => { results := [.lit (.bool false)], args := [d] }
  | _ => none }
def FnExactSortNamesWrongFalsely : Prop := fnExactSortNamesRow.holds Try.pinned (OpenSpec.ofChange fnExactSortNamesWrong)

/- THE SECOND FORM. 'bulk': how many values and letters a reading holds, each counted each time it is reached (what is shared counts as often as it is met; a slice's spare places count too). A statement '..UptoSaid' is the law's where the arguments, and the package variables that the reading takes, are together of bulk at most 1048576: NARROWER than '..Said'. Prove '..Said' where nothing that the law and all that it calls make is longer than what came in: it says more and counts as full. Else prove '..UptoSaid'. A law counts once. -/
mutual
def uptoBulk {H : Type} : DataW H → Nat
  | .lit (.string bytes) => bytes.length + 1
  | .lit _ => 1
  | .nil => 1
  | .ptr d => uptoBulk d + 1
  | .slice elems spare => uptoBulkAll elems + uptoBulkAll spare + 1
  | .agg parts => uptoBulkAll parts + 1
  | .iface _ d => uptoBulk d + 1
  | .map entries => uptoBulkEntries entries + 1
  | .held _ => 1
def uptoBulkAll {H : Type} : List (DataW H) → Nat
  | [] => 0
  | d :: r => uptoBulk d + uptoBulkAll r
def uptoBulkEntries {H : Type} : List (Lit × DataW H) → Nat
  | [] => 0
  | x :: r => uptoBulkEntry x + uptoBulkEntries r
def uptoBulkEntry {H : Type} : Lit × DataW H → Nat
  | (.string bytes, d) => bytes.length + uptoBulk d + 1
  | (_, d) => uptoBulk d + 1
 end
def uptoSmall : (H : Type) → List (DataW H) → Bool := fun _ ds => decide (uptoBulkAll ds ≤ 1048576)
def OpenSpec.upto (s : _root_.Go.ChangeSpec) : _root_.Go.OpenSpec := { _root_.Go.OpenSpec.ofChange s with cond := some uptoSmall }

/-- 'laws.FnExactReplaceAt', WHERE WHAT IT READS IS OF BULK AT MOST 1048576: true; the input reads as it did. -/
def fnExactReplaceAtUptoRow : OpenClaim := { program := "ytdgjddkibiffnaa", sum := "74cd547ed7444ab2cb7ee408c09d26f59a999b729715355edd2e59a7e86e5fe7", func := "loop.example/g00517/laws.FnExactReplaceAt", spec := "fnExactReplaceAt", recurses := true, loops := true, apart := false, narrowed := true }
def FnExactReplaceAtUptoSaid : Prop := fnExactReplaceAtUptoRow.holds Try.pinned (OpenSpec.upto fnExactReplaceAtSpec)

/-- 'laws.FnExactHoldsGuard', WHERE WHAT IT READS IS OF BULK AT MOST 1048576: true; the input reads as it did. -/
def fnExactHoldsGuardUptoRow : OpenClaim := { program := "ytdgjddkibiffnaa", sum := "74cd547ed7444ab2cb7ee408c09d26f59a999b729715355edd2e59a7e86e5fe7", func := "loop.example/g00517/laws.FnExactHoldsGuard", spec := "fnExactHoldsGuard", unfollowed := true, recurses := true, loops := true, apart := false, narrowed := true }
def FnExactHoldsGuardUptoSaid : Prop := fnExactHoldsGuardUptoRow.holds Try.pinned (OpenSpec.upto fnExactHoldsGuardSpec)

/-- 'laws.FnExactFindBind', WHERE WHAT IT READS IS OF BULK AT MOST 1048576: true; the input reads as it did. -/
def fnExactFindBindUptoRow : OpenClaim := { program := "ytdgjddkibiffnaa", sum := "74cd547ed7444ab2cb7ee408c09d26f59a999b729715355edd2e59a7e86e5fe7", func := "loop.example/g00517/laws.FnExactFindBind", spec := "fnExactFindBind", recurses := true, loops := true, apart := false, narrowed := true }
def FnExactFindBindUptoSaid : Prop := fnExactFindBindUptoRow.holds Try.pinned (OpenSpec.upto fnExactFindBindSpec)

/-- 'laws.FnExactApplySubst', WHERE WHAT IT READS IS OF BULK AT MOST 1048576: true; the input reads as it did. -/
def fnExactApplySubstUptoRow : OpenClaim := { program := "ytdgjddkibiffnaa", sum := "74cd547ed7444ab2cb7ee408c09d26f59a999b729715355edd2e59a7e86e5fe7", func := "loop.example/g00517/laws.FnExactApplySubst", spec := "fnExactApplySubst", recurses := true, loops := true, apart := false, narrowed := true }
def FnExactApplySubstUptoSaid : Prop := fnExactApplySubstUptoRow.holds Try.pinned (OpenSpec.upto fnExactApplySubstSpec)

/-- 'laws.FnExactSameSubst', WHERE WHAT IT READS IS OF BULK AT MOST 1048576: true; the input reads as it did. -/
def fnExactSameSubstUptoRow : OpenClaim := { program := "ytdgjddkibiffnaa", sum := "74cd547ed7444ab2cb7ee408c09d26f59a999b729715355edd2e59a7e86e5fe7", func := "loop.example/g00517/laws.FnExactSameSubst", spec := "fnExactSameSubst", unfollowed := true, recurses := true, loops := true, apart := false, narrowed := true }
def FnExactSameSubstUptoSaid : Prop := fnExactSameSubstUptoRow.holds Try.pinned (OpenSpec.upto fnExactSameSubstSpec)

/-- 'laws.FnExactComposeSubst', WHERE WHAT IT READS IS OF BULK AT MOST 1048576: true; the input reads as it did. -/
def fnExactComposeSubstUptoRow : OpenClaim := { program := "ytdgjddkibiffnaa", sum := "74cd547ed7444ab2cb7ee408c09d26f59a999b729715355edd2e59a7e86e5fe7", func := "loop.example/g00517/laws.FnExactComposeSubst", spec := "fnExactComposeSubst", recurses := true, loops := true, apart := false, narrowed := true }
def FnExactComposeSubstUptoSaid : Prop := fnExactComposeSubstUptoRow.holds Try.pinned (OpenSpec.upto fnExactComposeSubstSpec)

/-- 'laws.FnExactApplyToGuard', WHERE WHAT IT READS IS OF BULK AT MOST 1048576: true; the input reads as it did. -/
def fnExactApplyToGuardUptoRow : OpenClaim := { program := "ytdgjddkibiffnaa", sum := "74cd547ed7444ab2cb7ee408c09d26f59a999b729715355edd2e59a7e86e5fe7", func := "loop.example/g00517/laws.FnExactApplyToGuard", spec := "fnExactApplyToGuard", recurses := true, loops := true, apart := false, narrowed := true }
def FnExactApplyToGuardUptoSaid : Prop := fnExactApplyToGuardUptoRow.holds Try.pinned (OpenSpec.upto fnExactApplyToGuardSpec)

/-- 'laws.FnExactSortOf', WHERE WHAT IT READS IS OF BULK AT MOST 1048576: true; the input reads as it did. -/
def fnExactSortOfUptoRow : OpenClaim := { program := "ytdgjddkibiffnaa", sum := "74cd547ed7444ab2cb7ee408c09d26f59a999b729715355edd2e59a7e86e5fe7", func := "loop.example/g00517/laws.FnExactSortOf", spec := "fnExactSortOf", recurses := true, loops := true, apart := false, narrowed := true }
def FnExactSortOfUptoSaid : Prop := fnExactSortOfUptoRow.holds Try.pinned (OpenSpec.upto fnExactSortOfSpec)

/-- 'laws.FnExactAllDistinct', WHERE WHAT IT READS IS OF BULK AT MOST 1048576: true; the input reads as it did. -/
def fnExactAllDistinctUptoRow : OpenClaim := { program := "ytdgjddkibiffnaa", sum := "74cd547ed7444ab2cb7ee408c09d26f59a999b729715355edd2e59a7e86e5fe7", func := "loop.example/g00517/laws.FnExactAllDistinct", spec := "fnExactAllDistinct", recurses := true, apart := false, narrowed := true }
def FnExactAllDistinctUptoSaid : Prop := fnExactAllDistinctUptoRow.holds Try.pinned (OpenSpec.upto fnExactAllDistinctSpec)

/-- 'laws.FnExactInferVars', WHERE WHAT IT READS IS OF BULK AT MOST 1048576: true; the input reads as it did. -/
def fnExactInferVarsUptoRow : OpenClaim := { program := "ytdgjddkibiffnaa", sum := "74cd547ed7444ab2cb7ee408c09d26f59a999b729715355edd2e59a7e86e5fe7", func := "loop.example/g00517/laws.FnExactInferVars", spec := "fnExactInferVars", recurses := true, loops := true, apart := false, narrowed := true }
def FnExactInferVarsUptoSaid : Prop := fnExactInferVarsUptoRow.holds Try.pinned (OpenSpec.upto fnExactInferVarsSpec)

/-- 'laws.FnExactSortNames', WHERE WHAT IT READS IS OF BULK AT MOST 1048576: true; the input reads as it did. -/
def fnExactSortNamesUptoRow : OpenClaim := { program := "ytdgjddkibiffnaa", sum := "74cd547ed7444ab2cb7ee408c09d26f59a999b729715355edd2e59a7e86e5fe7", func := "loop.example/g00517/laws.FnExactSortNames", spec := "fnExactSortNames", recurses := true, apart := false, narrowed := true }
def FnExactSortNamesUptoSaid : Prop := fnExactSortNamesUptoRow.holds Try.pinned (OpenSpec.upto fnExactSortNamesSpec)

end Rows
end Go.Proofs.Ytdgjddkibiffnaa
