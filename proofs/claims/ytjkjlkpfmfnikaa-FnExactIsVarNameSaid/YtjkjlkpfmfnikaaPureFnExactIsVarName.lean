import Derived.Test.YtjkjlkpfmfnikaaPuIsVarName
import Derived.Test.YtjkjlkpfmfnikaaFO
import Derived.Test.YtjkjlkpfmfnikaaFlawsFnExactIsVarName
namespace Go.Proofs.Ytjkjlkpfmfnikaa.Pure
open Go.RowKit Go.Proofs.Ytjkjlkpfmfnikaa.F Go.Proofs.Ytjkjlkpfmfnikaa.Pu Go.Proofs.YtjkjlkpfmfnikaaW.PrintWords Go.Proofs.YtjkjlkpfmfnikaaW.PrintLast

theorem FnExactIsVarName : ∀ (a0 : ByteArray), (a0.size ≤ maxLen) → ∃ k, laws_FnExactIsVarName.f k a0 = some true := by
  intro a h
  refine Ev.rounds ?_
  unfold laws_FnExactIsVarName.f
  refine ev_ite (fun _ => Ev.now _) (fun hn => ?_)
  have hs : a.size ≤ 4611686018427387904 := by omega
  refine ev_bind (spec_IsVarName_ev a hs) (ev_bind (impl_IsVarName_ev a hs) (ev_neg (by simp) (Ev.now _)))
end Go.Proofs.Ytjkjlkpfmfnikaa.Pure
