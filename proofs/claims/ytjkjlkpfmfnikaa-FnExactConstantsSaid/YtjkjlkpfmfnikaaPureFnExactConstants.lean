import Derived.Test.YtjkjlkpfmfnikaaFO
import Derived.Test.YtjkjlkpfmfnikaaFlawsFnExactConstants
namespace Go.Proofs.Ytjkjlkpfmfnikaa.Pure
open Go.RowKit Go.Proofs.Ytjkjlkpfmfnikaa.F Go.Proofs.YtjkjlkpfmfnikaaW.PrintWords Go.Proofs.YtjkjlkpfmfnikaaW.PrintLast

theorem FnExactConstants : laws_FnExactConstants.f = some true := rfl
end Go.Proofs.Ytjkjlkpfmfnikaa.Pure
