import Derived.Test.YtjkjlkpfmfnikaaPuIndex
import Derived.Test.YtjkjlkpfmfnikaaFimplIndexOf
namespace Go.Proofs.Ytjkjlkpfmfnikaa.Pu
open Go.RowKit Go.Proofs.Ytjkjlkpfmfnikaa.F Go.Proofs.YtjkjlkpfmfnikaaW.PrintWords
theorem impl_IndexOf_ev (l : List ByteArray) (s : ByteArray) (hl : l.length ≤ 9223372036854775806) : Ev (fun k => impl_IndexOf.f k l s) (ixL s l 0) := by
  unfold impl_IndexOf.f
  exact ev_bind (slices_Index_ev l s hl) (Ev.now _)
end Go.Proofs.Ytjkjlkpfmfnikaa.Pu
