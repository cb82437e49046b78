import Derived.Test.YtjkjlkpfmfnikaaPuIndex
import Derived.Test.YtjkjlkpfmfnikaaFslicesContainsstringstring
namespace Go.Proofs.Ytjkjlkpfmfnikaa.Pu
open Go.RowKit Go.Proofs.Ytjkjlkpfmfnikaa.F Go.Proofs.YtjkjlkpfmfnikaaW.PrintWords
theorem slices_Contains_ev (l : List ByteArray) (s : ByteArray) (hl : l.length ≤ 9223372036854775806) : Ev (fun k => slices_Contains_string_string.f k l s) (decide (0 ≤ ixL s l 0)) := by
  unfold slices_Contains_string_string.f
  exact ev_bind (slices_Index_ev l s hl) (ev_now rfl)
end Go.Proofs.Ytjkjlkpfmfnikaa.Pu
