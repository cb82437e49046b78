import Derived.Test.YtjkjlkpfmfnikaaPuNames
import Derived.Test.YtjkjlkpfmfnikaaPuSpecNames
import Derived.Test.YtjkjlkpfmfnikaaFimplIsGround
import Derived.Test.YtjkjlkpfmfnikaaFspecIsGround
namespace Go.Proofs.Ytjkjlkpfmfnikaa.Pu
open Go.RowKit Go.Proofs.Ytjkjlkpfmfnikaa.F Go.Proofs.YtjkjlkpfmfnikaaW.PrintWords
theorem impl_Ground_ev (z : S42) (hz : nd z ≤ 4000000000000) : Ev (fun k => impl_IsGround.f k z.f0 z.f1 z.f2 z.f3) (((nm z).length : Int) == 0) := by
  unfold impl_IsGround.f
  exact ev_bind (impl_names_ev z hz) (Ev.now _)
theorem spec_Ground_ev (z : S42) (hz : nd z ≤ 4000000000000) : Ev (fun k => spec_IsGround.f k z.f0 z.f1 z.f2 z.f3) (((nm z).length : Int) == 0) := by
  unfold spec_IsGround.f
  exact ev_bind (by simpa using spec_names_ev z [] (by simpa using hz)) (Ev.now _)
end Go.Proofs.Ytjkjlkpfmfnikaa.Pu
