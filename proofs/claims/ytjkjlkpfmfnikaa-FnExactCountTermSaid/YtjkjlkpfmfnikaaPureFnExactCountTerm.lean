import Derived.Test.YtjkjlkpfmfnikaaPuCount
import Derived.Test.YtjkjlkpfmfnikaaFO
import Derived.Test.YtjkjlkpfmfnikaaFlawsFnExactCountTerm
namespace Go.Proofs.Ytjkjlkpfmfnikaa.Pure
open Go.RowKit Go.Proofs.Ytjkjlkpfmfnikaa.F Go.Proofs.Ytjkjlkpfmfnikaa.Pu Go.Proofs.YtjkjlkpfmfnikaaW.PrintWords Go.Proofs.YtjkjlkpfmfnikaaW.PrintLast

theorem FnExactCountTerm : ∀ (z0 : S37), (G37 z0) → ∃ k, laws_FnExactCountTerm.f k z0.f0 z0.f1 z0.f2 z0.f3 = some true := by
  intro z hG
  refine Ev.rounds ?_
  unfold laws_FnExactCountTerm.f
  obtain ⟨r, hr, hb⟩ := szTerm_ev z hG 1048576 (by omega) (by omega)
  refine ev_bind hr (ev_ite (fun _ => Ev.now _) (fun hn => ?_))
  have hw : wt z ≤ 1048576 := by omega
  have hT := toTerm_ev z hw
  have hnd := nd_conv z
  have hE := eqTerm_refl (conv z) (by omega)
  refine ev_bind hT (ev_bind (spec_Count_ev (conv z) (by omega)) (ev_bind hT (ev_bind (impl_Count_ev (conv z) (by omega)) (ev_pos rfl (ev_bind hT (ev_bind hE (ev_pos rfl (Ev.now _))))))))
end Go.Proofs.Ytjkjlkpfmfnikaa.Pure
