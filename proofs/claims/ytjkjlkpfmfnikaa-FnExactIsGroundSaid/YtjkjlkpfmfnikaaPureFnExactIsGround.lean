import Derived.Test.YtjkjlkpfmfnikaaPuGround
import Derived.Test.YtjkjlkpfmfnikaaPuSpecNames
import Derived.Test.YtjkjlkpfmfnikaaFO
import Derived.Test.YtjkjlkpfmfnikaaFlawsFnExactIsGround
namespace Go.Proofs.Ytjkjlkpfmfnikaa.Pure
open Go.RowKit Go.Proofs.Ytjkjlkpfmfnikaa.F Go.Proofs.Ytjkjlkpfmfnikaa.Pu Go.Proofs.YtjkjlkpfmfnikaaW.PrintWords Go.Proofs.YtjkjlkpfmfnikaaW.PrintLast

theorem FnExactIsGround : ∀ (z0 : S37), (G37 z0) → ∃ k, laws_FnExactIsGround.f k z0.f0 z0.f1 z0.f2 z0.f3 = some true := by
  intro z hG
  refine Ev.rounds ?_
  unfold laws_FnExactIsGround.f
  obtain ⟨r, hr, hb⟩ := szTerm_ev z hG 1048576 (by omega) (by omega)
  refine ev_bind hr (ev_ite (fun _ => Ev.now _) (fun hn => ?_))
  have hw : wt z ≤ 1048576 := by omega
  have hT := toTerm_ev z hw
  have hnd := nd_conv z
  have hE := eqTerm_refl (conv z) (by omega)
  refine ev_bind hT (ev_bind (spec_Ground_ev (conv z) (by omega)) (ev_bind hT (ev_bind (impl_Ground_ev (conv z) (by omega)) (ev_neg (by simp) (ev_bind hT (ev_bind hE (ev_pos rfl (Ev.now _))))))))
end Go.Proofs.Ytjkjlkpfmfnikaa.Pure
