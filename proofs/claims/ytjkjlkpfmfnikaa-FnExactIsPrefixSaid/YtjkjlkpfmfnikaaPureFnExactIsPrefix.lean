import Derived.Test.YtjkjlkpfmfnikaaPuInts
import Derived.Test.YtjkjlkpfmfnikaaPuIsPrefix
import Derived.Test.YtjkjlkpfmfnikaaFO
import Derived.Test.YtjkjlkpfmfnikaaFlawsFnExactIsPrefix
namespace Go.Proofs.Ytjkjlkpfmfnikaa.Pure
open Go.RowKit Go.Proofs.Ytjkjlkpfmfnikaa.F Go.Proofs.Ytjkjlkpfmfnikaa.Pu Go.Proofs.YtjkjlkpfmfnikaaW.PrintWords Go.Proofs.YtjkjlkpfmfnikaaW.PrintLast

theorem FnExactIsPrefix : ∀ (z0 : List Int) (z1 : List Int), (z0.length ≤ maxLen ∧ ∀ y, y ∈ z0 → (Lit.int .i64 y).wf = true) → (z1.length ≤ maxLen ∧ ∀ y, y ∈ z1 → (Lit.int .i64 y).wf = true) → ∃ k, laws_FnExactIsPrefix.f k z0 z1 = some true := by
  intro l m h1 h2
  refine Ev.rounds ?_
  unfold laws_FnExactIsPrefix.f
  refine ev_ite (fun _ => Ev.now _) (fun hn0 => ev_ite (fun _ => Ev.now _) (fun hn1 => ?_))
  have hT := toIntS_ev l (by omega)
  have hT1 := toIntS_ev m (by omega)
  have hE := eqIntS_refl l (by omega)
  have hE1 := eqIntS_refl m (by omega)
  refine ev_bind hT (ev_bind hT1 (ev_bind (spec_IsPrefix_ev l m (by omega)) (ev_bind hT (ev_bind hT1 (ev_bind (impl_IsPrefix_ev l m (by omega)) (ev_neg (by simp) (ev_bind hT (ev_bind hE (ev_pos rfl ?_)))))))))
  exact ev_bind hT1 (ev_bind hE1 (ev_pos rfl (Ev.now _)))
end Go.Proofs.Ytjkjlkpfmfnikaa.Pure
