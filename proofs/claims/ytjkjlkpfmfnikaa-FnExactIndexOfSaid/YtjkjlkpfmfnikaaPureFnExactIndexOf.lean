import Derived.Test.YtjkjlkpfmfnikaaPuStr
import Derived.Test.YtjkjlkpfmfnikaaPuIndexOf
import Derived.Test.YtjkjlkpfmfnikaaFO
import Derived.Test.YtjkjlkpfmfnikaaFlawsFnExactIndexOf
namespace Go.Proofs.Ytjkjlkpfmfnikaa.Pure
open Go.RowKit Go.Proofs.Ytjkjlkpfmfnikaa.F Go.Proofs.Ytjkjlkpfmfnikaa.Pu Go.Proofs.YtjkjlkpfmfnikaaW.PrintWords Go.Proofs.YtjkjlkpfmfnikaaW.PrintLast

theorem FnExactIndexOf : ∀ (z0 : List ByteArray) (a1 : ByteArray), (z0.length ≤ maxLen ∧ ∀ y, y ∈ z0 → y.size ≤ maxLen) → (a1.size ≤ maxLen) → ∃ k, laws_FnExactIndexOf.f k z0 a1 = some true := by
  intro l s h1 h2
  refine Ev.rounds ?_
  unfold laws_FnExactIndexOf.f
  refine ev_ite (fun _ => Ev.now _) (fun hn0 => ?_)
  obtain ⟨r, hr, hb⟩ := szStringS_ev l h1.1 h1.2 1048576 (by omega) (by omega)
  refine ev_bind hr (ev_ite (fun _ => Ev.now _) (fun hn => ?_))
  have hl : l.length ≤ 1048576 := by omega
  have hT := toStringS_ev l hl
  have hE := eqStringS_refl l (by omega)
  exact ev_bind hT (ev_bind (spec_IndexOf_ev l s (by omega)) (ev_bind hT (ev_bind (impl_IndexOf_ev l s (by omega)) (ev_pos rfl (ev_bind hT (ev_bind hE (ev_pos rfl (Ev.now _))))))))
end Go.Proofs.Ytjkjlkpfmfnikaa.Pure
