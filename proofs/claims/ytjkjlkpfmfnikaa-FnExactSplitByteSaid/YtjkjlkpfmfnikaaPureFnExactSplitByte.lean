import Derived.Test.YtjkjlkpfmfnikaaPuStr
import Derived.Test.YtjkjlkpfmfnikaaPuMark
import Derived.Test.YtjkjlkpfmfnikaaPuSplit
import Derived.Test.YtjkjlkpfmfnikaaFO
import Derived.Test.YtjkjlkpfmfnikaaFlawsFnExactSplitByte
namespace Go.Proofs.Ytjkjlkpfmfnikaa.Pure
open Go.RowKit Go.Proofs.Ytjkjlkpfmfnikaa.F Go.Proofs.Ytjkjlkpfmfnikaa.Pu Go.Proofs.YtjkjlkpfmfnikaaW.PrintWords Go.Proofs.YtjkjlkpfmfnikaaW.PrintLast

theorem FnExactSplitByte : ∀ (a0 : ByteArray) (a1 : Int), (a0.size ≤ maxLen) → ((Lit.int .u8 a1).wf = true) → ∃ k, laws_FnExactSplitByte.f k a0 a1 = some true := by
  intro s b h1 h2
  refine Ev.rounds ?_
  unfold laws_FnExactSplitByte.f
  refine ev_ite (fun _ => Ev.now _) (fun hn0 => ?_)
  obtain ⟨r, hS, hI, hl⟩ := split_ev s b (by omega)
  have hE := eqStringS_refl r (by omega)
  have hH := heldStringS_ev r.length 1 (by omega) (by omega)
  refine ev_bind hS (ev_bind hI (ev_bind hE (ev_pos rfl (ev_bind (markStringS_ev r 1 (by omega) (by omega)) (ev_bind hH (ev_neg (by omega) (ev_pos rfl ?_)))))))
  exact ev_bind hI (ev_bind hE (ev_pos rfl (ev_bind hH (ev_neg (by omega) (ev_pos rfl (Ev.now _))))))
end Go.Proofs.Ytjkjlkpfmfnikaa.Pure
