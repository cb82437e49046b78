import Derived.Test.YtjkjlkpfmfnikaaPuStr
import Derived.Test.YtjkjlkpfmfnikaaPuMark
import Derived.Test.YtjkjlkpfmfnikaaPuWithout
import Derived.Test.YtjkjlkpfmfnikaaFO
import Derived.Test.YtjkjlkpfmfnikaaFlawsFnExactWithout
namespace Go.Proofs.Ytjkjlkpfmfnikaa.Pure
open Go.RowKit Go.Proofs.Ytjkjlkpfmfnikaa.F Go.Proofs.Ytjkjlkpfmfnikaa.Pu Go.Proofs.YtjkjlkpfmfnikaaW.PrintWords Go.Proofs.YtjkjlkpfmfnikaaW.PrintLast

theorem FnExactWithout : ∀ (z0 : List ByteArray) (z1 : List ByteArray), (z0.length ≤ maxLen ∧ ∀ y, y ∈ z0 → y.size ≤ maxLen) → (z1.length ≤ maxLen ∧ ∀ y, y ∈ z1 → y.size ≤ maxLen) → ∃ k, laws_FnExactWithout.f k z0 z1 = some true := by
  intro l m h1 h2
  refine Ev.rounds ?_
  unfold laws_FnExactWithout.f
  obtain ⟨r, hr, hb⟩ := szStringS_ev l h1.1 h1.2 1048576 (by omega) (by omega)
  refine ev_bind hr (ev_ite (fun _ => Ev.now _) (fun hn => ?_))
  obtain ⟨r1, hr1, hb1⟩ := szStringS_ev m h2.1 h2.2 r (by omega) (by omega)
  refine ev_bind hr1 (ev_ite (fun _ => Ev.now _) (fun hn1 => ?_))
  have hl : l.length ≤ 1048576 := by omega
  have hm : m.length ≤ 1048576 := by omega
  have hT := toStringS_ev l hl
  have hT1 := toStringS_ev m hm
  have hE := eqStringS_refl l (by omega)
  have hE1 := eqStringS_refl m (by omega)
  have hS := spec_Without_ev l m hl hm
  have hI := impl_Without_ev l m hl hm
  have hw : (without l m).length ≤ l.length := by simpa using without_le l m l.length
  have hEw := eqStringS_refl (without l m) (by omega)
  have hM := markStringS_ev (without l m) 1 (by omega) (by omega)
  have hH := heldStringS_ev (without l m).length 1 (by omega) (by omega)
  refine ev_bind hT (ev_bind hT1 (ev_bind hS (ev_bind hT (ev_bind hT1 (ev_bind hI (ev_bind hEw (ev_pos rfl (ev_bind hT (ev_bind hE (ev_pos rfl (ev_bind hT1 (ev_bind hE1 (ev_pos rfl ?_)))))))))))))
  refine ev_bind (markStringS_ev l 1 (by omega) (by omega)) (ev_bind (markStringS_ev m _ (by omega) (by omega)) (ev_neg (by omega) (ev_bind hEw ?_)))
  refine Ev.step (fun k => by rw [laws_FnExactWithout.j0]) ?_
  refine ev_neg (by simp) (ev_bind hM (ev_bind hH (ev_neg (by omega) (ev_pos rfl (ev_bind hT (ev_bind hT1 (ev_bind hI (ev_bind hEw (ev_pos rfl ?_)))))))))
  exact ev_bind hH (ev_neg (by omega) (ev_pos rfl (Ev.now _)))
end Go.Proofs.Ytjkjlkpfmfnikaa.Pure
