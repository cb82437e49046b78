import Derived.Test.YtjkjlkpfmfnikaaPuBase
import Derived.Test.YtjkjlkpfmfnikaaFlawstoIntS
import Derived.Test.YtjkjlkpfmfnikaaFlawseqIntS
/-! Rows of numbers: copied, compared. -/
namespace Go.Proofs.Ytjkjlkpfmfnikaa.Pu
open Go.RowKit Go.Proofs.Ytjkjlkpfmfnikaa.F Go.Proofs.YtjkjlkpfmfnikaaW.PrintWords
theorem toIntS_ev (l : List Int) (hl : l.length ≤ 1048576) : Ev (fun k => laws_toIntS.f k l) l := by
  unfold laws_toIntS.f
  refine ev_pos (by omega) (ev_pos (by omega) ?_)
  have h := loop_ev l.length (fun i k => laws_toIntS.l0 k l (fillTo (0 : Int) l i) (i : Int)) l ?_ ?_
  · simpa [fillTo_zero] using h
  · intro i hi ih
    refine Ev.step (fun k => by rw [laws_toIntS.l0]) ?_
    refine ev_pos (by omega) (ev_pos (by omega) (ev_pos (by rw [fillTo_length _ _ _ (by omega)]; omega) ?_))
    rw [rd_at _ _ hi, wrap_succ (by omega), Int.toNat_natCast, fillTo_set _ _ _ hi]
    exact ih
  · refine Ev.step (fun k => by rw [laws_toIntS.l0]) (ev_neg (by omega) (ev_now (fillTo_all _ _)))
theorem eqIntS_refl (l : List Int) (hl : l.length ≤ 9223372036854775806) : Ev (fun k => laws_eqIntS.f k l l) true := by
  unfold laws_eqIntS.f
  refine ev_pos rfl ?_
  refine loop_ev l.length (fun i k => laws_eqIntS.l0 k l l (i : Int)) true ?_ ?_
  · intro i hi ih
    refine Ev.step (fun k => by rw [laws_eqIntS.l0]) ?_
    refine ev_pos (by omega) (ev_pos (by omega) (ev_pos (by omega) (ev_pos rfl ?_)))
    rw [wrap_succ (by omega)]
    exact ih
  · exact Ev.step (fun k => by rw [laws_eqIntS.l0]) (ev_neg (by omega) (Ev.now _))
end Go.Proofs.Ytjkjlkpfmfnikaa.Pu
