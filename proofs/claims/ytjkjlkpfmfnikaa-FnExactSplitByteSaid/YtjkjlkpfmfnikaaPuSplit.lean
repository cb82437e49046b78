import Derived.Test.YtjkjlkpfmfnikaaPuBase
import Derived.Test.YtjkjlkpfmfnikaaFspecSplitByte
import Derived.Test.YtjkjlkpfmfnikaaFimplSplitByte
namespace Go.Proofs.Ytjkjlkpfmfnikaa.Pu
open Go.RowKit Go.Proofs.Ytjkjlkpfmfnikaa.F Go.Proofs.YtjkjlkpfmfnikaaW.PrintWords
theorem split_same (k : Nat) : ∀ (s : ByteArray) (b : Int) (l : List ByteArray) (f i : Int), impl_SplitByte.l0 k s b l f i = spec_SplitByte.l0 k s b l f i := by
  induction k with
  | zero => intro s b l f i; rfl
  | succ k ih =>
    intro s b l f i
    rw [impl_SplitByte.l0, spec_SplitByte.l0]
    simp only [ih]
theorem split_loop (s : ByteArray) (b : Int) (hs : s.size ≤ 1048576) (d : Nat) : ∀ (i : Nat) (f : Int) (l : List ByteArray), i + d = s.size + 1 → 0 ≤ f → f ≤ i → l.length ≤ i →
    ∃ r, Ev (fun k => spec_SplitByte.l0 k s b l f (i : Int)) r ∧ r.length ≤ s.size + 1 := by
  induction d with
  | zero =>
    intro i f l hd h0 h1 h2
    exact ⟨l, Ev.step (fun k => by rw [spec_SplitByte.l0]) (ev_neg (by omega) (Ev.now _)), by omega⟩
  | succ d ih =>
    intro i f l hd h0 h1 h2
    obtain ⟨r1, hr1, hb1⟩ := ih (i + 1) (((i + 1 : Nat) : Int)) (l ++ [s.extract (f : Int).toNat ((i : Int) : Int).toNat]) (by omega) (by omega) (by omega) (by simp; omega)
    obtain ⟨r2, hr2, hb2⟩ := ih (i + 1) f l (by omega) (by omega) (by omega) (by omega)
    by_cases he : (i : Int) = (s.size : Int)
    · refine ⟨r1, Ev.step (fun k => by rw [spec_SplitByte.l0]) (ev_pos (by omega) (ev_pos he (ev_pos h0 (ev_pos (by omega) (ev_pos (by omega) ?_))))), hb1⟩
      rw [wrap_succ (by omega)]
      exact hr1
    · by_cases hc : bt s (i : Int) = b
      · refine ⟨r1, Ev.step (fun k => by rw [spec_SplitByte.l0]) (ev_pos (by omega) (ev_neg he (ev_pos (by omega) (ev_pos (by omega) (ev_pos hc (ev_pos h0 (ev_pos (by omega) (ev_pos (by omega) ?_)))))))), hb1⟩
        rw [wrap_succ (by omega)]
        exact hr1
      · refine ⟨r2, Ev.step (fun k => by rw [spec_SplitByte.l0]) (ev_pos (by omega) (ev_neg he (ev_pos (by omega) (ev_pos (by omega) (ev_neg hc ?_))))), hb2⟩
        rw [wrap_succ (by omega)]
        exact hr2
theorem split_ev (s : ByteArray) (b : Int) (hs : s.size ≤ 1048576) : ∃ r, Ev (fun k => spec_SplitByte.f k s b) r ∧ Ev (fun k => impl_SplitByte.f k s b) r ∧ r.length ≤ s.size + 1 := by
  obtain ⟨r, hr, hb⟩ := split_loop s b hs (s.size + 1) 0 0 [] (by omega) (by omega) (by omega) (by simp)
  refine ⟨r, hr, ?_, hb⟩
  unfold impl_SplitByte.f
  simp only [split_same]
  exact hr
end Go.Proofs.Ytjkjlkpfmfnikaa.Pu
