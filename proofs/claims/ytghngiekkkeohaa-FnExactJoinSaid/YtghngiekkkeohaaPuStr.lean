import Derived.Test.YtghngiekkkeohaaPuBase
import Derived.Test.YtghngiekkkeohaaFlawsszStringS
import Derived.Test.YtghngiekkkeohaaFlawstoStringS
import Derived.Test.YtghngiekkkeohaaFlawseqStringS
/-! Rows of strings: sized, copied, compared. -/
namespace Go.Proofs.Ytghngiekkkeohaa.Pu
set_option linter.unusedSimpArgs false
set_option linter.unusedVariables false
open Go.RowKit Go.Proofs.Ytghngiekkkeohaa.F Go.Proofs.YtghngiekkkeohaaW.PrintWords
theorem toStringS_ev (l : List ByteArray) (hl : l.length ≤ 1048576) : Ev (fun k => laws_toStringS.f k l) l := by
  unfold laws_toStringS.f
  refine ev_pos (by omega) (ev_pos (by omega) ?_)
  have h := loop_ev l.length (fun i k => laws_toStringS.l0 k l (fillTo (⟨#[]⟩ : ByteArray) l i) (i : Int)) l ?_ ?_
  · simpa [fillTo_zero] using h
  · intro i hi ih
    refine Ev.step (fun k => by rw [laws_toStringS.l0]) ?_
    refine ev_pos (by omega) (ev_pos (by omega) (ev_pos (by rw [fillTo_length _ _ _ (by omega)]; omega) ?_))
    rw [rdOf_at _ _ _ hi, wrap_succ (by omega), Int.toNat_natCast, fillTo_set _ _ _ hi]
    exact ih
  · refine Ev.step (fun k => by rw [laws_toStringS.l0]) (ev_neg (by omega) (ev_now (fillTo_all _ _)))
theorem eqStringS_refl (l : List ByteArray) (hl : l.length ≤ 9223372036854775806) : Ev (fun k => laws_eqStringS.f k l l) true := by
  unfold laws_eqStringS.f
  refine ev_pos rfl ?_
  refine loop_ev l.length (fun i k => laws_eqStringS.l0 k l l (i : Int)) true ?_ ?_
  · intro i hi ih
    refine Ev.step (fun k => by rw [laws_eqStringS.l0]) ?_
    refine ev_pos (by omega) (ev_pos (by omega) (ev_pos (by omega) (ev_pos rfl ?_)))
    rw [wrap_succ (by omega)]
    exact ih
  · exact Ev.step (fun k => by rw [laws_eqStringS.l0]) (ev_neg (by omega) (Ev.now _))
/-- All the strings' bytes. -/
def bytesAll (l : List ByteArray) : Nat := (l.map ByteArray.size).sum
theorem bytesAll_cons (s : ByteArray) (l : List ByteArray) : bytesAll (s :: l) = s.size + bytesAll l := by simp [bytesAll]
theorem szStringS_loop (l : List ByteArray) (hl : l.length ≤ 1048576) (hs : ∀ s, s ∈ l → s.size ≤ maxLen) (d : Nat) : ∀ (i : Nat) (a : Int), i + d = l.length → 0 ≤ a → a ≤ 1048576 →
    ∃ r, Ev (fun k => laws_szStringS.l0 k l a (i : Int)) r ∧ (r < 0 ∨ (0 ≤ r ∧ r + (bytesAll (l.drop i) : Int) ≤ a)) := by
  induction d with
  | zero =>
    intro i a hd h0 h1
    refine ⟨a, Ev.step (fun k => by rw [laws_szStringS.l0]) (ev_neg (by omega) (Ev.now _)), .inr ⟨h0, ?_⟩⟩
    rw [List.drop_eq_nil_of_le (by omega)]
    simp [bytesAll]
  | succ d ih =>
    intro i a hd h0 h1
    have hi : i < l.length := by omega
    have hz := hs _ (List.getElem_mem hi)
    have hm : maxLen = 9223372036854775807 := rfl
    have hw : wrap64 (a - ((l[i].size : Nat) : Int)) = a - (l[i].size : Int) := wrap_in (by omega) (by omega)
    by_cases hneg : a - (l[i].size : Int) < 0
    · refine ⟨-1, Ev.step (fun k => by rw [laws_szStringS.l0]) ?_, .inl (by omega)⟩
      refine ev_pos (by omega) (ev_pos (by omega) (ev_pos ?_ (Ev.now _)))
      rw [rdOf_at _ _ _ hi, hw]
      exact hneg
    · obtain ⟨r, hr, hb⟩ := ih (i + 1) (a - (l[i].size : Int)) (by omega) (by omega) (by omega)
      refine ⟨r, Ev.step (fun k => by rw [laws_szStringS.l0]) ?_, ?_⟩
      · refine ev_pos (by omega) (ev_pos (by omega) (ev_neg ?_ ?_))
        · rw [rdOf_at _ _ _ hi, hw]
          exact hneg
        · rw [rdOf_at _ _ _ hi, hw, wrap_succ (by omega)]
          exact hr
      · rcases hb with hb | ⟨hb0, hb⟩
        · exact .inl hb
        · refine .inr ⟨hb0, ?_⟩
          rw [List.drop_eq_getElem_cons hi, bytesAll_cons]
          omega
theorem szStringS_ev (l : List ByteArray) (hl : l.length ≤ maxLen) (hs : ∀ s, s ∈ l → s.size ≤ maxLen) (a : Int) (h0 : 0 ≤ a) (h1 : a ≤ 1048576) :
    ∃ r, Ev (fun k => laws_szStringS.f k l a) r ∧ (r < 0 ∨ (0 ≤ r ∧ r + (l.length : Int) + (bytesAll l : Int) ≤ a)) := by
  have hm : maxLen = 9223372036854775807 := rfl
  have hw : wrap64 (a - (l.length : Int)) = a - (l.length : Int) := wrap_in (by omega) (by omega)
  unfold laws_szStringS.f
  by_cases hneg : a - (l.length : Int) < 0
  · refine ⟨-1, ev_pos (by rw [hw]; exact hneg) (Ev.now _), .inl (by omega)⟩
  · obtain ⟨r, hr, hb⟩ := szStringS_loop l (by omega) hs l.length 0 (a - (l.length : Int)) (by omega) (by omega) (by omega)
    refine ⟨r, ev_neg (by rw [hw]; exact hneg) (by rw [hw]; exact hr), ?_⟩
    rcases hb with hb | ⟨hb0, hb⟩
    · exact .inl hb
    · exact .inr ⟨hb0, by rw [List.drop_zero] at hb; omega⟩
end Go.Proofs.Ytghngiekkkeohaa.Pu
