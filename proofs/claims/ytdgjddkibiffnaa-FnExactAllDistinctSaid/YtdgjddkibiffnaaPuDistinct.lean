import Derived.Test.YtdgjddkibiffnaaPuSortN
import Derived.Test.YtdgjddkibiffnaaPuSpecIx
import Derived.Test.YtdgjddkibiffnaaFspecAllDistinct
import Derived.Test.YtdgjddkibiffnaaFimplAllDistinct
/-! No string twice. -/
namespace Go.Proofs.Ytdgjddkibiffnaa.Pu
set_option linter.unusedSimpArgs false
set_option linter.unusedVariables false
open Go.RowKit Go.Proofs.Ytdgjddkibiffnaa.F Go.Proofs.YtdgjddkibiffnaaW.PrintWords
theorem impl_Distinct_eq (l : List ByteArray) (h : l.length ≤ 4000000000000) : impl_AllDistinct.f l = some (decide ((chs l).Nodup)) := by
  unfold impl_AllDistinct.f
  rw [impl_Sort_eq l h]
  simp only [Option.bind_some]
  congr 1
  by_cases hn : (chs l).Nodup
  · have h1 := (names_all l).2 hn
    rw [h1]
    simp [hn]
  · have h1 : (namesB l).length ≠ l.length := fun e => hn ((names_all l).1 e)
    have h2 : ((namesB l).length == l.length) = false := by simpa using h1
    simp only [hn, decide_false]
    simp
    omega
theorem ixL_own (l : List ByteArray) (i : Nat) (hi : i < l.length) : ∀ (d j : Nat), j + d = i → (∀ m, (hm : m < l.length) → j ≤ m → m < i → ¬ l[m].toList = l[i].toList) → ixL l[i] (l.drop j) j = (i : Int) := by
  intro d
  induction d with
  | zero =>
    intro j hj _
    obtain rfl : j = i := by omega
    rw [ixL_step _ _ _ hi, if_pos rfl]
  | succ d ih =>
    intro j hj h
    rw [ixL_step _ _ _ (by omega), if_neg (h j (by omega) (Nat.le_refl _) (by omega))]
    exact ih (j + 1) (by omega) (fun m hm h1 h2 => h m hm (by omega) h2)
theorem ixL_le (l : List ByteArray) (s : ByteArray) (m : Nat) (hm : m < l.length) (e : l[m].toList = s.toList) : ∀ (d j : Nat), j + d = m → ixL s (l.drop j) j ≤ (m : Int) := by
  intro d
  induction d with
  | zero =>
    intro j hj
    obtain rfl : j = m := by omega
    rw [ixL_step _ _ _ hm, if_pos e]
    omega
  | succ d ih =>
    intro j hj
    rw [ixL_step _ _ _ (by omega)]
    split
    · omega
    · exact ih (j + 1) (by omega)
theorem nodup_ix (l : List ByteArray) : (chs l).Nodup ↔ ∀ i, (h : i < l.length) → ixL l[i] l 0 = (i : Int) := by
  have hc : ∀ i j, (hi : i < l.length) → (hj : j < l.length) → ((chs l)[i]'(by rw [chs_length]; exact hi) = (chs l)[j]'(by rw [chs_length]; exact hj) ↔ l[i].toList = l[j].toList) := by
    intro i j hi hj
    simp [chs, Lib.toList_data]
  constructor
  · intro hn i hi
    have h := ixL_own l i hi i 0 (by omega) (fun m hm h1 h2 e => by
      have := List.pairwise_iff_getElem.1 hn m i (by rw [chs_length]; exact hm) (by rw [chs_length]; exact hi) h2
      exact this ((hc m i hm hi).2 e))
    simpa using h
  · intro h
    refine List.pairwise_iff_getElem.2 (fun i j hi hj hij e => ?_)
    rw [chs_length] at hi hj
    have h1 := h j hj
    have h2 := ixL_le l l[j] i hi ((hc i j hi hj).1 e) i 0 (by omega)
    rw [List.drop_zero, h1] at h2
    omega
theorem spec_Distinct_ev (l : List ByteArray) (hl : l.length ≤ 2000000000000) : Ev (fun k => spec_AllDistinct.f k l) (decide ((chs l).Nodup)) := by
  unfold spec_AllDistinct.f
  by_cases hn : (chs l).Nodup
  · have hix := (nodup_ix l).1 hn
    have h := loop_ev l.length (fun i k => spec_AllDistinct.l0 k l (i : Int)) true ?_ ?_
    · simpa [hn] using h
    · intro i hi ih
      refine Ev.step (fun k => by rw [spec_AllDistinct.l0]) (ev_pos (by omega) (ev_pos (by omega) ?_))
      rw [rdOf_at _ _ _ hi]
      refine ev_bind (spec_IndexOf_ev l l[i] (by omega)) (ev_pos (hix i hi) ?_)
      rw [wrap_succ (by omega)]
      exact ih
    · exact Ev.step (fun k => by rw [spec_AllDistinct.l0]) (ev_neg (by omega) (Ev.now _))
  · have hno : ∃ i, ∃ h : i < l.length, ixL l[i] l 0 ≠ (i : Int) := Classical.byContradiction fun hc => hn ((nodup_ix l).2 (fun i hi => Classical.byContradiction fun he => hc ⟨i, hi, he⟩))
    obtain ⟨m, hm, hne⟩ := hno
    simp only [hn, decide_false]
    have key : ∀ d i, i + d = m → Ev (fun k => spec_AllDistinct.l0 k l (i : Int)) false := by
      intro d
      induction d with
      | zero =>
        intro i hi
        obtain rfl : i = m := by omega
        refine Ev.step (fun k => by rw [spec_AllDistinct.l0]) (ev_pos (by omega) (ev_pos (by omega) ?_))
        rw [rdOf_at _ _ _ hm]
        exact ev_bind (spec_IndexOf_ev l l[i] (by omega)) (ev_neg hne (Ev.now _))
      | succ d ih =>
        intro i hi
        refine Ev.step (fun k => by rw [spec_AllDistinct.l0]) (ev_pos (by omega) (ev_pos (by omega) ?_))
        rw [rdOf_at _ _ _ (show i < l.length by omega)]
        refine ev_bind (spec_IndexOf_ev l _ (by omega)) (ev_ite (fun _ => ?_) (fun _ => Ev.now _))
        rw [wrap_succ (by omega)]
        exact ih (i + 1) (by omega)
    have := key m 0 (by omega)
    simpa using this
end Go.Proofs.Ytdgjddkibiffnaa.Pu
