import Derived.Test.YtdgjddkibiffnaaPuSortMath
import Derived.Test.YtdgjddkibiffnaaPuBase
import Derived.Test.YtdgjddkibiffnaaFspecSortNames
import Derived.Test.YtdgjddkibiffnaaFimplSortNames
/-! Names sorted: by the library, and one put in after another. -/
namespace Go.Proofs.Ytdgjddkibiffnaa.Pu
set_option linter.unusedSimpArgs false
set_option linter.unusedVariables false
open Go.RowKit Go.Proofs.Ytdgjddkibiffnaa.F Go.Proofs.YtdgjddkibiffnaaW.PrintWords
theorem impl_Sort_eq (l : List ByteArray) (h : l.length ≤ 4000000000000) : impl_SortNames.f l = some (namesB l) := by
  unfold impl_SortNames.f slices_Clone_string_string.f slices_Sort_string_string.f slices_Compact_string_string.f
  have h1 := sortB_length l
  simp only [Option.bind_some, List.length_nil, List.nil_append]
  rw [if_pos (by omega)]
  simp only [Option.bind_some]
  rw [if_pos (by omega)]
  simp only [Option.bind_some]
  rw [if_pos (by omega)]
  simp only [Option.bind_some, sort_same]
def insB (e : ByteArray) : List ByteArray → List ByteArray
  | [] => [e]
  | x :: xs => if Op.bytesLess x.toList e.toList = true then x :: insB e xs else if x.toList = e.toList then x :: xs else e :: x :: xs
theorem chs_insB (e : ByteArray) (l : List ByteArray) : chs (insB e l) = insU e.data.toList (chs l) := by
  induction l with
  | nil => rfl
  | cons x xs ih =>
    simp only [insB, Proofs.bytesLess_eq, Lib.toList_data, decide_eq_true_eq]
    have e1 : chs (x :: xs) = x.data.toList :: chs xs := rfl
    rw [e1]
    simp only [insU]
    split
    · rw [← ih]; rfl
    · split
      · rfl
      · rfl
theorem insB_length (e : ByteArray) (l : List ByteArray) : (insB e l).length ≤ l.length + 1 := by
  induction l with
  | nil => simp [insB]
  | cons x xs ih =>
    simp only [insB]
    split
    · simp only [List.length_cons]; omega
    · split <;> simp
theorem foldB_length (l : List ByteArray) : ∀ acc : List ByteArray, (l.foldl (fun a e => insB e a) acc).length ≤ acc.length + l.length := by
  induction l with
  | nil => intro acc; simp
  | cons x xs ih =>
    intro acc
    have h1 := ih (insB x acc)
    have h2 := insB_length x acc
    simp only [List.foldl_cons, List.length_cons]
    omega
theorem foldB (l : List ByteArray) : ∀ acc : List ByteArray, chs (l.foldl (fun a e => insB e a) acc) = insAll (chs acc) (chs l) := by
  induction l with
  | nil => intro acc; rfl
  | cons x xs ih =>
    intro acc
    rw [List.foldl_cons, ih, chs_insB]
    rfl
theorem foldB_names (l : List ByteArray) : l.foldl (fun a e => insB e a) [] = namesB l := by
  apply chs_inj
  rw [foldB]
  unfold namesB
  rw [chs_unchs]
  rfl
theorem spec_ins_ev (l : List ByteArray) (hl : l.length ≤ 2000000000000) (i : Nat) (hi : i < l.length) (acc : List ByteArray) (ha : acc.length ≤ 2000000000000) (r : List ByteArray) (hk : Ev (fun k => spec_SortNames.l0 k l (insB l[i] acc) ((i + 1 : Nat) : Int)) r) : Ev (fun k => spec_SortNames.l1 k l acc (i : Int) 0) r := by
  have key : ∀ d j, j + d = acc.length → insB l[i] acc = acc.take j ++ insB l[i] (acc.drop j) → Ev (fun k => spec_SortNames.l1 k l acc (i : Int) (j : Int)) r := by
    intro d
    induction d with
    | zero =>
      intro j hd he
      obtain rfl : j = acc.length := by omega
      rw [List.drop_length, List.take_length] at he
      simp only [insB] at he
      refine Ev.step (fun k => by rw [spec_SortNames.l1]) ?_
      refine (ev_neg (by omega) (ev_some (ev_pos (by omega) (ev_pos (by omega) (ev_some (ev_pos ?_ (ev_some (ev_pos (by omega) (ev_pos (by omega) (ev_pos ?_ (ev_some (ev_some (ev_pos ?_ ?_)))))))))))))
      · simp; omega
      · simp; omega
      · simp; omega
      · rw [rdOf_at _ _ _ hi, wrap_succ (by omega), Int.toNat_natCast, List.take_length, List.drop_length, List.append_nil, List.nil_append, ← he]
        exact hk
    | succ d ih =>
      intro j hd he
      have hj : j < acc.length := by omega
      rw [drop_at _ _ hj] at he
      simp only [insB] at he
      refine Ev.step (fun k => by rw [spec_SortNames.l1]) (ev_pos (by omega) (ev_pos (by omega) (ev_pos (by omega) (ev_pos (by omega) ?_))))
      rw [rdOf_at _ _ _ hi, rdOf_at _ _ _ hj]
      refine ev_ite (fun h => ?_) (fun h => ?_)
      · rw [if_pos h] at he
        rw [wrap_succ (by omega)]
        refine ih (j + 1) (by omega) ?_
        rw [he, List.take_succ_eq_append_getElem hj, List.append_assoc]
        rfl
      · rw [if_neg h] at he
        refine ev_ite (fun h2 => ?_) (fun h2 => ?_)
        · rw [if_pos h2, ← drop_at _ _ hj, List.take_append_drop] at he
          rw [wrap_succ (by omega), ← he]
          exact hk
        · rw [if_neg h2, ← drop_at _ _ hj] at he
          refine ev_some (ev_pos (by omega) (ev_some (ev_pos ?_ (ev_some (ev_pos ?_ (ev_some (ev_some (ev_pos ?_ ?_))))))))
          · simp; omega
          · simp; omega
          · simp; omega
          · rw [wrap_succ (by omega), Int.toNat_natCast, List.nil_append]
            rw [he] at hk
            simpa using hk
  have := key acc.length 0 (by omega) (by simp)
  simpa using this
theorem spec_Sort_ev (l : List ByteArray) (hl : l.length ≤ 2000000000000) : Ev (fun k => spec_SortNames.f k l) (namesB l) := by
  unfold spec_SortNames.f
  have h := loop_ev l.length (fun i k => spec_SortNames.l0 k l ((l.take i).foldl (fun a e => insB e a) []) (i : Int)) (namesB l) ?_ ?_
  · simpa using h
  · intro i hi ih
    refine Ev.step (fun k => by rw [spec_SortNames.l0]) (ev_pos (by omega) ?_)
    have h1 := foldB_length (l.take i) []
    rw [List.length_take] at h1
    refine spec_ins_ev l hl i hi _ (by simp at h1; omega) _ ?_
    rw [List.take_succ_eq_append_getElem hi, List.foldl_append] at ih
    exact ih
  · refine Ev.step (fun k => by rw [spec_SortNames.l0]) (ev_neg (by omega) (ev_now ?_))
    rw [List.take_length, foldB_names]
end Go.Proofs.Ytdgjddkibiffnaa.Pu
