import Derived.Lib.LazyBuf
import Derived.Test.YtghngiekkkeohaaWJoin
import Derived.Test.YtghngiekkkeohaaPuStr
import Derived.Test.YtghngiekkkeohaaFspecJoin
import Derived.Test.YtghngiekkkeohaaFimplJoin
/-! Strings put together. -/
namespace Go.Proofs.Ytghngiekkkeohaa.Pu
set_option linter.unusedSimpArgs false
set_option linter.unusedVariables false
open Go.RowKit Go.Proofs.Ytghngiekkkeohaa.F Go.Proofs.YtghngiekkkeohaaW.PrintWords
def lts (xs : List ByteArray) : List (List UInt8) := xs.map (·.data.toList)
def nums (l : List UInt8) : List Int := l.map fun b => (b.toNat : Int)
theorem lens_take_le (xs : List (List UInt8)) : ∀ i, Lib.lens (xs.take i) ≤ Lib.lens xs := by
  induction xs with
  | nil => intro i; simp
  | cons x xs ih =>
    intro i
    cases i with
    | zero => simp [Lib.lens]
    | succ i =>
      have := ih i
      simp only [Lib.lens, List.take_succ_cons, List.map_cons, List.sum_cons] at this ⊢
      omega
theorem lens_bytes (l : List ByteArray) : Lib.lens (lts l) = bytesAll l := by
  induction l with
  | nil => rfl
  | cons x xs ih =>
    rw [bytesAll_cons, ← ih]
    rfl
theorem join_le (xs : List (List UInt8)) (sep : List UInt8) : (Lib.join xs sep).length ≤ sep.length * xs.length + Lib.lens xs := by
  cases xs with
  | nil => simp [Lib.join_nil]
  | cons x r =>
    rw [Lib.join_length]
    have : sep.length * r.length ≤ sep.length * (x :: r).length := Nat.mul_le_mul_left _ (by simp)
    omega
theorem join_snoc (xs : List (List UInt8)) (sep : List UInt8) (i : Nat) (h : i < xs.length) (h0 : 0 < i) : Lib.join (xs.take (i + 1)) sep = Lib.join (xs.take i) sep ++ sep ++ xs[i] := by
  cases xs with
  | nil => simp at h
  | cons x r =>
    obtain ⟨j, rfl⟩ : ∃ j, i = j + 1 := ⟨i - 1, by omega⟩
    have hj : j < r.length := by simpa using h
    rw [List.take_succ_cons, List.take_succ_cons, Lib.join_cons, Lib.join_cons, Lib.joinTail_take_succ sep r j r[j] (List.getElem?_eq_getElem hj)]
    simp
theorem joinB_size (l : List ByteArray) (sep : ByteArray) : (joinB l sep).size ≤ sep.size * l.length + bytesAll l := by
  have h := join_le (lts l) sep.data.toList
  have e : (joinB l sep).size = (Lib.join (lts l) sep.data.toList).length := by simp [joinB, ByteArray.size, lts]
  rw [e, ← lens_bytes]
  have h1 : (lts l).length = l.length := by simp [lts]
  have h2 : sep.data.toList.length = sep.size := data_length sep
  rw [h1, h2] at h
  exact h
theorem impl_Join_eq (l : List ByteArray) (s : ByteArray) (hl : l.length ≤ 1048576) (hs : s.size ≤ 1048576) (hb : bytesAll l ≤ 1048576) : impl_Join.f l s = some (joinB l s) := by
  unfold impl_Join.f strings_Join.f
  have h1 := joinB_size l s
  have h2 : s.size * l.length ≤ 1048576 * 1048576 := Nat.mul_le_mul hs hl
  rw [if_pos ⟨by omega, by omega⟩]
  rfl
theorem spec_Join_ev (l : List ByteArray) (s : ByteArray) (hl : l.length ≤ 1048576) (hs : s.size ≤ 1048576) (hb : bytesAll l ≤ 1048576) : Ev (fun k => spec_Join.f k l s) (joinB l s) := by
  unfold spec_Join.f
  have hle : ∀ i, i ≤ l.length → (nums (Lib.join ((lts l).take i) s.data.toList)).length ≤ 1099512676352 := by
    intro i hi
    have h := join_le ((lts l).take i) s.data.toList
    have h1 : ((lts l).take i).length = i := by simp [lts]; omega
    have h2 : s.data.toList.length = s.size := data_length s
    have h3 := lens_take_le (lts l) i
    rw [lens_bytes] at h3
    rw [h1, h2] at h
    have h4 : s.size * i ≤ 1048576 * 1048576 := Nat.mul_le_mul hs (by omega)
    unfold nums
    rw [List.length_map]
    omega
  have hsb : ∀ i, (h : i < l.length) → l[i].size ≤ 1048576 := by
    intro i h
    have : ∀ (l : List ByteArray) (i : Nat) (h : i < l.length), l[i].size ≤ bytesAll l := by
      intro l
      induction l with
      | nil => intro i h; simp at h
      | cons x xs ih =>
        intro i h
        rw [bytesAll_cons]
        cases i with
        | zero => simp
        | succ i => simp only [List.getElem_cons_succ]; have := ih i (by simpa using h); omega
    have := this l i h
    omega
  have h := loop_ev l.length (fun i k => spec_Join.l0 k l s (nums (Lib.join ((lts l).take i) s.data.toList)) (i : Int)) (joinB l s) ?_ ?_
  · simpa [Lib.join_nil, nums] using h
  · intro i hi ih
    have h1 := hle i (by omega)
    have h2 := hsb i hi
    have h3 := bytesOf_length s
    have h4 := bytesOf_length l[i]
    have hlt : i < (lts l).length := by simpa [lts] using hi
    have hel : (lts l)[i] = l[i].data.toList := by simp [lts]
    refine Ev.step (fun k => by rw [spec_Join.l0]) (ev_pos (by omega) ?_)
    rw [rdOf_at _ _ _ hi]
    refine ev_ite (fun h0 => ev_pos (by omega) (ev_some (ev_pos (by omega) (ev_pos ?_ ?_)))) (fun h0 => ev_pos (by omega) (ev_pos (by omega) ?_))
    · rw [List.length_append, h3]; omega
    · rw [wrap_succ (by omega)]
      have e : nums (Lib.join ((lts l).take i) s.data.toList) ++ bytesOf s ++ bytesOf l[i] = nums (Lib.join ((lts l).take (i + 1)) s.data.toList) := by
        rw [join_snoc _ _ _ hlt (by omega), hel]
        unfold nums bytesOf
        rw [List.map_append, List.map_append]
      rw [e]
      exact ih
    · obtain rfl : i = 0 := by omega
      rw [wrap_succ (by omega)]
      have e : nums (Lib.join ((lts l).take 0) s.data.toList) ++ bytesOf l[0] = nums (Lib.join ((lts l).take (0 + 1)) s.data.toList) := by
        rw [List.take_zero, List.take_succ_eq_append_getElem hlt, List.take_zero, hel]
        simp only [List.nil_append, Lib.join_one, Lib.join_nil]
        rfl
      rw [e]
      exact ih
  · refine Ev.step (fun k => by rw [spec_Join.l0]) (ev_neg (by omega) (ev_now ?_))
    rw [List.take_of_length_le (by simp [lts])]
    unfold nums
    rw [Go.Lib.Lz.strOfNums_map]
    rfl
end Go.Proofs.Ytghngiekkkeohaa.Pu
