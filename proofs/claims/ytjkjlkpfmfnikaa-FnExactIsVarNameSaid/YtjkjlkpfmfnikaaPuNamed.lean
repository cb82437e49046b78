import Derived.Lib.Strings
import Derived.Test.YtjkjlkpfmfnikaaPuBase
import Derived.Test.YtjkjlkpfmfnikaaFspecl2Rest
import Derived.Test.YtjkjlkpfmfnikaaFspecl2Lower
import Derived.Test.YtjkjlkpfmfnikaaFimplisNamed
/-! Names: a first letter between two, then at most seven small letters and digits. -/
namespace Go.Proofs.Ytjkjlkpfmfnikaa.Pu
open Go.RowKit Go.Proofs.Ytjkjlkpfmfnikaa.F Go.Proofs.YtjkjlkpfmfnikaaW.PrintWords
/-- A small letter or a digit. -/
def okc (c : Int) : Bool := (decide (97 ≤ c) && decide (c ≤ 122)) || (decide (48 ≤ c) && decide (c ≤ 57))
/-- d bytes from i on are small letters and digits. -/
def okB (s : ByteArray) : Nat → Int → Bool
  | 0, _ => true
  | d + 1, i => okc (bt s i) && okB s d (i + 1)
def named (lo hi : Int) (s : ByteArray) : Bool := decide (1 ≤ (s.size : Int)) && decide ((s.size : Int) ≤ 8) && (decide (lo ≤ bt s 0) && decide (bt s 0 ≤ hi)) && okB s (s.size - 1) 1
theorem lower_eq (c : Int) : spec_l2Lower.f c = some (decide (97 ≤ c) && decide (c ≤ 122)) := by
  unfold spec_l2Lower.f
  by_cases h : c ≥ 97
  · have e : decide (97 ≤ c) = true := by simp; omega
    rw [if_pos h, e]; rfl
  · have e : decide (97 ≤ c) = false := by simp; omega
    rw [if_neg h, e]; rfl
theorem digit_eq (c : Int) : spec_l2Digit.f c = some (decide (48 ≤ c) && decide (c ≤ 57)) := by
  unfold spec_l2Digit.f
  by_cases h : c ≥ 48
  · have e : decide (48 ≤ c) = true := by simp; omega
    rw [if_pos h, e]; rfl
  · have e : decide (48 ≤ c) = false := by simp; omega
    rw [if_neg h, e]; rfl
theorem in_eq (a b c : Int) : spec_l1In.f a b c = some (decide (b ≤ a) && decide (a ≤ c)) := by
  unfold spec_l1In.f
  by_cases h : a ≥ b
  · have e : decide (b ≤ a) = true := by simp; omega
    rw [if_pos h, e]; rfl
  · have e : decide (b ≤ a) = false := by simp; omega
    rw [if_neg h, e]; rfl
theorem rest_eq (s : ByteArray) (hs : s.size ≤ 4611686018427387904) (d : Nat) : ∀ (k : Nat) (i : Int), 0 ≤ i → (s.size : Int) - i = d → d < k →
    spec_l2Rest.l0 k s i = some (okB s d i && (decide (1 ≤ (s.size : Int)) && decide ((s.size : Int) ≤ 8))) := by
  induction d with
  | zero =>
    intro k i h0 hd hk
    obtain ⟨k, rfl⟩ : ∃ m, k = m + 1 := ⟨k - 1, by omega⟩
    simp only [spec_l2Rest.l0]
    rw [if_neg (by omega), in_eq]
    simp [okB]
  | succ d ih =>
    intro k i h0 hd hk
    obtain ⟨k, rfl⟩ : ∃ m, k = m + 1 := ⟨k - 1, by omega⟩
    simp only [spec_l2Rest.l0]
    rw [if_pos (by omega), if_pos h0, lower_eq, digit_eq, wrap_in (by omega) (by omega), ih k (i + 1) (by omega) (by omega) (by omega)]
    simp only [Option.bind_some, okB, okc]
    cases (decide (97 ≤ bt s i) && decide (bt s i ≤ 122)) <;> cases (decide (48 ≤ bt s i) && decide (bt s i ≤ 57)) <;> simp
theorem named_eq (s : ByteArray) (hs : s.size ≤ 4611686018427387904) (d : Nat) : ∀ (k : Nat) (i : Int), 0 ≤ i → (s.size : Int) - i = d → d < k →
    impl_isNamed.l0 k s i = some (okB s d i) := by
  induction d with
  | zero =>
    intro k i h0 hd hk
    obtain ⟨k, rfl⟩ : ∃ m, k = m + 1 := ⟨k - 1, by omega⟩
    simp only [impl_isNamed.l0]
    rw [if_neg (by omega)]
    simp [okB]
  | succ d ih =>
    intro k i h0 hd hk
    obtain ⟨k, rfl⟩ : ∃ m, k = m + 1 := ⟨k - 1, by omega⟩
    simp only [impl_isNamed.l0]
    rw [if_pos (by omega), if_pos h0, wrap_in (by omega) (by omega), ih k (i + 1) (by omega) (by omega) (by omega)]
    simp only [okB, okc]
    by_cases c1 : bt s i < 97
    · rw [if_pos c1]
      by_cases c2 : bt s i < 48
      · rw [if_pos c2]; simp; omega
      · rw [if_neg c2]
        by_cases c3 : bt s i > 57
        · rw [if_pos c3]; simp; omega
        · rw [if_neg c3]
          have e1 : decide (48 ≤ bt s i) = true := by simp; omega
          have e2 : decide (bt s i ≤ 57) = true := by simp; omega
          rw [e1, e2]; simp
    · rw [if_neg c1]
      by_cases c4 : bt s i > 122
      · rw [if_pos c4, if_neg (by omega), if_pos (by omega)]; simp; omega
      · rw [if_neg c4]
        have e1 : decide (97 ≤ bt s i) = true := by simp; omega
        have e2 : decide (bt s i ≤ 122) = true := by simp; omega
        rw [e1, e2]; simp
theorem toList_size (a : ByteArray) : a.toList.length = a.size := by
  rw [Lib.toList_data, Array.length_toList]
  rfl
theorem empty_list (a : ByteArray) (h : a.size = 0) : a.toList = [] := List.eq_nil_of_length_eq_zero (by rw [toList_size]; exact h)
theorem list_empty (a : ByteArray) (h : a.toList = []) : a.size = 0 := by
  rw [← toList_size, h]
  rfl
theorem isNamed_ev (lo hi : Int) (a : ByteArray) (hs : a.size ≤ 4611686018427387904) : Ev (fun k => impl_isNamed.f k a lo hi) (named lo hi a) := by
  refine ⟨a.size + 3, fun k hk => ?_⟩
  obtain ⟨k, rfl⟩ : ∃ m, k = m + 1 := ⟨k - 1, by omega⟩
  show impl_isNamed.f (k + 1) a lo hi = _
  unfold impl_isNamed.f named
  by_cases hz : (a.size : Int) < 1
  · have e1 : decide (1 ≤ (a.size : Int)) = false := by simp; omega
    rw [if_pos hz, e1]
    simp [impl_isNamed.j0]
  · have e1 : decide (1 ≤ (a.size : Int)) = true := by simp; omega
    rw [if_neg hz, e1]
    by_cases c8 : (a.size : Int) > 8
    · have e8 : decide ((a.size : Int) ≤ 8) = false := by simp; omega
      rw [if_pos c8, e8]
      simp [impl_isNamed.j0]
    · have e8 : decide ((a.size : Int) ≤ 8) = true := by simp; omega
      rw [if_neg c8, if_pos (by omega), e8]
      simp only [impl_isNamed.j0, named_eq a hs (a.size - 1) k 1 (by omega) (by omega) (by omega)]
      by_cases c1 : bt a 0 < lo
      · have e2 : decide (lo ≤ bt a 0) = false := by simp; omega
        rw [if_pos c1, e2]
        simp
      · have e2 : decide (lo ≤ bt a 0) = true := by simp; omega
        rw [if_neg c1, e2]
        by_cases c2 : bt a 0 > hi
        · have e3 : decide (bt a 0 > hi) = true := by simp; omega
          have e4 : decide (bt a 0 ≤ hi) = false := by simp; omega
          rw [e3, e4]; simp
        · have e3 : decide (bt a 0 > hi) = false := by simp; omega
          have e4 : decide (bt a 0 ≤ hi) = true := by simp; omega
          rw [e3, e4]; simp
theorem rest_ev (a : ByteArray) (hs : a.size ≤ 4611686018427387904) (h1 : 1 ≤ a.size) : Ev (fun k => spec_l2Rest.f k a) (okB a (a.size - 1) 1 && decide ((a.size : Int) ≤ 8)) := by
  refine ⟨a.size + 3, fun k hk => ?_⟩
  unfold spec_l2Rest.f
  show spec_l2Rest.l0 k a 1 = _
  rw [rest_eq a hs (a.size - 1) k 1 (by omega) (by omega) (by omega)]
  have e1 : decide (1 ≤ (a.size : Int)) = true := by simp; omega
  rw [e1]; simp
end Go.Proofs.Ytjkjlkpfmfnikaa.Pu
