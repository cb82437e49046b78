-- Written by this session's own programs for this claim.
import Derived.Test.YtlbadolkgfmlgaaMFnExactIsValidSignatureC
import Derived.Test.YtlbadolkgfmlgaaMFnExactIsValidSignatureA
import Derived.Test.YtlbadolkgfmlgaaMFnExactIsValidSignatureB
import Derived.Lib.Strings
namespace Go.Proofs.Ytlbadolkgfmlgaa.Pu
set_option linter.unusedSimpArgs false
set_option linter.unusedVariables false
open Go.RowKit Go.Proofs.Ytlbadolkgfmlgaa.F Go.Proofs.YtlbadolkgfmlgaaW.PrintWords
theorem spec_IndexOf_ev (l : List ByteArray) (s : ByteArray) (hl : l.length ≤ 9223372036854775806) : Ev (fun k => spec_IndexOf.f k l s) (ixL s l 0) := by
  unfold spec_IndexOf.f
  have h := loop_to l.length (fun i k => spec_IndexOf.l0 k l s (i : Int)) (fun i => ixL s (l.drop i) i) ?_ ?_ 0 (by omega)
  · simpa using h
  · intro i hi ih
    refine Ev.step (fun k => by rw [spec_IndexOf.l0]) (ev_pos (by omega) (ev_pos (by omega) ?_))
    rw [rdOf_at _ _ _ hi]
    simp only [ixL_step s l i hi]
    refine ev_ite (fun h => ev_now (by rw [if_pos h])) (fun h => ?_)
    rw [wrap_succ (by omega), if_neg h]
    exact ih
  · exact Ev.step (fun k => by rw [spec_IndexOf.l0]) (ev_neg (by omega) (ev_now (by rw [ixL_end])))
end Go.Proofs.Ytlbadolkgfmlgaa.Pu
/-! No string twice. -/
namespace Go.Proofs.Ytlbadolkgfmlgaa.Pu
set_option linter.unusedSimpArgs false
set_option linter.unusedVariables false
open Go.RowKit Go.Proofs.Ytlbadolkgfmlgaa.F Go.Proofs.YtlbadolkgfmlgaaW.PrintWords
theorem impl_Distinct_eq (l : List ByteArray) (h : l.length ≤ 4000000000000) : impl_AllDistinct.f l = some (decide ((chs l).Nodup)) := by
  unfold impl_AllDistinct.f
  rw [impl_Sort_eq l h]
  simp only [Option.bind_some]
  congr 1
  by_cases hn : (chs l).Nodup
  · have h1 := (names_all l).2 hn
    rw [h1]
    simp [hn]
  · have h1 : (namesB l).length ≠ l.length := fun e => hn ((names_all l).1 e)
    have h2 : ((namesB l).length == l.length) = false := by simpa using h1
    simp only [hn, decide_false]
    simp
    omega
theorem ixL_own (l : List ByteArray) (i : Nat) (hi : i < l.length) : ∀ (d j : Nat), j + d = i → (∀ m, (hm : m < l.length) → j ≤ m → m < i → ¬ l[m].toList = l[i].toList) → ixL l[i] (l.drop j) j = (i : Int) := by
  intro d
  induction d with
  | zero =>
    intro j hj _
    obtain rfl : j = i := by omega
    rw [ixL_step _ _ _ hi, if_pos rfl]
  | succ d ih =>
    intro j hj h
    rw [ixL_step _ _ _ (by omega), if_neg (h j (by omega) (Nat.le_refl _) (by omega))]
    exact ih (j + 1) (by omega) (fun m hm h1 h2 => h m hm (by omega) h2)
theorem ixL_le (l : List ByteArray) (s : ByteArray) (m : Nat) (hm : m < l.length) (e : l[m].toList = s.toList) : ∀ (d j : Nat), j + d = m → ixL s (l.drop j) j ≤ (m : Int) := by
  intro d
  induction d with
  | zero =>
    intro j hj
    obtain rfl : j = m := by omega
    rw [ixL_step _ _ _ hm, if_pos e]
    omega
  | succ d ih =>
    intro j hj
    rw [ixL_step _ _ _ (by omega)]
    split
    · omega
    · exact ih (j + 1) (by omega)
theorem nodup_ix (l : List ByteArray) : (chs l).Nodup ↔ ∀ i, (h : i < l.length) → ixL l[i] l 0 = (i : Int) := by
  have hc : ∀ i j, (hi : i < l.length) → (hj : j < l.length) → ((chs l)[i]'(by rw [chs_length]; exact hi) = (chs l)[j]'(by rw [chs_length]; exact hj) ↔ l[i].toList = l[j].toList) := by
    intro i j hi hj
    simp [chs, Lib.toList_data]
  constructor
  · intro hn i hi
    have h := ixL_own l i hi i 0 (by omega) (fun m hm h1 h2 e => by
      have := List.pairwise_iff_getElem.1 hn m i (by rw [chs_length]; exact hm) (by rw [chs_length]; exact hi) h2
      exact this ((hc m i hm hi).2 e))
    simpa using h
  · intro h
    refine List.pairwise_iff_getElem.2 (fun i j hi hj hij e => ?_)
    rw [chs_length] at hi hj
    have h1 := h j hj
    have h2 := ixL_le l l[j] i hi ((hc i j hi hj).1 e) i 0 (by omega)
    rw [List.drop_zero, h1] at h2
    omega
theorem spec_Distinct_ev (l : List ByteArray) (hl : l.length ≤ 2000000000000) : Ev (fun k => spec_AllDistinct.f k l) (decide ((chs l).Nodup)) := by
  unfold spec_AllDistinct.f
  by_cases hn : (chs l).Nodup
  · have hix := (nodup_ix l).1 hn
    have h := loop_ev l.length (fun i k => spec_AllDistinct.l0 k l (i : Int)) true ?_ ?_
    · simpa [hn] using h
    · intro i hi ih
      refine Ev.step (fun k => by rw [spec_AllDistinct.l0]) (ev_pos (by omega) (ev_pos (by omega) ?_))
      rw [rdOf_at _ _ _ hi]
      refine ev_bind (spec_IndexOf_ev l l[i] (by omega)) (ev_pos (hix i hi) ?_)
      rw [wrap_succ (by omega)]
      exact ih
    · exact Ev.step (fun k => by rw [spec_AllDistinct.l0]) (ev_neg (by omega) (Ev.now _))
  · have hno : ∃ i, ∃ h : i < l.length, ixL l[i] l 0 ≠ (i : Int) := Classical.byContradiction fun hc => hn ((nodup_ix l).2 (fun i hi => Classical.byContradiction fun he => hc ⟨i, hi, he⟩))
    obtain ⟨m, hm, hne⟩ := hno
    simp only [hn, decide_false]
    have key : ∀ d i, i + d = m → Ev (fun k => spec_AllDistinct.l0 k l (i : Int)) false := by
      intro d
      induction d with
      | zero =>
        intro i hi
        obtain rfl : i = m := by omega
        refine Ev.step (fun k => by rw [spec_AllDistinct.l0]) (ev_pos (by omega) (ev_pos (by omega) ?_))
        rw [rdOf_at _ _ _ hm]
        exact ev_bind (spec_IndexOf_ev l l[i] (by omega)) (ev_neg hne (Ev.now _))
      | succ d ih =>
        intro i hi
        refine Ev.step (fun k => by rw [spec_AllDistinct.l0]) (ev_pos (by omega) (ev_pos (by omega) ?_))
        rw [rdOf_at _ _ _ (show i < l.length by omega)]
        refine ev_bind (spec_IndexOf_ev l _ (by omega)) (ev_ite (fun _ => ?_) (fun _ => Ev.now _))
        rw [wrap_succ (by omega)]
        exact ih (i + 1) (by omega)
    have := key m 0 (by omega)
    simpa using this
end Go.Proofs.Ytlbadolkgfmlgaa.Pu
namespace Go.Proofs.Ytlbadolkgfmlgaa.Pu
set_option linter.unusedSimpArgs false
set_option linter.unusedVariables false
open Go.RowKit Go.Proofs.Ytlbadolkgfmlgaa.F Go.Proofs.YtlbadolkgfmlgaaW.PrintWords
theorem slices_Index_ev (l : List ByteArray) (s : ByteArray) (hl : l.length ≤ 9223372036854775806) : Ev (fun k => slices_Index_string_string.f k l s) (ixL s l 0) := by
  unfold slices_Index_string_string.f
  have h := loop_to l.length (fun i k => slices_Index_string_string.l0 k l s (l.length : Int) (i : Int)) (fun i => ixL s (l.drop i) i) ?_ ?_ 0 (by omega)
  · simpa using h
  · intro i hi ih
    refine Ev.step (fun k => by rw [slices_Index_string_string.l0]) (ev_pos (by omega) (ev_pos (by omega) (ev_pos (by omega) ?_)))
    rw [rdOf_at _ _ _ hi]
    simp only [ixL_step s l i hi]
    refine ev_ite (fun h => ev_now (by rw [if_pos h.symm])) (fun h => ?_)
    rw [wrap_succ (by omega), if_neg (fun e => h e.symm)]
    exact ih
  · exact Ev.step (fun k => by rw [slices_Index_string_string.l0]) (ev_neg (by omega) (ev_now (by rw [ixL_end])))
end Go.Proofs.Ytlbadolkgfmlgaa.Pu
namespace Go.Proofs.Ytlbadolkgfmlgaa.Pu
set_option linter.unusedSimpArgs false
set_option linter.unusedVariables false
open Go.RowKit Go.Proofs.Ytlbadolkgfmlgaa.F Go.Proofs.YtlbadolkgfmlgaaW.PrintWords
theorem slices_Contains_ev (l : List ByteArray) (s : ByteArray) (hl : l.length ≤ 9223372036854775806) : Ev (fun k => slices_Contains_string_string.f k l s) (decide (0 ≤ ixL s l 0)) := by
  unfold slices_Contains_string_string.f
  exact ev_bind (slices_Index_ev l s hl) (ev_now rfl)
end Go.Proofs.Ytlbadolkgfmlgaa.Pu
/-! Names: a first letter between two, then at most seven small letters and digits. -/
namespace Go.Proofs.Ytlbadolkgfmlgaa.Pu
set_option linter.unusedSimpArgs false
set_option linter.unusedVariables false
open Go.RowKit Go.Proofs.Ytlbadolkgfmlgaa.F Go.Proofs.YtlbadolkgfmlgaaW.PrintWords
/-- A small letter or a digit. -/
def okc (c : Int) : Bool := (decide (97 ≤ c) && decide (c ≤ 122)) || (decide (48 ≤ c) && decide (c ≤ 57))
/-- d bytes from i on are small letters and digits. -/
def okB (s : ByteArray) : Nat → Int → Bool
  | 0, _ => true
  | d + 1, i => okc (bt s i) && okB s d (i + 1)
def named (lo hi : Int) (s : ByteArray) : Bool := decide (1 ≤ (s.size : Int)) && decide ((s.size : Int) ≤ 8) && (decide (lo ≤ bt s 0) && decide (bt s 0 ≤ hi)) && okB s (s.size - 1) 1
theorem lower_eq (c : Int) : spec_l2Lower.f c = some (decide (97 ≤ c) && decide (c ≤ 122)) := by
  unfold spec_l2Lower.f
  by_cases h : c ≥ 97
  · have e : decide (97 ≤ c) = true := by simp; omega
    rw [if_pos h, e]; rfl
  · have e : decide (97 ≤ c) = false := by simp; omega
    rw [if_neg h, e]; rfl
theorem digit_eq (c : Int) : spec_l2Digit.f c = some (decide (48 ≤ c) && decide (c ≤ 57)) := by
  unfold spec_l2Digit.f
  by_cases h : c ≥ 48
  · have e : decide (48 ≤ c) = true := by simp; omega
    rw [if_pos h, e]; rfl
  · have e : decide (48 ≤ c) = false := by simp; omega
    rw [if_neg h, e]; rfl
theorem in_eq (a b c : Int) : spec_l1In.f a b c = some (decide (b ≤ a) && decide (a ≤ c)) := by
  unfold spec_l1In.f
  by_cases h : a ≥ b
  · have e : decide (b ≤ a) = true := by simp; omega
    rw [if_pos h, e]; rfl
  · have e : decide (b ≤ a) = false := by simp; omega
    rw [if_neg h, e]; rfl
theorem rest_eq (s : ByteArray) (hs : s.size ≤ 4611686018427387904) (d : Nat) : ∀ (k : Nat) (i : Int), 0 ≤ i → (s.size : Int) - i = d → d < k →
    spec_l2Rest.l0 k s i = some (okB s d i && (decide (1 ≤ (s.size : Int)) && decide ((s.size : Int) ≤ 8))) := by
  induction d with
  | zero =>
    intro k i h0 hd hk
    obtain ⟨k, rfl⟩ : ∃ m, k = m + 1 := ⟨k - 1, by omega⟩
    simp only [spec_l2Rest.l0]
    rw [if_neg (by omega), in_eq]
    simp [okB]
  | succ d ih =>
    intro k i h0 hd hk
    obtain ⟨k, rfl⟩ : ∃ m, k = m + 1 := ⟨k - 1, by omega⟩
    simp only [spec_l2Rest.l0]
    rw [if_pos (by omega), if_pos h0, lower_eq, digit_eq, wrap_in (by omega) (by omega), ih k (i + 1) (by omega) (by omega) (by omega)]
    simp only [Option.bind_some, okB, okc]
    cases (decide (97 ≤ bt s i) && decide (bt s i ≤ 122)) <;> cases (decide (48 ≤ bt s i) && decide (bt s i ≤ 57)) <;> simp
theorem named_eq (s : ByteArray) (hs : s.size ≤ 4611686018427387904) (d : Nat) : ∀ (k : Nat) (i : Int), 0 ≤ i → (s.size : Int) - i = d → d < k →
    impl_isNamed.l0 k s i = some (okB s d i) := by
  induction d with
  | zero =>
    intro k i h0 hd hk
    obtain ⟨k, rfl⟩ : ∃ m, k = m + 1 := ⟨k - 1, by omega⟩
    simp only [impl_isNamed.l0]
    rw [if_neg (by omega)]
    simp [okB]
  | succ d ih =>
    intro k i h0 hd hk
    obtain ⟨k, rfl⟩ : ∃ m, k = m + 1 := ⟨k - 1, by omega⟩
    simp only [impl_isNamed.l0]
    rw [if_pos (by omega), if_pos h0, wrap_in (by omega) (by omega), ih k (i + 1) (by omega) (by omega) (by omega)]
    simp only [okB, okc]
    by_cases c1 : bt s i < 97
    · rw [if_pos c1]
      by_cases c2 : bt s i < 48
      · rw [if_pos c2]; simp; omega
      · rw [if_neg c2]
        by_cases c3 : bt s i > 57
        · rw [if_pos c3]; simp; omega
        · rw [if_neg c3]
          have e1 : decide (48 ≤ bt s i) = true := by simp; omega
          have e2 : decide (bt s i ≤ 57) = true := by simp; omega
          rw [e1, e2]; simp
    · rw [if_neg c1]
      by_cases c4 : bt s i > 122
      · rw [if_pos c4, if_neg (by omega), if_pos (by omega)]; simp; omega
      · rw [if_neg c4]
        have e1 : decide (97 ≤ bt s i) = true := by simp; omega
        have e2 : decide (bt s i ≤ 122) = true := by simp; omega
        rw [e1, e2]; simp
theorem toList_size (a : ByteArray) : a.toList.length = a.size := by
  rw [Lib.toList_data, Array.length_toList]
  rfl
theorem empty_list (a : ByteArray) (h : a.size = 0) : a.toList = [] := List.eq_nil_of_length_eq_zero (by rw [toList_size]; exact h)
theorem list_empty (a : ByteArray) (h : a.toList = []) : a.size = 0 := by
  rw [← toList_size, h]
  rfl
theorem isNamed_ev (lo hi : Int) (a : ByteArray) (hs : a.size ≤ 4611686018427387904) : Ev (fun k => impl_isNamed.f k a lo hi) (named lo hi a) := by
  refine ⟨a.size + 3, fun k hk => ?_⟩
  obtain ⟨k, rfl⟩ : ∃ m, k = m + 1 := ⟨k - 1, by omega⟩
  show impl_isNamed.f (k + 1) a lo hi = _
  unfold impl_isNamed.f named
  by_cases hz : (a.size : Int) < 1
  · have e1 : decide (1 ≤ (a.size : Int)) = false := by simp; omega
    rw [if_pos hz, e1]
    simp [impl_isNamed.j0]
  · have e1 : decide (1 ≤ (a.size : Int)) = true := by simp; omega
    rw [if_neg hz, e1]
    by_cases c8 : (a.size : Int) > 8
    · have e8 : decide ((a.size : Int) ≤ 8) = false := by simp; omega
      rw [if_pos c8, e8]
      simp [impl_isNamed.j0]
    · have e8 : decide ((a.size : Int) ≤ 8) = true := by simp; omega
      rw [if_neg c8, if_pos (by omega), e8]
      simp only [impl_isNamed.j0, named_eq a hs (a.size - 1) k 1 (by omega) (by omega) (by omega)]
      by_cases c1 : bt a 0 < lo
      · have e2 : decide (lo ≤ bt a 0) = false := by simp; omega
        rw [if_pos c1, e2]
        simp
      · have e2 : decide (lo ≤ bt a 0) = true := by simp; omega
        rw [if_neg c1, e2]
        by_cases c2 : bt a 0 > hi
        · have e3 : decide (bt a 0 > hi) = true := by simp; omega
          have e4 : decide (bt a 0 ≤ hi) = false := by simp; omega
          rw [e3, e4]; simp
        · have e3 : decide (bt a 0 > hi) = false := by simp; omega
          have e4 : decide (bt a 0 ≤ hi) = true := by simp; omega
          rw [e3, e4]; simp
theorem rest_ev (a : ByteArray) (hs : a.size ≤ 4611686018427387904) (h1 : 1 ≤ a.size) : Ev (fun k => spec_l2Rest.f k a) (okB a (a.size - 1) 1 && decide ((a.size : Int) ≤ 8)) := by
  refine ⟨a.size + 3, fun k hk => ?_⟩
  unfold spec_l2Rest.f
  show spec_l2Rest.l0 k a 1 = _
  rw [rest_eq a hs (a.size - 1) k 1 (by omega) (by omega) (by omega)]
  have e1 : decide (1 ≤ (a.size : Int)) = true := by simp; omega
  rw [e1]; simp
end Go.Proofs.Ytlbadolkgfmlgaa.Pu
namespace Go.Proofs.Ytlbadolkgfmlgaa.Pu
set_option linter.unusedSimpArgs false
set_option linter.unusedVariables false
open Go.RowKit Go.Proofs.Ytlbadolkgfmlgaa.F Go.Proofs.YtlbadolkgfmlgaaW.PrintWords
theorem impl_IsName_ev (a : ByteArray) (hs : a.size ≤ 4611686018427387904) : Ev (fun k => impl_IsName.f k a) (named 97 122 a) := by
  unfold impl_IsName.f
  exact ev_bind (isNamed_ev 97 122 a hs) (Ev.now _)
theorem spec_IsName_ev (a : ByteArray) (hs : a.size ≤ 4611686018427387904) : Ev (fun k => spec_IsName.f k a) (named 97 122 a) := by
  unfold spec_IsName.f
  refine ev_ite (fun h => ev_now ?_) (fun h => ?_)
  · have := list_empty a h
    have e1 : decide (1 ≤ (a.size : Int)) = false := by simp; omega
    unfold named
    rw [e1]; simp
  · have h1 : 1 ≤ a.size := by
      rcases Nat.eq_zero_or_pos a.size with h0 | h0
      · exact absurd (empty_list a h0) h
      · exact h0
    refine ev_pos (by omega) (ev_bind0 (lower_eq _) ?_)
    have e1 : decide (1 ≤ (a.size : Int)) = true := by simp; omega
    unfold named
    rw [e1]
    refine ev_ite (fun e => ev_bind (rest_ev a hs h1) (ev_now ?_)) (fun e => ev_now ?_)
    · rw [e]
      cases okB a (a.size - 1) 1 <;> cases decide ((a.size : Int) ≤ 8) <;> rfl
    · rw [Bool.eq_false_iff.2 e]
      simp
end Go.Proofs.Ytlbadolkgfmlgaa.Pu
/-! Valid signatures. -/
namespace Go.Proofs.Ytlbadolkgfmlgaa.Pu
set_option linter.unusedSimpArgs false
set_option linter.unusedVariables false
open Go.RowKit Go.Proofs.Ytlbadolkgfmlgaa.F Go.Proofs.YtlbadolkgfmlgaaW.PrintWords
def isW (s : ByteArray) : Bool := decide (s.toList = ([119, 111, 114, 100] : List UInt8))
def sortOk (S : List ByteArray) (s : ByteArray) : Bool := isW s || decide (0 ≤ ixL s S 0)
def sOk (s : ByteArray) : Bool := named 97 122 s && !isW s
def opOk (S : List ByteArray) (o : S70) : Bool := (o.f1.all (sortOk S) && sortOk S o.f2) && (named 97 122 o.f0 && (!isB o.f0 && decide (o.f1.length ≤ 3)))
def nm0 (O : List S70) : List ByteArray := O.map (·.f0)
def opsOk (S : List ByteArray) (O : List S70) : Bool := O.all (opOk S) && decide ((chs (nm0 O)).Nodup)
def sigOk (S : List ByteArray) (O : List S70) : Bool := S.all sOk && (O.all (opOk S) && (decide (S.length ≤ 4) && (decide ((chs S).Nodup) && (decide (O.length ≤ 16) && decide ((chs (nm0 O)).Nodup)))))
theorem isW_ite {α : Type} (s : ByteArray) (a b : α) : (if s.toList = ([119, 111, 114, 100] : List UInt8) then a else b) = (if isW s = true then a else b) := by
  unfold isW
  by_cases h : s.toList = ([119, 111, 114, 100] : List UInt8)
  · rw [if_pos h, if_pos (by simp [h])]
  · rw [if_neg h, if_neg (by simp [h])]
theorem l6Sort_ev (S : List ByteArray) (O : List S70) (s : ByteArray) (hS : S.length ≤ 1048576) : Ev (fun k => spec_l6Sort.f k S O s) (sortOk S s) := by
  unfold spec_l6Sort.f sortOk
  refine ev_ite (fun h => ev_now ?_) (fun h => ev_bind (spec_IndexOf_ev S s (by omega)) (ev_now ?_))
  · simp [isW, h]
  · simp [isW, h]
theorem l6Op_ev (S : List ByteArray) (O : List S70) (o : S70) (hS : S.length ≤ 1048576) (h0 : o.f0.size ≤ 1048576) (h1 : o.f1.length ≤ 1048576) : Ev (fun k => spec_l6Op.f k S O o.f0 o.f1 o.f2) (opOk S o) := by
  unfold spec_l6Op.f
  have h := loop_to o.f1.length (fun i k => spec_l6Op.l0 k (i : Int) S O o.f0 o.f1 o.f2) (fun i => ((o.f1.drop i).all (sortOk S) && sortOk S o.f2) && (named 97 122 o.f0 && (!isB o.f0 && decide (o.f1.length ≤ 3)))) ?_ ?_ 0 (by omega)
  · simpa [opOk] using h
  · intro i hi ih
    refine Ev.step (fun k => by rw [spec_l6Op.l0]) (ev_pos (by omega) (ev_pos (by omega) ?_))
    rw [rdOf_at _ _ _ hi, drop_at _ _ hi, List.all_cons]
    refine ev_bind (l6Sort_ev S O _ hS) (ev_ite (fun e => ?_) (fun e => ev_now ?_))
    · rw [e, Bool.true_and, wrap_succ (by omega)]
      exact ih
    · rw [Bool.eq_false_iff.2 e]; rfl
  · refine Ev.step (fun k => by rw [spec_l6Op.l0]) (ev_neg (by omega) ?_)
    rw [List.drop_length, List.all_nil, Bool.true_and]
    refine ev_bind (spec_IsName_ev _ (by omega)) (ev_ite (fun e => ?_) (fun e => ev_now ?_))
    · refine ev_bind0 (spec_isB _) (ev_ite (fun e1 => ev_now ?_) (fun e1 => ev_ite (fun e2 => ev_bind (l6Sort_ev S O _ hS) (ev_now ?_)) (fun e2 => ev_now ?_)))
      · rw [e1]; simp
      · have h3 : decide (o.f1.length ≤ 3) = true := by simp; omega
        rw [e, Bool.eq_false_iff.2 e1, h3]; simp
      · have h3 : decide (o.f1.length ≤ 3) = false := by simp; omega
        rw [h3]; simp
    · rw [Bool.eq_false_iff.2 e]; simp
theorem nm0_take (O : List S70) (i : Nat) (h : i < O.length) : nm0 (O.take (i + 1)) = nm0 (O.take i) ++ [O[i].f0] := by
  unfold nm0
  rw [List.take_succ_eq_append_getElem h, List.map_append]
  rfl
theorem nm0_length (O : List S70) : (nm0 O).length = O.length := by simp [nm0]
theorem spec_Sig_ev (S : List ByteArray) (O : List S70) (hS : S.length ≤ 1048576) (hO : O.length ≤ 1048576) (hs : ∀ i, (h : i < S.length) → S[i].size ≤ 1048576) (ho : ∀ i, (h : i < O.length) → O[i].f0.size ≤ 1048576 ∧ O[i].f1.length ≤ 1048576) : Ev (fun k => spec_IsValidSignature.f k S O) (sigOk S O) := by
  unfold spec_IsValidSignature.f
  have hlast : Ev (fun k => spec_IsValidSignature.l1 k ([] : List ByteArray) 0 S O) (O.all (opOk S) && (decide (S.length ≤ 4) && (decide ((chs S).Nodup) && (decide (O.length ≤ 16) && decide ((chs (nm0 O)).Nodup))))) := by
    have h := loop_to O.length (fun i k => spec_IsValidSignature.l1 k (nm0 (O.take i)) (i : Int) S O) (fun i => (O.drop i).all (opOk S) && (decide (S.length ≤ 4) && (decide ((chs S).Nodup) && (decide (O.length ≤ 16) && decide ((chs (nm0 O)).Nodup))))) ?_ ?_ 0 (by omega)
    · simpa [nm0] using h
    · intro i hi ih
      have hn := nm0_length (O.take i)
      rw [List.length_take] at hn
      refine Ev.step (fun k => by rw [spec_IsValidSignature.l1]) (ev_pos (by omega) (ev_pos (by omega) ?_))
      rw [rdO_at _ _ hi, drop_at _ _ hi, List.all_cons]
      refine ev_bind (l6Op_ev S O _ hS (ho i hi).1 (ho i hi).2) (ev_ite (fun e => ev_pos (by omega) ?_) (fun e => ev_now ?_))
      · rw [e, Bool.true_and, wrap_succ (by omega), ← nm0_take O i hi]
        exact ih
      · rw [Bool.eq_false_iff.2 e]; rfl
    · refine Ev.step (fun k => by rw [spec_IsValidSignature.l1]) (ev_neg (by omega) ?_)
      rw [List.drop_length, List.all_nil, Bool.true_and, List.take_length]
      have hn := nm0_length O
      refine ev_ite (fun e1 => ev_bind (spec_Distinct_ev S (by omega)) (ev_ite (fun e2 => ev_ite (fun e3 => ev_bind (spec_Distinct_ev (nm0 O) (by omega)) (ev_now ?_)) (fun e3 => ev_now ?_)) (fun e2 => ev_now ?_))) (fun e1 => ev_now ?_)
      · have h1 : decide (S.length ≤ 4) = true := by simp; omega
        have h3 : decide (O.length ≤ 16) = true := by simp; omega
        rw [h1, e2, h3]; simp
      · have h3 : decide (O.length ≤ 16) = false := by simp; omega
        rw [h3]; simp
      · rw [Bool.eq_false_iff.2 e2]; simp
      · have h1 : decide (S.length ≤ 4) = false := by simp; omega
        rw [h1]; simp
  have h := loop_to S.length (fun i k => spec_IsValidSignature.l0 k ([] : List ByteArray) (i : Int) S O) (fun i => (S.drop i).all sOk && (O.all (opOk S) && (decide (S.length ≤ 4) && (decide ((chs S).Nodup) && (decide (O.length ≤ 16) && decide ((chs (nm0 O)).Nodup)))))) ?_ ?_ 0 (by omega)
  · simpa [sigOk] using h
  · intro i hi ih
    refine Ev.step (fun k => by rw [spec_IsValidSignature.l0]) (ev_pos (by omega) (ev_pos (by omega) ?_))
    rw [rdOf_at _ _ _ hi, drop_at _ _ hi, List.all_cons]
    refine ev_bind (spec_IsName_ev _ (by have := hs i hi; omega)) (ev_ite (fun e => ?_) (fun e => ev_now ?_))
    · refine ev_ite (fun e1 => ev_now ?_) (fun e1 => ?_)
      · have : isW S[i] = true := by simp [isW, e1]
        simp [sOk, this]
      · have h2 : isW S[i] = false := by simp [isW, e1]
        have h3 : sOk S[i] = true := by simp [sOk, e, h2]
        rw [h3, Bool.true_and, wrap_succ (by omega)]
        exact ih
    · have h3 : sOk S[i] = false := by simp [sOk, Bool.eq_false_iff.2 e]
      rw [h3]; rfl
  · refine Ev.step (fun k => by rw [spec_IsValidSignature.l0]) (ev_neg (by omega) ?_)
    rw [List.drop_length, List.all_nil, Bool.true_and]
    exact hlast
theorem impl_Sig_ev (S : List ByteArray) (O : List S70) (hS : S.length ≤ 1048576) (hO : O.length ≤ 1048576) (hs : ∀ i, (h : i < S.length) → S[i].size ≤ 1048576) (ho : ∀ i, (h : i < O.length) → O[i].f0.size ≤ 1048576 ∧ O[i].f1.length ≤ 1048576) : Ev (fun k => impl_IsValidSignature.f k S O) (sigOk S O) := by
  have hj3 : ∀ i, (hi : i < O.length) → ∀ x5, Ev (fun k => impl_IsValidSignature.j3 k x5 O (O.length : Int) (i : Int) true S O O[i].f0 O[i].f1 O[i].f2) false := by
    intro i hi x5
    refine Ev.step (fun k => by rw [impl_IsValidSignature.j3]) ?_
    exact ev_pos rfl (Ev.now _)
  have hlast : Ev (fun k => impl_IsValidSignature.l1 k ([] : List ByteArray) O (O.length : Int) 0 S O) (O.all (opOk S) && decide ((chs (nm0 O)).Nodup)) := by
    have h := loop_to O.length (fun i k => impl_IsValidSignature.l1 k (nm0 (O.take i)) O (O.length : Int) (i : Int) S O) (fun i => (O.drop i).all (opOk S) && decide ((chs (nm0 O)).Nodup)) ?_ ?_ 0 (by omega)
    · simpa [nm0] using h
    · intro i hi ih
      have hn := nm0_length (O.take i)
      rw [List.length_take] at hn
      refine Ev.step (fun k => by rw [impl_IsValidSignature.l1]) (ev_pos (by omega) (ev_pos (by omega) (ev_pos (by omega) ?_)))
      rw [rdO_at _ _ hi, drop_at _ _ hi, List.all_cons]
      refine ev_bind (impl_IsName_ev _ (by have := (ho i hi).1; omega)) (ev_ite (fun e => ev_bind0 (impl_isB _) (ev_ite (fun e1 => ?_) (fun e1 => ?_))) (fun e => ?_))
      · have h3 : opOk S O[i] = false := by simp [opOk, e1]
        rw [h3]
        exact hj3 i hi _
      · by_cases hl : O[i].f1.length ≤ 3
        · have hd : decide ((O[i].f1.length : Int) > 3) = false := by simp; omega
          rw [hd]
          have hop : opOk S O[i] = (O[i].f1 ++ [O[i].f2]).all (sortOk S) := by
            simp [opOk, e, Bool.eq_false_iff.2 e1, hl]
          rw [hop]
          refine Ev.step (fun k => by rw [impl_IsValidSignature.j3]) ?_
          refine ev_neg (by simp) (ev_bind0 (clone_eq _ (by omega)) (ev_some (ev_pos ?_ (ev_some ?_))))
          · simp only [List.length_singleton]; omega
          have h2 := loop_to (O[i].f1 ++ [O[i].f2]).length (fun j k => impl_IsValidSignature.l2 k (nm0 (O.take i)) O (O.length : Int) (i : Int) (O[i].f1 ++ [O[i].f2]) ((O[i].f1 ++ [O[i].f2]).length : Int) (j : Int) S O O[i].f0 O[i].f1 O[i].f2) (fun j => ((O[i].f1 ++ [O[i].f2]).drop j).all (sortOk S) && ((O.drop (i + 1)).all (opOk S) && decide ((chs (nm0 O)).Nodup))) ?_ ?_ 0 (by omega)
          · simpa [Bool.and_assoc] using h2
          · intro j hj ih2
            have hjl : j < 1000 := by simp at hj; omega
            refine Ev.step (fun k => by rw [impl_IsValidSignature.l2]) (ev_pos (by omega) (ev_pos (by omega) (ev_pos (by omega) ?_)))
            rw [rdOf_at _ _ _ hj, drop_at _ _ hj, List.all_cons]
            refine ev_ite (fun e4 => ?_) (fun e4 => ?_)
            · have : sortOk S (O[i].f1 ++ [O[i].f2])[j] = true := by simp [sortOk, isW, e4]
              rw [this, Bool.true_and, wrap_succ (by omega)]
              exact ih2
            · have hso : sortOk S (O[i].f1 ++ [O[i].f2])[j] = decide (0 ≤ ixL (O[i].f1 ++ [O[i].f2])[j] S 0) := by simp [sortOk, isW, e4]
              refine ev_bind (slices_Contains_ev S _ (by omega)) (ev_ite (fun e5 => ?_) (fun e5 => ev_now ?_))
              · rw [hso, e5, Bool.true_and, wrap_succ (by omega)]
                exact ih2
              · rw [hso, Bool.eq_false_iff.2 e5]; rfl
          · refine Ev.step (fun k => by rw [impl_IsValidSignature.l2]) ?_
            refine ev_neg (by omega) (ev_some (ev_pos ?_ ?_))
            · simp only [List.length_singleton]; omega
            · rw [wrap_succ (by omega), ← nm0_take O i hi, List.drop_length, List.all_nil, Bool.true_and]
              exact ih
        · have hd : decide ((O[i].f1.length : Int) > 3) = true := by simp; omega
          rw [hd]
          have h3 : opOk S O[i] = false := by simp [opOk, hl]
          rw [h3]
          exact hj3 i hi _
      · have h3 : opOk S O[i] = false := by simp [opOk, Bool.eq_false_iff.2 e]
        rw [h3]
        exact hj3 i hi _
    · refine Ev.step (fun k => by rw [impl_IsValidSignature.l1]) (ev_neg (by omega) ?_)
      have hn := nm0_length O
      rw [List.drop_length, List.all_nil, Bool.true_and, List.take_length]
      exact ev_bind0 (impl_Distinct_eq (nm0 O) (by omega)) (Ev.now _)
  have hj0 : Ev (fun k => impl_IsValidSignature.j0 k true S O) false := by
    refine Ev.step (fun k => by rw [impl_IsValidSignature.j0]) ?_
    exact ev_pos rfl (Ev.now _)
  have hj1 : Ev (fun k => impl_IsValidSignature.j0 k false S O) (S.all sOk && (O.all (opOk S) && decide ((chs (nm0 O)).Nodup))) := by
    refine Ev.step (fun k => by rw [impl_IsValidSignature.j0]) (ev_neg (by simp) ?_)
    have h := loop_to S.length (fun i k => impl_IsValidSignature.l0 k S (S.length : Int) (i : Int) S O) (fun i => (S.drop i).all sOk && (O.all (opOk S) && decide ((chs (nm0 O)).Nodup))) ?_ ?_ 0 (by omega)
    · simpa using h
    · intro i hi ih
      refine Ev.step (fun k => by rw [impl_IsValidSignature.l0]) (ev_pos (by omega) (ev_pos (by omega) (ev_pos (by omega) ?_)))
      rw [rdOf_at _ _ _ hi, drop_at _ _ hi, List.all_cons]
      refine ev_bind (impl_IsName_ev _ (by have := hs i hi; omega)) (ev_ite (fun e => ?_) (fun e => ev_now ?_))
      · refine ev_ite (fun e1 => ev_now ?_) (fun e1 => ?_)
        · have : isW S[i] = true := by simp [isW, e1]
          simp [sOk, this]
        · have h2 : isW S[i] = false := by simp [isW, e1]
          have h3 : sOk S[i] = true := by simp [sOk, e, h2]
          rw [h3, Bool.true_and, wrap_succ (by omega)]
          exact ih
      · have h3 : sOk S[i] = false := by simp [sOk, Bool.eq_false_iff.2 e]
        rw [h3]; rfl
    · refine Ev.step (fun k => by rw [impl_IsValidSignature.l0]) (ev_neg (by omega) ?_)
      rw [List.drop_length, List.all_nil, Bool.true_and]
      exact hlast
  unfold impl_IsValidSignature.f sigOk
  refine ev_ite (fun e1 => ?_) (fun e1 => ev_bind0 (impl_Distinct_eq S (by omega)) (ev_ite (fun e2 => ?_) (fun e2 => ?_)))
  · have h1 : decide (S.length ≤ 4) = false := by simp; omega
    rw [h1]
    simpa using hj0
  · have h1 : decide (S.length ≤ 4) = true := by simp; omega
    rw [h1, e2]
    by_cases h16 : O.length ≤ 16
    · have h2 : decide ((O.length : Int) > 16) = false := by simp; omega
      rw [h2]
      simpa [h16] using hj1
    · have h2 : decide ((O.length : Int) > 16) = true := by simp; omega
      rw [h2]
      simpa [h16] using hj0
  · rw [Bool.eq_false_iff.2 e2]
    simpa using hj0
end Go.Proofs.Ytlbadolkgfmlgaa.Pu
namespace Go.Proofs.Ytlbadolkgfmlgaa.Pure
set_option linter.unusedSimpArgs false
set_option linter.unusedVariables false
open Go.RowKit Go.Proofs.Ytlbadolkgfmlgaa.F Go.Proofs.Ytlbadolkgfmlgaa.Pu Go.Proofs.YtlbadolkgfmlgaaW.PrintWords Go.Proofs.YtlbadolkgfmlgaaW.PrintLast

theorem bytes_mem (l : List ByteArray) : ∀ (i : Nat) (h : i < l.length), l[i].size ≤ bytesAll l := by
  induction l with
  | nil => intro i h; simp at h
  | cons x xs ih =>
    intro i h
    rw [bytesAll_cons]
    cases i with
    | zero => simp
    | succ i => simp only [List.getElem_cons_succ]; have := ih i (by simpa using h); omega
theorem FnExactIsValidSignature : ∀ (z0 : S39), (G39 z0) → ∃ k, laws_FnExactIsValidSignature.f k z0.f0 z0.f1 = some true := by
  intro s hG
  refine Ev.rounds ?_
  unfold laws_FnExactIsValidSignature.f
  obtain ⟨r, hr, hb⟩ := szSignature_ev s hG 1048576 (by omega) (by omega)
  refine ev_bind hr (ev_ite (fun _ => Ev.now _) (fun hn => ?_))
  have hS := toSignature_ev s (by omega) (by omega) (by omega)
  have hl : (s.f1.map convO).length = s.f1.length := by simp
  have ho := convO_len s.f1 (by omega)
  have hES := eqSignature_refl s.f0 (s.f1.map convO) (by omega) (by omega) (fun i hi => by have := ho i hi; omega)
  have hs : ∀ i, (h : i < s.f0.length) → s.f0[i].size ≤ 1048576 := fun i h => by have := bytes_mem s.f0 i h; omega
  have ho2 : ∀ i, (h : i < (s.f1.map convO).length) → (s.f1.map convO)[i].f0.size ≤ 1048576 ∧ (s.f1.map convO)[i].f1.length ≤ 1048576 := fun i h => by
    refine ⟨?_, ho i h⟩
    have hi : i < s.f1.length := by rw [← hl]; exact h
    have h1 := sumW_mem wtO s.f1 i hi
    rw [List.getElem_map]
    show s.f1[i].f0.size ≤ 1048576
    have h2 : s.f1[i].f0.size ≤ wtO s.f1[i] := by unfold wtO; omega
    omega
  have h1 := spec_Sig_ev s.f0 (s.f1.map convO) (by omega) (by omega) hs ho2
  have h2 := impl_Sig_ev s.f0 (s.f1.map convO) (by omega) (by omega) hs ho2
  exact ev_bind hS (ev_bind h1 (ev_bind hS (ev_bind h2 (ev_neg (by simp) (ev_bind hS (ev_bind hES (ev_pos rfl (Ev.now _))))))))
end Go.Proofs.Ytlbadolkgfmlgaa.Pure
