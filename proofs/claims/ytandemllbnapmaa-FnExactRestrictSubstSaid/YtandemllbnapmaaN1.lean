/- Sorted lists of names, each once. -/
import Derived.Sort.Walk0
import Derived.Shelf.Sort.Plain
import Derived.Shelf.Slices.CompactS
import Derived.Test.YtandemllbnapmaaDT
namespace Go.Proofs.Ytandemllbnapmaa.AM
open Go
set_option linter.unusedVariables false
set_option linter.unusedSimpArgs false

/-- The strings' letters. -/
def chs (xs : List ByteArray) : List (List UInt8) := xs.map (fun b => b.data.toList)
/-- .. and back. -/
def unchs (xs : List (List UInt8)) : List ByteArray := xs.map (fun l => (⟨l.toArray⟩ : ByteArray))
theorem unchs_chs (xs : List ByteArray) : unchs (chs xs) = xs := by
  unfold unchs chs
  rw [List.map_map]
  exact (List.map_congr_left (fun b _ => rfl)).trans (List.map_id xs)
theorem chs_length (xs : List ByteArray) : (chs xs).length = xs.length := by simp [chs]
theorem unchs_length (xs : List (List UInt8)) : (unchs xs).length = xs.length := by simp [unchs]
/-- The strings in their order. -/
def sortB (xs : List ByteArray) : List ByteArray := unchs ((chs xs).mergeSort fun x y => decide (x ≤ y))
/-- No string twice in a row. -/
def compS (xs : List ByteArray) : List ByteArray := unchs (Lib.compact (chs xs))
theorem compact_le (zs : List (List UInt8)) : (Lib.compact zs).length ≤ zs.length := by
  unfold Lib.compact Lib.compactUpTo
  rw [List.length_map]
  have := List.length_filter_le (Lib.keeps zs.toArray) (List.range zs.length)
  simpa using this
theorem sortB_length (xs : List ByteArray) : (sortB xs).length = xs.length := by
  unfold sortB
  rw [unchs_length, List.length_mergeSort, chs_length]
theorem lt_cases (a b : List UInt8) : a < b ∨ a = b ∨ b < a := by
  rcases List.le_total a b with h | h
  · rcases List.le_iff_lt_or_eq.1 h with h | h
    · exact .inl h
    · exact .inr (.inl h)
  · rcases List.le_iff_lt_or_eq.1 h with h | h
    · exact .inr (.inr h)
    · exact .inr (.inl h.symm)
/-- Put in its place, unless it is there. -/
def insU (e : List UInt8) : List (List UInt8) → List (List UInt8)
  | [] => [e]
  | x :: xs => if x < e then x :: insU e xs else if x = e then x :: xs else e :: x :: xs
theorem insU_mem (e : List UInt8) (l : List (List UInt8)) (y : List UInt8) : y ∈ insU e l ↔ y = e ∨ y ∈ l := by
  induction l with
  | nil => simp [insU]
  | cons x xs ih =>
    simp only [insU]
    by_cases h1 : x < e
    · rw [if_pos h1]
      simp only [List.mem_cons, ih]
      constructor
      · rintro (h | h | h)
        · exact .inr (.inl h)
        · exact .inl h
        · exact .inr (.inr h)
      · rintro (h | h | h)
        · exact .inr (.inl h)
        · exact .inl h
        · exact .inr (.inr h)
    · rw [if_neg h1]
      by_cases h2 : x = e
      · rw [if_pos h2]
        simp only [List.mem_cons]
        constructor
        · exact .inr
        · rintro (h | h)
          · exact .inl (h.trans h2.symm)
          · exact h
      · rw [if_neg h2]
        simp only [List.mem_cons]
theorem insU_strict (e : List UInt8) (l : List (List UInt8)) (h : l.Pairwise (· < ·)) : (insU e l).Pairwise (· < ·) := by
  induction l with
  | nil => simp [insU]
  | cons x xs ih =>
    obtain ⟨hx, hxs⟩ := List.pairwise_cons.1 h
    simp only [insU]
    by_cases h1 : x < e
    · rw [if_pos h1]
      refine List.pairwise_cons.2 ⟨fun y hy => ?_, ih hxs⟩
      rcases (insU_mem e xs y).1 hy with rfl | hy
      · exact h1
      · exact hx y hy
    · rw [if_neg h1]
      by_cases h2 : x = e
      · rw [if_pos h2]; exact h
      · rw [if_neg h2]
        have h3 : e < x := by
          rcases lt_cases x e with h | h | h
          · exact absurd h h1
          · exact absurd h h2
          · exact h
        refine List.pairwise_cons.2 ⟨fun y hy => ?_, h⟩
        rcases List.mem_cons.1 hy with rfl | hy
        · exact h3
        · exact List.lt_trans h3 (hx y hy)
def insAll (acc l : List (List UInt8)) : List (List UInt8) := l.foldl (fun a e => insU e a) acc
theorem insAll_mem (l : List (List UInt8)) : ∀ (acc : List (List UInt8)) (y : List UInt8), y ∈ insAll acc l ↔ y ∈ acc ∨ y ∈ l := by
  induction l with
  | nil => intro acc y; simp [insAll]
  | cons x xs ih =>
    intro acc y
    have := ih (insU x acc) y
    unfold insAll at this ⊢
    rw [List.foldl_cons, this, insU_mem, List.mem_cons]
    constructor
    · rintro ((h | h) | h)
      · exact .inr (.inl h)
      · exact .inl h
      · exact .inr (.inr h)
    · rintro (h | h | h)
      · exact .inl (.inr h)
      · exact .inl (.inl h)
      · exact .inr h
theorem insAll_strict (l : List (List UInt8)) : ∀ acc : List (List UInt8), acc.Pairwise (· < ·) → (insAll acc l).Pairwise (· < ·) := by
  induction l with
  | nil => intro acc h; exact h
  | cons x xs ih =>
    intro acc h
    exact ih (insU x acc) (insU_strict x acc h)
theorem strict_one {l m : List (List UInt8)} (hl : l.Pairwise (· < ·)) (hm : m.Pairwise (· < ·)) (h : ∀ y, y ∈ l ↔ y ∈ m) : l = m := by
  induction l generalizing m with
  | nil =>
    cases m with
    | nil => rfl
    | cons y ys => exact absurd ((h y).2 List.mem_cons_self) (by simp)
  | cons x xs ih =>
    cases m with
    | nil => exact absurd ((h x).1 List.mem_cons_self) (by simp)
    | cons y ys =>
      obtain ⟨hx, hxs⟩ := List.pairwise_cons.1 hl
      obtain ⟨hy, hys⟩ := List.pairwise_cons.1 hm
      have e : x = y := by
        rcases List.mem_cons.1 ((h x).1 List.mem_cons_self) with h1 | h1
        · exact h1
        · rcases List.mem_cons.1 ((h y).2 List.mem_cons_self) with h2 | h2
          · exact h2.symm
          · exact absurd (List.lt_trans (hy x h1) (hx y h2)) (List.lt_irrefl y)
      subst e
      congr 1
      refine ih hxs hys (fun z => ⟨fun hz => ?_, fun hz => ?_⟩)
      · rcases List.mem_cons.1 ((h z).1 (List.mem_cons_of_mem _ hz)) with h1 | h1
        · subst h1; exact absurd (hx z hz) (List.lt_irrefl z)
        · exact h1
      · rcases List.mem_cons.1 ((h z).2 (List.mem_cons_of_mem _ hz)) with h1 | h1
        · subst h1; exact absurd (hy z hz) (List.lt_irrefl z)
        · exact h1
theorem sorted_of (l : List (List UInt8)) : (l.mergeSort fun x y => decide (x ≤ y)).Pairwise (fun a b => a ≤ b) := by
  have h := List.pairwise_mergeSort (le := fun x y : List UInt8 => decide (x ≤ y)) (fun a b c h1 h2 => by
    simp only [decide_eq_true_eq] at *
    exact List.le_trans h1 h2) (fun a b => by
    simp only [Bool.or_eq_true, decide_eq_true_eq]
    exact List.le_total a b) l
  exact h.imp (fun h => by simpa using h)
theorem compact_facts (zs : List (List UInt8)) (hs : zs.Pairwise (fun a b => a ≤ b)) : ∀ m, m ≤ zs.length → (Lib.compactUpTo zs.toArray m).Pairwise (· < ·) ∧ ∀ y, y ∈ Lib.compactUpTo zs.toArray m ↔ ∃ j, ∃ h : j < zs.length, j < m ∧ zs[j] = y := by
  intro m
  induction m with
  | zero =>
    intro _
    simp [Lib.compactUpTo]
  | succ m ih =>
    intro hm
    obtain ⟨h1, h2⟩ := ih (by omega)
    rw [Lib.compactUpTo_succ]
    have hat : ∀ j, (h : j < zs.length) → zs.toArray[j]! = zs[j] := fun j h => by rw [getElem!_pos _ j (by simpa using h)]; simp
    have hle : ∀ i j, (hi : i < zs.length) → (hj : j < zs.length) → i < j → zs[i] ≤ zs[j] := fun i j hi hj hij => List.pairwise_iff_getElem.1 hs i j hi hj hij
    have hmem : ∀ y, (∃ j, ∃ h : j < zs.length, j < m + 1 ∧ zs[j] = y) ↔ (∃ j, ∃ h : j < zs.length, j < m ∧ zs[j] = y) ∨ y = zs[m] := by
      intro y
      constructor
      · rintro ⟨j, h, hj, e⟩
        rcases Nat.lt_or_ge j m with h3 | h3
        · exact .inl ⟨j, h, h3, e⟩
        · have : j = m := by omega
          subst this
          exact .inr e.symm
      · rintro (⟨j, h, hj, e⟩ | e)
        · exact ⟨j, h, by omega, e⟩
        · exact ⟨m, by omega, by omega, e.symm⟩
    by_cases hk : Lib.keeps zs.toArray m = true
    · rw [if_pos hk, hat m (by omega)]
      constructor
      · refine List.pairwise_append.2 ⟨h1, by simp, fun a ha b hb => ?_⟩
        obtain ⟨j, hj, hjm, e⟩ := (h2 a).1 ha
        rw [List.mem_singleton.1 hb, ← e]
        have hk' : m = 0 ∨ zs.toArray[m]! ≠ zs.toArray[m - 1]! := by simpa [Lib.keeps] using hk
        rcases hk' with hk' | hk'
        · omega
        · rw [hat m (by omega), hat (m - 1) (by omega)] at hk'
          have l1 : zs[m - 1] < zs[m] := by
            rcases List.le_iff_lt_or_eq.1 (hle (m - 1) m (by omega) (by omega) (by omega)) with h | h
            · exact h
            · exact absurd h.symm hk'
          rcases Nat.lt_or_ge j (m - 1) with h3 | h3
          · rcases List.le_iff_lt_or_eq.1 (hle j (m - 1) hj (by omega) h3) with h | h
            · exact List.lt_trans h l1
            · rw [h]; exact l1
          · have : j = m - 1 := by omega
            subst this
            exact l1
      · intro y
        rw [hmem, ← h2, List.mem_append, List.mem_singleton]
    · rw [if_neg hk]
      refine ⟨by simpa using h1, fun y => ?_⟩
      rw [List.append_nil, hmem, ← h2]
      constructor
      · exact .inl
      · rintro (h | h)
        · exact h
        · have hk' : ¬ (m = 0 ∨ zs.toArray[m]! ≠ zs.toArray[m - 1]!) := by simpa [Lib.keeps] using hk
          have hm0 : m ≠ 0 := fun e => hk' (.inl e)
          have he : zs.toArray[m]! = zs.toArray[m - 1]! := Classical.byContradiction fun e => hk' (.inr e)
          rw [hat m (by omega), hat (m - 1) (by omega)] at he
          rw [h, he, h2]
          exact ⟨m - 1, by omega, by omega, rfl⟩
theorem chs_unchs (l : List (List UInt8)) : chs (unchs l) = l := by
  unfold unchs chs
  rw [List.map_map]
  exact (List.map_congr_left (fun b _ => by simp)).trans (List.map_id l)
theorem chs_inj {a b : List ByteArray} (h : chs a = chs b) : a = b := by
  rw [← unchs_chs a, ← unchs_chs b, h]
/-- The list's strings, each once, in their order. -/
def namesB (l : List ByteArray) : List ByteArray := unchs (insAll [] (chs l))
theorem names_strict (l : List ByteArray) : (chs (namesB l)).Pairwise (· < ·) := by
  unfold namesB
  rw [chs_unchs]
  exact insAll_strict _ _ (by simp)
theorem names_mem (l : List ByteArray) (y : List UInt8) : y ∈ chs (namesB l) ↔ y ∈ chs l := by
  unfold namesB
  rw [chs_unchs, insAll_mem]
  simp
theorem sort_same (l : List ByteArray) : compS (sortB l) = namesB l := by
  apply chs_inj
  unfold compS sortB
  rw [chs_unchs, chs_unchs]
  obtain ⟨h1, h2⟩ := compact_facts ((chs l).mergeSort fun x y => decide (x ≤ y)) (sorted_of _) _ (Nat.le_refl _)
  refine strict_one h1 (names_strict l) (fun y => ?_)
  unfold Lib.compact
  rw [h2, names_mem]
  rw [← (List.mergeSort_perm (chs l) (fun x y => decide (x ≤ y))).mem_iff, List.mem_iff_getElem]
  constructor
  · rintro ⟨j, h, _, e⟩
    exact ⟨j, h, e⟩
  · rintro ⟨j, h, e⟩
    exact ⟨j, h, h, e⟩
theorem nodup_le {α : Type} [DecidableEq α] (l : List α) : ∀ m : List α, l.Nodup → (∀ y, y ∈ l → y ∈ m) → l.length ≤ m.length := by
  induction l with
  | nil => intro m _ _; simp
  | cons x xs ih =>
    intro m hn hs
    obtain ⟨h1, h2⟩ := List.nodup_cons.1 hn
    have hx := hs x List.mem_cons_self
    have h3 := ih (m.erase x) h2 (fun y hy => (List.mem_erase_of_ne (fun e => h1 (by rw [← e]; exact hy))).2 (hs y (List.mem_cons_of_mem _ hy)))
    have h4 := List.length_erase_of_mem hx
    have h5 := List.length_pos_of_mem hx
    simp only [List.length_cons]
    omega
theorem strict_nodup {l : List (List UInt8)} (h : l.Pairwise (· < ·)) : l.Nodup := h.imp (fun h e => by subst e; exact List.lt_irrefl _ h)
theorem names_length (l : List ByteArray) : (namesB l).length ≤ l.length := by
  have := nodup_le _ (chs l) (strict_nodup (names_strict l)) (fun y hy => (names_mem l y).1 hy)
  rwa [chs_length, chs_length] at this
theorem nodup_of_length {α : Type} [DecidableEq α] (s : List α) (hs : s.Nodup) (m : List α) (hlen : s.length = m.length) (hm : ∀ y, y ∈ s ↔ y ∈ m) : m.Nodup := by
  refine Classical.byContradiction fun hnd => ?_
  have hsplit : ∀ m : List α, ¬ m.Nodup → ∃ a x b, m = a ++ x :: b ∧ x ∈ b := by
    intro m
    induction m with
    | nil => intro h; exact absurd List.nodup_nil h
    | cons z zs ihz =>
      intro h
      by_cases hz : z ∈ zs
      · exact ⟨[], z, zs, rfl, hz⟩
      · obtain ⟨a, x, b, e, hx⟩ := ihz (fun h' => h (List.nodup_cons.2 ⟨hz, h'⟩))
        exact ⟨z :: a, x, b, by rw [e]; rfl, hx⟩
  obtain ⟨a, x, b, e, hx⟩ := hsplit m hnd
  have h1 := nodup_le s (a ++ b) hs (fun y hy => by
    have := (hm y).1 hy
    rw [e] at this
    rcases List.mem_append.1 this with h | h
    · exact List.mem_append.2 (.inl h)
    · rcases List.mem_cons.1 h with h | h
      · subst h; exact List.mem_append.2 (.inr hx)
      · exact List.mem_append.2 (.inr h))
  rw [hlen, e] at h1
  simp only [List.length_append, List.length_cons] at h1
  omega
/-- A list has no string twice if and only if sorting takes none away. -/
theorem names_all (l : List ByteArray) : (namesB l).length = l.length ↔ (chs l).Nodup := by
  constructor
  · intro h
    exact nodup_of_length _ (strict_nodup (names_strict l)) (chs l) (by rw [chs_length, chs_length]; exact h) (fun y => names_mem l y)
  · intro h
    have h1 := names_length l
    have h2 := nodup_le (chs l) (chs (namesB l)) h (fun y hy => (names_mem l y).2 hy)
    rw [chs_length, chs_length] at h2
    omega
def insB (e : ByteArray) : List ByteArray → List ByteArray
  | [] => [e]
  | x :: xs => if Op.bytesLess x.toList e.toList = true then x :: insB e xs else if x.toList = e.toList then x :: xs else e :: x :: xs
theorem chs_insB (e : ByteArray) (l : List ByteArray) : chs (insB e l) = insU e.data.toList (chs l) := by
  induction l with
  | nil => rfl
  | cons x xs ih =>
    simp only [insB, Go.Proofs.bytesLess_eq, Lib.toList_data, decide_eq_true_eq]
    have e1 : chs (x :: xs) = x.data.toList :: chs xs := rfl
    rw [e1]
    simp only [insU]
    split
    · rw [← ih]; rfl
    · split
      · rfl
      · rfl
theorem insB_length (e : ByteArray) (l : List ByteArray) : (insB e l).length ≤ l.length + 1 := by
  induction l with
  | nil => simp [insB]
  | cons x xs ih =>
    simp only [insB]
    split
    · simp only [List.length_cons]; omega
    · split <;> simp
theorem foldB_length (l : List ByteArray) : ∀ acc : List ByteArray, (l.foldl (fun a e => insB e a) acc).length ≤ acc.length + l.length := by
  induction l with
  | nil => intro acc; simp
  | cons x xs ih =>
    intro acc
    have h1 := ih (insB x acc)
    have h2 := insB_length x acc
    simp only [List.foldl_cons, List.length_cons]
    omega
theorem foldB (l : List ByteArray) : ∀ acc : List ByteArray, chs (l.foldl (fun a e => insB e a) acc) = insAll (chs acc) (chs l) := by
  induction l with
  | nil => intro acc; rfl
  | cons x xs ih =>
    intro acc
    rw [List.foldl_cons, ih, chs_insB]
    rfl
theorem foldB_names (l : List ByteArray) : l.foldl (fun a e => insB e a) [] = namesB l := by
  apply chs_inj
  rw [foldB]
  unfold namesB
  rw [chs_unchs]
  rfl
end Go.Proofs.Ytandemllbnapmaa.AM
