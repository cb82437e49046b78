/- My texts for the law, laid together (part 2): PL3 N1 PL4 C3 O3 F7 F8 F9 PL6 Q1. -/
import Derived.Test.YtlmbmplhdfgmfaaDoorG1
import Derived.Sort.Walk0
import Derived.Shelf.Sort.Plain
import Derived.Shelf.Slices.CompactS
/- A renamed term is a variant, where variables have no arguments. -/
namespace Go.Proofs.YtlmbmplhdfgmfaaDoor.AM
open Go Go.Proofs
set_option linter.unusedVariables false
set_option linter.unusedSimpArgs false

/-- Variables are plain, but perhaps at the root. -/
inductive Plain : T → Prop
  | mk (k n : Int) (nm : ByteArray) (args : List T) (hv : k = 1 → n = 0 ∧ args = []) (h : ∀ a ∈ args, Plain a) : Plain (.mk k n nm args)
def PlainB : T → Prop
  | .mk k n nm args => k = 1 ∨ ∀ a ∈ args, Plain a
theorem Plain.b {t : T} (h : Plain t) : PlainB t := by
  cases h with
  | mk k n nm args hv h => exact .inr h
mutual
def T.mapV (f : ByteArray → ByteArray) : T → T
  | .mk k n nm args => .mk k n (if k = 1 then f nm else nm) (T.mapVL f args)
def T.mapVL (f : ByteArray → ByteArray) : List T → List T
  | [] => []
  | x :: xs => x.mapV f :: T.mapVL f xs
end
theorem T.mapVL_map (f : ByteArray → ByteArray) (xs : List T) : T.mapVL f xs = xs.map (T.mapV f) := by
  induction xs with
  | nil => rfl
  | cons x xs ih => simp only [T.mapVL, List.map_cons, ih]
theorem T.ren_mapV (w : ByteArray) : ∀ t : T, t.ren w = t.mapV (fun nm => nm ++ w) := by
  refine T.ind fun k n nm args ih => ?_
  simp only [T.ren, T.mapV, T.renL_map, T.mapVL_map]
  rw [List.map_congr_left ih]
theorem T.id_mapV : ∀ t : T, t.mapV (fun nm => nm) = t := by
  refine T.ind fun k n nm args ih => ?_
  simp only [T.mapV, T.mapVL_map]
  rw [List.map_congr_left (g := id) ih]
  simp
def InvM (f g : ByteArray → ByteArray) (l : List Bnd) : Prop := ∀ b ∈ l, ∃ x, b.nm = f x ∧ b.tm = .mk 1 0 (g x) []
theorem InvM.find {f g : ByteArray → ByteArray} (hfg : ∀ x y, f x = f y → g x = g y) {l : List Bnd} (h : InvM f g l) {nm : ByteArray} {t : T} (hf : findB (f nm) l = some t) : t = .mk 1 0 (g nm) [] := by
  induction l with
  | nil => cases hf
  | cons b bs ih =>
    simp only [findB] at hf
    split at hf
    · rename_i hq
      cases hf
      obtain ⟨x, h1, h2⟩ := h b (by simp)
      have h3 := ba_toList hq
      rw [h1] at h3
      rw [h2, hfg _ _ h3]
    · exact ih (fun c hc => h c (by simp [hc])) hf
theorem mat_mapV (f g : ByteArray → ByteArray) (hfg : ∀ x y, f x = f y → g x = g y) : ∀ (p : T) (l : List Bnd), Plain p → InvM f g l → ∃ l', T.matF (p.mapV f) (p.mapV g) l = some l' ∧ InvM f g l' := by
  refine T.ind fun k n nm args ih l hp hl => ?_
  obtain ⟨_, _, _, _, hv, ha⟩ := hp
  simp only [T.mapV, T.mapVL_map]
  cases hk : (k == 1) with
  | true =>
    have hk1 : k = 1 := by simpa using hk
    obtain ⟨rfl, rfl⟩ := hv hk1
    subst hk1
    rw [T.matF_var hk]
    simp only [if_true, List.map_nil]
    split
    · rename_i hs
      obtain ⟨t, ht⟩ := Option.isSome_iff_exists.1 hs
      have e := hl.find hfg ht
      rw [if_pos (by simp only [findD, ht, Option.getD_some]; rw [e]; exact (T.eqv_iff _ _).2 rfl)]
      exact ⟨l, rfl, hl⟩
    · refine ⟨_, rfl, fun b hb => ?_⟩
      rcases List.mem_append.1 hb with hb | hb
      · exact hl b hb
      · cases List.mem_singleton.1 hb
        exact ⟨nm, rfl, rfl⟩
  | false =>
    have hk1 : ¬ k = 1 := by simpa using hk
    rw [T.matF_app hk]
    simp only [if_neg hk1]
    rw [if_pos (by simp)]
    have hL : ∀ (qs : List T), (∀ q ∈ qs, ∀ l, Plain q → InvM f g l → ∃ l', T.matF (q.mapV f) (q.mapV g) l = some l' ∧ InvM f g l') → (∀ q ∈ qs, Plain q) → ∀ l, InvM f g l → ∃ l', T.matL (qs.map (T.mapV f)) (qs.map (T.mapV g)) l = some l' ∧ InvM f g l' := by
      intro qs
      induction qs with
      | nil => intro _ _ l hl; exact ⟨l, rfl, hl⟩
      | cons q qs ihq =>
        intro h hq l hl
        obtain ⟨l1, h1, h2⟩ := h q (by simp) l (hq q (by simp)) hl
        obtain ⟨l2, h3, h4⟩ := ihq (fun a ha => h a (by simp [ha])) (fun a ha => hq a (by simp [ha])) l1 h2
        exact ⟨l2, by simp only [List.map_cons, T.matL, h1, h3], h4⟩
    exact hL args ih ha l hl
theorem mat_mapVB (f g : ByteArray → ByteArray) (hfg : ∀ x y, f x = f y → g x = g y) (p : T) (hp : PlainB p) : (T.matF (p.mapV f) (p.mapV g) []).isSome = true := by
  obtain ⟨k, n, nm, args⟩ := p
  simp only [T.mapV, T.mapVL_map]
  cases hk : (k == 1) with
  | true => rw [T.matF_var hk]; simp [findB]
  | false =>
    have hk1 : ¬ k = 1 := by simpa using hk
    have ha : ∀ a ∈ args, Plain a := hp.resolve_left hk1
    have h := mat_mapV f g hfg (.mk k n nm args) [] (.mk _ _ _ _ (fun h => absurd h hk1) ha) (fun b hb => by cases hb)
    obtain ⟨l', h1, _⟩ := h
    simp only [T.mapV, T.mapVL_map] at h1
    rw [h1]; rfl
theorem ba_append_right {a b w : ByteArray} (h : a ++ w = b ++ w) : a = b := by
  have h1 : (a ++ w).data.toList = (b ++ w).data.toList := by rw [h]
  simp only [ByteArray.data_append, Array.toList_append] at h1
  exact ByteArray.ext (Array.ext' (List.append_cancel_right h1))
/-- A renamed term is a variant of the term. -/
theorem ren_variant (w : ByteArray) (t : T) (hp : PlainB t) : (T.matF (t.ren w) t []).isSome = true ∧ (T.matF t (t.ren w) []).isSome = true := by
  have h1 := mat_mapVB (fun nm => nm ++ w) (fun nm => nm) (fun x y h => ba_append_right h) t hp
  have h2 := mat_mapVB (fun nm => nm) (fun nm => nm ++ w) (fun x y h => by rw [h]) t hp
  rw [T.id_mapV, ← T.ren_mapV] at h1 h2
  exact ⟨h1, h2⟩
mutual
/-- The nodes of a term. -/
def T.count : T → Nat
  | .mk _ _ _ args => 1 + T.countL args
def T.countL : List T → Nat
  | [] => 0
  | x :: xs => x.count + T.countL xs
end
theorem T.count_mapV (f : ByteArray → ByteArray) : ∀ t : T, (t.mapV f).count = t.count := by
  refine T.ind fun k n nm args ih => ?_
  have hL : ∀ l : List T, (∀ a ∈ l, (a.mapV f).count = a.count) → T.countL (l.map (T.mapV f)) = T.countL l := by
    intro l
    induction l with
    | nil => intro _; rfl
    | cons x xs ihx => intro h; simp only [List.map_cons, T.countL]; rw [h x (by simp), ihx fun a ha => h a (by simp [ha])]
  simp only [T.mapV, T.mapVL_map, T.count]
  rw [hL args ih]
theorem T.count_ren (w : ByteArray) (t : T) : (t.ren w).count = t.count := by rw [T.ren_mapV, T.count_mapV]
end Go.Proofs.YtlmbmplhdfgmfaaDoor.AM


/- Sorted lists of names, each once. -/
namespace Go.Proofs.YtlmbmplhdfgmfaaDoor.AM
open Go
set_option linter.unusedVariables false
set_option linter.unusedSimpArgs false

/-- The strings' letters. -/
def chs (xs : List ByteArray) : List (List UInt8) := xs.map (fun b => b.data.toList)
/-- .. and back. -/
def unchs (xs : List (List UInt8)) : List ByteArray := xs.map (fun l => (⟨l.toArray⟩ : ByteArray))
theorem unchs_chs (xs : List ByteArray) : unchs (chs xs) = xs := by
  unfold unchs chs
  rw [List.map_map]
  exact (List.map_congr_left (fun b _ => rfl)).trans (List.map_id xs)
theorem chs_length (xs : List ByteArray) : (chs xs).length = xs.length := by simp [chs]
theorem unchs_length (xs : List (List UInt8)) : (unchs xs).length = xs.length := by simp [unchs]
/-- The strings in their order. -/
def sortB (xs : List ByteArray) : List ByteArray := unchs ((chs xs).mergeSort fun x y => decide (x ≤ y))
/-- No string twice in a row. -/
def compS (xs : List ByteArray) : List ByteArray := unchs (Lib.compact (chs xs))
theorem compact_le (zs : List (List UInt8)) : (Lib.compact zs).length ≤ zs.length := by
  unfold Lib.compact Lib.compactUpTo
  rw [List.length_map]
  have := List.length_filter_le (Lib.keeps zs.toArray) (List.range zs.length)
  simpa using this
theorem sortB_length (xs : List ByteArray) : (sortB xs).length = xs.length := by
  unfold sortB
  rw [unchs_length, List.length_mergeSort, chs_length]
theorem lt_cases (a b : List UInt8) : a < b ∨ a = b ∨ b < a := by
  rcases List.le_total a b with h | h
  · rcases List.le_iff_lt_or_eq.1 h with h | h
    · exact .inl h
    · exact .inr (.inl h)
  · rcases List.le_iff_lt_or_eq.1 h with h | h
    · exact .inr (.inr h)
    · exact .inr (.inl h.symm)
/-- Put in its place, unless it is there. -/
def insU (e : List UInt8) : List (List UInt8) → List (List UInt8)
  | [] => [e]
  | x :: xs => if x < e then x :: insU e xs else if x = e then x :: xs else e :: x :: xs
theorem insU_mem (e : List UInt8) (l : List (List UInt8)) (y : List UInt8) : y ∈ insU e l ↔ y = e ∨ y ∈ l := by
  induction l with
  | nil => simp [insU]
  | cons x xs ih =>
    simp only [insU]
    by_cases h1 : x < e
    · rw [if_pos h1]
      simp only [List.mem_cons, ih]
      constructor
      · rintro (h | h | h)
        · exact .inr (.inl h)
        · exact .inl h
        · exact .inr (.inr h)
      · rintro (h | h | h)
        · exact .inr (.inl h)
        · exact .inl h
        · exact .inr (.inr h)
    · rw [if_neg h1]
      by_cases h2 : x = e
      · rw [if_pos h2]
        simp only [List.mem_cons]
        constructor
        · exact .inr
        · rintro (h | h)
          · exact .inl (h.trans h2.symm)
          · exact h
      · rw [if_neg h2]
        simp only [List.mem_cons]
theorem insU_strict (e : List UInt8) (l : List (List UInt8)) (h : l.Pairwise (· < ·)) : (insU e l).Pairwise (· < ·) := by
  induction l with
  | nil => simp [insU]
  | cons x xs ih =>
    obtain ⟨hx, hxs⟩ := List.pairwise_cons.1 h
    simp only [insU]
    by_cases h1 : x < e
    · rw [if_pos h1]
      refine List.pairwise_cons.2 ⟨fun y hy => ?_, ih hxs⟩
      rcases (insU_mem e xs y).1 hy with rfl | hy
      · exact h1
      · exact hx y hy
    · rw [if_neg h1]
      by_cases h2 : x = e
      · rw [if_pos h2]; exact h
      · rw [if_neg h2]
        have h3 : e < x := by
          rcases lt_cases x e with h | h | h
          · exact absurd h h1
          · exact absurd h h2
          · exact h
        refine List.pairwise_cons.2 ⟨fun y hy => ?_, h⟩
        rcases List.mem_cons.1 hy with rfl | hy
        · exact h3
        · exact List.lt_trans h3 (hx y hy)
def insAll (acc l : List (List UInt8)) : List (List UInt8) := l.foldl (fun a e => insU e a) acc
theorem insAll_mem (l : List (List UInt8)) : ∀ (acc : List (List UInt8)) (y : List UInt8), y ∈ insAll acc l ↔ y ∈ acc ∨ y ∈ l := by
  induction l with
  | nil => intro acc y; simp [insAll]
  | cons x xs ih =>
    intro acc y
    have := ih (insU x acc) y
    unfold insAll at this ⊢
    rw [List.foldl_cons, this, insU_mem, List.mem_cons]
    constructor
    · rintro ((h | h) | h)
      · exact .inr (.inl h)
      · exact .inl h
      · exact .inr (.inr h)
    · rintro (h | h | h)
      · exact .inl (.inr h)
      · exact .inl (.inl h)
      · exact .inr h
theorem insAll_strict (l : List (List UInt8)) : ∀ acc : List (List UInt8), acc.Pairwise (· < ·) → (insAll acc l).Pairwise (· < ·) := by
  induction l with
  | nil => intro acc h; exact h
  | cons x xs ih =>
    intro acc h
    exact ih (insU x acc) (insU_strict x acc h)
theorem strict_one {l m : List (List UInt8)} (hl : l.Pairwise (· < ·)) (hm : m.Pairwise (· < ·)) (h : ∀ y, y ∈ l ↔ y ∈ m) : l = m := by
  induction l generalizing m with
  | nil =>
    cases m with
    | nil => rfl
    | cons y ys => exact absurd ((h y).2 List.mem_cons_self) (by simp)
  | cons x xs ih =>
    cases m with
    | nil => exact absurd ((h x).1 List.mem_cons_self) (by simp)
    | cons y ys =>
      obtain ⟨hx, hxs⟩ := List.pairwise_cons.1 hl
      obtain ⟨hy, hys⟩ := List.pairwise_cons.1 hm
      have e : x = y := by
        rcases List.mem_cons.1 ((h x).1 List.mem_cons_self) with h1 | h1
        · exact h1
        · rcases List.mem_cons.1 ((h y).2 List.mem_cons_self) with h2 | h2
          · exact h2.symm
          · exact absurd (List.lt_trans (hy x h1) (hx y h2)) (List.lt_irrefl y)
      subst e
      congr 1
      refine ih hxs hys (fun z => ⟨fun hz => ?_, fun hz => ?_⟩)
      · rcases List.mem_cons.1 ((h z).1 (List.mem_cons_of_mem _ hz)) with h1 | h1
        · subst h1; exact absurd (hx z hz) (List.lt_irrefl z)
        · exact h1
      · rcases List.mem_cons.1 ((h z).2 (List.mem_cons_of_mem _ hz)) with h1 | h1
        · subst h1; exact absurd (hy z hz) (List.lt_irrefl z)
        · exact h1
theorem sorted_of (l : List (List UInt8)) : (l.mergeSort fun x y => decide (x ≤ y)).Pairwise (fun a b => a ≤ b) := by
  have h := List.pairwise_mergeSort (le := fun x y : List UInt8 => decide (x ≤ y)) (fun a b c h1 h2 => by
    simp only [decide_eq_true_eq] at *
    exact List.le_trans h1 h2) (fun a b => by
    simp only [Bool.or_eq_true, decide_eq_true_eq]
    exact List.le_total a b) l
  exact h.imp (fun h => by simpa using h)
theorem compact_facts (zs : List (List UInt8)) (hs : zs.Pairwise (fun a b => a ≤ b)) : ∀ m, m ≤ zs.length → (Lib.compactUpTo zs.toArray m).Pairwise (· < ·) ∧ ∀ y, y ∈ Lib.compactUpTo zs.toArray m ↔ ∃ j, ∃ h : j < zs.length, j < m ∧ zs[j] = y := by
  intro m
  induction m with
  | zero =>
    intro _
    simp [Lib.compactUpTo]
  | succ m ih =>
    intro hm
    obtain ⟨h1, h2⟩ := ih (by omega)
    rw [Lib.compactUpTo_succ]
    have hat : ∀ j, (h : j < zs.length) → zs.toArray[j]! = zs[j] := fun j h => by rw [getElem!_pos _ j (by simpa using h)]; simp
    have hle : ∀ i j, (hi : i < zs.length) → (hj : j < zs.length) → i < j → zs[i] ≤ zs[j] := fun i j hi hj hij => List.pairwise_iff_getElem.1 hs i j hi hj hij
    have hmem : ∀ y, (∃ j, ∃ h : j < zs.length, j < m + 1 ∧ zs[j] = y) ↔ (∃ j, ∃ h : j < zs.length, j < m ∧ zs[j] = y) ∨ y = zs[m] := by
      intro y
      constructor
      · rintro ⟨j, h, hj, e⟩
        rcases Nat.lt_or_ge j m with h3 | h3
        · exact .inl ⟨j, h, h3, e⟩
        · have : j = m := by omega
          subst this
          exact .inr e.symm
      · rintro (⟨j, h, hj, e⟩ | e)
        · exact ⟨j, h, by omega, e⟩
        · exact ⟨m, by omega, by omega, e.symm⟩
    by_cases hk : Lib.keeps zs.toArray m = true
    · rw [if_pos hk, hat m (by omega)]
      constructor
      · refine List.pairwise_append.2 ⟨h1, by simp, fun a ha b hb => ?_⟩
        obtain ⟨j, hj, hjm, e⟩ := (h2 a).1 ha
        rw [List.mem_singleton.1 hb, ← e]
        have hk' : m = 0 ∨ zs.toArray[m]! ≠ zs.toArray[m - 1]! := by simpa [Lib.keeps] using hk
        rcases hk' with hk' | hk'
        · omega
        · rw [hat m (by omega), hat (m - 1) (by omega)] at hk'
          have l1 : zs[m - 1] < zs[m] := by
            rcases List.le_iff_lt_or_eq.1 (hle (m - 1) m (by omega) (by omega) (by omega)) with h | h
            · exact h
            · exact absurd h.symm hk'
          rcases Nat.lt_or_ge j (m - 1) with h3 | h3
          · rcases List.le_iff_lt_or_eq.1 (hle j (m - 1) hj (by omega) h3) with h | h
            · exact List.lt_trans h l1
            · rw [h]; exact l1
          · have : j = m - 1 := by omega
            subst this
            exact l1
      · intro y
        rw [hmem, ← h2, List.mem_append, List.mem_singleton]
    · rw [if_neg hk]
      refine ⟨by simpa using h1, fun y => ?_⟩
      rw [List.append_nil, hmem, ← h2]
      constructor
      · exact .inl
      · rintro (h | h)
        · exact h
        · have hk' : ¬ (m = 0 ∨ zs.toArray[m]! ≠ zs.toArray[m - 1]!) := by simpa [Lib.keeps] using hk
          have hm0 : m ≠ 0 := fun e => hk' (.inl e)
          have he : zs.toArray[m]! = zs.toArray[m - 1]! := Classical.byContradiction fun e => hk' (.inr e)
          rw [hat m (by omega), hat (m - 1) (by omega)] at he
          rw [h, he, h2]
          exact ⟨m - 1, by omega, by omega, rfl⟩
theorem chs_unchs (l : List (List UInt8)) : chs (unchs l) = l := by
  unfold unchs chs
  rw [List.map_map]
  exact (List.map_congr_left (fun b _ => by simp)).trans (List.map_id l)
theorem chs_inj {a b : List ByteArray} (h : chs a = chs b) : a = b := by
  rw [← unchs_chs a, ← unchs_chs b, h]
/-- The list's strings, each once, in their order. -/
def namesB (l : List ByteArray) : List ByteArray := unchs (insAll [] (chs l))
theorem names_strict (l : List ByteArray) : (chs (namesB l)).Pairwise (· < ·) := by
  unfold namesB
  rw [chs_unchs]
  exact insAll_strict _ _ (by simp)
theorem names_mem (l : List ByteArray) (y : List UInt8) : y ∈ chs (namesB l) ↔ y ∈ chs l := by
  unfold namesB
  rw [chs_unchs, insAll_mem]
  simp
theorem sort_same (l : List ByteArray) : compS (sortB l) = namesB l := by
  apply chs_inj
  unfold compS sortB
  rw [chs_unchs, chs_unchs]
  obtain ⟨h1, h2⟩ := compact_facts ((chs l).mergeSort fun x y => decide (x ≤ y)) (sorted_of _) _ (Nat.le_refl _)
  refine strict_one h1 (names_strict l) (fun y => ?_)
  unfold Lib.compact
  rw [h2, names_mem]
  rw [← (List.mergeSort_perm (chs l) (fun x y => decide (x ≤ y))).mem_iff, List.mem_iff_getElem]
  constructor
  · rintro ⟨j, h, _, e⟩
    exact ⟨j, h, e⟩
  · rintro ⟨j, h, e⟩
    exact ⟨j, h, h, e⟩
theorem nodup_le {α : Type} [DecidableEq α] (l : List α) : ∀ m : List α, l.Nodup → (∀ y, y ∈ l → y ∈ m) → l.length ≤ m.length := by
  induction l with
  | nil => intro m _ _; simp
  | cons x xs ih =>
    intro m hn hs
    obtain ⟨h1, h2⟩ := List.nodup_cons.1 hn
    have hx := hs x List.mem_cons_self
    have h3 := ih (m.erase x) h2 (fun y hy => (List.mem_erase_of_ne (fun e => h1 (by rw [← e]; exact hy))).2 (hs y (List.mem_cons_of_mem _ hy)))
    have h4 := List.length_erase_of_mem hx
    have h5 := List.length_pos_of_mem hx
    simp only [List.length_cons]
    omega
theorem strict_nodup {l : List (List UInt8)} (h : l.Pairwise (· < ·)) : l.Nodup := h.imp (fun h e => by subst e; exact List.lt_irrefl _ h)
theorem names_length (l : List ByteArray) : (namesB l).length ≤ l.length := by
  have := nodup_le _ (chs l) (strict_nodup (names_strict l)) (fun y hy => (names_mem l y).1 hy)
  rwa [chs_length, chs_length] at this
theorem nodup_of_length {α : Type} [DecidableEq α] (s : List α) (hs : s.Nodup) (m : List α) (hlen : s.length = m.length) (hm : ∀ y, y ∈ s ↔ y ∈ m) : m.Nodup := by
  refine Classical.byContradiction fun hnd => ?_
  have hsplit : ∀ m : List α, ¬ m.Nodup → ∃ a x b, m = a ++ x :: b ∧ x ∈ b := by
    intro m
    induction m with
    | nil => intro h; exact absurd List.nodup_nil h
    | cons z zs ihz =>
      intro h
      by_cases hz : z ∈ zs
      · exact ⟨[], z, zs, rfl, hz⟩
      · obtain ⟨a, x, b, e, hx⟩ := ihz (fun h' => h (List.nodup_cons.2 ⟨hz, h'⟩))
        exact ⟨z :: a, x, b, by rw [e]; rfl, hx⟩
  obtain ⟨a, x, b, e, hx⟩ := hsplit m hnd
  have h1 := nodup_le s (a ++ b) hs (fun y hy => by
    have := (hm y).1 hy
    rw [e] at this
    rcases List.mem_append.1 this with h | h
    · exact List.mem_append.2 (.inl h)
    · rcases List.mem_cons.1 h with h | h
      · subst h; exact List.mem_append.2 (.inr hx)
      · exact List.mem_append.2 (.inr h))
  rw [hlen, e] at h1
  simp only [List.length_append, List.length_cons] at h1
  omega
/-- A list has no string twice if and only if sorting takes none away. -/
theorem names_all (l : List ByteArray) : (namesB l).length = l.length ↔ (chs l).Nodup := by
  constructor
  · intro h
    exact nodup_of_length _ (strict_nodup (names_strict l)) (chs l) (by rw [chs_length, chs_length]; exact h) (fun y => names_mem l y)
  · intro h
    have h1 := names_length l
    have h2 := nodup_le (chs l) (chs (namesB l)) h (fun y hy => (names_mem l y).2 hy)
    rw [chs_length, chs_length] at h2
    omega
def insB (e : ByteArray) : List ByteArray → List ByteArray
  | [] => [e]
  | x :: xs => if Op.bytesLess x.toList e.toList = true then x :: insB e xs else if x.toList = e.toList then x :: xs else e :: x :: xs
theorem chs_insB (e : ByteArray) (l : List ByteArray) : chs (insB e l) = insU e.data.toList (chs l) := by
  induction l with
  | nil => rfl
  | cons x xs ih =>
    simp only [insB, Go.Proofs.bytesLess_eq, Lib.toList_data, decide_eq_true_eq]
    have e1 : chs (x :: xs) = x.data.toList :: chs xs := rfl
    rw [e1]
    simp only [insU]
    split
    · rw [← ih]; rfl
    · split
      · rfl
      · rfl
theorem insB_length (e : ByteArray) (l : List ByteArray) : (insB e l).length ≤ l.length + 1 := by
  induction l with
  | nil => simp [insB]
  | cons x xs ih =>
    simp only [insB]
    split
    · simp only [List.length_cons]; omega
    · split <;> simp
theorem foldB_length (l : List ByteArray) : ∀ acc : List ByteArray, (l.foldl (fun a e => insB e a) acc).length ≤ acc.length + l.length := by
  induction l with
  | nil => intro acc; simp
  | cons x xs ih =>
    intro acc
    have h1 := ih (insB x acc)
    have h2 := insB_length x acc
    simp only [List.foldl_cons, List.length_cons]
    omega
theorem foldB (l : List ByteArray) : ∀ acc : List ByteArray, chs (l.foldl (fun a e => insB e a) acc) = insAll (chs acc) (chs l) := by
  induction l with
  | nil => intro acc; rfl
  | cons x xs ih =>
    intro acc
    rw [List.foldl_cons, ih, chs_insB]
    rfl
theorem foldB_names (l : List ByteArray) : l.foldl (fun a e => insB e a) [] = namesB l := by
  apply chs_inj
  rw [foldB]
  unfold namesB
  rw [chs_unchs]
  rfl
end Go.Proofs.YtlmbmplhdfgmfaaDoor.AM


/- Nodes, depth, names, validity of terms, in plain Lean. -/
namespace Go.Proofs.YtlmbmplhdfgmfaaDoor.AM
open Go Go.Proofs
set_option linter.unusedVariables false
set_option linter.unusedSimpArgs false

mutual
def T.depth : T → Nat
  | .mk _ _ _ args => 1 + T.depthL args
def T.depthL : List T → Nat
  | [] => 0
  | x :: xs => max x.depth (T.depthL xs)
end
theorem T.countL_app (xs ys : List T) : T.countL (xs ++ ys) = T.countL xs + T.countL ys := by
  induction xs with
  | nil => simp [T.countL]
  | cons x xs ih => simp only [List.cons_append, T.countL, ih]; omega
theorem T.depthL_app (xs ys : List T) : T.depthL (xs ++ ys) = max (T.depthL xs) (T.depthL ys) := by
  induction xs with
  | nil => simp [T.depthL]
  | cons x xs ih => simp only [List.cons_append, T.depthL, ih]; omega
theorem T.depth_count : ∀ t : T, t.depth ≤ t.count := by
  refine T.ind fun k n nm args ih => ?_
  have hL : ∀ l : List T, (∀ a ∈ l, a.depth ≤ a.count) → T.depthL l ≤ T.countL l := by
    intro l
    induction l with
    | nil => intro _; exact Nat.le_refl _
    | cons x xs ihx =>
      intro h
      have h1 := h x (by simp)
      have h2 := ihx fun a ha => h a (by simp [ha])
      simp only [T.depthL, T.countL]; omega
  have := hL args ih
  simp only [T.depth, T.count]; omega
theorem T.count_pos (t : T) : 1 ≤ t.count := by cases t; simp only [T.count]; omega
theorem T.count_wt : ∀ t : T, t.count ≤ t.wt + 1 := by
  refine T.ind fun k n nm args ih => ?_
  have hL : ∀ l : List T, (∀ a ∈ l, a.count ≤ a.wt + 1) → T.countL l ≤ T.wtL l + l.length := by
    intro l
    induction l with
    | nil => intro _; exact Nat.le_refl _
    | cons x xs ihx =>
      intro h
      have h1 := h x (by simp)
      have h2 := ihx fun a ha => h a (by simp [ha])
      simp only [T.wtL, T.countL, List.length_cons]; omega
  have := hL args ih
  simp only [T.wt, T.count]; omega
theorem T.countL_wt (l : List T) : T.countL l ≤ T.wtL l + l.length := by
  induction l with
  | nil => exact Nat.le_refl _
  | cons x xs ihx =>
    have h1 := T.count_wt x
    simp only [T.wtL, T.countL, List.length_cons]; omega

/-- A small letter, or a digit. -/
def lowDig (b : UInt8) : Bool := (decide (97 ≤ b.toNat) && decide (b.toNat ≤ 122)) || (decide (48 ≤ b.toNat) && decide (b.toNat ≤ 57))
/-- A name: 1 to 8 bytes, the first between two letters, the others small letters and digits. -/
def isNm (lo hi : Nat) : List UInt8 → Bool
  | [] => false
  | b :: bs => (decide (lo ≤ b.toNat) && decide (b.toNat ≤ hi)) && (bs.all lowDig && decide (bs.length ≤ 7))
def isName (s : ByteArray) : Bool := isNm 97 122 s.data.toList
def isVar (s : ByteArray) : Bool := isNm 65 90 s.data.toList
theorem name_var (s : ByteArray) : (isName s && isVar s) = false := by
  unfold isName isVar isNm
  split
  · rfl
  · rename_i b bs h
    by_cases h1 : 97 ≤ b.toNat
    · have h2 : ¬ b.toNat ≤ 90 := by omega
      simp [h1, h2]
    · simp [h1]
def nodeOk (k n : Int) (nm : ByteArray) (args : List T) : Bool :=
  if k = 1 then isVar nm && ((n == 0) && ((args.length : Int) == 0))
  else if k = 2 then isName nm && (n == 0)
  else if k = 3 then (nm.toList == (⟨#[]⟩ : ByteArray).toList) && ((decide (n ≥ 0) && decide (n ≤ 3)) && ((args.length : Int) == 0))
  else false
mutual
def T.nodes : T → Bool
  | .mk k n nm args => T.nodesL args && nodeOk k n nm args
def T.nodesL : List T → Bool
  | [] => true
  | x :: xs => x.nodes && T.nodesL xs
end
theorem T.nodesL_all (xs : List T) : T.nodesL xs = xs.all T.nodes := by
  induction xs with
  | nil => rfl
  | cons x xs ih => simp only [T.nodesL, List.all_cons, ih]
def T.valid (t : T) : Bool := decide (t.count ≤ 60) && (decide (t.depth ≤ 16) && t.nodes)
end Go.Proofs.YtlmbmplhdfgmfaaDoor.AM


/- Words: spec.l1In, the built-in operators, the tests for words, their operations. -/
namespace Go.Proofs.YtlmbmplhdfgmfaaDoor.AM
open Go Go.Proofs
set_option linter.unusedVariables false
set_option linter.unusedSimpArgs false
set_option maxRecDepth 100000
attribute [local go_sem] List.map_cons List.map_nil List.all_cons List.all_nil Bool.and_self Option.map_some List.getElem?_toArray Option.bind_some gye_b gye_t gsk_b gsk_t gb1 gb2 gb3 gb4 bne_self_eq_false beq_self_eq_true w_guard w_nil stepV_some step_some step_some' w_move w_assign w_pick w_binOp w_unOp w_load w_fieldAddr w_indexAddr w_len w_max w_index ev_max max_int ev_index w_box w_alloc w_store w_field w_extract w_nilCheck w_convert w_buildSlice w_build ev_buildL fillL_nil fillL_cons bs0 bs1 ev_conv ev_bin ev_un ev_pick ev_load ev_fieldAddr ev_indexAddr ev_len ev_field ev_extract ev_nilCheck fr_tmp fr_int fr_bool fr_str fr_nil fr_func put_some put_none bin_lss bin_leq bin_gtr bin_geq bin_eql bin_neq bin_add bin_sub bin_mul bin_seql bin_sneq un_not pick_ ext_ loadA_p cellAt_l cellAt_h okPtr_l okPtr_h fadA_p allocA_l storeA_l cells_agg cells_int cells_str cells_sl cells_bool flat_i flat_s flat_b flat_sl flat_nil loc_agg loc_int loc_str loc_sl loc_bool loc_fn loc_ptr okv_agg okv_int okv_str okv_sl okv_bool cellsFrom splice upd_eval argEnv_zero argEnv_succ ne_eq Nat.add_one_ne_zero not_false_eq_true List.not_mem_nil and_self decide_true List.getElem?_cons_zero List.getElem?_cons_succ List.size_toArray List.length_cons List.length_nil List.take_succ_cons List.take_zero List.drop_succ_cons List.drop_zero List.cons_append List.nil_append List.drop_nil Bool.not_true Bool.not_false Bool.false_eq_true Nat.zero_add Nat.add_zero wrap_in List.toList_toArray List.mem_cons or_self or_false false_or
attribute [local go_sem] ag22 ag24 ag3 ag4 ag5 ag58 ag70 ag9 bu24 bu32 bu37 bu76 bu87 by24 by5 el22 el54 of24_0 of24_1 of24_2 of24_3 of32_0 of32_1 of32_2 of37_0 ro24_1 ro5_1 sz22 sz24 sz3 sz4 sz5 sz58 sz70 sz9 ze24 ze5 ze78 ze92

theorem l1In_ok (a b c : Int) (st : St) : CallS Tryd.prog 41 [.int .i64 a, .int .i64 b, .int .i64 c] st fun r st' => r = .bool (decide (a ≥ b) && decide (a ≤ c)) ∧ st' = st := by
  refine CallS_of_W [] 15 Tryd.func41 rfl rfl rfl rfl (by simp) ?_
  by_cases h : a ≥ b
  · have c1 : decide (a ≥ b) = true := by simpa using h
    repeat (first | (refine W_reg rfl fun G K hG hK => ?_; simp (disch := omega) only [go_sem, ↓reduceIte, Nat.reduceEqDiff, Nat.reduceAdd, Nat.reduceLeDiff, hG, c1]; refine hK _ _ ?_; clear hK K hG G) | (refine W_end rfl fun G K hG hK => ?_; simp (disch := omega) only [go_sem, ↓reduceIte, Nat.reduceEqDiff, Nat.reduceAdd, Nat.reduceLeDiff, hG, c1]; refine hK _ _ ?_; clear hK K hG G; repeat (first | refine thenI ?_ | refine thenE ?_ | refine thenR ?_ | refine inBI ?_ | refine inBR ?_ | refine inBS ?_ | refine inBN (by decide) ?_)) | refine W_seqS ?_ | refine W_seqC ?_ | refine W_seqB ?_ | refine W_block ?_ | (refine W_skip ?_; repeat (first | refine thenI ?_ | refine thenE ?_ | refine thenR ?_ | refine inBI ?_ | refine inBR ?_ | refine inBS ?_ | refine inBN (by decide) ?_)) | (refine W_condT ?hc ?_; (case hc => (simp (disch := omega) only [go_sem, ↓reduceIte, Nat.reduceEqDiff, Nat.reduceAdd, Nat.reduceLeDiff, c1]; done))) | (refine W_condF ?hc ?_; (case hc => (simp (disch := omega) only [go_sem, ↓reduceIte, Nat.reduceEqDiff, Nat.reduceAdd, Nat.reduceLeDiff, c1]; done))))
    refine W_ret ?_; try (repeat (first | refine thenI ?_ | refine thenE ?_ | refine thenR ?_ | refine inBI ?_ | refine inBR ?_ | refine inBS ?_ | refine inBN (by decide) ?_))
    refine fin1 (.inl rfl) (by (simp (disch := omega) only [go_sem, ↓reduceIte, Nat.reduceEqDiff, Nat.reduceAdd, Nat.reduceLeDiff]); try rfl) rfl ⟨by rw [c1, Bool.true_and], rfl⟩
  · have c1 : decide (a ≥ b) = false := by simpa using h
    repeat (first | (refine W_reg rfl fun G K hG hK => ?_; simp (disch := omega) only [go_sem, ↓reduceIte, Nat.reduceEqDiff, Nat.reduceAdd, Nat.reduceLeDiff, hG, c1]; refine hK _ _ ?_; clear hK K hG G) | (refine W_end rfl fun G K hG hK => ?_; simp (disch := omega) only [go_sem, ↓reduceIte, Nat.reduceEqDiff, Nat.reduceAdd, Nat.reduceLeDiff, hG, c1]; refine hK _ _ ?_; clear hK K hG G; repeat (first | refine thenI ?_ | refine thenE ?_ | refine thenR ?_ | refine inBI ?_ | refine inBR ?_ | refine inBS ?_ | refine inBN (by decide) ?_)) | refine W_seqS ?_ | refine W_seqC ?_ | refine W_seqB ?_ | refine W_block ?_ | (refine W_skip ?_; repeat (first | refine thenI ?_ | refine thenE ?_ | refine thenR ?_ | refine inBI ?_ | refine inBR ?_ | refine inBS ?_ | refine inBN (by decide) ?_)) | (refine W_condT ?hc ?_; (case hc => (simp (disch := omega) only [go_sem, ↓reduceIte, Nat.reduceEqDiff, Nat.reduceAdd, Nat.reduceLeDiff, c1]; done))) | (refine W_condF ?hc ?_; (case hc => (simp (disch := omega) only [go_sem, ↓reduceIte, Nat.reduceEqDiff, Nat.reduceAdd, Nat.reduceLeDiff, c1]; done))))
    refine W_ret ?_; try (repeat (first | refine thenI ?_ | refine thenE ?_ | refine thenR ?_ | refine inBI ?_ | refine inBR ?_ | refine inBS ?_ | refine inBN (by decide) ?_))
    refine fin1 (.inl rfl) (by (simp (disch := omega) only [go_sem, ↓reduceIte, Nat.reduceEqDiff, Nat.reduceAdd, Nat.reduceLeDiff]); try rfl) rfl ⟨by rw [c1, Bool.false_and], rfl⟩

def plusB : ByteArray := ⟨#[112, 108, 117, 115]⟩
def minusB : ByteArray := ⟨#[109, 105, 110, 117, 115]⟩
def timesB : ByteArray := ⟨#[116, 105, 109, 101, 115]⟩
def isB (s : ByteArray) : Bool := s.toList == plusB.toList || (s.toList == minusB.toList || s.toList == timesB.toList)
/-- A word: one of the four. -/
def T.isW : T → Bool
  | .mk k n nm args => (k == 3) && (decide (n ≥ 0) && decide (n ≤ 3)) && (nm.toList == (⟨#[]⟩ : ByteArray).toList) && ((args.length : Int) == 0)
theorem implIsW_of (k n : Int) (nm : ByteArray) (args : List T) (st : St) (s : Value) (hr : Row (Enc st) 4 st args s) : CallS Tryd.prog 39 [.agg #[.int .i64 k, .int .i64 n, .string nm, s]] st fun r st' => r = .bool (T.mk k n nm args).isW ∧ st' = st := by
  refine CallS_of_W [] 27 Tryd.func39 rfl rfl rfl rfl (by simp) ?_
  have hlen := row_len hr Tryd.underlying22
  have n1 := hr.notLoc.1
  have n2 := hr.notLoc.2
  have h4 : decide (n < 4) = decide (n ≤ 3) := by
    rw [decide_eq_decide]; omega
  cases h1 : (k == 3) with
  | false =>
    repeat (first | (refine W_reg rfl fun G K hG hK => ?_; simp (disch := omega) only [go_sem, ↓reduceIte, Nat.reduceEqDiff, Nat.reduceAdd, Nat.reduceLeDiff, hG, h1]; refine hK _ _ ?_; clear hK K hG G) | (refine W_end rfl fun G K hG hK => ?_; simp (disch := omega) only [go_sem, ↓reduceIte, Nat.reduceEqDiff, Nat.reduceAdd, Nat.reduceLeDiff, hG, h1]; refine hK _ _ ?_; clear hK K hG G; repeat (first | refine thenI ?_ | refine thenE ?_ | refine thenR ?_ | refine inBI ?_ | refine inBR ?_ | refine inBS ?_ | refine inBN (by decide) ?_)) | refine W_seqS ?_ | refine W_seqC ?_ | refine W_seqB ?_ | refine W_block ?_ | (refine W_skip ?_; repeat (first | refine thenI ?_ | refine thenE ?_ | refine thenR ?_ | refine inBI ?_ | refine inBR ?_ | refine inBS ?_ | refine inBN (by decide) ?_)) | (refine W_condT ?hc ?_; (case hc => (simp (disch := omega) only [go_sem, ↓reduceIte, Nat.reduceEqDiff, Nat.reduceAdd, Nat.reduceLeDiff, h1]; done))) | (refine W_condF ?hc ?_; (case hc => (simp (disch := omega) only [go_sem, ↓reduceIte, Nat.reduceEqDiff, Nat.reduceAdd, Nat.reduceLeDiff, h1]; done))))
    refine W_ret ?_; try (repeat (first | refine thenI ?_ | refine thenE ?_ | refine thenR ?_ | refine inBI ?_ | refine inBR ?_ | refine inBS ?_ | refine inBN (by decide) ?_))
    refine fin1 (.inl rfl) (by (simp (disch := omega) only [go_sem, ↓reduceIte, Nat.reduceEqDiff, Nat.reduceAdd, Nat.reduceLeDiff]); try rfl) rfl ⟨by simp [T.isW, h1], rfl⟩
  | true =>
    cases h2 : decide (n ≥ 0) with
    | false =>
      repeat (first | (refine W_reg rfl fun G K hG hK => ?_; simp (disch := omega) only [go_sem, ↓reduceIte, Nat.reduceEqDiff, Nat.reduceAdd, Nat.reduceLeDiff, hG, h1, h2]; refine hK _ _ ?_; clear hK K hG G) | (refine W_end rfl fun G K hG hK => ?_; simp (disch := omega) only [go_sem, ↓reduceIte, Nat.reduceEqDiff, Nat.reduceAdd, Nat.reduceLeDiff, hG, h1, h2]; refine hK _ _ ?_; clear hK K hG G; repeat (first | refine thenI ?_ | refine thenE ?_ | refine thenR ?_ | refine inBI ?_ | refine inBR ?_ | refine inBS ?_ | refine inBN (by decide) ?_)) | refine W_seqS ?_ | refine W_seqC ?_ | refine W_seqB ?_ | refine W_block ?_ | (refine W_skip ?_; repeat (first | refine thenI ?_ | refine thenE ?_ | refine thenR ?_ | refine inBI ?_ | refine inBR ?_ | refine inBS ?_ | refine inBN (by decide) ?_)) | (refine W_condT ?hc ?_; (case hc => (simp (disch := omega) only [go_sem, ↓reduceIte, Nat.reduceEqDiff, Nat.reduceAdd, Nat.reduceLeDiff, h1, h2]; done))) | (refine W_condF ?hc ?_; (case hc => (simp (disch := omega) only [go_sem, ↓reduceIte, Nat.reduceEqDiff, Nat.reduceAdd, Nat.reduceLeDiff, h1, h2]; done))))
      refine W_ret ?_; try (repeat (first | refine thenI ?_ | refine thenE ?_ | refine thenR ?_ | refine inBI ?_ | refine inBR ?_ | refine inBS ?_ | refine inBN (by decide) ?_))
      refine fin1 (.inl rfl) (by (simp (disch := omega) only [go_sem, ↓reduceIte, Nat.reduceEqDiff, Nat.reduceAdd, Nat.reduceLeDiff]); try rfl) rfl ⟨by simp only [T.isW, h1, h2]; rfl, rfl⟩
    | true =>
      cases h3 : decide (n ≤ 3) with
      | false =>
        repeat (first | (refine W_reg rfl fun G K hG hK => ?_; simp (disch := omega) only [go_sem, ↓reduceIte, Nat.reduceEqDiff, Nat.reduceAdd, Nat.reduceLeDiff, hG, h1, h2, h4, h3]; refine hK _ _ ?_; clear hK K hG G) | (refine W_end rfl fun G K hG hK => ?_; simp (disch := omega) only [go_sem, ↓reduceIte, Nat.reduceEqDiff, Nat.reduceAdd, Nat.reduceLeDiff, hG, h1, h2, h4, h3]; refine hK _ _ ?_; clear hK K hG G; repeat (first | refine thenI ?_ | refine thenE ?_ | refine thenR ?_ | refine inBI ?_ | refine inBR ?_ | refine inBS ?_ | refine inBN (by decide) ?_)) | refine W_seqS ?_ | refine W_seqC ?_ | refine W_seqB ?_ | refine W_block ?_ | (refine W_skip ?_; repeat (first | refine thenI ?_ | refine thenE ?_ | refine thenR ?_ | refine inBI ?_ | refine inBR ?_ | refine inBS ?_ | refine inBN (by decide) ?_)) | (refine W_condT ?hc ?_; (case hc => (simp (disch := omega) only [go_sem, ↓reduceIte, Nat.reduceEqDiff, Nat.reduceAdd, Nat.reduceLeDiff, h1, h2, h4, h3]; done))) | (refine W_condF ?hc ?_; (case hc => (simp (disch := omega) only [go_sem, ↓reduceIte, Nat.reduceEqDiff, Nat.reduceAdd, Nat.reduceLeDiff, h1, h2, h4, h3]; done))))
        refine W_ret ?_; try (repeat (first | refine thenI ?_ | refine thenE ?_ | refine thenR ?_ | refine inBI ?_ | refine inBR ?_ | refine inBS ?_ | refine inBN (by decide) ?_))
        refine fin1 (.inl rfl) (by (simp (disch := omega) only [go_sem, ↓reduceIte, Nat.reduceEqDiff, Nat.reduceAdd, Nat.reduceLeDiff]); try rfl) rfl ⟨by simp only [T.isW, h1, h2, h3]; rfl, rfl⟩
      | true =>
        cases h5 : (nm.toList == (⟨#[]⟩ : ByteArray).toList) with
        | false =>
          repeat (first | (refine W_reg rfl fun G K hG hK => ?_; simp (disch := omega) only [go_sem, ↓reduceIte, Nat.reduceEqDiff, Nat.reduceAdd, Nat.reduceLeDiff, hG, h1, h2, h4, h3, h5]; refine hK _ _ ?_; clear hK K hG G) | (refine W_end rfl fun G K hG hK => ?_; simp (disch := omega) only [go_sem, ↓reduceIte, Nat.reduceEqDiff, Nat.reduceAdd, Nat.reduceLeDiff, hG, h1, h2, h4, h3, h5]; refine hK _ _ ?_; clear hK K hG G; repeat (first | refine thenI ?_ | refine thenE ?_ | refine thenR ?_ | refine inBI ?_ | refine inBR ?_ | refine inBS ?_ | refine inBN (by decide) ?_)) | refine W_seqS ?_ | refine W_seqC ?_ | refine W_seqB ?_ | refine W_block ?_ | (refine W_skip ?_; repeat (first | refine thenI ?_ | refine thenE ?_ | refine thenR ?_ | refine inBI ?_ | refine inBR ?_ | refine inBS ?_ | refine inBN (by decide) ?_)) | (refine W_condT ?hc ?_; (case hc => (simp (disch := omega) only [go_sem, ↓reduceIte, Nat.reduceEqDiff, Nat.reduceAdd, Nat.reduceLeDiff, h1, h2, h4, h3, h5]; done))) | (refine W_condF ?hc ?_; (case hc => (simp (disch := omega) only [go_sem, ↓reduceIte, Nat.reduceEqDiff, Nat.reduceAdd, Nat.reduceLeDiff, h1, h2, h4, h3, h5]; done))))
          refine W_ret ?_; try (repeat (first | refine thenI ?_ | refine thenE ?_ | refine thenR ?_ | refine inBI ?_ | refine inBR ?_ | refine inBS ?_ | refine inBN (by decide) ?_))
          refine fin1 (.inl rfl) (by (simp (disch := omega) only [go_sem, ↓reduceIte, Nat.reduceEqDiff, Nat.reduceAdd, Nat.reduceLeDiff]); try rfl) rfl ⟨by simp only [T.isW, h1, h2, h3, h5]; rfl, rfl⟩
        | true =>
          repeat (first | (refine W_reg rfl fun G K hG hK => ?_; simp (disch := omega) only [go_sem, ↓reduceIte, Nat.reduceEqDiff, Nat.reduceAdd, Nat.reduceLeDiff, hG, h1, h2, h4, h3, h5, hlen]; refine hK _ _ ?_; clear hK K hG G) | (refine W_end rfl fun G K hG hK => ?_; simp (disch := omega) only [go_sem, ↓reduceIte, Nat.reduceEqDiff, Nat.reduceAdd, Nat.reduceLeDiff, hG, h1, h2, h4, h3, h5, hlen]; refine hK _ _ ?_; clear hK K hG G; repeat (first | refine thenI ?_ | refine thenE ?_ | refine thenR ?_ | refine inBI ?_ | refine inBR ?_ | refine inBS ?_ | refine inBN (by decide) ?_)) | refine W_seqS ?_ | refine W_seqC ?_ | refine W_seqB ?_ | refine W_block ?_ | (refine W_skip ?_; repeat (first | refine thenI ?_ | refine thenE ?_ | refine thenR ?_ | refine inBI ?_ | refine inBR ?_ | refine inBS ?_ | refine inBN (by decide) ?_)) | (refine W_condT ?hc ?_; (case hc => (simp (disch := omega) only [go_sem, ↓reduceIte, Nat.reduceEqDiff, Nat.reduceAdd, Nat.reduceLeDiff, h1, h2, h4, h3, h5, hlen]; done))) | (refine W_condF ?hc ?_; (case hc => (simp (disch := omega) only [go_sem, ↓reduceIte, Nat.reduceEqDiff, Nat.reduceAdd, Nat.reduceLeDiff, h1, h2, h4, h3, h5, hlen]; done))))
          refine W_ret ?_; try (repeat (first | refine thenI ?_ | refine thenE ?_ | refine thenR ?_ | refine inBI ?_ | refine inBR ?_ | refine inBS ?_ | refine inBN (by decide) ?_))
          refine fin1 (.inl rfl) (by (simp (disch := omega) only [go_sem, ↓reduceIte, Nat.reduceEqDiff, Nat.reduceAdd, Nat.reduceLeDiff]); try rfl) rfl ⟨by simp only [T.isW, h1, h2, h3, h5]; rfl, rfl⟩

def opW (f : ByteArray) (a b : Int) : Int := if (f.toList == plusB.toList) = true then (a + b).tmod 4 else if (f.toList == minusB.toList) = true then (a - b + 4).tmod 4 else (a * b).tmod 4
theorem op_facts : ∀ a b : _root_.Fin 4, ((((a.1 : Int) + b.1).tmod 4 + 4).tmod 4 = ((a.1 : Int) + b.1).tmod 4 ∧ (((a.1 : Int) - b.1).tmod 4 + 4).tmod 4 = ((a.1 : Int) - b.1 + 4).tmod 4 ∧ (((a.1 : Int) * b.1).tmod 4 + 4).tmod 4 = ((a.1 : Int) * b.1).tmod 4 ∧
    IntKind.i64.wrap ((a.1 : Int) + b.1) = (a.1 : Int) + b.1 ∧ IntKind.i64.wrap ((a.1 : Int) - b.1) = (a.1 : Int) - b.1 ∧ IntKind.i64.wrap ((a.1 : Int) * b.1) = (a.1 : Int) * b.1 ∧ IntKind.i64.wrap ((a.1 : Int) - b.1 + 4) = (a.1 : Int) - b.1 + 4 ∧
    IntKind.i64.wrap (((a.1 : Int) + b.1).tmod 4 + 4) = ((a.1 : Int) + b.1).tmod 4 + 4 ∧ IntKind.i64.wrap (((a.1 : Int) - b.1).tmod 4 + 4) = ((a.1 : Int) - b.1).tmod 4 + 4 ∧ IntKind.i64.wrap (((a.1 : Int) * b.1).tmod 4 + 4) = ((a.1 : Int) * b.1).tmod 4 + 4) := by decide +kernel
theorem op_factsI (a b : Int) (ha : 0 ≤ a ∧ a ≤ 3) (hb : 0 ≤ b ∧ b ≤ 3) : (((a + b).tmod 4 + 4).tmod 4 = (a + b).tmod 4 ∧ ((a - b).tmod 4 + 4).tmod 4 = (a - b + 4).tmod 4 ∧ ((a * b).tmod 4 + 4).tmod 4 = (a * b).tmod 4 ∧
    IntKind.i64.wrap (a + b) = a + b ∧ IntKind.i64.wrap (a - b) = a - b ∧ IntKind.i64.wrap (a * b) = a * b ∧ IntKind.i64.wrap (a - b + 4) = a - b + 4 ∧
    IntKind.i64.wrap ((a + b).tmod 4 + 4) = (a + b).tmod 4 + 4 ∧ IntKind.i64.wrap ((a - b).tmod 4 + 4) = (a - b).tmod 4 + 4 ∧ IntKind.i64.wrap ((a * b).tmod 4 + 4) = (a * b).tmod 4 + 4) := by
  have h := op_facts ⟨a.toNat, by omega⟩ ⟨b.toNat, by omega⟩
  have e1 : ((a.toNat : Nat) : Int) = a := by omega
  have e2 : ((b.toNat : Nat) : Int) = b := by omega
  simp only [e1, e2] at h
  exact h
theorem rem4 {k : IntKind} {P : Program} {t : TypeId} {x y : Operand} {a : Int} : binE P .rem t x y (.int k a) (.int k 4) = some (.int k (a.tmod 4)) := bin_rem (by decide)
end Go.Proofs.YtlmbmplhdfgmfaaDoor.AM


/- Names: impl.isNamed, IsName, IsVarName; spec.l2Lower, l2Digit, l2Rest, IsName, IsVarName. -/
namespace Go.Proofs.YtlmbmplhdfgmfaaDoor.AM
open Go Go.Proofs
set_option linter.unusedVariables false
set_option linter.unusedSimpArgs false
set_option maxRecDepth 100000
attribute [local go_sem] List.map_cons List.map_nil List.all_cons List.all_nil Bool.and_self Option.map_some List.getElem?_toArray Option.bind_some gye_b gye_t gsk_b gsk_t gb1 gb2 gb3 gb4 bne_self_eq_false beq_self_eq_true w_guard w_nil stepV_some step_some step_some' w_move w_assign w_pick w_binOp w_unOp w_load w_fieldAddr w_indexAddr w_len w_max w_index ev_max max_int ev_index w_box w_alloc w_store w_field w_extract w_nilCheck w_convert w_buildSlice w_build ev_buildL fillL_nil fillL_cons bs0 bs1 ev_conv ev_bin ev_un ev_pick ev_load ev_fieldAddr ev_indexAddr ev_len ev_field ev_extract ev_nilCheck fr_tmp fr_int fr_bool fr_str fr_nil fr_func put_some put_none bin_lss bin_leq bin_gtr bin_geq bin_eql bin_neq bin_add bin_sub bin_mul bin_seql bin_sneq un_not pick_ ext_ loadA_p cellAt_l cellAt_h okPtr_l okPtr_h fadA_p allocA_l storeA_l cells_agg cells_int cells_str cells_sl cells_bool flat_i flat_s flat_b flat_sl flat_nil loc_agg loc_int loc_str loc_sl loc_bool loc_fn loc_ptr okv_agg okv_int okv_str okv_sl okv_bool cellsFrom splice upd_eval argEnv_zero argEnv_succ ne_eq Nat.add_one_ne_zero not_false_eq_true List.not_mem_nil and_self decide_true List.getElem?_cons_zero List.getElem?_cons_succ List.size_toArray List.length_cons List.length_nil List.take_succ_cons List.take_zero List.drop_succ_cons List.drop_zero List.cons_append List.nil_append List.drop_nil Bool.not_true Bool.not_false Bool.false_eq_true Nat.zero_add Nat.add_zero wrap_in List.toList_toArray List.mem_cons or_self or_false false_or
attribute [local go_sem] ag22 ag24 ag3 ag4 ag5 ag58 ag70 ag9 bu24 bu32 bu37 bu76 bu87 by24 by5 el22 el54 of24_0 of24_1 of24_2 of24_3 of32_0 of32_1 of32_2 of37_0 ro24_1 ro5_1 sz22 sz24 sz3 sz4 sz5 sz58 sz70 sz9 ze24 ze5 ze78 ze92
-- AUTO

theorem flat_i8 {k : IntKind} {i : Int} : flat (.int k i) = true := rfl
theorem wrap_u8 (x : Int) (h0 : 0 ≤ x) (h1 : x ≤ 255) : IntKind.u8.wrap x = x := by
  rw [IntKind.wrap_u8]; omega
theorem drop_byte {s : ByteArray} {i : Nat} (h : i < s.size) : ∃ b r, s.data.toList.drop i = b :: r ∧ byteAt s i = (b.toNat : Int) ∧ s.data.toList.drop (i + 1) = r := by
  have h5 : i < s.data.toList.length := by simpa using h
  refine ⟨s.data.toList[i], s.data.toList.drop (i + 1), List.drop_eq_getElem_cons h5, ?_, rfl⟩
  unfold byteAt
  rw [List.getD_eq_getElem?_getD, List.getElem?_eq_getElem h5]
  rfl
theorem size_list (s : ByteArray) : s.size = s.data.toList.length := by simp
theorem nm_of {lo hi : Nat} {s : ByteArray} {b : UInt8} {r : List UInt8} (h : s.data.toList = b :: r) : isNm lo hi s.data.toList = ((decide (lo ≤ b.toNat) && decide (b.toNat ≤ hi)) && (r.all lowDig && decide (r.length ≤ 7))) := by rw [h]; rfl
theorem implNamed_ok (s : ByteArray) (lo hi : Nat) (st : St) : CallS Tryd.prog 37 [.string s, .int .u8 lo, .int .u8 hi] st fun r st' => r = .bool (isNm lo hi s.data.toList) ∧ st' = st := by
  refine CallS_of_W [] 56 Tryd.func37 rfl rfl rfl rfl (by simp) ?_
  have hlen : lenE Tryd.prog 9 (.string s) = some (.int .i64 s.size) := len_str Tryd.underlying9
  have hix := fun (k : IntKind) (i : Int) (h0 : 0 ≤ i) (h1 : i < s.size) => idxS (k := k) Tryd.underlying9 h0 h1
  by_cases h1 : s.size < 1
  · have c1 : decide ((s.size : Int) < 1) = true := by simp; omega
    repeat (first | (refine W_reg rfl fun G K hG hK => ?_; simp (disch := omega) only [go_sem, ↓reduceIte, Nat.reduceEqDiff, Nat.reduceAdd, Nat.reduceLeDiff, hG, hlen, hix, w_index, ev_index, c1]; refine hK _ _ ?_; clear hK K hG G) | (refine W_end rfl fun G K hG hK => ?_; simp (disch := omega) only [go_sem, ↓reduceIte, Nat.reduceEqDiff, Nat.reduceAdd, Nat.reduceLeDiff, hG, hlen, hix, w_index, ev_index, c1]; refine hK _ _ ?_; clear hK K hG G; repeat (first | refine thenI ?_ | refine thenE ?_ | refine thenR ?_ | refine inBI ?_ | refine inBR ?_ | refine inBS ?_ | refine inBN (by decide) ?_)) | refine W_seqS ?_ | refine W_seqC ?_ | refine W_seqB ?_ | refine W_block ?_ | (refine W_skip ?_; repeat (first | refine thenI ?_ | refine thenE ?_ | refine thenR ?_ | refine inBI ?_ | refine inBR ?_ | refine inBS ?_ | refine inBN (by decide) ?_)) | (refine W_condT ?hc ?_; (case hc => (simp (disch := omega) only [go_sem, ↓reduceIte, Nat.reduceEqDiff, Nat.reduceAdd, Nat.reduceLeDiff, hlen, hix, w_index, ev_index, c1]; done))) | (refine W_condF ?hc ?_; (case hc => (simp (disch := omega) only [go_sem, ↓reduceIte, Nat.reduceEqDiff, Nat.reduceAdd, Nat.reduceLeDiff, hlen, hix, w_index, ev_index, c1]; done))))
    have hn : s.data.toList = [] := List.eq_nil_of_length_eq_zero (by rw [← size_list]; omega)
    refine W_ret ?_; try (repeat (first | refine thenI ?_ | refine thenE ?_ | refine thenR ?_ | refine inBI ?_ | refine inBR ?_ | refine inBS ?_ | refine inBN (by decide) ?_))
    refine fin1 (.inl rfl) (by (simp (disch := omega) only [go_sem, ↓reduceIte, Nat.reduceEqDiff, Nat.reduceAdd, Nat.reduceLeDiff, hlen, hix, w_index, ev_index]); try rfl) rfl ⟨by rw [hn]; rfl, rfl⟩
  have c1 : decide ((s.size : Int) < 1) = false := by simp; omega
  obtain ⟨b, r, hb, hby, hr1⟩ := drop_byte (s := s) (i := 0) (by omega)
  rw [List.drop_zero] at hb
  have hby' : byteAt s (0 : Int).toNat = (b.toNat : Int) := hby
  have hsz : s.size = r.length + 1 := by rw [size_list, hb]; simp
  rw [nm_of hb]
  by_cases h2 : s.size > 8
  · have c2 : decide ((s.size : Int) > 8) = true := by simp; omega
    have h7 : ¬ r.length ≤ 7 := by omega
    repeat (first | (refine W_reg rfl fun G K hG hK => ?_; simp (disch := omega) only [go_sem, ↓reduceIte, Nat.reduceEqDiff, Nat.reduceAdd, Nat.reduceLeDiff, hG, hlen, hix, w_index, ev_index, c1, c2]; refine hK _ _ ?_; clear hK K hG G) | (refine W_end rfl fun G K hG hK => ?_; simp (disch := omega) only [go_sem, ↓reduceIte, Nat.reduceEqDiff, Nat.reduceAdd, Nat.reduceLeDiff, hG, hlen, hix, w_index, ev_index, c1, c2]; refine hK _ _ ?_; clear hK K hG G; repeat (first | refine thenI ?_ | refine thenE ?_ | refine thenR ?_ | refine inBI ?_ | refine inBR ?_ | refine inBS ?_ | refine inBN (by decide) ?_)) | refine W_seqS ?_ | refine W_seqC ?_ | refine W_seqB ?_ | refine W_block ?_ | (refine W_skip ?_; repeat (first | refine thenI ?_ | refine thenE ?_ | refine thenR ?_ | refine inBI ?_ | refine inBR ?_ | refine inBS ?_ | refine inBN (by decide) ?_)) | (refine W_condT ?hc ?_; (case hc => (simp (disch := omega) only [go_sem, ↓reduceIte, Nat.reduceEqDiff, Nat.reduceAdd, Nat.reduceLeDiff, hlen, hix, w_index, ev_index, c1, c2]; done))) | (refine W_condF ?hc ?_; (case hc => (simp (disch := omega) only [go_sem, ↓reduceIte, Nat.reduceEqDiff, Nat.reduceAdd, Nat.reduceLeDiff, hlen, hix, w_index, ev_index, c1, c2]; done))))
    refine W_ret ?_; try (repeat (first | refine thenI ?_ | refine thenE ?_ | refine thenR ?_ | refine inBI ?_ | refine inBR ?_ | refine inBS ?_ | refine inBN (by decide) ?_))
    refine fin1 (.inl rfl) (by (simp (disch := omega) only [go_sem, ↓reduceIte, Nat.reduceEqDiff, Nat.reduceAdd, Nat.reduceLeDiff, hlen, hix, w_index, ev_index]); try rfl) rfl ⟨by simp [h7], rfl⟩
  have c2 : decide ((s.size : Int) > 8) = false := by simp; omega
  have h7 : r.length ≤ 7 := by omega
  by_cases h3 : b.toNat < lo
  · have c3 : decide ((b.toNat : Int) < lo) = true := by simp; omega
    have h4 : ¬ lo ≤ b.toNat := by omega
    repeat (first | (refine W_reg rfl fun G K hG hK => ?_; simp (disch := omega) only [go_sem, ↓reduceIte, Nat.reduceEqDiff, Nat.reduceAdd, Nat.reduceLeDiff, hG, hlen, hix, w_index, ev_index, c1, c2, hby', c3]; refine hK _ _ ?_; clear hK K hG G) | (refine W_end rfl fun G K hG hK => ?_; simp (disch := omega) only [go_sem, ↓reduceIte, Nat.reduceEqDiff, Nat.reduceAdd, Nat.reduceLeDiff, hG, hlen, hix, w_index, ev_index, c1, c2, hby', c3]; refine hK _ _ ?_; clear hK K hG G; repeat (first | refine thenI ?_ | refine thenE ?_ | refine thenR ?_ | refine inBI ?_ | refine inBR ?_ | refine inBS ?_ | refine inBN (by decide) ?_)) | refine W_seqS ?_ | refine W_seqC ?_ | refine W_seqB ?_ | refine W_block ?_ | (refine W_skip ?_; repeat (first | refine thenI ?_ | refine thenE ?_ | refine thenR ?_ | refine inBI ?_ | refine inBR ?_ | refine inBS ?_ | refine inBN (by decide) ?_)) | (refine W_condT ?hc ?_; (case hc => (simp (disch := omega) only [go_sem, ↓reduceIte, Nat.reduceEqDiff, Nat.reduceAdd, Nat.reduceLeDiff, hlen, hix, w_index, ev_index, c1, c2, hby', c3]; done))) | (refine W_condF ?hc ?_; (case hc => (simp (disch := omega) only [go_sem, ↓reduceIte, Nat.reduceEqDiff, Nat.reduceAdd, Nat.reduceLeDiff, hlen, hix, w_index, ev_index, c1, c2, hby', c3]; done))))
    refine W_ret ?_; try (repeat (first | refine thenI ?_ | refine thenE ?_ | refine thenR ?_ | refine inBI ?_ | refine inBR ?_ | refine inBS ?_ | refine inBN (by decide) ?_))
    refine fin1 (.inl rfl) (by (simp (disch := omega) only [go_sem, ↓reduceIte, Nat.reduceEqDiff, Nat.reduceAdd, Nat.reduceLeDiff, hlen, hix, w_index, ev_index]); try rfl) rfl ⟨by simp [h4], rfl⟩
  have c3 : decide ((b.toNat : Int) < lo) = false := by simp; omega
  by_cases h4 : b.toNat > hi
  · have c4 : decide ((b.toNat : Int) > hi) = true := by simp; omega
    have h5 : ¬ b.toNat ≤ hi := by omega
    repeat (first | (refine W_reg rfl fun G K hG hK => ?_; simp (disch := omega) only [go_sem, ↓reduceIte, Nat.reduceEqDiff, Nat.reduceAdd, Nat.reduceLeDiff, hG, hlen, hix, w_index, ev_index, c1, c2, hby', c3, c4]; refine hK _ _ ?_; clear hK K hG G) | (refine W_end rfl fun G K hG hK => ?_; simp (disch := omega) only [go_sem, ↓reduceIte, Nat.reduceEqDiff, Nat.reduceAdd, Nat.reduceLeDiff, hG, hlen, hix, w_index, ev_index, c1, c2, hby', c3, c4]; refine hK _ _ ?_; clear hK K hG G; repeat (first | refine thenI ?_ | refine thenE ?_ | refine thenR ?_ | refine inBI ?_ | refine inBR ?_ | refine inBS ?_ | refine inBN (by decide) ?_)) | refine W_seqS ?_ | refine W_seqC ?_ | refine W_seqB ?_ | refine W_block ?_ | (refine W_skip ?_; repeat (first | refine thenI ?_ | refine thenE ?_ | refine thenR ?_ | refine inBI ?_ | refine inBR ?_ | refine inBS ?_ | refine inBN (by decide) ?_)) | (refine W_condT ?hc ?_; (case hc => (simp (disch := omega) only [go_sem, ↓reduceIte, Nat.reduceEqDiff, Nat.reduceAdd, Nat.reduceLeDiff, hlen, hix, w_index, ev_index, c1, c2, hby', c3, c4]; done))) | (refine W_condF ?hc ?_; (case hc => (simp (disch := omega) only [go_sem, ↓reduceIte, Nat.reduceEqDiff, Nat.reduceAdd, Nat.reduceLeDiff, hlen, hix, w_index, ev_index, c1, c2, hby', c3, c4]; done))))
    refine W_ret ?_; try (repeat (first | refine thenI ?_ | refine thenE ?_ | refine thenR ?_ | refine inBI ?_ | refine inBR ?_ | refine inBS ?_ | refine inBN (by decide) ?_))
    refine fin1 (.inl rfl) (by (simp (disch := omega) only [go_sem, ↓reduceIte, Nat.reduceEqDiff, Nat.reduceAdd, Nat.reduceLeDiff, hlen, hix, w_index, ev_index]); try rfl) rfl ⟨by simp [h5], rfl⟩
  have c4 : decide ((b.toNat : Int) > hi) = false := by simp; omega
  have g1 : lo ≤ b.toNat := by omega
  have g2 : b.toNat ≤ hi := by omega
  repeat (first | (refine W_reg rfl fun G K hG hK => ?_; simp (disch := omega) only [go_sem, ↓reduceIte, Nat.reduceEqDiff, Nat.reduceAdd, Nat.reduceLeDiff, hG, hlen, hix, w_index, ev_index, c1, c2, hby', c3, c4]; refine hK _ _ ?_; clear hK K hG G) | (refine W_end rfl fun G K hG hK => ?_; simp (disch := omega) only [go_sem, ↓reduceIte, Nat.reduceEqDiff, Nat.reduceAdd, Nat.reduceLeDiff, hG, hlen, hix, w_index, ev_index, c1, c2, hby', c3, c4]; refine hK _ _ ?_; clear hK K hG G; repeat (first | refine thenI ?_ | refine thenE ?_ | refine thenR ?_ | refine inBI ?_ | refine inBR ?_ | refine inBS ?_ | refine inBN (by decide) ?_)) | refine W_seqS ?_ | refine W_seqC ?_ | refine W_seqB ?_ | refine W_block ?_ | (refine W_skip ?_; repeat (first | refine thenI ?_ | refine thenE ?_ | refine thenR ?_ | refine inBI ?_ | refine inBR ?_ | refine inBS ?_ | refine inBN (by decide) ?_)) | (refine W_condT ?hc ?_; (case hc => (simp (disch := omega) only [go_sem, ↓reduceIte, Nat.reduceEqDiff, Nat.reduceAdd, Nat.reduceLeDiff, hlen, hix, w_index, ev_index, c1, c2, hby', c3, c4]; done))) | (refine W_condF ?hc ?_; (case hc => (simp (disch := omega) only [go_sem, ↓reduceIte, Nat.reduceEqDiff, Nat.reduceAdd, Nat.reduceLeDiff, hlen, hix, w_index, ev_index, c1, c2, hby', c3, c4]; done))))
  refine W_loop (fun d fr st' => ∃ (j : Nat) , d = r.length - j ∧ j ≤ r.length ∧ (st' = st) ∧ ((r.take j).all lowDig = true) ∧ (fr.env 0 = .string s) ∧ (fr.env 7 = .int .i64 ((j : Int) + 1))) (r.length) ?_ ?_
  · exact ⟨0, by omega, by omega, rfl, by simp, (by (simp (disch := omega) only [go_sem, ↓reduceIte, Nat.reduceEqDiff, Nat.reduceAdd, Nat.reduceLeDiff, hlen, hix, w_index, ev_index]); try rfl), (by (simp (disch := omega) only [go_sem, ↓reduceIte, Nat.reduceEqDiff, Nat.reduceAdd, Nat.reduceLeDiff, hlen, hix, w_index, ev_index]); try rfl)⟩
  rintro d ⟨env, loc⟩ st' ⟨j, hd, hj, hst, hall, e0, e7⟩
  simp only at e0 e7
  subst hst
  by_cases hlt : j < r.length
  · have d1 : decide ((j : Int) + 1 < (s.size : Int)) = true := by simp; omega
    obtain ⟨x, q, hx, hxb, hq⟩ := drop_byte (s := s) (i := j + 1) (by omega)
    have hxr : r[j]? = some x := by
      have : s.data.toList[j + 1]? = some x := by rw [← List.head?_drop, hx]; rfl
      rw [hb] at this
      simpa using this
    have hxj : r[j] = x := by rw [List.getElem?_eq_getElem hlt] at hxr; exact Option.some.inj hxr
    have htk : r.take (j + 1) = r.take j ++ [x] := by rw [List.take_succ_eq_append_getElem hlt, hxj]
    have hxb' : byteAt s ((j : Int) + 1).toNat = (x.toNat : Int) := by rw [show ((j : Int) + 1).toNat = j + 1 by omega]; exact hxb
    have hld : lowDig x = ((decide (97 ≤ x.toNat) && decide (x.toNat ≤ 122)) || (decide (48 ≤ x.toNat) && decide (x.toNat ≤ 57))) := rfl
    have bad : lowDig x = false → (r.all lowDig) = false := fun h => by
      refine Bool.eq_false_iff.2 fun ha => ?_
      have := List.all_eq_true.1 ha x (hxj ▸ List.getElem_mem hlt)
      rw [h] at this; cases this
    by_cases k1 : x.toNat < 97
    · have e1 : decide ((x.toNat : Int) < 97) = true := by simp; omega
      by_cases k3 : x.toNat < 48
      · have e3 : decide ((x.toNat : Int) < 48) = true := by simp; omega
        repeat (first | (refine W_reg rfl fun G K hG hK => ?_; simp (disch := omega) only [go_sem, ↓reduceIte, Nat.reduceEqDiff, Nat.reduceAdd, Nat.reduceLeDiff, hG, hlen, hix, w_index, ev_index, e0, e7, d1, hxb', e1, e3]; refine hK _ _ ?_; clear hK K hG G) | (refine W_end rfl fun G K hG hK => ?_; simp (disch := omega) only [go_sem, ↓reduceIte, Nat.reduceEqDiff, Nat.reduceAdd, Nat.reduceLeDiff, hG, hlen, hix, w_index, ev_index, e0, e7, d1, hxb', e1, e3]; refine hK _ _ ?_; clear hK K hG G; repeat (first | refine thenI ?_ | refine thenE ?_ | refine thenR ?_ | refine inBI ?_ | refine inBR ?_ | refine inBS ?_ | refine inBN (by decide) ?_)) | refine W_seqS ?_ | refine W_seqC ?_ | refine W_seqB ?_ | refine W_block ?_ | (refine W_skip ?_; repeat (first | refine thenI ?_ | refine thenE ?_ | refine thenR ?_ | refine inBI ?_ | refine inBR ?_ | refine inBS ?_ | refine inBN (by decide) ?_)) | (refine W_condT ?hc ?_; (case hc => (simp (disch := omega) only [go_sem, ↓reduceIte, Nat.reduceEqDiff, Nat.reduceAdd, Nat.reduceLeDiff, hlen, hix, w_index, ev_index, e0, e7, d1, hxb', e1, e3]; done))) | (refine W_condF ?hc ?_; (case hc => (simp (disch := omega) only [go_sem, ↓reduceIte, Nat.reduceEqDiff, Nat.reduceAdd, Nat.reduceLeDiff, hlen, hix, w_index, ev_index, e0, e7, d1, hxb', e1, e3]; done))))
        refine W_ret ?_; try (repeat (first | refine thenI ?_ | refine thenE ?_ | refine thenR ?_ | refine inBI ?_ | refine inBR ?_ | refine inBS ?_ | refine inBN (by decide) ?_))
        refine fin1 (.inl rfl) (by (simp (disch := omega) only [go_sem, ↓reduceIte, Nat.reduceEqDiff, Nat.reduceAdd, Nat.reduceLeDiff, hlen, hix, w_index, ev_index, e0, e7]); try rfl) rfl ⟨by rw [bad (by rw [hld]; simp; omega)]; simp, rfl⟩
      · have e3 : decide ((x.toNat : Int) < 48) = false := by simp; omega
        by_cases k4 : x.toNat > 57
        · have e4 : decide ((x.toNat : Int) > 57) = true := by simp; omega
          repeat (first | (refine W_reg rfl fun G K hG hK => ?_; simp (disch := omega) only [go_sem, ↓reduceIte, Nat.reduceEqDiff, Nat.reduceAdd, Nat.reduceLeDiff, hG, hlen, hix, w_index, ev_index, e0, e7, d1, hxb', e1, e3, e4]; refine hK _ _ ?_; clear hK K hG G) | (refine W_end rfl fun G K hG hK => ?_; simp (disch := omega) only [go_sem, ↓reduceIte, Nat.reduceEqDiff, Nat.reduceAdd, Nat.reduceLeDiff, hG, hlen, hix, w_index, ev_index, e0, e7, d1, hxb', e1, e3, e4]; refine hK _ _ ?_; clear hK K hG G; repeat (first | refine thenI ?_ | refine thenE ?_ | refine thenR ?_ | refine inBI ?_ | refine inBR ?_ | refine inBS ?_ | refine inBN (by decide) ?_)) | refine W_seqS ?_ | refine W_seqC ?_ | refine W_seqB ?_ | refine W_block ?_ | (refine W_skip ?_; repeat (first | refine thenI ?_ | refine thenE ?_ | refine thenR ?_ | refine inBI ?_ | refine inBR ?_ | refine inBS ?_ | refine inBN (by decide) ?_)) | (refine W_condT ?hc ?_; (case hc => (simp (disch := omega) only [go_sem, ↓reduceIte, Nat.reduceEqDiff, Nat.reduceAdd, Nat.reduceLeDiff, hlen, hix, w_index, ev_index, e0, e7, d1, hxb', e1, e3, e4]; done))) | (refine W_condF ?hc ?_; (case hc => (simp (disch := omega) only [go_sem, ↓reduceIte, Nat.reduceEqDiff, Nat.reduceAdd, Nat.reduceLeDiff, hlen, hix, w_index, ev_index, e0, e7, d1, hxb', e1, e3, e4]; done))))
          refine W_ret ?_; try (repeat (first | refine thenI ?_ | refine thenE ?_ | refine thenR ?_ | refine inBI ?_ | refine inBR ?_ | refine inBS ?_ | refine inBN (by decide) ?_))
          refine fin1 (.inl rfl) (by (simp (disch := omega) only [go_sem, ↓reduceIte, Nat.reduceEqDiff, Nat.reduceAdd, Nat.reduceLeDiff, hlen, hix, w_index, ev_index, e0, e7]); try rfl) rfl ⟨by rw [bad (by rw [hld]; simp; omega)]; simp, rfl⟩
        · have e4 : decide ((x.toNat : Int) > 57) = false := by simp; omega
          repeat (first | (refine W_reg rfl fun G K hG hK => ?_; simp (disch := omega) only [go_sem, ↓reduceIte, Nat.reduceEqDiff, Nat.reduceAdd, Nat.reduceLeDiff, hG, hlen, hix, w_index, ev_index, e0, e7, d1, hxb', e1, e3, e4]; refine hK _ _ ?_; clear hK K hG G) | (refine W_end rfl fun G K hG hK => ?_; simp (disch := omega) only [go_sem, ↓reduceIte, Nat.reduceEqDiff, Nat.reduceAdd, Nat.reduceLeDiff, hG, hlen, hix, w_index, ev_index, e0, e7, d1, hxb', e1, e3, e4]; refine hK _ _ ?_; clear hK K hG G; repeat (first | refine thenI ?_ | refine thenE ?_ | refine thenR ?_ | refine inBI ?_ | refine inBR ?_ | refine inBS ?_ | refine inBN (by decide) ?_)) | refine W_seqS ?_ | refine W_seqC ?_ | refine W_seqB ?_ | refine W_block ?_ | (refine W_skip ?_; repeat (first | refine thenI ?_ | refine thenE ?_ | refine thenR ?_ | refine inBI ?_ | refine inBR ?_ | refine inBS ?_ | refine inBN (by decide) ?_)) | (refine W_condT ?hc ?_; (case hc => (simp (disch := omega) only [go_sem, ↓reduceIte, Nat.reduceEqDiff, Nat.reduceAdd, Nat.reduceLeDiff, hlen, hix, w_index, ev_index, e0, e7, d1, hxb', e1, e3, e4]; done))) | (refine W_condF ?hc ?_; (case hc => (simp (disch := omega) only [go_sem, ↓reduceIte, Nat.reduceEqDiff, Nat.reduceAdd, Nat.reduceLeDiff, hlen, hix, w_index, ev_index, e0, e7, d1, hxb', e1, e3, e4]; done))))
          refine ⟨r.length - (j + 1), by omega, j + 1, rfl, by omega, rfl, by rw [htk, List.all_append, hall]; simp [hld]; omega, (by (simp (disch := omega) only [go_sem, ↓reduceIte, Nat.reduceEqDiff, Nat.reduceAdd, Nat.reduceLeDiff, hlen, hix, w_index, ev_index, e0, e7]); try rfl), (by (simp (disch := omega) only [go_sem, ↓reduceIte, Nat.reduceEqDiff, Nat.reduceAdd, Nat.reduceLeDiff, hlen, hix, w_index, ev_index, e0, e7]); try rfl)⟩
    · have e1 : decide ((x.toNat : Int) < 97) = false := by simp; omega
      by_cases k2 : x.toNat > 122
      · have e2 : decide ((x.toNat : Int) > 122) = true := by simp; omega
        have e3 : decide ((x.toNat : Int) < 48) = false := by simp; omega
        have e4 : decide ((x.toNat : Int) > 57) = true := by simp; omega
        repeat (first | (refine W_reg rfl fun G K hG hK => ?_; simp (disch := omega) only [go_sem, ↓reduceIte, Nat.reduceEqDiff, Nat.reduceAdd, Nat.reduceLeDiff, hG, hlen, hix, w_index, ev_index, e0, e7, d1, hxb', e1, e2, e3, e4]; refine hK _ _ ?_; clear hK K hG G) | (refine W_end rfl fun G K hG hK => ?_; simp (disch := omega) only [go_sem, ↓reduceIte, Nat.reduceEqDiff, Nat.reduceAdd, Nat.reduceLeDiff, hG, hlen, hix, w_index, ev_index, e0, e7, d1, hxb', e1, e2, e3, e4]; refine hK _ _ ?_; clear hK K hG G; repeat (first | refine thenI ?_ | refine thenE ?_ | refine thenR ?_ | refine inBI ?_ | refine inBR ?_ | refine inBS ?_ | refine inBN (by decide) ?_)) | refine W_seqS ?_ | refine W_seqC ?_ | refine W_seqB ?_ | refine W_block ?_ | (refine W_skip ?_; repeat (first | refine thenI ?_ | refine thenE ?_ | refine thenR ?_ | refine inBI ?_ | refine inBR ?_ | refine inBS ?_ | refine inBN (by decide) ?_)) | (refine W_condT ?hc ?_; (case hc => (simp (disch := omega) only [go_sem, ↓reduceIte, Nat.reduceEqDiff, Nat.reduceAdd, Nat.reduceLeDiff, hlen, hix, w_index, ev_index, e0, e7, d1, hxb', e1, e2, e3, e4]; done))) | (refine W_condF ?hc ?_; (case hc => (simp (disch := omega) only [go_sem, ↓reduceIte, Nat.reduceEqDiff, Nat.reduceAdd, Nat.reduceLeDiff, hlen, hix, w_index, ev_index, e0, e7, d1, hxb', e1, e2, e3, e4]; done))))
        refine W_ret ?_; try (repeat (first | refine thenI ?_ | refine thenE ?_ | refine thenR ?_ | refine inBI ?_ | refine inBR ?_ | refine inBS ?_ | refine inBN (by decide) ?_))
        refine fin1 (.inl rfl) (by (simp (disch := omega) only [go_sem, ↓reduceIte, Nat.reduceEqDiff, Nat.reduceAdd, Nat.reduceLeDiff, hlen, hix, w_index, ev_index, e0, e7]); try rfl) rfl ⟨by rw [bad (by rw [hld]; simp; omega)]; simp, rfl⟩
      · have e2 : decide ((x.toNat : Int) > 122) = false := by simp; omega
        repeat (first | (refine W_reg rfl fun G K hG hK => ?_; simp (disch := omega) only [go_sem, ↓reduceIte, Nat.reduceEqDiff, Nat.reduceAdd, Nat.reduceLeDiff, hG, hlen, hix, w_index, ev_index, e0, e7, d1, hxb', e1, e2]; refine hK _ _ ?_; clear hK K hG G) | (refine W_end rfl fun G K hG hK => ?_; simp (disch := omega) only [go_sem, ↓reduceIte, Nat.reduceEqDiff, Nat.reduceAdd, Nat.reduceLeDiff, hG, hlen, hix, w_index, ev_index, e0, e7, d1, hxb', e1, e2]; refine hK _ _ ?_; clear hK K hG G; repeat (first | refine thenI ?_ | refine thenE ?_ | refine thenR ?_ | refine inBI ?_ | refine inBR ?_ | refine inBS ?_ | refine inBN (by decide) ?_)) | refine W_seqS ?_ | refine W_seqC ?_ | refine W_seqB ?_ | refine W_block ?_ | (refine W_skip ?_; repeat (first | refine thenI ?_ | refine thenE ?_ | refine thenR ?_ | refine inBI ?_ | refine inBR ?_ | refine inBS ?_ | refine inBN (by decide) ?_)) | (refine W_condT ?hc ?_; (case hc => (simp (disch := omega) only [go_sem, ↓reduceIte, Nat.reduceEqDiff, Nat.reduceAdd, Nat.reduceLeDiff, hlen, hix, w_index, ev_index, e0, e7, d1, hxb', e1, e2]; done))) | (refine W_condF ?hc ?_; (case hc => (simp (disch := omega) only [go_sem, ↓reduceIte, Nat.reduceEqDiff, Nat.reduceAdd, Nat.reduceLeDiff, hlen, hix, w_index, ev_index, e0, e7, d1, hxb', e1, e2]; done))))
        refine ⟨r.length - (j + 1), by omega, j + 1, rfl, by omega, rfl, by rw [htk, List.all_append, hall]; simp [hld]; omega, (by (simp (disch := omega) only [go_sem, ↓reduceIte, Nat.reduceEqDiff, Nat.reduceAdd, Nat.reduceLeDiff, hlen, hix, w_index, ev_index, e0, e7]); try rfl), (by (simp (disch := omega) only [go_sem, ↓reduceIte, Nat.reduceEqDiff, Nat.reduceAdd, Nat.reduceLeDiff, hlen, hix, w_index, ev_index, e0, e7]); try rfl)⟩
  · have d1 : decide ((j : Int) + 1 < (s.size : Int)) = false := by simp; omega
    obtain rfl : j = r.length := by omega
    rw [List.take_length] at hall
    repeat (first | (refine W_reg rfl fun G K hG hK => ?_; simp (disch := omega) only [go_sem, ↓reduceIte, Nat.reduceEqDiff, Nat.reduceAdd, Nat.reduceLeDiff, hG, hlen, hix, w_index, ev_index, e0, e7, d1]; refine hK _ _ ?_; clear hK K hG G) | (refine W_end rfl fun G K hG hK => ?_; simp (disch := omega) only [go_sem, ↓reduceIte, Nat.reduceEqDiff, Nat.reduceAdd, Nat.reduceLeDiff, hG, hlen, hix, w_index, ev_index, e0, e7, d1]; refine hK _ _ ?_; clear hK K hG G; repeat (first | refine thenI ?_ | refine thenE ?_ | refine thenR ?_ | refine inBI ?_ | refine inBR ?_ | refine inBS ?_ | refine inBN (by decide) ?_)) | refine W_seqS ?_ | refine W_seqC ?_ | refine W_seqB ?_ | refine W_block ?_ | (refine W_skip ?_; repeat (first | refine thenI ?_ | refine thenE ?_ | refine thenR ?_ | refine inBI ?_ | refine inBR ?_ | refine inBS ?_ | refine inBN (by decide) ?_)) | (refine W_condT ?hc ?_; (case hc => (simp (disch := omega) only [go_sem, ↓reduceIte, Nat.reduceEqDiff, Nat.reduceAdd, Nat.reduceLeDiff, hlen, hix, w_index, ev_index, e0, e7, d1]; done))) | (refine W_condF ?hc ?_; (case hc => (simp (disch := omega) only [go_sem, ↓reduceIte, Nat.reduceEqDiff, Nat.reduceAdd, Nat.reduceLeDiff, hlen, hix, w_index, ev_index, e0, e7, d1]; done))))
    refine W_exit ?_; repeat (first | refine thenI ?_ | refine thenE ?_ | refine thenR ?_ | refine inBI ?_ | refine inBR ?_ | refine inBS ?_ | refine inBN (by decide) ?_)
    repeat (first | (refine W_reg rfl fun G K hG hK => ?_; simp (disch := omega) only [go_sem, ↓reduceIte, Nat.reduceEqDiff, Nat.reduceAdd, Nat.reduceLeDiff, hG, hlen, hix, w_index, ev_index, e0, e7]; refine hK _ _ ?_; clear hK K hG G) | (refine W_end rfl fun G K hG hK => ?_; simp (disch := omega) only [go_sem, ↓reduceIte, Nat.reduceEqDiff, Nat.reduceAdd, Nat.reduceLeDiff, hG, hlen, hix, w_index, ev_index, e0, e7]; refine hK _ _ ?_; clear hK K hG G; repeat (first | refine thenI ?_ | refine thenE ?_ | refine thenR ?_ | refine inBI ?_ | refine inBR ?_ | refine inBS ?_ | refine inBN (by decide) ?_)) | refine W_seqS ?_ | refine W_seqC ?_ | refine W_seqB ?_ | refine W_block ?_ | (refine W_skip ?_; repeat (first | refine thenI ?_ | refine thenE ?_ | refine thenR ?_ | refine inBI ?_ | refine inBR ?_ | refine inBS ?_ | refine inBN (by decide) ?_)) | (refine W_condT ?hc ?_; (case hc => (simp (disch := omega) only [go_sem, ↓reduceIte, Nat.reduceEqDiff, Nat.reduceAdd, Nat.reduceLeDiff, hlen, hix, w_index, ev_index, e0, e7]; done))) | (refine W_condF ?hc ?_; (case hc => (simp (disch := omega) only [go_sem, ↓reduceIte, Nat.reduceEqDiff, Nat.reduceAdd, Nat.reduceLeDiff, hlen, hix, w_index, ev_index, e0, e7]; done))))
    refine W_ret ?_; try (repeat (first | refine thenI ?_ | refine thenE ?_ | refine thenR ?_ | refine inBI ?_ | refine inBR ?_ | refine inBS ?_ | refine inBN (by decide) ?_))
    refine fin1 (.inl rfl) (by (simp (disch := omega) only [go_sem, ↓reduceIte, Nat.reduceEqDiff, Nat.reduceAdd, Nat.reduceLeDiff, hlen, hix, w_index, ev_index, e0, e7]); try rfl) rfl ⟨by simp [g1, g2, h7, hall], rfl⟩
theorem implIsName_ok (s : ByteArray) (st : St) : CallS Tryd.prog 25 [.string s] st fun r st' => r = .bool (isName s) ∧ st' = st := by
  refine CallS_of_W [] 5 Tryd.func25 rfl rfl rfl rfl (by simp) ?_
  repeat (first | (refine W_reg rfl fun G K hG hK => ?_; simp (disch := omega) only [go_sem, ↓reduceIte, Nat.reduceEqDiff, Nat.reduceAdd, Nat.reduceLeDiff, hG]; refine hK _ _ ?_; clear hK K hG G) | (refine W_end rfl fun G K hG hK => ?_; simp (disch := omega) only [go_sem, ↓reduceIte, Nat.reduceEqDiff, Nat.reduceAdd, Nat.reduceLeDiff, hG]; refine hK _ _ ?_; clear hK K hG G; repeat (first | refine thenI ?_ | refine thenE ?_ | refine thenR ?_ | refine inBI ?_ | refine inBR ?_ | refine inBS ?_ | refine inBN (by decide) ?_)) | refine W_seqS ?_ | refine W_seqC ?_ | refine W_seqB ?_ | refine W_block ?_ | (refine W_skip ?_; repeat (first | refine thenI ?_ | refine thenE ?_ | refine thenR ?_ | refine inBI ?_ | refine inBR ?_ | refine inBS ?_ | refine inBN (by decide) ?_)) | (refine W_condT ?hc ?_; (case hc => (simp (disch := omega) only [go_sem, ↓reduceIte, Nat.reduceEqDiff, Nat.reduceAdd, Nat.reduceLeDiff]; done))) | (refine W_condF ?hc ?_; (case hc => (simp (disch := omega) only [go_sem, ↓reduceIte, Nat.reduceEqDiff, Nat.reduceAdd, Nat.reduceLeDiff]; done))))
  (repeat (first | refine W_seqS ?_ | refine W_seqC ?_ | refine W_seqB ?_ | refine W_block ?_)); refine W_reg rfl fun G K hG hK => ?_; simp (disch := omega) only [go_sem, ↓reduceIte, Nat.reduceEqDiff, Nat.reduceAdd, Nat.reduceLeDiff, hG]
  refine w_call ((show CallS Tryd.prog _ [.string s, .int .u8 97, .int .u8 122] st _ from implNamed_ok s 97 122 st)) (by simp (disch := omega) only [go_sem, ↓reduceIte, Nat.reduceEqDiff]) ?hl ?_
  case hl => first | rfl | (simp only [go_sem, List.all_cons, List.all_nil, Bool.not_false, Bool.and_self]; done)
  rintro r_ st ⟨rfl, rfl⟩; refine ⟨fun e => (by cases e), ?_⟩
  simp (disch := omega) only [go_sem, ↓reduceIte, Nat.reduceEqDiff, Nat.reduceAdd, Nat.reduceLeDiff, hG]; refine hK _ _ ?_; clear hK K hG G; repeat (first | refine thenI ?_ | refine thenE ?_ | refine thenR ?_ | refine inBI ?_ | refine inBR ?_ | refine inBS ?_ | refine inBN (by decide) ?_)
  refine W_ret ?_; try (repeat (first | refine thenI ?_ | refine thenE ?_ | refine thenR ?_ | refine inBI ?_ | refine inBR ?_ | refine inBS ?_ | refine inBN (by decide) ?_))
  refine fin1 (.inl rfl) (by (simp (disch := omega) only [go_sem, ↓reduceIte, Nat.reduceEqDiff, Nat.reduceAdd, Nat.reduceLeDiff]); try rfl) rfl ⟨rfl, rfl⟩
theorem implIsVar_ok (s : ByteArray) (st : St) : CallS Tryd.prog 24 [.string s] st fun r st' => r = .bool (isVar s) ∧ st' = st := by
  refine CallS_of_W [] 5 Tryd.func24 rfl rfl rfl rfl (by simp) ?_
  repeat (first | (refine W_reg rfl fun G K hG hK => ?_; simp (disch := omega) only [go_sem, ↓reduceIte, Nat.reduceEqDiff, Nat.reduceAdd, Nat.reduceLeDiff, hG]; refine hK _ _ ?_; clear hK K hG G) | (refine W_end rfl fun G K hG hK => ?_; simp (disch := omega) only [go_sem, ↓reduceIte, Nat.reduceEqDiff, Nat.reduceAdd, Nat.reduceLeDiff, hG]; refine hK _ _ ?_; clear hK K hG G; repeat (first | refine thenI ?_ | refine thenE ?_ | refine thenR ?_ | refine inBI ?_ | refine inBR ?_ | refine inBS ?_ | refine inBN (by decide) ?_)) | refine W_seqS ?_ | refine W_seqC ?_ | refine W_seqB ?_ | refine W_block ?_ | (refine W_skip ?_; repeat (first | refine thenI ?_ | refine thenE ?_ | refine thenR ?_ | refine inBI ?_ | refine inBR ?_ | refine inBS ?_ | refine inBN (by decide) ?_)) | (refine W_condT ?hc ?_; (case hc => (simp (disch := omega) only [go_sem, ↓reduceIte, Nat.reduceEqDiff, Nat.reduceAdd, Nat.reduceLeDiff]; done))) | (refine W_condF ?hc ?_; (case hc => (simp (disch := omega) only [go_sem, ↓reduceIte, Nat.reduceEqDiff, Nat.reduceAdd, Nat.reduceLeDiff]; done))))
  (repeat (first | refine W_seqS ?_ | refine W_seqC ?_ | refine W_seqB ?_ | refine W_block ?_)); refine W_reg rfl fun G K hG hK => ?_; simp (disch := omega) only [go_sem, ↓reduceIte, Nat.reduceEqDiff, Nat.reduceAdd, Nat.reduceLeDiff, hG]
  refine w_call ((show CallS Tryd.prog _ [.string s, .int .u8 65, .int .u8 90] st _ from implNamed_ok s 65 90 st)) (by simp (disch := omega) only [go_sem, ↓reduceIte, Nat.reduceEqDiff]) ?hl ?_
  case hl => first | rfl | (simp only [go_sem, List.all_cons, List.all_nil, Bool.not_false, Bool.and_self]; done)
  rintro r_ st ⟨rfl, rfl⟩; refine ⟨fun e => (by cases e), ?_⟩
  simp (disch := omega) only [go_sem, ↓reduceIte, Nat.reduceEqDiff, Nat.reduceAdd, Nat.reduceLeDiff, hG]; refine hK _ _ ?_; clear hK K hG G; repeat (first | refine thenI ?_ | refine thenE ?_ | refine thenR ?_ | refine inBI ?_ | refine inBR ?_ | refine inBS ?_ | refine inBN (by decide) ?_)
  refine W_ret ?_; try (repeat (first | refine thenI ?_ | refine thenE ?_ | refine thenR ?_ | refine inBI ?_ | refine inBR ?_ | refine inBS ?_ | refine inBN (by decide) ?_))
  refine fin1 (.inl rfl) (by (simp (disch := omega) only [go_sem, ↓reduceIte, Nat.reduceEqDiff, Nat.reduceAdd, Nat.reduceLeDiff]); try rfl) rfl ⟨rfl, rfl⟩
theorem l2Lower_ok (x : Nat) (st : St) : CallS Tryd.prog 40 [.int .u8 x] st fun r st' => r = .bool (decide (97 ≤ x) && decide (x ≤ 122)) ∧ st' = st := by
  refine CallS_of_W [] 9 Tryd.func40 rfl rfl rfl rfl (by simp) ?_
  by_cases h1 : 97 ≤ x
  · have c1 : decide ((x : Int) ≥ 97) = true := by simp; omega
    by_cases h2 : x ≤ 122
    · have c2 : decide ((x : Int) ≤ 122) = true := by simp; omega
      repeat (first | (refine W_reg rfl fun G K hG hK => ?_; simp (disch := omega) only [go_sem, ↓reduceIte, Nat.reduceEqDiff, Nat.reduceAdd, Nat.reduceLeDiff, hG, c1, c2]; refine hK _ _ ?_; clear hK K hG G) | (refine W_end rfl fun G K hG hK => ?_; simp (disch := omega) only [go_sem, ↓reduceIte, Nat.reduceEqDiff, Nat.reduceAdd, Nat.reduceLeDiff, hG, c1, c2]; refine hK _ _ ?_; clear hK K hG G; repeat (first | refine thenI ?_ | refine thenE ?_ | refine thenR ?_ | refine inBI ?_ | refine inBR ?_ | refine inBS ?_ | refine inBN (by decide) ?_)) | refine W_seqS ?_ | refine W_seqC ?_ | refine W_seqB ?_ | refine W_block ?_ | (refine W_skip ?_; repeat (first | refine thenI ?_ | refine thenE ?_ | refine thenR ?_ | refine inBI ?_ | refine inBR ?_ | refine inBS ?_ | refine inBN (by decide) ?_)) | (refine W_condT ?hc ?_; (case hc => (simp (disch := omega) only [go_sem, ↓reduceIte, Nat.reduceEqDiff, Nat.reduceAdd, Nat.reduceLeDiff, c1, c2]; done))) | (refine W_condF ?hc ?_; (case hc => (simp (disch := omega) only [go_sem, ↓reduceIte, Nat.reduceEqDiff, Nat.reduceAdd, Nat.reduceLeDiff, c1, c2]; done))))
      refine W_ret ?_; try (repeat (first | refine thenI ?_ | refine thenE ?_ | refine thenR ?_ | refine inBI ?_ | refine inBR ?_ | refine inBS ?_ | refine inBN (by decide) ?_))
      refine fin1 (.inl rfl) (by (simp (disch := omega) only [go_sem, ↓reduceIte, Nat.reduceEqDiff, Nat.reduceAdd, Nat.reduceLeDiff]); try rfl) rfl ⟨by simp [h1, h2], rfl⟩
    · have c2 : decide ((x : Int) ≤ 122) = false := by simp; omega
      repeat (first | (refine W_reg rfl fun G K hG hK => ?_; simp (disch := omega) only [go_sem, ↓reduceIte, Nat.reduceEqDiff, Nat.reduceAdd, Nat.reduceLeDiff, hG, c1, c2]; refine hK _ _ ?_; clear hK K hG G) | (refine W_end rfl fun G K hG hK => ?_; simp (disch := omega) only [go_sem, ↓reduceIte, Nat.reduceEqDiff, Nat.reduceAdd, Nat.reduceLeDiff, hG, c1, c2]; refine hK _ _ ?_; clear hK K hG G; repeat (first | refine thenI ?_ | refine thenE ?_ | refine thenR ?_ | refine inBI ?_ | refine inBR ?_ | refine inBS ?_ | refine inBN (by decide) ?_)) | refine W_seqS ?_ | refine W_seqC ?_ | refine W_seqB ?_ | refine W_block ?_ | (refine W_skip ?_; repeat (first | refine thenI ?_ | refine thenE ?_ | refine thenR ?_ | refine inBI ?_ | refine inBR ?_ | refine inBS ?_ | refine inBN (by decide) ?_)) | (refine W_condT ?hc ?_; (case hc => (simp (disch := omega) only [go_sem, ↓reduceIte, Nat.reduceEqDiff, Nat.reduceAdd, Nat.reduceLeDiff, c1, c2]; done))) | (refine W_condF ?hc ?_; (case hc => (simp (disch := omega) only [go_sem, ↓reduceIte, Nat.reduceEqDiff, Nat.reduceAdd, Nat.reduceLeDiff, c1, c2]; done))))
      refine W_ret ?_; try (repeat (first | refine thenI ?_ | refine thenE ?_ | refine thenR ?_ | refine inBI ?_ | refine inBR ?_ | refine inBS ?_ | refine inBN (by decide) ?_))
      refine fin1 (.inl rfl) (by (simp (disch := omega) only [go_sem, ↓reduceIte, Nat.reduceEqDiff, Nat.reduceAdd, Nat.reduceLeDiff]); try rfl) rfl ⟨by simp [h1, h2], rfl⟩
  · have c1 : decide ((x : Int) ≥ 97) = false := by simp; omega
    repeat (first | (refine W_reg rfl fun G K hG hK => ?_; simp (disch := omega) only [go_sem, ↓reduceIte, Nat.reduceEqDiff, Nat.reduceAdd, Nat.reduceLeDiff, hG, c1]; refine hK _ _ ?_; clear hK K hG G) | (refine W_end rfl fun G K hG hK => ?_; simp (disch := omega) only [go_sem, ↓reduceIte, Nat.reduceEqDiff, Nat.reduceAdd, Nat.reduceLeDiff, hG, c1]; refine hK _ _ ?_; clear hK K hG G; repeat (first | refine thenI ?_ | refine thenE ?_ | refine thenR ?_ | refine inBI ?_ | refine inBR ?_ | refine inBS ?_ | refine inBN (by decide) ?_)) | refine W_seqS ?_ | refine W_seqC ?_ | refine W_seqB ?_ | refine W_block ?_ | (refine W_skip ?_; repeat (first | refine thenI ?_ | refine thenE ?_ | refine thenR ?_ | refine inBI ?_ | refine inBR ?_ | refine inBS ?_ | refine inBN (by decide) ?_)) | (refine W_condT ?hc ?_; (case hc => (simp (disch := omega) only [go_sem, ↓reduceIte, Nat.reduceEqDiff, Nat.reduceAdd, Nat.reduceLeDiff, c1]; done))) | (refine W_condF ?hc ?_; (case hc => (simp (disch := omega) only [go_sem, ↓reduceIte, Nat.reduceEqDiff, Nat.reduceAdd, Nat.reduceLeDiff, c1]; done))))
    refine W_ret ?_; try (repeat (first | refine thenI ?_ | refine thenE ?_ | refine thenR ?_ | refine inBI ?_ | refine inBR ?_ | refine inBS ?_ | refine inBN (by decide) ?_))
    refine fin1 (.inl rfl) (by (simp (disch := omega) only [go_sem, ↓reduceIte, Nat.reduceEqDiff, Nat.reduceAdd, Nat.reduceLeDiff]); try rfl) rfl ⟨by simp [h1], rfl⟩
theorem l2Digit_ok (x : Nat) (st : St) : CallS Tryd.prog 17 [.int .u8 x] st fun r st' => r = .bool (decide (48 ≤ x) && decide (x ≤ 57)) ∧ st' = st := by
  refine CallS_of_W [] 9 Tryd.func17 rfl rfl rfl rfl (by simp) ?_
  by_cases h1 : 48 ≤ x
  · have c1 : decide ((x : Int) ≥ 48) = true := by simp; omega
    by_cases h2 : x ≤ 57
    · have c2 : decide ((x : Int) ≤ 57) = true := by simp; omega
      repeat (first | (refine W_reg rfl fun G K hG hK => ?_; simp (disch := omega) only [go_sem, ↓reduceIte, Nat.reduceEqDiff, Nat.reduceAdd, Nat.reduceLeDiff, hG, c1, c2]; refine hK _ _ ?_; clear hK K hG G) | (refine W_end rfl fun G K hG hK => ?_; simp (disch := omega) only [go_sem, ↓reduceIte, Nat.reduceEqDiff, Nat.reduceAdd, Nat.reduceLeDiff, hG, c1, c2]; refine hK _ _ ?_; clear hK K hG G; repeat (first | refine thenI ?_ | refine thenE ?_ | refine thenR ?_ | refine inBI ?_ | refine inBR ?_ | refine inBS ?_ | refine inBN (by decide) ?_)) | refine W_seqS ?_ | refine W_seqC ?_ | refine W_seqB ?_ | refine W_block ?_ | (refine W_skip ?_; repeat (first | refine thenI ?_ | refine thenE ?_ | refine thenR ?_ | refine inBI ?_ | refine inBR ?_ | refine inBS ?_ | refine inBN (by decide) ?_)) | (refine W_condT ?hc ?_; (case hc => (simp (disch := omega) only [go_sem, ↓reduceIte, Nat.reduceEqDiff, Nat.reduceAdd, Nat.reduceLeDiff, c1, c2]; done))) | (refine W_condF ?hc ?_; (case hc => (simp (disch := omega) only [go_sem, ↓reduceIte, Nat.reduceEqDiff, Nat.reduceAdd, Nat.reduceLeDiff, c1, c2]; done))))
      refine W_ret ?_; try (repeat (first | refine thenI ?_ | refine thenE ?_ | refine thenR ?_ | refine inBI ?_ | refine inBR ?_ | refine inBS ?_ | refine inBN (by decide) ?_))
      refine fin1 (.inl rfl) (by (simp (disch := omega) only [go_sem, ↓reduceIte, Nat.reduceEqDiff, Nat.reduceAdd, Nat.reduceLeDiff]); try rfl) rfl ⟨by simp [h1, h2], rfl⟩
    · have c2 : decide ((x : Int) ≤ 57) = false := by simp; omega
      repeat (first | (refine W_reg rfl fun G K hG hK => ?_; simp (disch := omega) only [go_sem, ↓reduceIte, Nat.reduceEqDiff, Nat.reduceAdd, Nat.reduceLeDiff, hG, c1, c2]; refine hK _ _ ?_; clear hK K hG G) | (refine W_end rfl fun G K hG hK => ?_; simp (disch := omega) only [go_sem, ↓reduceIte, Nat.reduceEqDiff, Nat.reduceAdd, Nat.reduceLeDiff, hG, c1, c2]; refine hK _ _ ?_; clear hK K hG G; repeat (first | refine thenI ?_ | refine thenE ?_ | refine thenR ?_ | refine inBI ?_ | refine inBR ?_ | refine inBS ?_ | refine inBN (by decide) ?_)) | refine W_seqS ?_ | refine W_seqC ?_ | refine W_seqB ?_ | refine W_block ?_ | (refine W_skip ?_; repeat (first | refine thenI ?_ | refine thenE ?_ | refine thenR ?_ | refine inBI ?_ | refine inBR ?_ | refine inBS ?_ | refine inBN (by decide) ?_)) | (refine W_condT ?hc ?_; (case hc => (simp (disch := omega) only [go_sem, ↓reduceIte, Nat.reduceEqDiff, Nat.reduceAdd, Nat.reduceLeDiff, c1, c2]; done))) | (refine W_condF ?hc ?_; (case hc => (simp (disch := omega) only [go_sem, ↓reduceIte, Nat.reduceEqDiff, Nat.reduceAdd, Nat.reduceLeDiff, c1, c2]; done))))
      refine W_ret ?_; try (repeat (first | refine thenI ?_ | refine thenE ?_ | refine thenR ?_ | refine inBI ?_ | refine inBR ?_ | refine inBS ?_ | refine inBN (by decide) ?_))
      refine fin1 (.inl rfl) (by (simp (disch := omega) only [go_sem, ↓reduceIte, Nat.reduceEqDiff, Nat.reduceAdd, Nat.reduceLeDiff]); try rfl) rfl ⟨by simp [h1, h2], rfl⟩
  · have c1 : decide ((x : Int) ≥ 48) = false := by simp; omega
    repeat (first | (refine W_reg rfl fun G K hG hK => ?_; simp (disch := omega) only [go_sem, ↓reduceIte, Nat.reduceEqDiff, Nat.reduceAdd, Nat.reduceLeDiff, hG, c1]; refine hK _ _ ?_; clear hK K hG G) | (refine W_end rfl fun G K hG hK => ?_; simp (disch := omega) only [go_sem, ↓reduceIte, Nat.reduceEqDiff, Nat.reduceAdd, Nat.reduceLeDiff, hG, c1]; refine hK _ _ ?_; clear hK K hG G; repeat (first | refine thenI ?_ | refine thenE ?_ | refine thenR ?_ | refine inBI ?_ | refine inBR ?_ | refine inBS ?_ | refine inBN (by decide) ?_)) | refine W_seqS ?_ | refine W_seqC ?_ | refine W_seqB ?_ | refine W_block ?_ | (refine W_skip ?_; repeat (first | refine thenI ?_ | refine thenE ?_ | refine thenR ?_ | refine inBI ?_ | refine inBR ?_ | refine inBS ?_ | refine inBN (by decide) ?_)) | (refine W_condT ?hc ?_; (case hc => (simp (disch := omega) only [go_sem, ↓reduceIte, Nat.reduceEqDiff, Nat.reduceAdd, Nat.reduceLeDiff, c1]; done))) | (refine W_condF ?hc ?_; (case hc => (simp (disch := omega) only [go_sem, ↓reduceIte, Nat.reduceEqDiff, Nat.reduceAdd, Nat.reduceLeDiff, c1]; done))))
    refine W_ret ?_; try (repeat (first | refine thenI ?_ | refine thenE ?_ | refine thenR ?_ | refine inBI ?_ | refine inBR ?_ | refine inBS ?_ | refine inBN (by decide) ?_))
    refine fin1 (.inl rfl) (by (simp (disch := omega) only [go_sem, ↓reduceIte, Nat.reduceEqDiff, Nat.reduceAdd, Nat.reduceLeDiff]); try rfl) rfl ⟨by simp [h1], rfl⟩
theorem l2Rest_ok (s : ByteArray) (b : UInt8) (r : List UInt8) (hb : s.data.toList = b :: r) (hbig : s.size ≤ 9223372036854775807) (st : St) : CallS Tryd.prog 31 [.string s] st fun v st' => v = .bool (r.all lowDig && decide (r.length ≤ 7)) ∧ st' = st := by
  refine CallS_of_W [] 25 Tryd.func31 rfl rfl rfl rfl (by simp) ?_
  have hlen : lenE Tryd.prog 9 (.string s) = some (.int .i64 s.size) := len_str Tryd.underlying9
  have hix := fun (k : IntKind) (i : Int) (h0 : 0 ≤ i) (h1 : i < s.size) => idxS (k := k) Tryd.underlying9 h0 h1
  have hsz : s.size = r.length + 1 := by rw [size_list, hb]; simp
  repeat (first | (refine W_reg rfl fun G K hG hK => ?_; simp (disch := omega) only [go_sem, ↓reduceIte, Nat.reduceEqDiff, Nat.reduceAdd, Nat.reduceLeDiff, hG, hlen, hix, w_index, ev_index]; refine hK _ _ ?_; clear hK K hG G) | (refine W_end rfl fun G K hG hK => ?_; simp (disch := omega) only [go_sem, ↓reduceIte, Nat.reduceEqDiff, Nat.reduceAdd, Nat.reduceLeDiff, hG, hlen, hix, w_index, ev_index]; refine hK _ _ ?_; clear hK K hG G; repeat (first | refine thenI ?_ | refine thenE ?_ | refine thenR ?_ | refine inBI ?_ | refine inBR ?_ | refine inBS ?_ | refine inBN (by decide) ?_)) | refine W_seqS ?_ | refine W_seqC ?_ | refine W_seqB ?_ | refine W_block ?_ | (refine W_skip ?_; repeat (first | refine thenI ?_ | refine thenE ?_ | refine thenR ?_ | refine inBI ?_ | refine inBR ?_ | refine inBS ?_ | refine inBN (by decide) ?_)) | (refine W_condT ?hc ?_; (case hc => (simp (disch := omega) only [go_sem, ↓reduceIte, Nat.reduceEqDiff, Nat.reduceAdd, Nat.reduceLeDiff, hlen, hix, w_index, ev_index]; done))) | (refine W_condF ?hc ?_; (case hc => (simp (disch := omega) only [go_sem, ↓reduceIte, Nat.reduceEqDiff, Nat.reduceAdd, Nat.reduceLeDiff, hlen, hix, w_index, ev_index]; done))))
  refine W_loop (fun d fr st' => ∃ (j : Nat) , d = r.length - j ∧ j ≤ r.length ∧ (st' = st) ∧ ((r.take j).all lowDig = true) ∧ (fr.env 0 = .string s) ∧ (fr.env 3 = .int .i64 ((j : Int) + 1))) (r.length) ?_ ?_
  · exact ⟨0, by omega, by omega, rfl, by simp, (by (simp (disch := omega) only [go_sem, ↓reduceIte, Nat.reduceEqDiff, Nat.reduceAdd, Nat.reduceLeDiff, hlen, hix, w_index, ev_index]); try rfl), (by (simp (disch := omega) only [go_sem, ↓reduceIte, Nat.reduceEqDiff, Nat.reduceAdd, Nat.reduceLeDiff, hlen, hix, w_index, ev_index]); try rfl)⟩
  rintro d ⟨env, loc⟩ st' ⟨j, hd, hj, hst, hall, e0, e3⟩
  simp only at e0 e3
  subst hst
  by_cases hlt : j < r.length
  · have d1 : decide ((j : Int) + 1 < (s.size : Int)) = true := by simp; omega
    obtain ⟨x, q, hx, hxb, hq⟩ := drop_byte (s := s) (i := j + 1) (by omega)
    have hxr : r[j]? = some x := by
      have : s.data.toList[j + 1]? = some x := by rw [← List.head?_drop, hx]; rfl
      rw [hb] at this
      simpa using this
    have hxj : r[j] = x := by rw [List.getElem?_eq_getElem hlt] at hxr; exact Option.some.inj hxr
    have htk : r.take (j + 1) = r.take j ++ [x] := by rw [List.take_succ_eq_append_getElem hlt, hxj]
    have hxb' : byteAt s ((j : Int) + 1).toNat = (x.toNat : Int) := by rw [show ((j : Int) + 1).toNat = j + 1 by omega]; exact hxb
    have hld : lowDig x = ((decide (97 ≤ x.toNat) && decide (x.toNat ≤ 122)) || (decide (48 ≤ x.toNat) && decide (x.toNat ≤ 57))) := rfl
    have bad : lowDig x = false → (r.all lowDig) = false := fun h => by
      refine Bool.eq_false_iff.2 fun ha => ?_
      have := List.all_eq_true.1 ha x (hxj ▸ List.getElem_mem hlt)
      rw [h] at this; cases this
    cases k1 : (decide (97 ≤ x.toNat) && decide (x.toNat ≤ 122)) with
    | true =>
      repeat (first | (refine W_reg rfl fun G K hG hK => ?_; simp (disch := omega) only [go_sem, ↓reduceIte, Nat.reduceEqDiff, Nat.reduceAdd, Nat.reduceLeDiff, hG, hlen, hix, w_index, ev_index, e0, e3, d1]; refine hK _ _ ?_; clear hK K hG G) | (refine W_end rfl fun G K hG hK => ?_; simp (disch := omega) only [go_sem, ↓reduceIte, Nat.reduceEqDiff, Nat.reduceAdd, Nat.reduceLeDiff, hG, hlen, hix, w_index, ev_index, e0, e3, d1]; refine hK _ _ ?_; clear hK K hG G; repeat (first | refine thenI ?_ | refine thenE ?_ | refine thenR ?_ | refine inBI ?_ | refine inBR ?_ | refine inBS ?_ | refine inBN (by decide) ?_)) | refine W_seqS ?_ | refine W_seqC ?_ | refine W_seqB ?_ | refine W_block ?_ | (refine W_skip ?_; repeat (first | refine thenI ?_ | refine thenE ?_ | refine thenR ?_ | refine inBI ?_ | refine inBR ?_ | refine inBS ?_ | refine inBN (by decide) ?_)) | (refine W_condT ?hc ?_; (case hc => (simp (disch := omega) only [go_sem, ↓reduceIte, Nat.reduceEqDiff, Nat.reduceAdd, Nat.reduceLeDiff, hlen, hix, w_index, ev_index, e0, e3, d1]; done))) | (refine W_condF ?hc ?_; (case hc => (simp (disch := omega) only [go_sem, ↓reduceIte, Nat.reduceEqDiff, Nat.reduceAdd, Nat.reduceLeDiff, hlen, hix, w_index, ev_index, e0, e3, d1]; done))))
      (repeat (first | refine W_seqS ?_ | refine W_seqC ?_ | refine W_seqB ?_ | refine W_block ?_)); refine W_reg rfl fun G K hG hK => ?_; simp (disch := omega) only [go_sem, ↓reduceIte, Nat.reduceEqDiff, Nat.reduceAdd, Nat.reduceLeDiff, hG, hlen, hix, w_index, ev_index, e0, e3, hxb']
      refine w_call (l2Lower_ok x.toNat st') (by simp (disch := omega) only [go_sem, ↓reduceIte, Nat.reduceEqDiff, hlen, hix, w_index, ev_index, e0, e3, hxb']) ?hl ?_
      case hl => first | rfl | (simp only [go_sem, List.all_cons, List.all_nil, Bool.not_false, Bool.and_self, hlen, hix, w_index, ev_index, e0, e3, hxb']; done)
      rintro r_ st' ⟨rfl, rfl⟩; refine ⟨fun e => (by cases e), ?_⟩
      simp (disch := omega) only [go_sem, ↓reduceIte, Nat.reduceEqDiff, Nat.reduceAdd, Nat.reduceLeDiff, hG, hlen, hix, w_index, ev_index, e0, e3, k1]; refine hK _ _ ?_; clear hK K hG G; repeat (first | refine thenI ?_ | refine thenE ?_ | refine thenR ?_ | refine inBI ?_ | refine inBR ?_ | refine inBS ?_ | refine inBN (by decide) ?_)
      repeat (first | (refine W_reg rfl fun G K hG hK => ?_; simp (disch := omega) only [go_sem, ↓reduceIte, Nat.reduceEqDiff, Nat.reduceAdd, Nat.reduceLeDiff, hG, hlen, hix, w_index, ev_index, e0, e3]; refine hK _ _ ?_; clear hK K hG G) | (refine W_end rfl fun G K hG hK => ?_; simp (disch := omega) only [go_sem, ↓reduceIte, Nat.reduceEqDiff, Nat.reduceAdd, Nat.reduceLeDiff, hG, hlen, hix, w_index, ev_index, e0, e3]; refine hK _ _ ?_; clear hK K hG G; repeat (first | refine thenI ?_ | refine thenE ?_ | refine thenR ?_ | refine inBI ?_ | refine inBR ?_ | refine inBS ?_ | refine inBN (by decide) ?_)) | refine W_seqS ?_ | refine W_seqC ?_ | refine W_seqB ?_ | refine W_block ?_ | (refine W_skip ?_; repeat (first | refine thenI ?_ | refine thenE ?_ | refine thenR ?_ | refine inBI ?_ | refine inBR ?_ | refine inBS ?_ | refine inBN (by decide) ?_)) | (refine W_condT ?hc ?_; (case hc => (simp (disch := omega) only [go_sem, ↓reduceIte, Nat.reduceEqDiff, Nat.reduceAdd, Nat.reduceLeDiff, hlen, hix, w_index, ev_index, e0, e3]; done))) | (refine W_condF ?hc ?_; (case hc => (simp (disch := omega) only [go_sem, ↓reduceIte, Nat.reduceEqDiff, Nat.reduceAdd, Nat.reduceLeDiff, hlen, hix, w_index, ev_index, e0, e3]; done))))
      refine ⟨r.length - (j + 1), by omega, j + 1, rfl, by omega, rfl, by rw [htk, List.all_append, hall]; simp [hld, k1], (by (simp (disch := omega) only [go_sem, ↓reduceIte, Nat.reduceEqDiff, Nat.reduceAdd, Nat.reduceLeDiff, hlen, hix, w_index, ev_index, e0, e3]); try rfl), (by (simp (disch := omega) only [go_sem, ↓reduceIte, Nat.reduceEqDiff, Nat.reduceAdd, Nat.reduceLeDiff, hlen, hix, w_index, ev_index, e0, e3]); try rfl)⟩
    | false =>
      cases k2 : (decide (48 ≤ x.toNat) && decide (x.toNat ≤ 57)) with
      | true =>
        repeat (first | (refine W_reg rfl fun G K hG hK => ?_; simp (disch := omega) only [go_sem, ↓reduceIte, Nat.reduceEqDiff, Nat.reduceAdd, Nat.reduceLeDiff, hG, hlen, hix, w_index, ev_index, e0, e3, d1]; refine hK _ _ ?_; clear hK K hG G) | (refine W_end rfl fun G K hG hK => ?_; simp (disch := omega) only [go_sem, ↓reduceIte, Nat.reduceEqDiff, Nat.reduceAdd, Nat.reduceLeDiff, hG, hlen, hix, w_index, ev_index, e0, e3, d1]; refine hK _ _ ?_; clear hK K hG G; repeat (first | refine thenI ?_ | refine thenE ?_ | refine thenR ?_ | refine inBI ?_ | refine inBR ?_ | refine inBS ?_ | refine inBN (by decide) ?_)) | refine W_seqS ?_ | refine W_seqC ?_ | refine W_seqB ?_ | refine W_block ?_ | (refine W_skip ?_; repeat (first | refine thenI ?_ | refine thenE ?_ | refine thenR ?_ | refine inBI ?_ | refine inBR ?_ | refine inBS ?_ | refine inBN (by decide) ?_)) | (refine W_condT ?hc ?_; (case hc => (simp (disch := omega) only [go_sem, ↓reduceIte, Nat.reduceEqDiff, Nat.reduceAdd, Nat.reduceLeDiff, hlen, hix, w_index, ev_index, e0, e3, d1]; done))) | (refine W_condF ?hc ?_; (case hc => (simp (disch := omega) only [go_sem, ↓reduceIte, Nat.reduceEqDiff, Nat.reduceAdd, Nat.reduceLeDiff, hlen, hix, w_index, ev_index, e0, e3, d1]; done))))
        (repeat (first | refine W_seqS ?_ | refine W_seqC ?_ | refine W_seqB ?_ | refine W_block ?_)); refine W_reg rfl fun G K hG hK => ?_; simp (disch := omega) only [go_sem, ↓reduceIte, Nat.reduceEqDiff, Nat.reduceAdd, Nat.reduceLeDiff, hG, hlen, hix, w_index, ev_index, e0, e3, hxb']
        refine w_call (l2Lower_ok x.toNat st') (by simp (disch := omega) only [go_sem, ↓reduceIte, Nat.reduceEqDiff, hlen, hix, w_index, ev_index, e0, e3, hxb']) ?hl ?_
        case hl => first | rfl | (simp only [go_sem, List.all_cons, List.all_nil, Bool.not_false, Bool.and_self, hlen, hix, w_index, ev_index, e0, e3, hxb']; done)
        rintro r_ st' ⟨rfl, rfl⟩; refine ⟨fun e => (by cases e), ?_⟩
        simp (disch := omega) only [go_sem, ↓reduceIte, Nat.reduceEqDiff, Nat.reduceAdd, Nat.reduceLeDiff, hlen, hix, w_index, ev_index, e0, e3, hG, hxb', k1]
        refine w_call (l2Digit_ok x.toNat st') (by simp (disch := omega) only [go_sem, ↓reduceIte, Nat.reduceEqDiff, hlen, hix, w_index, ev_index, e0, e3, hxb']) ?hl ?_
        case hl => first | rfl | (simp only [go_sem, List.all_cons, List.all_nil, Bool.not_false, Bool.and_self, hlen, hix, w_index, ev_index, e0, e3, hxb']; done)
        rintro r_ st' ⟨rfl, rfl⟩; refine ⟨fun e => (by cases e), ?_⟩
        simp (disch := omega) only [go_sem, ↓reduceIte, Nat.reduceEqDiff, Nat.reduceAdd, Nat.reduceLeDiff, hG, hlen, hix, w_index, ev_index, e0, e3, k2]; refine hK _ _ ?_; clear hK K hG G; repeat (first | refine thenI ?_ | refine thenE ?_ | refine thenR ?_ | refine inBI ?_ | refine inBR ?_ | refine inBS ?_ | refine inBN (by decide) ?_)
        repeat (first | (refine W_reg rfl fun G K hG hK => ?_; simp (disch := omega) only [go_sem, ↓reduceIte, Nat.reduceEqDiff, Nat.reduceAdd, Nat.reduceLeDiff, hG, hlen, hix, w_index, ev_index, e0, e3]; refine hK _ _ ?_; clear hK K hG G) | (refine W_end rfl fun G K hG hK => ?_; simp (disch := omega) only [go_sem, ↓reduceIte, Nat.reduceEqDiff, Nat.reduceAdd, Nat.reduceLeDiff, hG, hlen, hix, w_index, ev_index, e0, e3]; refine hK _ _ ?_; clear hK K hG G; repeat (first | refine thenI ?_ | refine thenE ?_ | refine thenR ?_ | refine inBI ?_ | refine inBR ?_ | refine inBS ?_ | refine inBN (by decide) ?_)) | refine W_seqS ?_ | refine W_seqC ?_ | refine W_seqB ?_ | refine W_block ?_ | (refine W_skip ?_; repeat (first | refine thenI ?_ | refine thenE ?_ | refine thenR ?_ | refine inBI ?_ | refine inBR ?_ | refine inBS ?_ | refine inBN (by decide) ?_)) | (refine W_condT ?hc ?_; (case hc => (simp (disch := omega) only [go_sem, ↓reduceIte, Nat.reduceEqDiff, Nat.reduceAdd, Nat.reduceLeDiff, hlen, hix, w_index, ev_index, e0, e3]; done))) | (refine W_condF ?hc ?_; (case hc => (simp (disch := omega) only [go_sem, ↓reduceIte, Nat.reduceEqDiff, Nat.reduceAdd, Nat.reduceLeDiff, hlen, hix, w_index, ev_index, e0, e3]; done))))
        refine ⟨r.length - (j + 1), by omega, j + 1, rfl, by omega, rfl, by rw [htk, List.all_append, hall]; simp [hld, k1, k2], (by (simp (disch := omega) only [go_sem, ↓reduceIte, Nat.reduceEqDiff, Nat.reduceAdd, Nat.reduceLeDiff, hlen, hix, w_index, ev_index, e0, e3]); try rfl), (by (simp (disch := omega) only [go_sem, ↓reduceIte, Nat.reduceEqDiff, Nat.reduceAdd, Nat.reduceLeDiff, hlen, hix, w_index, ev_index, e0, e3]); try rfl)⟩
      | false =>
        repeat (first | (refine W_reg rfl fun G K hG hK => ?_; simp (disch := omega) only [go_sem, ↓reduceIte, Nat.reduceEqDiff, Nat.reduceAdd, Nat.reduceLeDiff, hG, hlen, hix, w_index, ev_index, e0, e3, d1]; refine hK _ _ ?_; clear hK K hG G) | (refine W_end rfl fun G K hG hK => ?_; simp (disch := omega) only [go_sem, ↓reduceIte, Nat.reduceEqDiff, Nat.reduceAdd, Nat.reduceLeDiff, hG, hlen, hix, w_index, ev_index, e0, e3, d1]; refine hK _ _ ?_; clear hK K hG G; repeat (first | refine thenI ?_ | refine thenE ?_ | refine thenR ?_ | refine inBI ?_ | refine inBR ?_ | refine inBS ?_ | refine inBN (by decide) ?_)) | refine W_seqS ?_ | refine W_seqC ?_ | refine W_seqB ?_ | refine W_block ?_ | (refine W_skip ?_; repeat (first | refine thenI ?_ | refine thenE ?_ | refine thenR ?_ | refine inBI ?_ | refine inBR ?_ | refine inBS ?_ | refine inBN (by decide) ?_)) | (refine W_condT ?hc ?_; (case hc => (simp (disch := omega) only [go_sem, ↓reduceIte, Nat.reduceEqDiff, Nat.reduceAdd, Nat.reduceLeDiff, hlen, hix, w_index, ev_index, e0, e3, d1]; done))) | (refine W_condF ?hc ?_; (case hc => (simp (disch := omega) only [go_sem, ↓reduceIte, Nat.reduceEqDiff, Nat.reduceAdd, Nat.reduceLeDiff, hlen, hix, w_index, ev_index, e0, e3, d1]; done))))
        (repeat (first | refine W_seqS ?_ | refine W_seqC ?_ | refine W_seqB ?_ | refine W_block ?_)); refine W_reg rfl fun G K hG hK => ?_; simp (disch := omega) only [go_sem, ↓reduceIte, Nat.reduceEqDiff, Nat.reduceAdd, Nat.reduceLeDiff, hG, hlen, hix, w_index, ev_index, e0, e3, hxb']
        refine w_call (l2Lower_ok x.toNat st') (by simp (disch := omega) only [go_sem, ↓reduceIte, Nat.reduceEqDiff, hlen, hix, w_index, ev_index, e0, e3, hxb']) ?hl ?_
        case hl => first | rfl | (simp only [go_sem, List.all_cons, List.all_nil, Bool.not_false, Bool.and_self, hlen, hix, w_index, ev_index, e0, e3, hxb']; done)
        rintro r_ st' ⟨rfl, rfl⟩; refine ⟨fun e => (by cases e), ?_⟩
        simp (disch := omega) only [go_sem, ↓reduceIte, Nat.reduceEqDiff, Nat.reduceAdd, Nat.reduceLeDiff, hlen, hix, w_index, ev_index, e0, e3, hG, hxb', k1]
        refine w_call (l2Digit_ok x.toNat st') (by simp (disch := omega) only [go_sem, ↓reduceIte, Nat.reduceEqDiff, hlen, hix, w_index, ev_index, e0, e3, hxb']) ?hl ?_
        case hl => first | rfl | (simp only [go_sem, List.all_cons, List.all_nil, Bool.not_false, Bool.and_self, hlen, hix, w_index, ev_index, e0, e3, hxb']; done)
        rintro r_ st' ⟨rfl, rfl⟩; refine ⟨fun e => (by cases e), ?_⟩
        simp (disch := omega) only [go_sem, ↓reduceIte, Nat.reduceEqDiff, Nat.reduceAdd, Nat.reduceLeDiff, hG, hlen, hix, w_index, ev_index, e0, e3, k2]; refine hK _ _ ?_; clear hK K hG G; repeat (first | refine thenI ?_ | refine thenE ?_ | refine thenR ?_ | refine inBI ?_ | refine inBR ?_ | refine inBS ?_ | refine inBN (by decide) ?_)
        repeat (first | (refine W_reg rfl fun G K hG hK => ?_; simp (disch := omega) only [go_sem, ↓reduceIte, Nat.reduceEqDiff, Nat.reduceAdd, Nat.reduceLeDiff, hG, hlen, hix, w_index, ev_index, e0, e3]; refine hK _ _ ?_; clear hK K hG G) | (refine W_end rfl fun G K hG hK => ?_; simp (disch := omega) only [go_sem, ↓reduceIte, Nat.reduceEqDiff, Nat.reduceAdd, Nat.reduceLeDiff, hG, hlen, hix, w_index, ev_index, e0, e3]; refine hK _ _ ?_; clear hK K hG G; repeat (first | refine thenI ?_ | refine thenE ?_ | refine thenR ?_ | refine inBI ?_ | refine inBR ?_ | refine inBS ?_ | refine inBN (by decide) ?_)) | refine W_seqS ?_ | refine W_seqC ?_ | refine W_seqB ?_ | refine W_block ?_ | (refine W_skip ?_; repeat (first | refine thenI ?_ | refine thenE ?_ | refine thenR ?_ | refine inBI ?_ | refine inBR ?_ | refine inBS ?_ | refine inBN (by decide) ?_)) | (refine W_condT ?hc ?_; (case hc => (simp (disch := omega) only [go_sem, ↓reduceIte, Nat.reduceEqDiff, Nat.reduceAdd, Nat.reduceLeDiff, hlen, hix, w_index, ev_index, e0, e3]; done))) | (refine W_condF ?hc ?_; (case hc => (simp (disch := omega) only [go_sem, ↓reduceIte, Nat.reduceEqDiff, Nat.reduceAdd, Nat.reduceLeDiff, hlen, hix, w_index, ev_index, e0, e3]; done))))
        refine W_ret ?_; try (repeat (first | refine thenI ?_ | refine thenE ?_ | refine thenR ?_ | refine inBI ?_ | refine inBR ?_ | refine inBS ?_ | refine inBN (by decide) ?_))
        refine fin1 (.inl rfl) (by (simp (disch := omega) only [go_sem, ↓reduceIte, Nat.reduceEqDiff, Nat.reduceAdd, Nat.reduceLeDiff, hlen, hix, w_index, ev_index, e0, e3]); try rfl) rfl ⟨by rw [bad (by rw [hld, k1, k2]; rfl)]; rfl, rfl⟩
  · have d1 : decide ((j : Int) + 1 < (s.size : Int)) = false := by simp; omega
    obtain rfl : j = r.length := by omega
    rw [List.take_length] at hall
    repeat (first | (refine W_reg rfl fun G K hG hK => ?_; simp (disch := omega) only [go_sem, ↓reduceIte, Nat.reduceEqDiff, Nat.reduceAdd, Nat.reduceLeDiff, hG, hlen, hix, w_index, ev_index, e0, e3, d1]; refine hK _ _ ?_; clear hK K hG G) | (refine W_end rfl fun G K hG hK => ?_; simp (disch := omega) only [go_sem, ↓reduceIte, Nat.reduceEqDiff, Nat.reduceAdd, Nat.reduceLeDiff, hG, hlen, hix, w_index, ev_index, e0, e3, d1]; refine hK _ _ ?_; clear hK K hG G; repeat (first | refine thenI ?_ | refine thenE ?_ | refine thenR ?_ | refine inBI ?_ | refine inBR ?_ | refine inBS ?_ | refine inBN (by decide) ?_)) | refine W_seqS ?_ | refine W_seqC ?_ | refine W_seqB ?_ | refine W_block ?_ | (refine W_skip ?_; repeat (first | refine thenI ?_ | refine thenE ?_ | refine thenR ?_ | refine inBI ?_ | refine inBR ?_ | refine inBS ?_ | refine inBN (by decide) ?_)) | (refine W_condT ?hc ?_; (case hc => (simp (disch := omega) only [go_sem, ↓reduceIte, Nat.reduceEqDiff, Nat.reduceAdd, Nat.reduceLeDiff, hlen, hix, w_index, ev_index, e0, e3, d1]; done))) | (refine W_condF ?hc ?_; (case hc => (simp (disch := omega) only [go_sem, ↓reduceIte, Nat.reduceEqDiff, Nat.reduceAdd, Nat.reduceLeDiff, hlen, hix, w_index, ev_index, e0, e3, d1]; done))))
    refine W_exit ?_; repeat (first | refine thenI ?_ | refine thenE ?_ | refine thenR ?_ | refine inBI ?_ | refine inBR ?_ | refine inBS ?_ | refine inBN (by decide) ?_)
    repeat (first | (refine W_reg rfl fun G K hG hK => ?_; simp (disch := omega) only [go_sem, ↓reduceIte, Nat.reduceEqDiff, Nat.reduceAdd, Nat.reduceLeDiff, hG, hlen, hix, w_index, ev_index, e0, e3]; refine hK _ _ ?_; clear hK K hG G) | (refine W_end rfl fun G K hG hK => ?_; simp (disch := omega) only [go_sem, ↓reduceIte, Nat.reduceEqDiff, Nat.reduceAdd, Nat.reduceLeDiff, hG, hlen, hix, w_index, ev_index, e0, e3]; refine hK _ _ ?_; clear hK K hG G; repeat (first | refine thenI ?_ | refine thenE ?_ | refine thenR ?_ | refine inBI ?_ | refine inBR ?_ | refine inBS ?_ | refine inBN (by decide) ?_)) | refine W_seqS ?_ | refine W_seqC ?_ | refine W_seqB ?_ | refine W_block ?_ | (refine W_skip ?_; repeat (first | refine thenI ?_ | refine thenE ?_ | refine thenR ?_ | refine inBI ?_ | refine inBR ?_ | refine inBS ?_ | refine inBN (by decide) ?_)) | (refine W_condT ?hc ?_; (case hc => (simp (disch := omega) only [go_sem, ↓reduceIte, Nat.reduceEqDiff, Nat.reduceAdd, Nat.reduceLeDiff, hlen, hix, w_index, ev_index, e0, e3]; done))) | (refine W_condF ?hc ?_; (case hc => (simp (disch := omega) only [go_sem, ↓reduceIte, Nat.reduceEqDiff, Nat.reduceAdd, Nat.reduceLeDiff, hlen, hix, w_index, ev_index, e0, e3]; done))))
    (repeat (first | refine W_seqS ?_ | refine W_seqC ?_ | refine W_seqB ?_ | refine W_block ?_)); refine W_reg rfl fun G K hG hK => ?_; simp (disch := omega) only [go_sem, ↓reduceIte, Nat.reduceEqDiff, Nat.reduceAdd, Nat.reduceLeDiff, hG, hlen, hix, w_index, ev_index, e0, e3]
    refine w_call (l1In_ok s.size 1 8 st') (by simp (disch := omega) only [go_sem, ↓reduceIte, Nat.reduceEqDiff, hlen, hix, w_index, ev_index, e0, e3]) ?hl ?_
    case hl => first | rfl | (simp only [go_sem, List.all_cons, List.all_nil, Bool.not_false, Bool.and_self, hlen, hix, w_index, ev_index, e0, e3]; done)
    rintro r_ st' ⟨rfl, rfl⟩; refine ⟨fun e => (by cases e), ?_⟩
    simp (disch := omega) only [go_sem, ↓reduceIte, Nat.reduceEqDiff, Nat.reduceAdd, Nat.reduceLeDiff, hG, hlen, hix, w_index, ev_index, e0, e3]; refine hK _ _ ?_; clear hK K hG G; repeat (first | refine thenI ?_ | refine thenE ?_ | refine thenR ?_ | refine inBI ?_ | refine inBR ?_ | refine inBS ?_ | refine inBN (by decide) ?_)
    refine W_ret ?_; try (repeat (first | refine thenI ?_ | refine thenE ?_ | refine thenR ?_ | refine inBI ?_ | refine inBR ?_ | refine inBS ?_ | refine inBN (by decide) ?_))
    refine fin1 (.inl rfl) (by (simp (disch := omega) only [go_sem, ↓reduceIte, Nat.reduceEqDiff, Nat.reduceAdd, Nat.reduceLeDiff, hlen, hix, w_index, ev_index, e0, e3]); try rfl) rfl ⟨?_, rfl⟩
    rw [hall]
    congr 1
    have e1 : decide ((s.size : Int) ≥ 1) = true := by simp; omega
    rw [e1]
    simp only [Bool.true_and]
    rw [decide_eq_decide]
    omega
theorem neq_empty {s : ByteArray} : (s.toList == (⟨#[]⟩ : ByteArray).toList) = s.data.toList.isEmpty := by
  rw [Lib.toList_data, Lib.toList_data]
  cases s.data.toList <;> rfl
theorem specIsName_ok (s : ByteArray) (hbig : s.size ≤ 9223372036854775807) (st : St) : CallS Tryd.prog 47 [.string s] st fun r st' => r = .bool (isName s) ∧ st' = st := by
  refine CallS_of_W [] 14 Tryd.func47 rfl rfl rfl rfl (by simp) ?_
  have hix := fun (k : IntKind) (i : Int) (h0 : 0 ≤ i) (h1 : i < s.size) => idxS (k := k) Tryd.underlying9 h0 h1
  cases hl : s.data.toList with
  | nil =>
    have c0 : ([] : List UInt8).isEmpty = true := rfl
    repeat (first | (refine W_reg rfl fun G K hG hK => ?_; simp (disch := omega) only [go_sem, ↓reduceIte, Nat.reduceEqDiff, Nat.reduceAdd, Nat.reduceLeDiff, hG, hix, w_index, ev_index, neq_empty, hl, c0]; refine hK _ _ ?_; clear hK K hG G) | (refine W_end rfl fun G K hG hK => ?_; simp (disch := omega) only [go_sem, ↓reduceIte, Nat.reduceEqDiff, Nat.reduceAdd, Nat.reduceLeDiff, hG, hix, w_index, ev_index, neq_empty, hl, c0]; refine hK _ _ ?_; clear hK K hG G; repeat (first | refine thenI ?_ | refine thenE ?_ | refine thenR ?_ | refine inBI ?_ | refine inBR ?_ | refine inBS ?_ | refine inBN (by decide) ?_)) | refine W_seqS ?_ | refine W_seqC ?_ | refine W_seqB ?_ | refine W_block ?_ | (refine W_skip ?_; repeat (first | refine thenI ?_ | refine thenE ?_ | refine thenR ?_ | refine inBI ?_ | refine inBR ?_ | refine inBS ?_ | refine inBN (by decide) ?_)) | (refine W_condT ?hc ?_; (case hc => (simp (disch := omega) only [go_sem, ↓reduceIte, Nat.reduceEqDiff, Nat.reduceAdd, Nat.reduceLeDiff, hix, w_index, ev_index, neq_empty, hl, c0]; done))) | (refine W_condF ?hc ?_; (case hc => (simp (disch := omega) only [go_sem, ↓reduceIte, Nat.reduceEqDiff, Nat.reduceAdd, Nat.reduceLeDiff, hix, w_index, ev_index, neq_empty, hl, c0]; done))))
    refine W_ret ?_; try (repeat (first | refine thenI ?_ | refine thenE ?_ | refine thenR ?_ | refine inBI ?_ | refine inBR ?_ | refine inBS ?_ | refine inBN (by decide) ?_))
    refine fin1 (.inl rfl) (by (simp (disch := omega) only [go_sem, ↓reduceIte, Nat.reduceEqDiff, Nat.reduceAdd, Nat.reduceLeDiff, hix, w_index, ev_index, neq_empty]); try rfl) rfl ⟨by unfold isName; rw [hl]; rfl, rfl⟩
  | cons b r =>
    have hsz : s.size = r.length + 1 := by rw [size_list, hl]; simp
    have c0 : (b :: r).isEmpty = false := rfl
    obtain ⟨b', r', hb, hby, hr1⟩ := drop_byte (s := s) (i := 0) (by omega)
    rw [List.drop_zero, hl] at hb
    cases hb
    have hby' : byteAt s (0 : Int).toNat = (b.toNat : Int) := hby
    have hnm : isName s = ((decide (97 ≤ b.toNat) && decide (b.toNat ≤ 122)) && (r.all lowDig && decide (r.length ≤ 7))) := nm_of hl
    cases k1 : (decide (97 ≤ b.toNat) && decide (b.toNat ≤ 122)) with
    | false =>
      repeat (first | (refine W_reg rfl fun G K hG hK => ?_; simp (disch := omega) only [go_sem, ↓reduceIte, Nat.reduceEqDiff, Nat.reduceAdd, Nat.reduceLeDiff, hG, hix, w_index, ev_index, neq_empty]; refine hK _ _ ?_; clear hK K hG G) | (refine W_end rfl fun G K hG hK => ?_; simp (disch := omega) only [go_sem, ↓reduceIte, Nat.reduceEqDiff, Nat.reduceAdd, Nat.reduceLeDiff, hG, hix, w_index, ev_index, neq_empty]; refine hK _ _ ?_; clear hK K hG G; repeat (first | refine thenI ?_ | refine thenE ?_ | refine thenR ?_ | refine inBI ?_ | refine inBR ?_ | refine inBS ?_ | refine inBN (by decide) ?_)) | refine W_seqS ?_ | refine W_seqC ?_ | refine W_seqB ?_ | refine W_block ?_ | (refine W_skip ?_; repeat (first | refine thenI ?_ | refine thenE ?_ | refine thenR ?_ | refine inBI ?_ | refine inBR ?_ | refine inBS ?_ | refine inBN (by decide) ?_)) | (refine W_condT ?hc ?_; (case hc => (simp (disch := omega) only [go_sem, ↓reduceIte, Nat.reduceEqDiff, Nat.reduceAdd, Nat.reduceLeDiff, hix, w_index, ev_index, neq_empty]; done))) | (refine W_condF ?hc ?_; (case hc => (simp (disch := omega) only [go_sem, ↓reduceIte, Nat.reduceEqDiff, Nat.reduceAdd, Nat.reduceLeDiff, hix, w_index, ev_index, neq_empty]; done))))
      (repeat (first | refine W_seqS ?_ | refine W_seqC ?_ | refine W_seqB ?_ | refine W_block ?_)); refine W_reg rfl fun G K hG hK => ?_; simp (disch := omega) only [go_sem, ↓reduceIte, Nat.reduceEqDiff, Nat.reduceAdd, Nat.reduceLeDiff, hG, hix, w_index, ev_index, neq_empty, hl, c0, hby']
      refine w_call (l2Lower_ok b.toNat st) (by simp (disch := omega) only [go_sem, ↓reduceIte, Nat.reduceEqDiff, hix, w_index, ev_index, neq_empty]) ?hl ?_
      case hl => first | rfl | (simp only [go_sem, List.all_cons, List.all_nil, Bool.not_false, Bool.and_self, hix, w_index, ev_index, neq_empty]; done)
      rintro r_ st ⟨rfl, rfl⟩; refine ⟨fun e => (by cases e), ?_⟩
      simp (disch := omega) only [go_sem, ↓reduceIte, Nat.reduceEqDiff, Nat.reduceAdd, Nat.reduceLeDiff, hG, hix, w_index, ev_index, neq_empty, k1]; refine hK _ _ ?_; clear hK K hG G; repeat (first | refine thenI ?_ | refine thenE ?_ | refine thenR ?_ | refine inBI ?_ | refine inBR ?_ | refine inBS ?_ | refine inBN (by decide) ?_)
      refine W_ret ?_; try (repeat (first | refine thenI ?_ | refine thenE ?_ | refine thenR ?_ | refine inBI ?_ | refine inBR ?_ | refine inBS ?_ | refine inBN (by decide) ?_))
      refine fin1 (.inl rfl) (by (simp (disch := omega) only [go_sem, ↓reduceIte, Nat.reduceEqDiff, Nat.reduceAdd, Nat.reduceLeDiff, hix, w_index, ev_index, neq_empty]); try rfl) rfl ⟨by rw [hnm, k1]; rfl, rfl⟩
    | true =>
      repeat (first | (refine W_reg rfl fun G K hG hK => ?_; simp (disch := omega) only [go_sem, ↓reduceIte, Nat.reduceEqDiff, Nat.reduceAdd, Nat.reduceLeDiff, hG, hix, w_index, ev_index, neq_empty]; refine hK _ _ ?_; clear hK K hG G) | (refine W_end rfl fun G K hG hK => ?_; simp (disch := omega) only [go_sem, ↓reduceIte, Nat.reduceEqDiff, Nat.reduceAdd, Nat.reduceLeDiff, hG, hix, w_index, ev_index, neq_empty]; refine hK _ _ ?_; clear hK K hG G; repeat (first | refine thenI ?_ | refine thenE ?_ | refine thenR ?_ | refine inBI ?_ | refine inBR ?_ | refine inBS ?_ | refine inBN (by decide) ?_)) | refine W_seqS ?_ | refine W_seqC ?_ | refine W_seqB ?_ | refine W_block ?_ | (refine W_skip ?_; repeat (first | refine thenI ?_ | refine thenE ?_ | refine thenR ?_ | refine inBI ?_ | refine inBR ?_ | refine inBS ?_ | refine inBN (by decide) ?_)) | (refine W_condT ?hc ?_; (case hc => (simp (disch := omega) only [go_sem, ↓reduceIte, Nat.reduceEqDiff, Nat.reduceAdd, Nat.reduceLeDiff, hix, w_index, ev_index, neq_empty]; done))) | (refine W_condF ?hc ?_; (case hc => (simp (disch := omega) only [go_sem, ↓reduceIte, Nat.reduceEqDiff, Nat.reduceAdd, Nat.reduceLeDiff, hix, w_index, ev_index, neq_empty]; done))))
      (repeat (first | refine W_seqS ?_ | refine W_seqC ?_ | refine W_seqB ?_ | refine W_block ?_)); refine W_reg rfl fun G K hG hK => ?_; simp (disch := omega) only [go_sem, ↓reduceIte, Nat.reduceEqDiff, Nat.reduceAdd, Nat.reduceLeDiff, hG, hix, w_index, ev_index, neq_empty, hl, c0, hby']
      refine w_call (l2Lower_ok b.toNat st) (by simp (disch := omega) only [go_sem, ↓reduceIte, Nat.reduceEqDiff, hix, w_index, ev_index, neq_empty]) ?hl ?_
      case hl => first | rfl | (simp only [go_sem, List.all_cons, List.all_nil, Bool.not_false, Bool.and_self, hix, w_index, ev_index, neq_empty]; done)
      rintro r_ st ⟨rfl, rfl⟩; refine ⟨fun e => (by cases e), ?_⟩
      simp (disch := omega) only [go_sem, ↓reduceIte, Nat.reduceEqDiff, Nat.reduceAdd, Nat.reduceLeDiff, hix, w_index, ev_index, neq_empty, hG, hl, c0, hby', k1]
      refine w_call (l2Rest_ok s b r hl hbig st) (by simp (disch := omega) only [go_sem, ↓reduceIte, Nat.reduceEqDiff, hix, w_index, ev_index, neq_empty]) ?hl ?_
      case hl => first | rfl | (simp only [go_sem, List.all_cons, List.all_nil, Bool.not_false, Bool.and_self, hix, w_index, ev_index, neq_empty]; done)
      rintro r_ st ⟨rfl, rfl⟩; refine ⟨fun e => (by cases e), ?_⟩
      simp (disch := omega) only [go_sem, ↓reduceIte, Nat.reduceEqDiff, Nat.reduceAdd, Nat.reduceLeDiff, hG, hix, w_index, ev_index, neq_empty]; refine hK _ _ ?_; clear hK K hG G; repeat (first | refine thenI ?_ | refine thenE ?_ | refine thenR ?_ | refine inBI ?_ | refine inBR ?_ | refine inBS ?_ | refine inBN (by decide) ?_)
      refine W_ret ?_; try (repeat (first | refine thenI ?_ | refine thenE ?_ | refine thenR ?_ | refine inBI ?_ | refine inBR ?_ | refine inBS ?_ | refine inBN (by decide) ?_))
      refine fin1 (.inl rfl) (by (simp (disch := omega) only [go_sem, ↓reduceIte, Nat.reduceEqDiff, Nat.reduceAdd, Nat.reduceLeDiff, hix, w_index, ev_index, neq_empty]); try rfl) rfl ⟨by rw [hnm, k1]; rfl, rfl⟩
theorem specIsVar_ok (s : ByteArray) (hbig : s.size ≤ 9223372036854775807) (st : St) : CallS Tryd.prog 16 [.string s] st fun r st' => r = .bool (isVar s) ∧ st' = st := by
  refine CallS_of_W [] 19 Tryd.func16 rfl rfl rfl rfl (by simp) ?_
  have hix := fun (k : IntKind) (i : Int) (h0 : 0 ≤ i) (h1 : i < s.size) => idxS (k := k) Tryd.underlying9 h0 h1
  cases hl : s.data.toList with
  | nil =>
    have c0 : ([] : List UInt8).isEmpty = true := rfl
    repeat (first | (refine W_reg rfl fun G K hG hK => ?_; simp (disch := omega) only [go_sem, ↓reduceIte, Nat.reduceEqDiff, Nat.reduceAdd, Nat.reduceLeDiff, hG, hix, w_index, ev_index, neq_empty, hl, c0]; refine hK _ _ ?_; clear hK K hG G) | (refine W_end rfl fun G K hG hK => ?_; simp (disch := omega) only [go_sem, ↓reduceIte, Nat.reduceEqDiff, Nat.reduceAdd, Nat.reduceLeDiff, hG, hix, w_index, ev_index, neq_empty, hl, c0]; refine hK _ _ ?_; clear hK K hG G; repeat (first | refine thenI ?_ | refine thenE ?_ | refine thenR ?_ | refine inBI ?_ | refine inBR ?_ | refine inBS ?_ | refine inBN (by decide) ?_)) | refine W_seqS ?_ | refine W_seqC ?_ | refine W_seqB ?_ | refine W_block ?_ | (refine W_skip ?_; repeat (first | refine thenI ?_ | refine thenE ?_ | refine thenR ?_ | refine inBI ?_ | refine inBR ?_ | refine inBS ?_ | refine inBN (by decide) ?_)) | (refine W_condT ?hc ?_; (case hc => (simp (disch := omega) only [go_sem, ↓reduceIte, Nat.reduceEqDiff, Nat.reduceAdd, Nat.reduceLeDiff, hix, w_index, ev_index, neq_empty, hl, c0]; done))) | (refine W_condF ?hc ?_; (case hc => (simp (disch := omega) only [go_sem, ↓reduceIte, Nat.reduceEqDiff, Nat.reduceAdd, Nat.reduceLeDiff, hix, w_index, ev_index, neq_empty, hl, c0]; done))))
    refine W_ret ?_; try (repeat (first | refine thenI ?_ | refine thenE ?_ | refine thenR ?_ | refine inBI ?_ | refine inBR ?_ | refine inBS ?_ | refine inBN (by decide) ?_))
    refine fin1 (.inl rfl) (by (simp (disch := omega) only [go_sem, ↓reduceIte, Nat.reduceEqDiff, Nat.reduceAdd, Nat.reduceLeDiff, hix, w_index, ev_index, neq_empty]); try rfl) rfl ⟨by unfold isVar; rw [hl]; rfl, rfl⟩
  | cons b r =>
    have hsz : s.size = r.length + 1 := by rw [size_list, hl]; simp
    have c0 : (b :: r).isEmpty = false := rfl
    obtain ⟨b', r', hb, hby, hr1⟩ := drop_byte (s := s) (i := 0) (by omega)
    rw [List.drop_zero, hl] at hb
    cases hb
    have hby' : byteAt s (0 : Int).toNat = (b.toNat : Int) := hby
    have hnm : isVar s = ((decide (65 ≤ b.toNat) && decide (b.toNat ≤ 90)) && (r.all lowDig && decide (r.length ≤ 7))) := nm_of hl
    by_cases h1 : 65 ≤ b.toNat
    · have c1 : decide ((b.toNat : Int) ≥ 65) = true := by simp; omega
      by_cases h2 : b.toNat ≤ 90
      · have c2 : decide ((b.toNat : Int) ≤ 90) = true := by simp; omega
        repeat (first | (refine W_reg rfl fun G K hG hK => ?_; simp (disch := omega) only [go_sem, ↓reduceIte, Nat.reduceEqDiff, Nat.reduceAdd, Nat.reduceLeDiff, hG, hix, w_index, ev_index, neq_empty]; refine hK _ _ ?_; clear hK K hG G) | (refine W_end rfl fun G K hG hK => ?_; simp (disch := omega) only [go_sem, ↓reduceIte, Nat.reduceEqDiff, Nat.reduceAdd, Nat.reduceLeDiff, hG, hix, w_index, ev_index, neq_empty]; refine hK _ _ ?_; clear hK K hG G; repeat (first | refine thenI ?_ | refine thenE ?_ | refine thenR ?_ | refine inBI ?_ | refine inBR ?_ | refine inBS ?_ | refine inBN (by decide) ?_)) | refine W_seqS ?_ | refine W_seqC ?_ | refine W_seqB ?_ | refine W_block ?_ | (refine W_skip ?_; repeat (first | refine thenI ?_ | refine thenE ?_ | refine thenR ?_ | refine inBI ?_ | refine inBR ?_ | refine inBS ?_ | refine inBN (by decide) ?_)) | (refine W_condT ?hc ?_; (case hc => (simp (disch := omega) only [go_sem, ↓reduceIte, Nat.reduceEqDiff, Nat.reduceAdd, Nat.reduceLeDiff, hix, w_index, ev_index, neq_empty]; done))) | (refine W_condF ?hc ?_; (case hc => (simp (disch := omega) only [go_sem, ↓reduceIte, Nat.reduceEqDiff, Nat.reduceAdd, Nat.reduceLeDiff, hix, w_index, ev_index, neq_empty]; done))))
        (repeat (first | refine W_seqS ?_ | refine W_seqC ?_ | refine W_seqB ?_ | refine W_block ?_)); refine W_reg rfl fun G K hG hK => ?_; simp (disch := omega) only [go_sem, ↓reduceIte, Nat.reduceEqDiff, Nat.reduceAdd, Nat.reduceLeDiff, hG, hix, w_index, ev_index, neq_empty, hl, c0, hby', c1, c2]
        refine w_call (l2Rest_ok s b r hl hbig st) (by simp (disch := omega) only [go_sem, ↓reduceIte, Nat.reduceEqDiff, hix, w_index, ev_index, neq_empty]) ?hl ?_
        case hl => first | rfl | (simp only [go_sem, List.all_cons, List.all_nil, Bool.not_false, Bool.and_self, hix, w_index, ev_index, neq_empty]; done)
        rintro r_ st ⟨rfl, rfl⟩; refine ⟨fun e => (by cases e), ?_⟩
        simp (disch := omega) only [go_sem, ↓reduceIte, Nat.reduceEqDiff, Nat.reduceAdd, Nat.reduceLeDiff, hG, hix, w_index, ev_index, neq_empty]; refine hK _ _ ?_; clear hK K hG G; repeat (first | refine thenI ?_ | refine thenE ?_ | refine thenR ?_ | refine inBI ?_ | refine inBR ?_ | refine inBS ?_ | refine inBN (by decide) ?_)
        refine W_ret ?_; try (repeat (first | refine thenI ?_ | refine thenE ?_ | refine thenR ?_ | refine inBI ?_ | refine inBR ?_ | refine inBS ?_ | refine inBN (by decide) ?_))
        refine fin1 (.inl rfl) (by (simp (disch := omega) only [go_sem, ↓reduceIte, Nat.reduceEqDiff, Nat.reduceAdd, Nat.reduceLeDiff, hix, w_index, ev_index, neq_empty]); try rfl) rfl ⟨by rw [hnm]; simp [h1, h2], rfl⟩
      · have c2 : decide ((b.toNat : Int) ≤ 90) = false := by simp; omega
        repeat (first | (refine W_reg rfl fun G K hG hK => ?_; simp (disch := omega) only [go_sem, ↓reduceIte, Nat.reduceEqDiff, Nat.reduceAdd, Nat.reduceLeDiff, hG, hix, w_index, ev_index, neq_empty, hl, c0, hby', c1, c2]; refine hK _ _ ?_; clear hK K hG G) | (refine W_end rfl fun G K hG hK => ?_; simp (disch := omega) only [go_sem, ↓reduceIte, Nat.reduceEqDiff, Nat.reduceAdd, Nat.reduceLeDiff, hG, hix, w_index, ev_index, neq_empty, hl, c0, hby', c1, c2]; refine hK _ _ ?_; clear hK K hG G; repeat (first | refine thenI ?_ | refine thenE ?_ | refine thenR ?_ | refine inBI ?_ | refine inBR ?_ | refine inBS ?_ | refine inBN (by decide) ?_)) | refine W_seqS ?_ | refine W_seqC ?_ | refine W_seqB ?_ | refine W_block ?_ | (refine W_skip ?_; repeat (first | refine thenI ?_ | refine thenE ?_ | refine thenR ?_ | refine inBI ?_ | refine inBR ?_ | refine inBS ?_ | refine inBN (by decide) ?_)) | (refine W_condT ?hc ?_; (case hc => (simp (disch := omega) only [go_sem, ↓reduceIte, Nat.reduceEqDiff, Nat.reduceAdd, Nat.reduceLeDiff, hix, w_index, ev_index, neq_empty, hl, c0, hby', c1, c2]; done))) | (refine W_condF ?hc ?_; (case hc => (simp (disch := omega) only [go_sem, ↓reduceIte, Nat.reduceEqDiff, Nat.reduceAdd, Nat.reduceLeDiff, hix, w_index, ev_index, neq_empty, hl, c0, hby', c1, c2]; done))))
        refine W_ret ?_; try (repeat (first | refine thenI ?_ | refine thenE ?_ | refine thenR ?_ | refine inBI ?_ | refine inBR ?_ | refine inBS ?_ | refine inBN (by decide) ?_))
        refine fin1 (.inl rfl) (by (simp (disch := omega) only [go_sem, ↓reduceIte, Nat.reduceEqDiff, Nat.reduceAdd, Nat.reduceLeDiff, hix, w_index, ev_index, neq_empty]); try rfl) rfl ⟨by rw [hnm]; simp [h1, h2], rfl⟩
    · have c1 : decide ((b.toNat : Int) ≥ 65) = false := by simp; omega
      repeat (first | (refine W_reg rfl fun G K hG hK => ?_; simp (disch := omega) only [go_sem, ↓reduceIte, Nat.reduceEqDiff, Nat.reduceAdd, Nat.reduceLeDiff, hG, hix, w_index, ev_index, neq_empty, hl, c0, hby', c1]; refine hK _ _ ?_; clear hK K hG G) | (refine W_end rfl fun G K hG hK => ?_; simp (disch := omega) only [go_sem, ↓reduceIte, Nat.reduceEqDiff, Nat.reduceAdd, Nat.reduceLeDiff, hG, hix, w_index, ev_index, neq_empty, hl, c0, hby', c1]; refine hK _ _ ?_; clear hK K hG G; repeat (first | refine thenI ?_ | refine thenE ?_ | refine thenR ?_ | refine inBI ?_ | refine inBR ?_ | refine inBS ?_ | refine inBN (by decide) ?_)) | refine W_seqS ?_ | refine W_seqC ?_ | refine W_seqB ?_ | refine W_block ?_ | (refine W_skip ?_; repeat (first | refine thenI ?_ | refine thenE ?_ | refine thenR ?_ | refine inBI ?_ | refine inBR ?_ | refine inBS ?_ | refine inBN (by decide) ?_)) | (refine W_condT ?hc ?_; (case hc => (simp (disch := omega) only [go_sem, ↓reduceIte, Nat.reduceEqDiff, Nat.reduceAdd, Nat.reduceLeDiff, hix, w_index, ev_index, neq_empty, hl, c0, hby', c1]; done))) | (refine W_condF ?hc ?_; (case hc => (simp (disch := omega) only [go_sem, ↓reduceIte, Nat.reduceEqDiff, Nat.reduceAdd, Nat.reduceLeDiff, hix, w_index, ev_index, neq_empty, hl, c0, hby', c1]; done))))
      refine W_ret ?_; try (repeat (first | refine thenI ?_ | refine thenE ?_ | refine thenR ?_ | refine inBI ?_ | refine inBR ?_ | refine inBS ?_ | refine inBN (by decide) ?_))
      refine fin1 (.inl rfl) (by (simp (disch := omega) only [go_sem, ↓reduceIte, Nat.reduceEqDiff, Nat.reduceAdd, Nat.reduceLeDiff, hix, w_index, ev_index, neq_empty]); try rfl) rfl ⟨by rw [hnm]; simp [h1], rfl⟩
end Go.Proofs.YtlmbmplhdfgmfaaDoor.AM


/- Numbers are read: impl.whole, spec.l1Read, ParseInt, ParseNumber. -/
namespace Go.Proofs.YtlmbmplhdfgmfaaDoor.AM
open Go Go.Proofs Go.Lib
set_option linter.unusedVariables false
set_option linter.unusedSimpArgs false
set_option maxRecDepth 100000
attribute [local go_sem] List.map_cons List.map_nil List.all_cons List.all_nil Bool.and_self Option.map_some List.getElem?_toArray Option.bind_some gye_b gye_t gsk_b gsk_t gb1 gb2 gb3 gb4 bne_self_eq_false beq_self_eq_true w_guard w_nil stepV_some step_some step_some' w_move w_assign w_pick w_binOp w_unOp w_load w_fieldAddr w_indexAddr w_len w_max w_index ev_max max_int ev_index w_box w_alloc w_store w_field w_extract w_nilCheck w_convert w_buildSlice w_build ev_buildL fillL_nil fillL_cons bs0 bs1 ev_conv ev_bin ev_un ev_pick ev_load ev_fieldAddr ev_indexAddr ev_len ev_field ev_extract ev_nilCheck fr_tmp fr_int fr_bool fr_str fr_nil fr_func put_some put_none bin_lss bin_leq bin_gtr bin_geq bin_eql bin_neq bin_add bin_sub bin_mul bin_seql bin_sneq un_not pick_ ext_ loadA_p cellAt_l cellAt_h okPtr_l okPtr_h fadA_p allocA_l storeA_l cells_agg cells_int cells_str cells_sl cells_bool flat_i flat_s flat_b flat_sl flat_nil loc_agg loc_int loc_str loc_sl loc_bool loc_fn loc_ptr okv_agg okv_int okv_str okv_sl okv_bool cellsFrom splice upd_eval argEnv_zero argEnv_succ ne_eq Nat.add_one_ne_zero not_false_eq_true List.not_mem_nil and_self decide_true List.getElem?_cons_zero List.getElem?_cons_succ List.size_toArray List.length_cons List.length_nil List.take_succ_cons List.take_zero List.drop_succ_cons List.drop_zero List.cons_append List.nil_append List.drop_nil Bool.not_true Bool.not_false Bool.false_eq_true Nat.zero_add Nat.add_zero wrap_in List.toList_toArray List.mem_cons or_self or_false false_or
attribute [local go_sem] ag22 ag24 ag3 ag4 ag5 ag58 ag70 ag9 bu24 bu32 bu37 bu76 bu87 by24 by5 el22 el54 of24_0 of24_1 of24_2 of24_3 of32_0 of32_1 of32_2 of37_0 ro24_1 ro5_1 sz22 sz24 sz3 sz4 sz5 sz58 sz70 sz9 ze24 ze5 ze78 ze92
-- AUTO

theorem neq_nil1 {P : Program} {t u : TypeId} {m : Array (String × TypeId)} {x y : Operand} {p : Value} (hu : P.underlying t = some (.interface m)) (hp : flat (.iface u p) = false) : binE P .neq t x y (.iface u p) .nilIface = some (.bool true) := by
  have he : elemA P t = none := by unfold elemA; rw [hu]
  unfold binE
  rw [hp, he]
  simp only [Bool.false_and, Bool.false_eq_true, if_false]
  unfold eqNilI
  rw [hu]
theorem neq_nil2 {P : Program} {t : TypeId} {m : Array (String × TypeId)} {x : Operand} {v : Value} (hu : P.underlying t = some (.interface m)) : binE P .neq t x (.const v) .nilIface .nilIface = some (.bool false) := by
  have he : pureRun P (Op.equal t .nilIface .nilIface) = some true := by
    show pureRun P (Op.equalIn (9999 + 1) t .nilIface .nilIface) = _
    rw [Op.equalIn, pureRun_bind, pureRun_und hu]
    rfl
  have : binE P .neq t x (.const v) .nilIface .nilIface = flatRun P (do pure (.bool !(← Op.equal t .nilIface .nilIface))) := by cases x <;> rfl
  rw [this, flatRun, pureRun_bind, he]; rfl
theorem fr_ni {fr : Fr} : fr.ev (.const .nilIface) = .nilIface := rfl
/-- A number that was read, or not. -/
def NumQ (o : Option Int) (r : Value) : Prop := match o with
  | some v => r = .tuple #[.int .i64 v, .bool true]
  | none => r = .tuple #[.int .i64 0, .bool false]
theorem implWhole_ok (s : ByteArray) (lo hi : Int) (st : St) (hb : s.size ≤ 281474976710656) (h0 : -9223372036854775808 ≤ lo) (h1 : hi ≤ 9223372036854775807) :
    CallS Tryd.prog 36 [.string s, .int .i64 lo, .int .i64 hi] st fun r st2 => Ext st st2 ∧ NumQ (wholeN lo hi s.data.toList) r := by
  refine CallS_of_W [] 34 Tryd.func36 rfl rfl rfl rfl (by simp) ?_
  repeat (first | (refine W_reg rfl fun G K hG hK => ?_; simp (disch := omega) only [go_sem, ↓reduceIte, Nat.reduceEqDiff, Nat.reduceAdd, Nat.reduceLeDiff, hG, fr_ni]; refine hK _ _ ?_; clear hK K hG G) | (refine W_end rfl fun G K hG hK => ?_; simp (disch := omega) only [go_sem, ↓reduceIte, Nat.reduceEqDiff, Nat.reduceAdd, Nat.reduceLeDiff, hG, fr_ni]; refine hK _ _ ?_; clear hK K hG G; repeat (first | refine thenI ?_ | refine thenE ?_ | refine thenR ?_ | refine inBI ?_ | refine inBR ?_ | refine inBS ?_ | refine inBN (by decide) ?_)) | refine W_seqS ?_ | refine W_seqC ?_ | refine W_seqB ?_ | refine W_block ?_ | (refine W_skip ?_; repeat (first | refine thenI ?_ | refine thenE ?_ | refine thenR ?_ | refine inBI ?_ | refine inBR ?_ | refine inBS ?_ | refine inBN (by decide) ?_)) | (refine W_condT ?hc ?_; (case hc => (simp (disch := omega) only [go_sem, ↓reduceIte, Nat.reduceEqDiff, Nat.reduceAdd, Nat.reduceLeDiff, fr_ni]; done))) | (refine W_condF ?hc ?_; (case hc => (simp (disch := omega) only [go_sem, ↓reduceIte, Nat.reduceEqDiff, Nat.reduceAdd, Nat.reduceLeDiff, fr_ni]; done))))
  (repeat (first | refine W_seqS ?_ | refine W_seqC ?_ | refine W_seqB ?_ | refine W_block ?_)); refine W_reg rfl fun G K hG hK => ?_; simp (disch := omega) only [go_sem, ↓reduceIte, Nat.reduceEqDiff, Nat.reduceAdd, Nat.reduceLeDiff, hG, fr_ni]
  refine w_call (atoi_ok s st hb) (by simp (disch := omega) only [go_sem, ↓reduceIte, Nat.reduceEqDiff, fr_ni]) ?hl ?_
  case hl => first | rfl | (simp only [go_sem, List.all_cons, List.all_nil, Bool.not_false, Bool.and_self, fr_ni]; done)
  rintro r_ sa ⟨x1, hq⟩; refine ⟨fun e => (by cases e), ?_⟩
  cases ha : atoiAll s.data.toList with
  | ok v =>
    rw [ha] at hq
    simp only at hq
    subst hq
    have hn2 : ∀ x v, binE Tryd.prog .neq 58 x (.const v) .nilIface .nilIface = some (.bool false) := fun x v => neq_nil2 Tryd.underlying58
    have hwh : wholeN lo hi s.data.toList = if (lo ≤ v ∧ v ≤ hi) ∧ itoa v = s.data.toList then some v else none := by unfold wholeN; rw [ha]
    simp (disch := omega) only [go_sem, ↓reduceIte, Nat.reduceEqDiff, Nat.reduceAdd, Nat.reduceLeDiff, hG, fr_ni]; refine hK _ _ ?_; clear hK K hG G; repeat (first | refine thenI ?_ | refine thenE ?_ | refine thenR ?_ | refine inBI ?_ | refine inBR ?_ | refine inBS ?_ | refine inBN (by decide) ?_)
    rw [hwh]
    by_cases c1 : v < lo
    · have d1 : decide (v < lo) = true := by simpa using c1
      rw [if_neg (by omega)]
      repeat (first | (refine W_reg rfl fun G K hG hK => ?_; simp (disch := omega) only [go_sem, ↓reduceIte, Nat.reduceEqDiff, Nat.reduceAdd, Nat.reduceLeDiff, hG, fr_ni, hn2, d1]; refine hK _ _ ?_; clear hK K hG G) | (refine W_end rfl fun G K hG hK => ?_; simp (disch := omega) only [go_sem, ↓reduceIte, Nat.reduceEqDiff, Nat.reduceAdd, Nat.reduceLeDiff, hG, fr_ni, hn2, d1]; refine hK _ _ ?_; clear hK K hG G; repeat (first | refine thenI ?_ | refine thenE ?_ | refine thenR ?_ | refine inBI ?_ | refine inBR ?_ | refine inBS ?_ | refine inBN (by decide) ?_)) | refine W_seqS ?_ | refine W_seqC ?_ | refine W_seqB ?_ | refine W_block ?_ | (refine W_skip ?_; repeat (first | refine thenI ?_ | refine thenE ?_ | refine thenR ?_ | refine inBI ?_ | refine inBR ?_ | refine inBS ?_ | refine inBN (by decide) ?_)) | (refine W_condT ?hc ?_; (case hc => (simp (disch := omega) only [go_sem, ↓reduceIte, Nat.reduceEqDiff, Nat.reduceAdd, Nat.reduceLeDiff, fr_ni, hn2, d1]; done))) | (refine W_condF ?hc ?_; (case hc => (simp (disch := omega) only [go_sem, ↓reduceIte, Nat.reduceEqDiff, Nat.reduceAdd, Nat.reduceLeDiff, fr_ni, hn2, d1]; done))))
      refine W_ret ?_; try (repeat (first | refine thenI ?_ | refine thenE ?_ | refine thenR ?_ | refine inBI ?_ | refine inBR ?_ | refine inBS ?_ | refine inBN (by decide) ?_))
      refine fin2 (.inl rfl) (by (simp (disch := omega) only [go_sem, ↓reduceIte, Nat.reduceEqDiff, Nat.reduceAdd, Nat.reduceLeDiff, fr_ni]); try rfl) rfl (by (simp (disch := omega) only [go_sem, ↓reduceIte, Nat.reduceEqDiff, Nat.reduceAdd, Nat.reduceLeDiff, fr_ni]); try rfl) rfl ⟨x1, rfl⟩
    have d1 : decide (v < lo) = false := by simpa using c1
    by_cases c2 : v > hi
    · have d2 : decide (v > hi) = true := by simpa using c2
      rw [if_neg (by omega)]
      repeat (first | (refine W_reg rfl fun G K hG hK => ?_; simp (disch := omega) only [go_sem, ↓reduceIte, Nat.reduceEqDiff, Nat.reduceAdd, Nat.reduceLeDiff, hG, fr_ni, hn2, d1, d2]; refine hK _ _ ?_; clear hK K hG G) | (refine W_end rfl fun G K hG hK => ?_; simp (disch := omega) only [go_sem, ↓reduceIte, Nat.reduceEqDiff, Nat.reduceAdd, Nat.reduceLeDiff, hG, fr_ni, hn2, d1, d2]; refine hK _ _ ?_; clear hK K hG G; repeat (first | refine thenI ?_ | refine thenE ?_ | refine thenR ?_ | refine inBI ?_ | refine inBR ?_ | refine inBS ?_ | refine inBN (by decide) ?_)) | refine W_seqS ?_ | refine W_seqC ?_ | refine W_seqB ?_ | refine W_block ?_ | (refine W_skip ?_; repeat (first | refine thenI ?_ | refine thenE ?_ | refine thenR ?_ | refine inBI ?_ | refine inBR ?_ | refine inBS ?_ | refine inBN (by decide) ?_)) | (refine W_condT ?hc ?_; (case hc => (simp (disch := omega) only [go_sem, ↓reduceIte, Nat.reduceEqDiff, Nat.reduceAdd, Nat.reduceLeDiff, fr_ni, hn2, d1, d2]; done))) | (refine W_condF ?hc ?_; (case hc => (simp (disch := omega) only [go_sem, ↓reduceIte, Nat.reduceEqDiff, Nat.reduceAdd, Nat.reduceLeDiff, fr_ni, hn2, d1, d2]; done))))
      refine W_ret ?_; try (repeat (first | refine thenI ?_ | refine thenE ?_ | refine thenR ?_ | refine inBI ?_ | refine inBR ?_ | refine inBS ?_ | refine inBN (by decide) ?_))
      refine fin2 (.inl rfl) (by (simp (disch := omega) only [go_sem, ↓reduceIte, Nat.reduceEqDiff, Nat.reduceAdd, Nat.reduceLeDiff, fr_ni]); try rfl) rfl (by (simp (disch := omega) only [go_sem, ↓reduceIte, Nat.reduceEqDiff, Nat.reduceAdd, Nat.reduceLeDiff, fr_ni]); try rfl) rfl ⟨x1, rfl⟩
    have d2 : decide (v > hi) = false := by simpa using c2
    (repeat (first | refine W_seqS ?_ | refine W_seqC ?_ | refine W_seqB ?_ | refine W_block ?_)); refine W_reg rfl fun G K hG hK => ?_; simp (disch := omega) only [go_sem, ↓reduceIte, Nat.reduceEqDiff, Nat.reduceAdd, Nat.reduceLeDiff, hG, fr_ni, hn2, d1, d2]
    refine w_call (itoa_ok v sa (by omega) (by omega)) (by simp (disch := omega) only [go_sem, ↓reduceIte, Nat.reduceEqDiff, fr_ni]) ?hl ?_
    case hl => first | rfl | (simp only [go_sem, List.all_cons, List.all_nil, Bool.not_false, Bool.and_self, fr_ni]; done)
    rintro r_ sa ⟨rfl, rfl⟩; refine ⟨fun e => (by cases e), ?_⟩
    cases he : ((⟨(itoa v).toArray⟩ : ByteArray).toList == s.toList) with
    | true =>
      have he2 : itoa v = s.data.toList := by
        have := eq_of_beq he
        rw [ByteArray.toList_eq, ByteArray.toList_eq] at this
        simpa using this
      simp (disch := omega) only [go_sem, ↓reduceIte, Nat.reduceEqDiff, Nat.reduceAdd, Nat.reduceLeDiff, hG, fr_ni, hn2, d1, d2, he]; refine hK _ _ ?_; clear hK K hG G; repeat (first | refine thenI ?_ | refine thenE ?_ | refine thenR ?_ | refine inBI ?_ | refine inBR ?_ | refine inBS ?_ | refine inBN (by decide) ?_)
      rw [if_pos ⟨⟨by omega, by omega⟩, he2⟩]
      repeat (first | (refine W_reg rfl fun G K hG hK => ?_; simp (disch := omega) only [go_sem, ↓reduceIte, Nat.reduceEqDiff, Nat.reduceAdd, Nat.reduceLeDiff, hG, fr_ni]; refine hK _ _ ?_; clear hK K hG G) | (refine W_end rfl fun G K hG hK => ?_; simp (disch := omega) only [go_sem, ↓reduceIte, Nat.reduceEqDiff, Nat.reduceAdd, Nat.reduceLeDiff, hG, fr_ni]; refine hK _ _ ?_; clear hK K hG G; repeat (first | refine thenI ?_ | refine thenE ?_ | refine thenR ?_ | refine inBI ?_ | refine inBR ?_ | refine inBS ?_ | refine inBN (by decide) ?_)) | refine W_seqS ?_ | refine W_seqC ?_ | refine W_seqB ?_ | refine W_block ?_ | (refine W_skip ?_; repeat (first | refine thenI ?_ | refine thenE ?_ | refine thenR ?_ | refine inBI ?_ | refine inBR ?_ | refine inBS ?_ | refine inBN (by decide) ?_)) | (refine W_condT ?hc ?_; (case hc => (simp (disch := omega) only [go_sem, ↓reduceIte, Nat.reduceEqDiff, Nat.reduceAdd, Nat.reduceLeDiff, fr_ni]; done))) | (refine W_condF ?hc ?_; (case hc => (simp (disch := omega) only [go_sem, ↓reduceIte, Nat.reduceEqDiff, Nat.reduceAdd, Nat.reduceLeDiff, fr_ni]; done))))
      refine W_ret ?_; try (repeat (first | refine thenI ?_ | refine thenE ?_ | refine thenR ?_ | refine inBI ?_ | refine inBR ?_ | refine inBS ?_ | refine inBN (by decide) ?_))
      refine fin2 (.inl rfl) (by (simp (disch := omega) only [go_sem, ↓reduceIte, Nat.reduceEqDiff, Nat.reduceAdd, Nat.reduceLeDiff, fr_ni]); try rfl) rfl (by (simp (disch := omega) only [go_sem, ↓reduceIte, Nat.reduceEqDiff, Nat.reduceAdd, Nat.reduceLeDiff, fr_ni]); try rfl) rfl ⟨x1, rfl⟩
    | false =>
      have he2 : ¬ itoa v = s.data.toList := fun e => by
        have h2 : (⟨(itoa v).toArray⟩ : ByteArray).toList = s.toList := by rw [ByteArray.toList_eq, ByteArray.toList_eq]; simpa using e
        rw [h2] at he
        simp at he
      simp (disch := omega) only [go_sem, ↓reduceIte, Nat.reduceEqDiff, Nat.reduceAdd, Nat.reduceLeDiff, hG, fr_ni, hn2, d1, d2, he]; refine hK _ _ ?_; clear hK K hG G; repeat (first | refine thenI ?_ | refine thenE ?_ | refine thenR ?_ | refine inBI ?_ | refine inBR ?_ | refine inBS ?_ | refine inBN (by decide) ?_)
      rw [if_neg (fun h => he2 h.2)]
      repeat (first | (refine W_reg rfl fun G K hG hK => ?_; simp (disch := omega) only [go_sem, ↓reduceIte, Nat.reduceEqDiff, Nat.reduceAdd, Nat.reduceLeDiff, hG, fr_ni]; refine hK _ _ ?_; clear hK K hG G) | (refine W_end rfl fun G K hG hK => ?_; simp (disch := omega) only [go_sem, ↓reduceIte, Nat.reduceEqDiff, Nat.reduceAdd, Nat.reduceLeDiff, hG, fr_ni]; refine hK _ _ ?_; clear hK K hG G; repeat (first | refine thenI ?_ | refine thenE ?_ | refine thenR ?_ | refine inBI ?_ | refine inBR ?_ | refine inBS ?_ | refine inBN (by decide) ?_)) | refine W_seqS ?_ | refine W_seqC ?_ | refine W_seqB ?_ | refine W_block ?_ | (refine W_skip ?_; repeat (first | refine thenI ?_ | refine thenE ?_ | refine thenR ?_ | refine inBI ?_ | refine inBR ?_ | refine inBS ?_ | refine inBN (by decide) ?_)) | (refine W_condT ?hc ?_; (case hc => (simp (disch := omega) only [go_sem, ↓reduceIte, Nat.reduceEqDiff, Nat.reduceAdd, Nat.reduceLeDiff, fr_ni]; done))) | (refine W_condF ?hc ?_; (case hc => (simp (disch := omega) only [go_sem, ↓reduceIte, Nat.reduceEqDiff, Nat.reduceAdd, Nat.reduceLeDiff, fr_ni]; done))))
      refine W_ret ?_; try (repeat (first | refine thenI ?_ | refine thenE ?_ | refine thenR ?_ | refine inBI ?_ | refine inBR ?_ | refine inBS ?_ | refine inBN (by decide) ?_))
      refine fin2 (.inl rfl) (by (simp (disch := omega) only [go_sem, ↓reduceIte, Nat.reduceEqDiff, Nat.reduceAdd, Nat.reduceLeDiff, fr_ni]); try rfl) rfl (by (simp (disch := omega) only [go_sem, ↓reduceIte, Nat.reduceEqDiff, Nat.reduceAdd, Nat.reduceLeDiff, fr_ni]); try rfl) rfl ⟨x1, rfl⟩
  | «syntax» =>
    rw [ha] at hq
    obtain ⟨n, t, p, rfl, hl, hfl⟩ := hq
    have hwh : wholeN lo hi s.data.toList = none := by unfold wholeN; rw [ha]
    simp (disch := omega) only [go_sem, ↓reduceIte, Nat.reduceEqDiff, Nat.reduceAdd, Nat.reduceLeDiff, hG, fr_ni, hl]; refine hK _ _ ?_; clear hK K hG G; repeat (first | refine thenI ?_ | refine thenE ?_ | refine thenR ?_ | refine inBI ?_ | refine inBR ?_ | refine inBS ?_ | refine inBN (by decide) ?_)
    rw [hwh]
    have hn1 : ∀ x y, binE Tryd.prog .neq 58 x y (.iface t p) .nilIface = some (.bool true) := fun x y => neq_nil1 Tryd.underlying58 hfl
    repeat (first | (refine W_reg rfl fun G K hG hK => ?_; simp (disch := omega) only [go_sem, ↓reduceIte, Nat.reduceEqDiff, Nat.reduceAdd, Nat.reduceLeDiff, hG, fr_ni, hn1]; refine hK _ _ ?_; clear hK K hG G) | (refine W_end rfl fun G K hG hK => ?_; simp (disch := omega) only [go_sem, ↓reduceIte, Nat.reduceEqDiff, Nat.reduceAdd, Nat.reduceLeDiff, hG, fr_ni, hn1]; refine hK _ _ ?_; clear hK K hG G; repeat (first | refine thenI ?_ | refine thenE ?_ | refine thenR ?_ | refine inBI ?_ | refine inBR ?_ | refine inBS ?_ | refine inBN (by decide) ?_)) | refine W_seqS ?_ | refine W_seqC ?_ | refine W_seqB ?_ | refine W_block ?_ | (refine W_skip ?_; repeat (first | refine thenI ?_ | refine thenE ?_ | refine thenR ?_ | refine inBI ?_ | refine inBR ?_ | refine inBS ?_ | refine inBN (by decide) ?_)) | (refine W_condT ?hc ?_; (case hc => (simp (disch := omega) only [go_sem, ↓reduceIte, Nat.reduceEqDiff, Nat.reduceAdd, Nat.reduceLeDiff, fr_ni, hn1]; done))) | (refine W_condF ?hc ?_; (case hc => (simp (disch := omega) only [go_sem, ↓reduceIte, Nat.reduceEqDiff, Nat.reduceAdd, Nat.reduceLeDiff, fr_ni, hn1]; done))))
    refine W_ret ?_; try (repeat (first | refine thenI ?_ | refine thenE ?_ | refine thenR ?_ | refine inBI ?_ | refine inBR ?_ | refine inBS ?_ | refine inBN (by decide) ?_))
    refine fin2 (.inl rfl) (by (simp (disch := omega) only [go_sem, ↓reduceIte, Nat.reduceEqDiff, Nat.reduceAdd, Nat.reduceLeDiff, fr_ni]); try rfl) rfl (by (simp (disch := omega) only [go_sem, ↓reduceIte, Nat.reduceEqDiff, Nat.reduceAdd, Nat.reduceLeDiff, fr_ni]); try rfl) rfl ⟨x1, rfl⟩
  | range =>
    rw [ha] at hq
    obtain ⟨n, t, p, rfl, hl, hfl⟩ := hq
    have hwh : wholeN lo hi s.data.toList = none := by unfold wholeN; rw [ha]
    simp (disch := omega) only [go_sem, ↓reduceIte, Nat.reduceEqDiff, Nat.reduceAdd, Nat.reduceLeDiff, hG, fr_ni, hl]; refine hK _ _ ?_; clear hK K hG G; repeat (first | refine thenI ?_ | refine thenE ?_ | refine thenR ?_ | refine inBI ?_ | refine inBR ?_ | refine inBS ?_ | refine inBN (by decide) ?_)
    rw [hwh]
    have hn1 : ∀ x y, binE Tryd.prog .neq 58 x y (.iface t p) .nilIface = some (.bool true) := fun x y => neq_nil1 Tryd.underlying58 hfl
    repeat (first | (refine W_reg rfl fun G K hG hK => ?_; simp (disch := omega) only [go_sem, ↓reduceIte, Nat.reduceEqDiff, Nat.reduceAdd, Nat.reduceLeDiff, hG, fr_ni, hn1]; refine hK _ _ ?_; clear hK K hG G) | (refine W_end rfl fun G K hG hK => ?_; simp (disch := omega) only [go_sem, ↓reduceIte, Nat.reduceEqDiff, Nat.reduceAdd, Nat.reduceLeDiff, hG, fr_ni, hn1]; refine hK _ _ ?_; clear hK K hG G; repeat (first | refine thenI ?_ | refine thenE ?_ | refine thenR ?_ | refine inBI ?_ | refine inBR ?_ | refine inBS ?_ | refine inBN (by decide) ?_)) | refine W_seqS ?_ | refine W_seqC ?_ | refine W_seqB ?_ | refine W_block ?_ | (refine W_skip ?_; repeat (first | refine thenI ?_ | refine thenE ?_ | refine thenR ?_ | refine inBI ?_ | refine inBR ?_ | refine inBS ?_ | refine inBN (by decide) ?_)) | (refine W_condT ?hc ?_; (case hc => (simp (disch := omega) only [go_sem, ↓reduceIte, Nat.reduceEqDiff, Nat.reduceAdd, Nat.reduceLeDiff, fr_ni, hn1]; done))) | (refine W_condF ?hc ?_; (case hc => (simp (disch := omega) only [go_sem, ↓reduceIte, Nat.reduceEqDiff, Nat.reduceAdd, Nat.reduceLeDiff, fr_ni, hn1]; done))))
    refine W_ret ?_; try (repeat (first | refine thenI ?_ | refine thenE ?_ | refine thenR ?_ | refine inBI ?_ | refine inBR ?_ | refine inBS ?_ | refine inBN (by decide) ?_))
    refine fin2 (.inl rfl) (by (simp (disch := omega) only [go_sem, ↓reduceIte, Nat.reduceEqDiff, Nat.reduceAdd, Nat.reduceLeDiff, fr_ni]); try rfl) rfl (by (simp (disch := omega) only [go_sem, ↓reduceIte, Nat.reduceEqDiff, Nat.reduceAdd, Nat.reduceLeDiff, fr_ni]); try rfl) rfl ⟨x1, rfl⟩
end Go.Proofs.YtlmbmplhdfgmfaaDoor.AM


/- Numbers are read: spec.l1Read, ParseInt and ParseNumber of both sides; the laws FnExactParseInt, FnExactParseNumber. -/
namespace Go.Proofs.YtlmbmplhdfgmfaaDoor.AM
open Go Go.Proofs Go.Lib
set_option linter.unusedVariables false
set_option linter.unusedSimpArgs false
set_option maxRecDepth 100000
attribute [local go_sem] List.map_cons List.map_nil List.all_cons List.all_nil Bool.and_self Option.map_some List.getElem?_toArray Option.bind_some gye_b gye_t gsk_b gsk_t gb1 gb2 gb3 gb4 bne_self_eq_false beq_self_eq_true w_guard w_nil stepV_some step_some step_some' w_move w_assign w_pick w_binOp w_unOp w_load w_fieldAddr w_indexAddr w_len w_max w_index ev_max max_int ev_index w_box w_alloc w_store w_field w_extract w_nilCheck w_convert w_buildSlice w_build ev_buildL fillL_nil fillL_cons bs0 bs1 ev_conv ev_bin ev_un ev_pick ev_load ev_fieldAddr ev_indexAddr ev_len ev_field ev_extract ev_nilCheck fr_tmp fr_int fr_bool fr_str fr_nil fr_func put_some put_none bin_lss bin_leq bin_gtr bin_geq bin_eql bin_neq bin_add bin_sub bin_mul bin_seql bin_sneq un_not pick_ ext_ loadA_p cellAt_l cellAt_h okPtr_l okPtr_h fadA_p allocA_l storeA_l cells_agg cells_int cells_str cells_sl cells_bool flat_i flat_s flat_b flat_sl flat_nil loc_agg loc_int loc_str loc_sl loc_bool loc_fn loc_ptr okv_agg okv_int okv_str okv_sl okv_bool cellsFrom splice upd_eval argEnv_zero argEnv_succ ne_eq Nat.add_one_ne_zero not_false_eq_true List.not_mem_nil and_self decide_true List.getElem?_cons_zero List.getElem?_cons_succ List.size_toArray List.length_cons List.length_nil List.take_succ_cons List.take_zero List.drop_succ_cons List.drop_zero List.cons_append List.nil_append List.drop_nil Bool.not_true Bool.not_false Bool.false_eq_true Nat.zero_add Nat.add_zero wrap_in List.toList_toArray List.mem_cons or_self or_false false_or
attribute [local go_sem] ag22 ag24 ag3 ag4 ag5 ag58 ag70 ag9 bu24 bu32 bu37 bu76 bu87 by24 by5 el22 el54 of24_0 of24_1 of24_2 of24_3 of32_0 of32_1 of32_2 of37_0 ro24_1 ro5_1 sz22 sz24 sz3 sz4 sz5 sz58 sz70 sz9 ze24 ze5 ze78 ze92
-- AUTO

theorem dec_cons_no {m : Nat} {x : UInt8} {r : List UInt8} (h : x.toNat < 48 ∨ 57 < x.toNat) : decFrom m (x :: r) = none := by
  have : digitVal x = none := by unfold digitVal; rw [if_neg (by omega)]
  simp only [decFrom, this]
theorem dec_cons {m : Nat} {x : UInt8} {r : List UInt8} (h0 : 48 ≤ x.toNat) (h1 : x.toNat ≤ 57) : decFrom m (x :: r) = decFrom (m * 10 + (x.toNat - 48)) r := by
  have : digitVal x = some (x.toNat - 48) := by unfold digitVal; rw [if_pos ⟨h0, h1⟩]
  simp only [decFrom, this]
theorem pow_most {j most : Nat} (h : j ≤ most) (hm : most ≤ 12) : 10 ^ j ≤ 1000000000000 := by
  have h1 := Nat.pow_le_pow_right (n := 10) (by decide) (Nat.le_trans h hm)
  have e : (10 : Nat) ^ 12 = 1000000000000 := by decide
  omega
end Go.Proofs.YtlmbmplhdfgmfaaDoor.AM


/- ParseInt and ParseNumber of both sides; the laws FnExactParseInt, FnExactParseNumber. -/
namespace Go.Proofs.YtlmbmplhdfgmfaaDoor.AM
open Go Go.Proofs Go.Lib
set_option linter.unusedVariables false
set_option linter.unusedSimpArgs false
set_option maxRecDepth 100000
attribute [local go_sem] List.map_cons List.map_nil List.all_cons List.all_nil Bool.and_self Option.map_some List.getElem?_toArray Option.bind_some gye_b gye_t gsk_b gsk_t gb1 gb2 gb3 gb4 bne_self_eq_false beq_self_eq_true w_guard w_nil stepV_some step_some step_some' w_move w_assign w_pick w_binOp w_unOp w_load w_fieldAddr w_indexAddr w_len w_max w_index ev_max max_int ev_index w_box w_alloc w_store w_field w_extract w_nilCheck w_convert w_buildSlice w_build ev_buildL fillL_nil fillL_cons bs0 bs1 ev_conv ev_bin ev_un ev_pick ev_load ev_fieldAddr ev_indexAddr ev_len ev_field ev_extract ev_nilCheck fr_tmp fr_int fr_bool fr_str fr_nil fr_func put_some put_none bin_lss bin_leq bin_gtr bin_geq bin_eql bin_neq bin_add bin_sub bin_mul bin_seql bin_sneq un_not pick_ ext_ loadA_p cellAt_l cellAt_h okPtr_l okPtr_h fadA_p allocA_l storeA_l cells_agg cells_int cells_str cells_sl cells_bool flat_i flat_s flat_b flat_sl flat_nil loc_agg loc_int loc_str loc_sl loc_bool loc_fn loc_ptr okv_agg okv_int okv_str okv_sl okv_bool cellsFrom splice upd_eval argEnv_zero argEnv_succ ne_eq Nat.add_one_ne_zero not_false_eq_true List.not_mem_nil and_self decide_true List.getElem?_cons_zero List.getElem?_cons_succ List.size_toArray List.length_cons List.length_nil List.take_succ_cons List.take_zero List.drop_succ_cons List.drop_zero List.cons_append List.nil_append List.drop_nil Bool.not_true Bool.not_false Bool.false_eq_true Nat.zero_add Nat.add_zero wrap_in List.toList_toArray List.mem_cons or_self or_false false_or
attribute [local go_sem] ag22 ag24 ag3 ag4 ag5 ag58 ag70 ag9 bu24 bu32 bu37 bu76 bu87 by24 by5 el22 el54 of24_0 of24_1 of24_2 of24_3 of32_0 of32_1 of32_2 of37_0 ro24_1 ro5_1 sz22 sz24 sz3 sz4 sz5 sz58 sz70 sz9 ze24 ze5 ze78 ze92
-- AUTO

theorem implParseNumber_ok (s : ByteArray) (st : St) (hb : s.size ≤ 281474976710656) :
    CallS Tryd.prog 23 [.string s] st fun r st2 => Ext st st2 ∧ NumQ (wholeN 0 999999 s.data.toList) r := by
  refine CallS_of_W [] 8 Tryd.func23 rfl rfl rfl rfl (by simp) ?_
  repeat (first | (refine W_reg rfl fun G K hG hK => ?_; simp (disch := omega) only [go_sem, ↓reduceIte, Nat.reduceEqDiff, Nat.reduceAdd, Nat.reduceLeDiff, hG]; refine hK _ _ ?_; clear hK K hG G) | (refine W_end rfl fun G K hG hK => ?_; simp (disch := omega) only [go_sem, ↓reduceIte, Nat.reduceEqDiff, Nat.reduceAdd, Nat.reduceLeDiff, hG]; refine hK _ _ ?_; clear hK K hG G; repeat (first | refine thenI ?_ | refine thenE ?_ | refine thenR ?_ | refine inBI ?_ | refine inBR ?_ | refine inBS ?_ | refine inBN (by decide) ?_)) | refine W_seqS ?_ | refine W_seqC ?_ | refine W_seqB ?_ | refine W_block ?_ | (refine W_skip ?_; repeat (first | refine thenI ?_ | refine thenE ?_ | refine thenR ?_ | refine inBI ?_ | refine inBR ?_ | refine inBS ?_ | refine inBN (by decide) ?_)) | (refine W_condT ?hc ?_; (case hc => (simp (disch := omega) only [go_sem, ↓reduceIte, Nat.reduceEqDiff, Nat.reduceAdd, Nat.reduceLeDiff]; done))) | (refine W_condF ?hc ?_; (case hc => (simp (disch := omega) only [go_sem, ↓reduceIte, Nat.reduceEqDiff, Nat.reduceAdd, Nat.reduceLeDiff]; done))))
  (repeat (first | refine W_seqS ?_ | refine W_seqC ?_ | refine W_seqB ?_ | refine W_block ?_)); refine W_reg rfl fun G K hG hK => ?_; simp (disch := omega) only [go_sem, ↓reduceIte, Nat.reduceEqDiff, Nat.reduceAdd, Nat.reduceLeDiff, hG]
  refine w_call (implWhole_ok s 0 999999 st hb (by omega) (by omega)) (by simp (disch := omega) only [go_sem, ↓reduceIte, Nat.reduceEqDiff]) ?hl ?_
  case hl => first | rfl | (simp only [go_sem, List.all_cons, List.all_nil, Bool.not_false, Bool.and_self]; done)
  rintro r_ sa ⟨x1, hq⟩; refine ⟨fun e => (by cases e), ?_⟩
  cases hn : wholeN 0 999999 s.data.toList with
  | some v =>
    rw [hn] at hq
    simp only [NumQ] at hq
    subst hq
    simp (disch := omega) only [go_sem, ↓reduceIte, Nat.reduceEqDiff, Nat.reduceAdd, Nat.reduceLeDiff, hG]; refine hK _ _ ?_; clear hK K hG G; repeat (first | refine thenI ?_ | refine thenE ?_ | refine thenR ?_ | refine inBI ?_ | refine inBR ?_ | refine inBS ?_ | refine inBN (by decide) ?_)
    refine W_ret ?_; try (repeat (first | refine thenI ?_ | refine thenE ?_ | refine thenR ?_ | refine inBI ?_ | refine inBR ?_ | refine inBS ?_ | refine inBN (by decide) ?_))
    refine fin2 (.inl rfl) (by (simp (disch := omega) only [go_sem, ↓reduceIte, Nat.reduceEqDiff, Nat.reduceAdd, Nat.reduceLeDiff]); try rfl) rfl (by (simp (disch := omega) only [go_sem, ↓reduceIte, Nat.reduceEqDiff, Nat.reduceAdd, Nat.reduceLeDiff]); try rfl) rfl ⟨x1, by rw [hn]; rfl⟩
  | none =>
    rw [hn] at hq
    simp only [NumQ] at hq
    subst hq
    simp (disch := omega) only [go_sem, ↓reduceIte, Nat.reduceEqDiff, Nat.reduceAdd, Nat.reduceLeDiff, hG]; refine hK _ _ ?_; clear hK K hG G; repeat (first | refine thenI ?_ | refine thenE ?_ | refine thenR ?_ | refine inBI ?_ | refine inBR ?_ | refine inBS ?_ | refine inBN (by decide) ?_)
    refine W_ret ?_; try (repeat (first | refine thenI ?_ | refine thenE ?_ | refine thenR ?_ | refine inBI ?_ | refine inBR ?_ | refine inBS ?_ | refine inBN (by decide) ?_))
    refine fin2 (.inl rfl) (by (simp (disch := omega) only [go_sem, ↓reduceIte, Nat.reduceEqDiff, Nat.reduceAdd, Nat.reduceLeDiff]); try rfl) rfl (by (simp (disch := omega) only [go_sem, ↓reduceIte, Nat.reduceEqDiff, Nat.reduceAdd, Nat.reduceLeDiff]); try rfl) rfl ⟨x1, by rw [hn]; rfl⟩
end Go.Proofs.YtlmbmplhdfgmfaaDoor.AM


/- The text of a term and its two readers, in plain Lean. -/
namespace Go.Proofs.YtlmbmplhdfgmfaaDoor.AM
open Go Go.Proofs
set_option linter.unusedVariables false
set_option linter.unusedSimpArgs false

mutual
/-- The text of a term. -/
def T.fmt : T → List UInt8
  | .mk k n nm args => if k = 3 then Lib.itoa n else if args.isEmpty = true then nm.data.toList else nm.data.toList ++ (40 :: ((T.fmtL args).drop 2 ++ [41]))
def T.fmtL : List T → List UInt8
  | [] => []
  | x :: xs => 44 :: 32 :: (x.fmt ++ T.fmtL xs)
end
def alnum (b : UInt8) : Bool := (decide (97 ≤ b.toNat) && decide (b.toNat ≤ 122)) || ((decide (65 ≤ b.toNat) && decide (b.toNat ≤ 90)) || (decide (48 ≤ b.toNat) && decide (b.toNat ≤ 57)))
def stopB (b : UInt8) : Bool := decide (b.toNat = 40) || (decide (b.toNat = 41) || (decide (b.toNat = 44) || decide (b.toNat = 32)))
def baL (l : List UInt8) : ByteArray := ⟨l.toArray⟩
mutual
/-- The program's reader; so many steps. -/
def impT : Nat → List UInt8 → Option (T × List UInt8)
  | 0, _ => none
  | f + 1, l => match wholeN 0 999999 (l.takeWhile alnum) with
    | some n => if n < 4 then some (.mk 3 n ⟨#[]⟩ [], l.dropWhile alnum) else none
    | none => if isNm 65 90 (l.takeWhile alnum) = true then some (.mk 1 0 (baL (l.takeWhile alnum)) [], l.dropWhile alnum)
      else if isNm 97 122 (l.takeWhile alnum) = true then
        (if (l.dropWhile alnum).take 1 = [40] then impA f (baL (l.takeWhile alnum)) [] ((l.dropWhile alnum).drop 1) else some (.mk 2 0 (baL (l.takeWhile alnum)) [], l.dropWhile alnum))
      else none
def impA : Nat → ByteArray → List T → List UInt8 → Option (T × List UInt8)
  | 0, _, _, _ => none
  | f + 1, nm, acc, l => match impT f l with
    | none => none
    | some (a, l1) => if l1.take 1 = [41] then some (.mk 2 0 nm (acc ++ [a]), l1.drop 1)
      else if l1.take 2 = [44, 32] then impA f nm (acc ++ [a]) (l1.drop 2) else none
end
def T.withArgs : T → List T → T
  | .mk k n nm _, args => .mk k n nm args
/-- What the reference makes of a word. -/
def headT (s : List UInt8) : T := if isNm 65 90 s = true then .mk 1 0 (baL s) [] else match s with
  | [b] => if 48 ≤ b.toNat ∧ b.toNat ≤ 57 then .mk 3 ((b.toNat : Int) - 48) ⟨#[]⟩ [] else .mk 2 0 (baL s) []
  | _ => .mk 2 0 (baL s) []
mutual
/-- The reference's reader. -/
def spT : Nat → Nat → List UInt8 → Option (T × List UInt8)
  | 0, _, _ => none
  | f + 1, d, l => if (l.dropWhile fun b => !stopB b).take 1 = [40] then spA f d (headT (l.takeWhile fun b => !stopB b)) [] ((l.dropWhile fun b => !stopB b).drop 1)
    else some (headT (l.takeWhile fun b => !stopB b), l.dropWhile fun b => !stopB b)
def spA : Nat → Nat → T → List T → List UInt8 → Option (T × List UInt8)
  | 0, _, _, _, _ => none
  | f + 1, d, t, acc, l => if 16 < d ∨ 60 < acc.length then none else match spT f (d + 1) l with
    | none => none
    | some (a, l1) => if l1.take 1 = [41] then some (t.withArgs (acc ++ [a]), l1.drop 1)
      else if l1.take 2 = [44, 32] then spA f d t (acc ++ [a]) (l1.drop 2) else none
end

theorem takeOf {l p : List UInt8} {n : Nat} (h : l.take n = p) : l = p ++ l.drop n := by rw [← h, List.take_append_drop]
theorem fmt_word (n : Int) (nm : ByteArray) (args : List T) : T.fmt (.mk 3 n nm args) = Lib.itoa n := by simp only [T.fmt, if_true]
theorem fmt_leaf {k n : Int} {nm : ByteArray} (hk : k ≠ 3) : T.fmt (.mk k n nm []) = nm.data.toList := by simp only [T.fmt, if_neg hk, List.isEmpty_nil, if_true]
theorem fmt_node {k n : Int} {nm : ByteArray} {args : List T} (hk : k ≠ 3) (ha : args ≠ []) : T.fmt (.mk k n nm args) = nm.data.toList ++ (40 :: ((T.fmtL args).drop 2 ++ [41])) := by
  simp only [T.fmt, if_neg hk]
  rw [if_neg (by simpa using ha)]
theorem fmtL_ne {args : List T} (h : args ≠ []) : T.fmtL args = 44 :: 32 :: (T.fmtL args).drop 2 := by
  cases args with
  | nil => exact absurd rfl h
  | cons x xs => simp only [T.fmtL, List.drop_succ_cons, List.drop_zero]
theorem nodes_mk {k n : Int} {nm : ByteArray} {args : List T} : T.nodes (.mk k n nm args) = true ↔ (∀ a ∈ args, a.nodes = true) ∧ nodeOk k n nm args = true := by
  simp only [T.nodes, Bool.and_eq_true, T.nodesL_all, List.all_eq_true]
theorem baL_toList (s : ByteArray) : baL s.data.toList = s := ByteArray.ext (by simp [baL])
theorem impT_sound : ∀ f, (∀ l t l', impT f l = some (t, l') → l = t.fmt ++ l' ∧ t.nodes = true) ∧
    (∀ nm acc l t l', impA f nm acc l = some (t, l') → ∃ args, args ≠ [] ∧ t = .mk 2 0 nm (acc ++ args) ∧ l = (T.fmtL args).drop 2 ++ (41 :: l') ∧ ∀ a ∈ args, a.nodes = true) := by
  intro f
  induction f with
  | zero => exact ⟨fun l t l' h => by simp [impT] at h, fun nm acc l t l' h => by simp [impA] at h⟩
  | succ f ih =>
    refine ⟨fun l t l' h => ?_, fun nm acc l t l' h => ?_⟩
    · have hl : l = l.takeWhile alnum ++ l.dropWhile alnum := List.takeWhile_append_dropWhile.symm
      simp only [impT] at h
      split at h
      · rename_i n hn
        obtain ⟨⟨h0, h1⟩, h2⟩ := (wholeN_some (by omega) (by omega)).1 hn
        split at h
        · cases h
          refine ⟨by rw [fmt_word, h2]; exact hl, nodes_mk.2 ⟨fun a ha => (by cases ha), ?_⟩⟩
          have h3 : n ≤ 3 := by omega
          simp [nodeOk, h0, h3]
        · cases h
      · split at h
        · rename_i hv
          cases h
          refine ⟨by rw [fmt_leaf (by omega)]; exact hl, nodes_mk.2 ⟨fun a ha => (by cases ha), ?_⟩⟩
          have : isVar (baL (l.takeWhile alnum)) = true := hv
          simp [nodeOk, this]
        · split at h
          · rename_i hv
            have hn : isName (baL (l.takeWhile alnum)) = true := hv
            split at h
            · rename_i ht
              obtain ⟨args, h1, rfl, h2, h3⟩ := ih.2 _ _ _ _ _ h
              rw [List.nil_append]
              refine ⟨?_, nodes_mk.2 ⟨h3, by simp [nodeOk, hn]⟩⟩
              rw [fmt_node (by omega) h1]
              have e := takeOf ht
              rw [h2] at e
              have e2 : (baL (l.takeWhile alnum)).data.toList = l.takeWhile alnum := rfl
              rw [e2]
              calc l = l.takeWhile alnum ++ l.dropWhile alnum := hl
                _ = _ := by rw [e]; simp
            · cases h
              refine ⟨by rw [fmt_leaf (by omega)]; exact hl, nodes_mk.2 ⟨fun a ha => (by cases ha), by simp [nodeOk, hn]⟩⟩
          · cases h
    · simp only [impA] at h
      split at h
      · cases h
      · rename_i a l1 ha
        obtain ⟨h1, h2⟩ := ih.1 _ _ _ ha
        split at h
        · rename_i ht
          cases h
          refine ⟨[a], by simp, rfl, ?_, fun b hb => by cases List.mem_singleton.1 hb; exact h2⟩
          have e := takeOf ht
          simp only [T.fmtL, List.drop_succ_cons, List.drop_zero, List.append_nil]
          rw [h1]; congr 1
        · split at h
          · rename_i ht
            obtain ⟨args, g1, rfl, g2, g3⟩ := ih.2 _ _ _ _ _ h
            refine ⟨a :: args, by simp, by simp, ?_, fun b hb => by
              rcases List.mem_cons.1 hb with rfl | hb
              · exact h2
              · exact g3 b hb⟩
            have e := takeOf ht
            simp only [T.fmtL, List.drop_succ_cons, List.drop_zero]
            rw [fmtL_ne g1, h1, e, g2]
            simp
          · cases h
/-- What may stand behind a term. -/
def Sep (rest : List UInt8) : Prop := ∀ b, rest.head? = some b → b = 41 ∨ b = 44
theorem Sep.nil : Sep [] := fun b h => by cases h
theorem tw_app {p : UInt8 → Bool} {s r : List UInt8} (hs : ∀ b ∈ s, p b = true) (hr : ∀ b, r.head? = some b → p b = false) : (s ++ r).takeWhile p = s ∧ (s ++ r).dropWhile p = r := by
  induction s with
  | nil =>
    cases r with
    | nil => exact ⟨rfl, rfl⟩
    | cons b r =>
      have := hr b rfl
      simp [List.takeWhile_cons, List.dropWhile_cons, this]
  | cons a s ih =>
    obtain ⟨h1, h2⟩ := ih fun b hb => hs b (by simp [hb])
    have := hs a (by simp)
    simp [List.takeWhile_cons, List.dropWhile_cons, this, h1, h2]
theorem nm_chars {lo hi : Nat} (hlo : 65 ≤ lo) (hhi : hi ≤ 122) (hm : hi ≤ 90 ∨ 97 ≤ lo) {s : List UInt8} (h : isNm lo hi s = true) : (∀ b ∈ s, alnum b = true) ∧ (∀ b ∈ s, (!stopB b) = true) ∧ ∃ b r, s = b :: r ∧ lo ≤ b.toNat ∧ b.toNat ≤ hi := by
  cases s with
  | nil => cases h
  | cons b r =>
    simp only [isNm, Bool.and_eq_true, decide_eq_true_eq, List.all_eq_true] at h
    obtain ⟨⟨h1, h2⟩, h3, h4⟩ := h
    have hb : ∀ c ∈ b :: r, (97 ≤ c.toNat ∧ c.toNat ≤ 122) ∨ (65 ≤ c.toNat ∧ c.toNat ≤ 90) ∨ (48 ≤ c.toNat ∧ c.toNat ≤ 57) := by
      intro c hc
      rcases List.mem_cons.1 hc with rfl | hc
      · omega
      · have := h3 c hc
        simp only [lowDig, Bool.or_eq_true, Bool.and_eq_true, decide_eq_true_eq] at this
        omega
    refine ⟨fun c hc => ?_, fun c hc => ?_, b, r, rfl, h1, h2⟩
    · have := hb c hc
      simp only [alnum, Bool.or_eq_true, Bool.and_eq_true, decide_eq_true_eq]
      omega
    · have := hb c hc
      simp only [stopB, Bool.not_eq_true', Bool.or_eq_false_iff, decide_eq_false_iff_not]
      omega
theorem small_itoa {n : Int} (h0 : 0 ≤ n) (h1 : n ≤ 3) : ∃ b : UInt8, Lib.itoa n = [b] ∧ (b.toNat : Int) = 48 + n := by
  obtain ⟨u, rfl⟩ : ∃ u : Nat, n = u := ⟨n.toNat, by omega⟩
  rw [Lib.itoa_nonneg, Lib.decDigits_one (by omega)]
  refine ⟨_, rfl, ?_⟩
  have : u < 4 := by omega
  have e : (UInt8.ofNat (48 + u)).toNat = 48 + u := by simp; omega
  rw [e]; omega
theorem no_num {lo hi : Int} (h0 : 0 ≤ lo) (h1 : hi < 1000000000000) {b : UInt8} {r : List UInt8} (hb : 58 ≤ b.toNat) : wholeN lo hi (b :: r) = none := by
  cases h : wholeN lo hi (b :: r) with
  | none => rfl
  | some v =>
    obtain ⟨⟨h2, h3⟩, h4⟩ := (wholeN_some (by omega) h1).1 h
    obtain ⟨u, rfl⟩ : ∃ u : Nat, v = u := ⟨v.toNat, by omega⟩
    rw [Lib.itoa_nonneg] at h4
    obtain ⟨c, q, g1, g2, g3⟩ := digits_head u
    rw [g1] at h4
    cases h4
    omega
theorem Sep.alnum {rest : List UInt8} (h : Sep rest) : ∀ b, rest.head? = some b → AM.alnum b = false := fun b hb => by
  rcases h b hb with rfl | rfl <;> rfl
theorem Sep.stop {rest : List UInt8} (h : Sep rest) : ∀ b, rest.head? = some b → (!stopB b) = false := fun b hb => by
  rcases h b hb with rfl | rfl <;> rfl
theorem Sep.no40 {rest : List UInt8} (h : Sep rest) : ¬ rest.take 1 = [40] := fun e => by
  cases rest with
  | nil => cases e
  | cons b r =>
    simp only [List.take_succ_cons, List.take_zero, List.cons.injEq, and_true] at e
    subst e
    rcases h 40 rfl with h | h <;> cases h
theorem node_kinds {k n : Int} {nm : ByteArray} {args : List T} (h : nodeOk k n nm args = true) : (k = 1 ∧ n = 0 ∧ args = [] ∧ isVar nm = true) ∨ (k = 2 ∧ n = 0 ∧ isName nm = true) ∨ (k = 3 ∧ 0 ≤ n ∧ n ≤ 3 ∧ args = [] ∧ nm = ⟨#[]⟩) := by
  unfold nodeOk at h
  split at h
  · rename_i hk
    simp only [Bool.and_eq_true, beq_iff_eq] at h
    exact .inl ⟨hk, h.2.1, List.eq_nil_of_length_eq_zero (by omega), h.1⟩
  · split at h
    · rename_i hk
      simp only [Bool.and_eq_true, beq_iff_eq] at h
      exact .inr (.inl ⟨hk, h.2, h.1⟩)
    · split at h
      · rename_i hk
        simp only [Bool.and_eq_true, beq_iff_eq, decide_eq_true_eq] at h
        exact .inr (.inr ⟨hk, h.2.1.1, h.2.1.2, List.eq_nil_of_length_eq_zero (by omega), ba_toList (by simpa using h.1)⟩)
      · cases h
theorem impT_complete : ∀ (t : T), t.nodes = true → ∀ rest, Sep rest → ∀ f, 2 * (t.fmt ++ rest).length + 1 ≤ f → impT f (t.fmt ++ rest) = some (t, rest) := by
  refine T.ind fun k n nm args ih h rest hr f hf => ?_
  obtain ⟨ha, hn⟩ := nodes_mk.1 h
  obtain ⟨f, rfl⟩ : ∃ g, f = g + 1 := ⟨f - 1, by omega⟩
  rcases node_kinds hn with ⟨rfl, rfl, rfl, hv⟩ | ⟨rfl, rfl, hv⟩ | ⟨rfl, h0, h3, rfl, rfl⟩
  · obtain ⟨c1, c2, b, r, hb, g1, g2⟩ := nm_chars (by omega) (by omega) (by omega) hv
    rw [fmt_leaf (by omega)]
    obtain ⟨t1, t2⟩ := tw_app c1 hr.alnum
    have e0 : wholeN 0 999999 nm.data.toList = none := by rw [hb]; exact no_num (by omega) (by omega) (by omega)
    simp only [impT, t1, t2, e0, baL_toList]
    have hv' : isNm 65 90 nm.data.toList = true := hv
    rw [if_pos hv']
  · obtain ⟨c1, c2, b, r, hb, g1, g2⟩ := nm_chars (by omega) (by omega) (by omega) hv
    have e0 : wholeN 0 999999 nm.data.toList = none := by rw [hb]; exact no_num (by omega) (by omega) (by omega)
    have hv' : isNm 97 122 nm.data.toList = true := hv
    have hw' : ¬ isNm 65 90 nm.data.toList = true := fun e => by
      have := name_var nm
      have e1 : isName nm = true := hv
      have e2 : isVar nm = true := e
      rw [e1, e2] at this; cases this
    by_cases hargs : args = []
    · subst hargs
      rw [fmt_leaf (by omega)]
      obtain ⟨t1, t2⟩ := tw_app c1 hr.alnum
      simp only [impT, t1, t2, e0, baL_toList]
      rw [if_neg hw', if_pos hv', if_neg hr.no40]
    · rw [fmt_node (by omega) hargs] at hf ⊢
      rw [List.append_assoc, List.cons_append] at hf ⊢
      obtain ⟨t1, t2⟩ := tw_app (p := alnum) (r := 40 :: ((T.fmtL args).drop 2 ++ [41] ++ rest)) c1 (fun b hb => by cases hb; rfl)
      simp only [impT, t1, t2, e0, baL_toList]
      rw [if_neg hw', if_pos hv', if_pos (by simp)]
      simp only [List.drop_succ_cons, List.drop_zero]
      have hL : ∀ (l : List T), l ≠ [] → (∀ a ∈ l, a.nodes = true ∧ ∀ rest, Sep rest → ∀ f, 2 * (a.fmt ++ rest).length + 1 ≤ f → impT f (a.fmt ++ rest) = some (a, rest)) →
          ∀ (acc : List T) (f : Nat), 2 * ((T.fmtL l).drop 2 ++ [41] ++ rest).length + 2 ≤ f → impA f nm acc ((T.fmtL l).drop 2 ++ [41] ++ rest) = some (.mk 2 0 nm (acc ++ l), rest) := by
        intro l
        induction l with
        | nil => intro h; exact absurd rfl h
        | cons x xs ihx =>
          intro _ h acc f hf
          obtain ⟨f, rfl⟩ : ∃ g, f = g + 1 := ⟨f - 1, by omega⟩
          have hx := h x (by simp)
          simp only [T.fmtL, List.drop_succ_cons, List.drop_zero, List.append_assoc] at hf ⊢
          by_cases hxs : xs = []
          · subst hxs
            simp only [T.fmtL, List.nil_append] at hf ⊢
            have := hx.2 ([41] ++ rest) (fun b hb => by cases hb; exact .inl rfl) f (by omega)
            simp only [impA, this]
            rw [if_pos (by simp)]
            simp
          · have e := fmtL_ne hxs
            rw [e] at hf ⊢
            have h1 := hx.2 ((44 :: 32 :: (T.fmtL xs).drop 2) ++ ([41] ++ rest)) (fun b hb => by cases hb; exact .inr rfl) f (by omega)
            simp only [impA, h1]
            rw [if_neg (by simp), if_pos (by simp)]
            simp only [List.cons_append, List.drop_succ_cons, List.drop_zero]
            have h2 := ihx hxs (fun a ha => h a (by simp [ha])) (acc ++ [x]) f (by simp at hf ⊢; omega)
            simp only [List.append_assoc, List.cons_append, List.nil_append] at h2 ⊢
            rw [h2]
      have := hL args hargs (fun a ha2 => ⟨ha a ha2, ih a ha2 (ha a ha2)⟩) [] f (by simp at hf ⊢; omega)
      rw [List.nil_append] at this
      exact this
  · obtain ⟨b, hb, hbn⟩ := small_itoa h0 h3
    rw [fmt_word, hb]
    have hal : alnum b = true := by
      simp only [alnum, Bool.or_eq_true, Bool.and_eq_true, decide_eq_true_eq]; omega
    obtain ⟨t1, t2⟩ := tw_app (s := [b]) (fun c hc => by cases List.mem_singleton.1 hc; exact hal) hr.alnum
    have e0 : wholeN 0 999999 [b] = some n := (wholeN_some (by omega) (by omega)).2 ⟨by omega, hb⟩
    simp only [impT, t1, t2, e0]
    rw [if_pos (by omega)]
theorem depthL_mem {a : T} {l : List T} (h : a ∈ l) : a.depth ≤ T.depthL l := by
  induction l with
  | nil => cases h
  | cons y ys ih =>
    simp only [T.depthL]
    rcases List.mem_cons.1 h with rfl | h
    · omega
    · have := ih h; omega
theorem countL_mem {a : T} {l : List T} (h : a ∈ l) : a.count ≤ T.countL l := by
  induction l with
  | nil => cases h
  | cons y ys ih =>
    simp only [T.countL]
    rcases List.mem_cons.1 h with rfl | h
    · omega
    · have := ih h; omega
theorem countL_length (l : List T) : l.length ≤ T.countL l := by
  induction l with
  | nil => exact Nat.le_refl _
  | cons y ys ih =>
    have := T.count_pos y
    simp only [T.countL, List.length_cons]; omega
theorem spT_complete : ∀ (t : T), t.nodes = true → t.count ≤ 60 → ∀ rest, Sep rest → ∀ f d, 2 * (t.fmt ++ rest).length + 1 ≤ f → d + t.depth ≤ 17 → spT f d (t.fmt ++ rest) = some (t, rest) := by
  refine T.ind fun k n nm args ih h hcnt rest hr f d hf hd => ?_
  obtain ⟨ha, hn⟩ := nodes_mk.1 h
  obtain ⟨f, rfl⟩ : ∃ g, f = g + 1 := ⟨f - 1, by omega⟩
  rcases node_kinds hn with ⟨rfl, rfl, rfl, hv⟩ | ⟨rfl, rfl, hv⟩ | ⟨rfl, h0, h3, rfl, rfl⟩
  · obtain ⟨c1, c2, b, r, hb, g1, g2⟩ := nm_chars (by omega) (by omega) (by omega) hv
    rw [fmt_leaf (by omega)]
    obtain ⟨t1, t2⟩ := tw_app c2 hr.stop
    have hv' : isNm 65 90 nm.data.toList = true := hv
    simp only [spT, t1, t2]
    rw [if_neg hr.no40]
    simp only [headT, hv', if_true, baL_toList]
  · obtain ⟨c1, c2, b, r, hb, g1, g2⟩ := nm_chars (by omega) (by omega) (by omega) hv
    have hw' : ¬ isNm 65 90 nm.data.toList = true := fun e => by
      have := name_var nm
      have e1 : isName nm = true := hv
      have e2 : isVar nm = true := e
      rw [e1, e2] at this; cases this
    have hh : headT nm.data.toList = .mk 2 0 nm [] := by
      unfold headT
      rw [if_neg hw']
      split
      · rename_i c hc
        rw [hb] at hc
        cases hc
        rw [if_neg (by omega)]
        exact congrArg (fun x => T.mk 2 0 x []) (baL_toList nm)
      · rw [baL_toList]
    by_cases hargs : args = []
    · subst hargs
      rw [fmt_leaf (by omega)]
      obtain ⟨t1, t2⟩ := tw_app c2 hr.stop
      simp only [spT, t1, t2, hh]
      rw [if_neg hr.no40]
    · rw [fmt_node (by omega) hargs] at hf ⊢
      rw [List.append_assoc, List.cons_append] at hf ⊢
      obtain ⟨t1, t2⟩ := tw_app (p := fun b => !stopB b) (r := 40 :: ((T.fmtL args).drop 2 ++ [41] ++ rest)) c2 (fun b hb => by cases hb; rfl)
      simp only [spT, t1, t2, hh]
      rw [if_pos (by simp)]
      simp only [List.drop_succ_cons, List.drop_zero]
      have hdep : d + 1 + T.depthL args ≤ 17 := by simp only [T.depth] at hd; omega
      have hct : T.countL args ≤ 59 := by simp only [T.count] at hcnt; omega
      have hdl : ∀ a ∈ args, a.depth ≤ T.depthL args := fun a ha => depthL_mem ha
      have hcl : ∀ a ∈ args, a.count ≤ T.countL args := fun a ha => countL_mem ha
      have hal := countL_length args
      have hL : ∀ (l : List T), l ≠ [] → (∀ a ∈ l, ∀ rest, Sep rest → ∀ f, 2 * (a.fmt ++ rest).length + 1 ≤ f → spT f (d + 1) (a.fmt ++ rest) = some (a, rest)) →
          ∀ (acc : List T) (f : Nat), acc.length + l.length ≤ 59 → 2 * ((T.fmtL l).drop 2 ++ [41] ++ rest).length + 2 ≤ f → spA f d (.mk 2 0 nm []) acc ((T.fmtL l).drop 2 ++ [41] ++ rest) = some (.mk 2 0 nm (acc ++ l), rest) := by
        intro l
        induction l with
        | nil => intro h; exact absurd rfl h
        | cons x xs ihx =>
          intro _ h acc f hlen hf
          obtain ⟨f, rfl⟩ : ∃ g, f = g + 1 := ⟨f - 1, by omega⟩
          have hx := h x (by simp)
          simp only [List.length_cons] at hlen
          have hbad : ¬ (16 < d ∨ 60 < acc.length) := by
            cases args with
            | nil => exact absurd rfl hargs
            | cons y ys =>
              have : 1 ≤ T.depthL (y :: ys) := by
                simp only [T.depthL]
                have : 1 ≤ y.depth := by cases y; simp only [T.depth]; omega
                omega
              omega
          simp only [T.fmtL, List.drop_succ_cons, List.drop_zero, List.append_assoc] at hf ⊢
          by_cases hxs : xs = []
          · subst hxs
            simp only [T.fmtL, List.nil_append] at hf ⊢
            have := hx ([41] ++ rest) (fun b hb => by cases hb; exact .inl rfl) f (by omega)
            simp only [spA, this, if_neg hbad]
            rw [if_pos (by simp)]
            simp [T.withArgs]
          · have e := fmtL_ne hxs
            rw [e] at hf ⊢
            have h1 := hx ((44 :: 32 :: (T.fmtL xs).drop 2) ++ ([41] ++ rest)) (fun b hb => by cases hb; exact .inr rfl) f (by omega)
            simp only [spA, h1, if_neg hbad]
            rw [if_neg (by simp), if_pos (by simp)]
            simp only [List.cons_append, List.drop_succ_cons, List.drop_zero]
            have h2 := ihx hxs (fun a ha => h a (by simp [ha])) (acc ++ [x]) f (by simp; omega) (by simp at hf ⊢; omega)
            simp only [List.append_assoc, List.cons_append, List.nil_append] at h2 ⊢
            rw [h2]
      have := hL args hargs (fun a ha2 rest hr f hf => ih a ha2 (ha a ha2) (by have := hcl a ha2; omega) rest hr f (d + 1) hf (by have := hdl a ha2; omega)) [] f (by simp; omega) (by simp at hf ⊢; omega)
      rw [List.nil_append] at this
      exact this
  · obtain ⟨b, hb, hbn⟩ := small_itoa h0 h3
    rw [fmt_word, hb]
    have hal : (!stopB b) = true := by
      simp only [stopB, Bool.not_eq_true', Bool.or_eq_false_iff, decide_eq_false_iff_not]; omega
    obtain ⟨t1, t2⟩ := tw_app (s := [b]) (fun c hc => by cases List.mem_singleton.1 hc; exact hal) hr.stop
    have hw : ¬ isNm 65 90 [b] = true := fun e => by
      simp only [isNm, Bool.and_eq_true, decide_eq_true_eq] at e
      omega
    simp only [spT, t1, t2]
    rw [if_neg hr.no40]
    have : (b.toNat : Int) - 48 = n := by omega
    simp only [headT, if_neg hw]
    rw [if_pos (by omega), this]
def T.fmtV (t : T) : List UInt8 := if t.valid = true then t.fmt else []
def impParse (l : List UInt8) : Option T := match impT (2 * l.length + 1) l with
  | some (t, l') => if l' = [] ∧ t.valid = true then some t else none
  | none => none
def spParse (l : List UInt8) : Option T := match spT (2 * l.length + 1) 1 l with
  | some (t, _) => if l ≠ [] ∧ t.fmtV = l then some t else none
  | none => none
theorem valid_nodes {t : T} (h : t.valid = true) : t.nodes = true ∧ t.count ≤ 60 ∧ t.depth ≤ 16 := by
  simp only [T.valid, Bool.and_eq_true, decide_eq_true_eq] at h
  exact ⟨h.2.2, h.1, h.2.1⟩
theorem fmt_ne {t : T} (h : t.nodes = true) : t.fmt ≠ [] := by
  obtain ⟨k, n, nm, args⟩ := t
  obtain ⟨ha, hn⟩ := nodes_mk.1 h
  rcases node_kinds hn with ⟨rfl, rfl, rfl, hv⟩ | ⟨rfl, rfl, hv⟩ | ⟨rfl, h0, h3, rfl, rfl⟩
  · obtain ⟨_, _, b, r, hb, _⟩ := nm_chars (by omega) (by omega) (by omega) hv
    rw [fmt_leaf (by omega), hb]; simp
  · obtain ⟨_, _, b, r, hb, _⟩ := nm_chars (by omega) (by omega) (by omega) hv
    by_cases hargs : args = []
    · subst hargs; rw [fmt_leaf (by omega), hb]; simp
    · rw [fmt_node (by omega) hargs]; simp
  · obtain ⟨b, hb, _⟩ := small_itoa h0 h3
    rw [fmt_word, hb]; simp
theorem impParse_some {l : List UInt8} {t : T} : impParse l = some t ↔ t.valid = true ∧ t.fmt = l := by
  constructor
  · intro h
    unfold impParse at h
    split at h
    · rename_i t' l' hi
      split at h
      · rename_i hc
        cases h
        obtain ⟨rfl, hv⟩ := hc
        have := ((impT_sound _).1 _ _ _ hi).1
        exact ⟨hv, by rw [List.append_nil] at this; exact this.symm⟩
      · cases h
    · cases h
  · rintro ⟨hv, rfl⟩
    have h1 := impT_complete t (valid_nodes hv).1 [] Sep.nil (2 * t.fmt.length + 1) (by simp)
    rw [List.append_nil] at h1
    unfold impParse
    rw [h1]
    simp [hv]
theorem spParse_some {l : List UInt8} {t : T} : spParse l = some t ↔ t.valid = true ∧ t.fmt = l := by
  constructor
  · intro h
    unfold spParse at h
    split at h
    · split at h
      · rename_i hc
        cases h
        obtain ⟨hne, hf⟩ := hc
        unfold T.fmtV at hf
        split at hf
        · rename_i hv; exact ⟨hv, hf⟩
        · exact absurd hf.symm hne
      · cases h
    · cases h
  · rintro ⟨hv, rfl⟩
    obtain ⟨h1, h2, h3⟩ := valid_nodes hv
    have h4 := spT_complete t h1 h2 [] Sep.nil (2 * t.fmt.length + 1) 1 (by simp) (by omega)
    rw [List.append_nil] at h4
    unfold spParse
    rw [h4]
    simp only [T.fmtV, hv, if_true]
    rw [if_pos ⟨fmt_ne h1, trivial⟩]
theorem parse_same (l : List UInt8) : impParse l = spParse l := opt_ext fun v => by rw [impParse_some, spParse_some]
end Go.Proofs.YtlmbmplhdfgmfaaDoor.AM


/- Rows of bytes; the cursor of a draw: spec.l1New, l1Byte, l1Below, l1Once. -/
namespace Go.Proofs.YtlmbmplhdfgmfaaDoor.AM
open Go Go.Proofs
set_option linter.unusedVariables false
set_option linter.unusedSimpArgs false
set_option maxRecDepth 100000
attribute [local go_sem] List.map_cons List.map_nil List.all_cons List.all_nil Bool.and_self Option.map_some List.getElem?_toArray Option.bind_some gye_b gye_t gsk_b gsk_t gb1 gb2 gb3 gb4 bne_self_eq_false beq_self_eq_true w_guard w_nil stepV_some step_some step_some' w_move w_assign w_pick w_binOp w_unOp w_load w_fieldAddr w_indexAddr w_len w_max w_index ev_max max_int ev_index w_box w_alloc w_store w_field w_extract w_nilCheck w_convert w_buildSlice w_build ev_buildL fillL_nil fillL_cons bs0 bs1 ev_conv ev_bin ev_un ev_pick ev_load ev_fieldAddr ev_indexAddr ev_len ev_field ev_extract ev_nilCheck fr_tmp fr_int fr_bool fr_str fr_nil fr_func put_some put_none bin_lss bin_leq bin_gtr bin_geq bin_eql bin_neq bin_add bin_sub bin_mul bin_seql bin_sneq un_not pick_ ext_ loadA_p cellAt_l cellAt_h okPtr_l okPtr_h fadA_p allocA_l storeA_l cells_agg cells_int cells_str cells_sl cells_bool flat_i flat_s flat_b flat_sl flat_nil loc_agg loc_int loc_str loc_sl loc_bool loc_fn loc_ptr okv_agg okv_int okv_str okv_sl okv_bool cellsFrom splice upd_eval argEnv_zero argEnv_succ ne_eq Nat.add_one_ne_zero not_false_eq_true List.not_mem_nil and_self decide_true List.getElem?_cons_zero List.getElem?_cons_succ List.size_toArray List.length_cons List.length_nil List.take_succ_cons List.take_zero List.drop_succ_cons List.drop_zero List.cons_append List.nil_append List.drop_nil Bool.not_true Bool.not_false Bool.false_eq_true Nat.zero_add Nat.add_zero wrap_in List.toList_toArray List.mem_cons or_self or_false false_or
attribute [local go_sem] ag22 ag24 ag3 ag4 ag5 ag58 ag70 ag9 bu24 bu32 bu37 bu76 bu87 by24 by5 el22 el54 of24_0 of24_1 of24_2 of24_3 of32_0 of32_1 of32_2 of37_0 ro24_1 ro5_1 sz22 sz24 sz3 sz4 sz5 sz58 sz70 sz9 ze24 ze5 ze78 ze92
-- AUTO

/-- A byte of a row. -/
structure Byt where
  v : Int
def EncY (st : St) (b : Byt) (cs : List Value) : Prop := cs = [.int .u8 b.v]
abbrev RowY (st : St) (xs : List Byt) (s : Value) : Prop := Row (EncY st) 1 st xs s
theorem RowY.ext {st st' : St} {xs : List Byt} {s : Value} (h : RowY st xs s) (hx : Ext st st') : RowY st' xs s := Row.mono h hx fun _ _ _ he => he
theorem row_atY {st : St} {xs : List Byt} {s : Value} (h : RowY st xs s) {j : Nat} (hj : j < xs.length) : ∃ i o c, s = .slice (some ⟨i, o, none⟩) xs.length c ∧ cell st i (o + j * 1) = some (.int .u8 xs[j].v) := by
  obtain ⟨i, o, c, cs, rfl, _, hE, hc⟩ := row_at h (List.getElem?_eq_getElem hj)
  have : cs = [.int .u8 xs[j].v] := hE
  subst this
  exact ⟨i, o, c, rfl, hc 0 _ rfl⟩

def andI (a b : Int) : Int := IntKind.i64.wrap (BitVec.ofInt IntKind.i64.bits a &&& BitVec.ofInt IntKind.i64.bits b).toNat
def xorI (a b : Int) : Int := IntKind.i64.wrap (BitVec.ofInt IntKind.i64.bits a ^^^ BitVec.ofInt IntKind.i64.bits b).toNat
section
variable {P : Program} {t : TypeId} {x y : Operand}
theorem bin_and {a b : Int} : binE P .and t x y (.int .i64 a) (.int .i64 b) = some (.int .i64 (andI a b)) := rfl
theorem bin_xor {a b : Int} : binE P .xor t x y (.int .i64 a) (.int .i64 b) = some (.int .i64 (xorI a b)) := rfl
theorem bin_shr33 {a : Int} : binE P .shr t x y (.int .i64 a) (.int .u64 33) = some (.int .i64 (a.fdiv (2 ^ 33))) := rfl
theorem bin_shr45 {a : Int} : binE P .shr t x y (.int .i64 a) (.int .u64 45) = some (.int .i64 (a.fdiv (2 ^ 45))) := rfl
end
theorem and255 (a : Int) : 0 ≤ andI a 255 ∧ andI a 255 ≤ 255 := by
  have h : (BitVec.ofInt IntKind.i64.bits a &&& BitVec.ofInt IntKind.i64.bits 255).toNat ≤ 255 := by
    rw [BitVec.toNat_and]
    exact Nat.le_trans Nat.and_le_right (by decide)
  unfold andI
  generalize (BitVec.ofInt IntKind.i64.bits a &&& BitVec.ofInt IntKind.i64.bits 255).toNat = n at h
  rw [wrap_in (by omega) (by omega)]
  omega

theorem far {xs : List Byt} {sb : Value} {q k : Nat} (h : xs = [] ∨ ∃ b, topId sb = some b ∧ b < q) (hk : q ≤ k) : xs = [] ∨ topId sb ≠ some k := h.imp id fun ⟨b, h1, h2⟩ e => by
  rw [h1] at e; cases e; omega
theorem Away.refl (k : Option Nat) (st : St) : Away k st st := ⟨Nat.le_refl _, fun _ _ _ => rfl⟩
theorem Away.same {k : Option Nat} {a b c : St} (h : Away k a b) (g : Away k b c) : Away k a c := h.trans g (.inl rfl)
theorem row_away {st st' : St} {xs : List Byt} {s : Value} {q : Nat} (h : RowY st xs s) (ha : Away (some q) st st') (hn : xs = [] ∨ topId s ≠ some q) : RowY st' xs s := by
  rcases h with h | ⟨i, o, c, rfl, h⟩
  · exact .inl h
  · refine .inr ⟨i, o, c, rfl, fun j x hx => ?_⟩
    obtain ⟨cs, h1, h2, h3⟩ := h j x hx
    refine ⟨cs, h1, h2, fun k v hv => ?_⟩
    have h4 := h3 k v hv
    rcases hn with rfl | hn
    · simp at hx
    have hi : i < st.length := by
      unfold cell at h4
      rcases Nat.lt_or_ge i st.length with h5 | h5
      · exact h5
      · rw [List.getElem?_eq_none h5] at h4; cases h4
    have h5 := ha.2 i hi (fun e => hn e.symm)
    unfold cell at h4 ⊢
    rw [h5]; exact h4
section
variable {st : St} {q : Nat} {a b c : Value}
theorem cur_cell0 {st : St} {q : Nat} {a b c : Value} {t : TypeId} (h : st[q]? = some ⟨[a, b, c], t, 0⟩) : cell st q 0 = some a := by simp [cell, h]
theorem cur_cell1 {st : St} {q : Nat} {a b c : Value} {t : TypeId} (h : st[q]? = some ⟨[a, b, c], t, 0⟩) : cell st q 1 = some b := by simp [cell, h]
theorem cur_cell2 {st : St} {q : Nat} {a b c : Value} {t : TypeId} (h : st[q]? = some ⟨[a, b, c], t, 0⟩) : cell st q 2 = some c := by simp [cell, h]
theorem cur_set1 {st : St} {q : Nat} {a b c : Value} {t : TypeId} (h : st[q]? = some ⟨[a, b, c], t, 0⟩) (loc : Nat → Nat × List Value) (v : Int) : storeA Tryd.prog 3 (.pointer (some ⟨q, 1, none⟩)) (.int .i64 v) loc st = some (loc, st.set q ⟨[a, .int .i64 v, c], t, 0⟩) := by
  rw [storeA_h, sz3]
  simp [h, okv_int, cells_int, splice]
theorem cur_set2 {st : St} {q : Nat} {a b c : Value} {t : TypeId} (h : st[q]? = some ⟨[a, b, c], t, 0⟩) (loc : Nat → Nat × List Value) (v : Int) : storeA Tryd.prog 3 (.pointer (some ⟨q, 2, none⟩)) (.int .i64 v) loc st = some (loc, st.set q ⟨[a, b, .int .i64 v], t, 0⟩) := by
  rw [storeA_h, sz3]
  simp [h, okv_int, cells_int, splice]
end
theorem set_at {st : St} {q : Nat} {b b' : Blk} (h : st[q]? = some b) : (st.set q b')[q]? = some b' := List.getElem?_set_self (List.getElem?_eq_some_iff.1 h).1
theorem set_away {st : St} {q : Nat} {b' : Blk} : Away (some q) st (st.set q b') := ⟨by simp, fun i _ hi => List.getElem?_set_ne (fun e => hi (by rw [e]))⟩

theorem Row.cells1 {α : Type} {E : α → List Value → Prop} {sz : Nat} {st : St} {xs : List α} {s : Value} (h : Row E sz st xs s) : vc s = #[s] := by
  rcases h with ⟨h | h, _⟩ | ⟨i, o, c, rfl, _⟩
  · subst h; rfl
  · subst h; rfl
  · rfl
end Go.Proofs.YtlmbmplhdfgmfaaDoor.AM

