/- Whole numbers and their decimal form, in plain Lean. -/
import Derived.Lib.AtoiTie
import Derived.Lib.ItoaMem
import Derived.Lib.ItoaLen
namespace Go.Proofs.YtibcegfhllkdgaaDoor.AM
open Go Go.Proofs Go.Lib
set_option linter.unusedVariables false
set_option linter.unusedSimpArgs false

theorem decFrom_app (l m : List UInt8) : ∀ acc, decFrom acc (l ++ m) = (decFrom acc l).bind fun n => decFrom n m := by
  induction l with
  | nil => intro acc; rfl
  | cons b r ih =>
    intro acc
    simp only [List.cons_append, decFrom]
    cases digitVal b with
    | none => rfl
    | some d => exact ih _
theorem digit_of (d : Nat) (h : d < 10) : digitVal (UInt8.ofNat (48 + d)) = some d := by
  unfold digitVal
  have e : (UInt8.ofNat (48 + d)).toNat = 48 + d := by simp; omega
  rw [e, if_pos (by omega)]
  simp
theorem decFrom_digits (u : Nat) : decFrom 0 (decDigits u) = some u := by
  induction u using Nat.strongRecOn with
  | _ u ih =>
    rw [decDigits]
    split
    · rename_i h
      simp only [decFrom, digit_of u h]
      simp
    · rename_i h
      rw [decFrom_app, ih (u / 10) (by omega)]
      simp only [Option.bind_some, decFrom, digit_of (u % 10) (by omega)]
      congr 1; omega
theorem digits_ne (u : Nat) : decDigits u ≠ [] := by
  intro h
  have := decDigits_length u
  rw [h] at this
  have := nDigits_pos u
  simp at *
  omega
theorem decNat_digits (u : Nat) : decNat (decDigits u) = some u := by
  unfold decNat
  rw [if_neg (by simpa using digits_ne u), decFrom_digits]
theorem digits_head (u : Nat) : ∃ b r, decDigits u = b :: r ∧ 48 ≤ b.toNat ∧ b.toNat ≤ 57 := by
  cases h : decDigits u with
  | nil => exact absurd h (digits_ne u)
  | cons b r =>
    refine ⟨b, r, rfl, ?_⟩
    obtain ⟨d, hd⟩ := digit_of_decFrom (decDigits u) 0 u (decFrom_digits u) 0 b (by rw [h]; rfl)
    have := digitVal_eq hd
    omega
theorem atoi_itoa (n : Int) : atoi (itoa n) = some n := by
  by_cases h : n < 0
  · obtain ⟨u, hu, rfl⟩ : ∃ u : Nat, 1 ≤ u ∧ n = -(u : Int) := ⟨n.natAbs, by omega, by omega⟩
    rw [itoa_neg u hu]
    simp [atoi, decNat_digits]
  · obtain ⟨u, rfl⟩ : ∃ u : Nat, n = u := ⟨n.toNat, by omega⟩
    rw [itoa_nonneg]
    obtain ⟨b, r, h1, h2, h3⟩ := digits_head u
    have h4 := decNat_digits u
    rw [h1] at h4 ⊢
    have e1 : ¬ (b == 45) = true := fun e => by have : b = 45 := by simpa using e
                                                subst this; simp at h2
    have e2 : ¬ (b == 43) = true := fun e => by have : b = 43 := by simpa using e
                                                subst this; simp at h2
    simp only [atoi, if_neg e1, if_neg e2, h4, Option.map_some]
theorem nDigits_le : ∀ (k u : Nat), u < 10 ^ (k + 1) → nDigits u ≤ k + 1 := by
  intro k
  induction k with
  | zero => intro u h; rw [nDigits_small (by simpa using h)]; omega
  | succ k ih =>
    intro u h
    by_cases h1 : u < 10
    · rw [nDigits_small h1]; omega
    · rw [nDigits_big h1]
      have := ih (u / 10) (by rw [Nat.pow_succ] at h; omega)
      omega
theorem itoa_short {n : Int} (h0 : -1000000000000 < n) (h1 : n < 1000000000000) : (itoa n).length ≤ 13 := by
  by_cases h : n < 0
  · obtain ⟨u, hu, rfl⟩ : ∃ u : Nat, 1 ≤ u ∧ n = -(u : Int) := ⟨n.natAbs, by omega, by omega⟩
    rw [itoa_neg u hu, List.length_cons, decDigits_length]
    have := nDigits_le 11 u (by omega)
    omega
  · obtain ⟨u, rfl⟩ : ∃ u : Nat, n = u := ⟨n.toNat, by omega⟩
    rw [itoa_nonneg, decDigits_length]
    have := nDigits_le 11 u (by omega)
    omega

/-- A number between two ends, written as it is formatted. -/
def wholeN (lo hi : Int) (l : List UInt8) : Option Int := match atoiAll l with
  | .ok v => if (lo ≤ v ∧ v ≤ hi) ∧ itoa v = l then some v else none
  | _ => none
theorem wholeN_some {lo hi v : Int} {l : List UInt8} (hlo : -1000000000000 < lo) (hhi : hi < 1000000000000) : wholeN lo hi l = some v ↔ (lo ≤ v ∧ v ≤ hi) ∧ itoa v = l := by
  constructor
  · intro h
    unfold wholeN at h
    split at h
    · split at h
      · rename_i hc; cases h; exact hc
      · cases h
    · cases h
  · rintro ⟨h1, rfl⟩
    have h2 := itoa_short (n := v) (by omega) (by omega)
    unfold wholeN
    rw [atoiAll_short _ (by omega), atoi_itoa]
    simp only [NumEnd.ofOption]
    rw [if_pos ⟨h1, trivial⟩]
/-- The reference's reading: a sign, digits, not too many, and the same form. -/
def readM (most : Nat) (below : Bool) (t l : List UInt8) : Option Int :=
  if t.length < 1 ∨ most < t.length then none else match decFrom 0 t with
  | some m => if itoa (if below then -(m : Int) else m) = l then some (if below then -(m : Int) else m) else none
  | none => none
def readN (most : Nat) (l : List UInt8) : Option Int := if l.head? = some 45 then readM most true l.tail l else readM most false l l
theorem readM_some {most : Nat} {below : Bool} {t l : List UInt8} {v : Int} (h : readM most below t l = some v) : v.natAbs < 10 ^ most ∧ itoa v = l := by
  unfold readM at h
  split at h
  · cases h
  rename_i hl
  cases hd : decFrom 0 t with
  | none => rw [hd] at h; cases h
  | some m =>
    rw [hd] at h
    simp only at h
    have h1 := decFrom_lt _ _ _ hd
    have h2 : 10 ^ t.length ≤ 10 ^ most := Nat.pow_le_pow_right (by omega) (by omega)
    by_cases he : itoa (if below = true then -(m : Int) else m) = l
    · rw [if_pos he] at h
      cases h
      refine ⟨?_, he⟩
      cases below <;> simp <;> omega
    · rw [if_neg he] at h; cases h
theorem readN_some {most : Nat} (hm : 1 ≤ most) {v : Int} {l : List UInt8} : readN most l = some v ↔ v.natAbs < 10 ^ most ∧ itoa v = l := by
  constructor
  · intro h
    unfold readN at h
    split at h
    · exact readM_some h
    · exact readM_some h
  · rintro ⟨h1, rfl⟩
    obtain ⟨k, rfl⟩ : ∃ k, most = k + 1 := ⟨most - 1, by omega⟩
    unfold readN readM
    by_cases h : v < 0
    · obtain ⟨u, hu, rfl⟩ : ∃ u : Nat, 1 ≤ u ∧ v = -(u : Int) := ⟨v.natAbs, by omega, by omega⟩
      have h2 := nDigits_le k u (by simpa using h1)
      have h3 := nDigits_pos u
      have e : itoa (-(u : Int)) = 45 :: decDigits u := itoa_neg u hu
      simp only [e, List.head?_cons, if_true, List.tail_cons, decDigits_length, decFrom_digits]
      rw [if_neg (by omega)]
    · obtain ⟨u, rfl⟩ : ∃ u : Nat, v = u := ⟨v.toNat, by omega⟩
      have h2 := nDigits_le k u (by simpa using h1)
      have h3 := nDigits_pos u
      have e : itoa (u : Int) = decDigits u := itoa_nonneg u
      obtain ⟨b, r, g1, g2, g3⟩ := digits_head u
      have hb : ¬ (decDigits u).head? = some 45 := by
        rw [g1, List.head?_cons]
        intro e2
        cases e2
        simp at g2
      simp only [e, if_neg hb, decDigits_length, decFrom_digits]
      rw [if_neg (by omega)]
      simp [e]
theorem opt_ext {α : Type} {a b : Option α} (h : ∀ v, a = some v ↔ b = some v) : a = b := by
  cases a with
  | none =>
    cases b with
    | none => rfl
    | some v => exact ((h v).2 rfl)
  | some v => exact ((h v).1 rfl).symm
theorem int_same (l : List UInt8) : wholeN (-999999999999) 999999999999 l = readN 12 l := opt_ext fun v => by
  rw [wholeN_some (by omega) (by omega), readN_some (by omega)]
  constructor
  · rintro ⟨h1, h2⟩; exact ⟨by omega, h2⟩
  · rintro ⟨h1, h2⟩; exact ⟨by omega, h2⟩
theorem num_same (l : List UInt8) : wholeN 0 999999 l = (readN 6 l).filter fun v => decide (0 ≤ v) := opt_ext fun v => by
  rw [wholeN_some (by omega) (by omega), Option.filter_eq_some_iff, readN_some (by omega)]
  constructor
  · rintro ⟨h1, h2⟩; exact ⟨⟨by omega, h2⟩, by simp; omega⟩
  · rintro ⟨⟨h1, h2⟩, h3⟩
    have : 0 ≤ v := by simpa using h3
    exact ⟨by omega, h2⟩
end Go.Proofs.YtibcegfhllkdgaaDoor.AM
