import Derived.Test.YtghngiekkkeohaaPuTerm
/-! Two terms are the same, or are not. -/
namespace Go.Proofs.Ytghngiekkkeohaa.Pu
set_option linter.unusedSimpArgs false
set_option linter.unusedVariables false
open Go.RowKit Go.Proofs.Ytghngiekkkeohaa.F Go.Proofs.YtghngiekkkeohaaW.PrintWords
mutual
def eqT : S29 → S29 → Bool
  | ⟨a, b, c, l⟩, ⟨a', b', c', l'⟩ => decide (a = a') && (decide (b = b') && (decide (c = c') && eqL l l'))
def eqL : List S29 → List S29 → Bool
  | [], [] => true
  | x :: xs, y :: ys => eqT x y && eqL xs ys
  | [], _ :: _ => false
  | _ :: _, [] => false
end
theorem eqT_fields (z y : S29) : eqT z y = (decide (z.f0 = y.f0) && (decide (z.f1 = y.f1) && (decide (z.f2 = y.f2) && eqL z.f3 y.f3))) := by
  cases z
  cases y
  simp only [eqT]
mutual
theorem eqT_iff : ∀ z y : S29, eqT z y = true ↔ z = y
  | ⟨a, b, c, l⟩, ⟨a', b', c', l'⟩ => by
    simp only [eqT, Bool.and_eq_true, decide_eq_true_eq, eqL_iff l l', S29.mk.injEq]
theorem eqL_iff : ∀ l m : List S29, eqL l m = true ↔ l = m
  | [], [] => by simp [eqL]
  | [], _ :: _ => by simp [eqL]
  | _ :: _, [] => by simp [eqL]
  | x :: xs, y :: ys => by
    simp only [eqL, Bool.and_eq_true, eqT_iff x y, eqL_iff xs ys, List.cons.injEq]
end
theorem eqT_refl (z : S29) : eqT z z = true := (eqT_iff z z).2 rfl
theorem eqT_false {z y : S29} (h : z ≠ y) : eqT z y = false := by
  cases e : eqT z y with
  | false => rfl
  | true => exact absurd ((eqT_iff z y).1 e) h
theorem eqL_len {l m : List S29} (h : l.length ≠ m.length) : eqL l m = false := by
  cases e : eqL l m with
  | false => rfl
  | true => exact absurd (congrArg List.length ((eqL_iff l m).1 e)) h
end Go.Proofs.Ytghngiekkkeohaa.Pu
