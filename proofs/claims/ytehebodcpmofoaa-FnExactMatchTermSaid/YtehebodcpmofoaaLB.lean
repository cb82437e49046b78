/- What the laws of bindings share. -/
import Derived.Test.YtehebodcpmofoaaC13
import Derived.Test.YtehebodcpmofoaaL0
import Derived.Test.YtehebodcpmofoaaE4
namespace Go.Proofs.Ytehebodcpmofoaa.AM
open Go Go.Proofs
set_option linter.unusedVariables false
set_option linter.unusedSimpArgs false

theorem limB_of {B : Nat} {xs : List Bnd} (h : wtL xs ≤ B) : ∀ b ∈ xs, Lim B b.tm := fun b hb => Lim.of_wt _ (by have h1 := wt_mem hb; have h2 : Wt.wt b = b.nm.size + b.tm.wt := rfl; omega)
theorem limNB_of {B : Nat} {xs : List Bnd} (h : wtL xs ≤ B) : ∀ b ∈ xs, LimN B b.tm ∧ b.nm.size ≤ B := fun b hb => by
  have h1 := wt_mem hb; have h2 : Wt.wt b = b.nm.size + b.tm.wt := rfl
  exact ⟨LimN.of_wt _ (by omega), by omega⟩
theorem limB_le {xs : List Bnd} (h : ∀ b ∈ xs, Lim 1073741824 b.tm) : ∀ b ∈ xs, Lim 4611686018427387904 b.tm := fun b hb => Lim.le (by omega) _ (h b hb)
theorem mkL_binds (xs : List Bnd) (k : Nat) : (mkL xs k).2 ≤ k + 4 * xs.length + 3 * wtL xs := by
  induction xs generalizing k with
  | nil => simp [mkL, wtL]
  | cons x xs ih =>
    have h1 := T.mk1_wt x.tm (k + 1)
    have h2 := ih (Marks.mk1 x k).2
    have h3 : (Marks.mk1 x k).2 = (x.tm.mk1 (k + 1)).2 := rfl
    have h4 : Wt.wt x = x.nm.size + x.tm.wt := rfl
    simp only [mkL, List.length_cons, wtL]
    omega
theorem findD_wt (nm : ByteArray) (bs : List Bnd) : (findD nm bs).wt ≤ wtL bs := by
  unfold findD
  cases hf : findB nm bs with
  | none => simp [T.zero', T.wt, T.wtL, ByteArray.size]
  | some t =>
    obtain ⟨b, h1, rfl⟩ := findB_mem hf
    have h2 := wt_mem h1
    have h3 : Wt.wt b = b.nm.size + b.tm.wt := rfl
    simp only [Option.getD_some]
    omega
theorem sub_wt (bs : List Bnd) : ∀ t : T, (t.sub bs).wt ≤ (2 * t.wt + 1) * (wtL bs + 1) := by
  refine T.ind fun k n nm args ih => ?_
  by_cases h1 : ((k == 1) && (findB nm bs).isSome) = true
  · simp only [T.sub, h1, if_true]
    have := findD_wt nm bs
    calc (findD nm bs).wt ≤ 1 * (wtL bs + 1) := by omega
      _ ≤ _ := Nat.mul_le_mul_right _ (by omega)
  · have hs : ∀ (l : List T), (∀ a ∈ l, (a.sub bs).wt ≤ (2 * a.wt + 1) * (wtL bs + 1)) → T.wtL (T.subL bs l) ≤ (2 * T.wtL l + l.length) * (wtL bs + 1) ∧ (T.subL bs l).length = l.length := by
      intro l
      induction l with
      | nil => intro _; simp [T.subL, T.wtL]
      | cons x xs ihx =>
        intro h
        obtain ⟨h2, h3⟩ := ihx (fun a ha => h a (by simp [ha]))
        have h4 := h x (by simp)
        simp only [T.subL, T.wtL, List.length_cons]
        refine ⟨?_, by omega⟩
        have e : (2 * (x.wt + T.wtL xs) + (xs.length + 1)) * (wtL bs + 1) = (2 * x.wt + 1) * (wtL bs + 1) + (2 * T.wtL xs + xs.length) * (wtL bs + 1) := by rw [← Nat.add_mul]; congr 1; omega
        omega
    obtain ⟨h2, h3⟩ := hs args ih
    simp only [T.sub, if_neg h1, T.wt, h3]
    have e : (2 * (nm.size + args.length + T.wtL args) + 1) * (wtL bs + 1) = (2 * T.wtL args + args.length) * (wtL bs + 1) + (2 * nm.size + args.length + 1) * (wtL bs + 1) := by rw [← Nat.add_mul]; congr 1; omega
    have e2 : 2 * nm.size + args.length + 1 ≤ (2 * nm.size + args.length + 1) * (wtL bs + 1) := Nat.le_mul_of_pos_right _ (by omega)
    omega
theorem sub_big {bs : List Bnd} {t : T} (h1 : t.wt ≤ 1048576) (h2 : wtL bs ≤ 1048576) : (t.sub bs).wt ≤ 2199027449856 := Nat.le_trans (sub_wt bs t) (Nat.le_trans (Nat.mul_le_mul (show 2 * t.wt + 1 ≤ 2097153 by omega) (show wtL bs + 1 ≤ 1048577 by omega)) (by omega))
theorem comp_big {a b : List Bnd} (h1 : wtL a ≤ 1048576) (h2 : wtL b ≤ 1048576) (h3 : a.length ≤ 1048576) : wtL (comp a b) ≤ 4611686018427387 := by
  have hA : ∀ l : List Bnd, wtL (compA b l) ≤ wtL l + (2 * wtL l + l.length) * (wtL b + 1) := by
    intro l
    induction l with
    | nil => simp [compA, wtL]
    | cons x xs ih =>
      have h4 := sub_wt b x.tm
      have e : compA b (x :: xs) = ⟨x.nm, x.tm.sub b⟩ :: compA b xs := rfl
      have e2 : Wt.wt (⟨x.nm, x.tm.sub b⟩ : Bnd) = x.nm.size + (x.tm.sub b).wt := rfl
      have e3 : Wt.wt x = x.nm.size + x.tm.wt := rfl
      rw [e]
      simp only [wtL, List.length_cons]
      have e4 : (2 * (Wt.wt x + wtL xs) + (xs.length + 1)) * (wtL b + 1) = (2 * Wt.wt x + 1) * (wtL b + 1) + (2 * wtL xs + xs.length) * (wtL b + 1) := by rw [← Nat.add_mul]; congr 1; omega
      have e5 : (2 * x.tm.wt + 1) * (wtL b + 1) ≤ (2 * Wt.wt x + 1) * (wtL b + 1) := Nat.mul_le_mul_right _ (by omega)
      omega
  have hB : ∀ l : List Bnd, wtL (compB a l) ≤ wtL l := by
    intro l
    induction l with
    | nil => simp [compB, wtL]
    | cons x xs ih =>
      unfold compB at ih ⊢
      rw [List.filter_cons]
      split <;> simp only [wtL] <;> omega
  have hap : ∀ l m : List Bnd, wtL (l ++ m) = wtL l + wtL m := by
    intro l m
    induction l with
    | nil => simp [wtL]
    | cons x xs ih => simp only [List.cons_append, wtL, ih]; omega
  unfold comp
  rw [hap]
  have h4 := hA a
  have h5 := hB b
  have h6 : (2 * wtL a + a.length) * (wtL b + 1) ≤ 3145728 * 1048577 := Nat.mul_le_mul (by omega) (by omega)
  omega
end Go.Proofs.Ytehebodcpmofoaa.AM
