import Derived.Test.YtghngiekkkeohaaWWords
import Derived.Lib.Strings
/-! Plain words for the pure proofs: numbers of rounds, loops over lists. -/
namespace Go.Proofs.Ytghngiekkkeohaa.Pu
set_option linter.unusedSimpArgs false
set_option linter.unusedVariables false
open Go.RowKit Go.Proofs.YtghngiekkkeohaaW.PrintWords
theorem wrap_in {i : Int} (h0 : -9223372036854775808 ≤ i) (h1 : i ≤ 9223372036854775807) : wrap64 i = i := by
  unfold wrap64
  omega
theorem wrap_range (i : Int) : -9223372036854775808 ≤ wrap64 i ∧ wrap64 i ≤ 9223372036854775807 := by
  unfold wrap64
  omega
theorem wrap_succ {i : Nat} (h : i < 9223372036854775807) : wrap64 ((i : Int) + 1) = ((i + 1 : Nat) : Int) := by
  rw [wrap_in (by omega) (by omega)]
  omega
theorem ev_pos {α : Type} {c : Prop} [Decidable c] {a b : Nat → Option α} {r : α} (h : c) (k : Ev a r) : Ev (fun n => if c then a n else b n) r := by
  simp only [if_pos h]
  exact k
theorem ev_neg {α : Type} {c : Prop} [Decidable c] {a b : Nat → Option α} {r : α} (h : ¬ c) (k : Ev b r) : Ev (fun n => if c then a n else b n) r := by
  simp only [if_neg h]
  exact k
theorem ev_ite {α : Type} {c : Prop} [Decidable c] {a b : Nat → Option α} {r : α} (h : c → Ev a r) (k : ¬ c → Ev b r) : Ev (fun n => if c then a n else b n) r := by
  by_cases hc : c
  · exact ev_pos hc (h hc)
  · exact ev_neg hc (k hc)
theorem ev_some {α β : Type} {a : α} {f : Nat → α → Option β} {r : β} (k : Ev (fun n => f n a) r) : Ev (fun n => (some a).bind (f n)) r := k
theorem ev_bind {α β : Type} {g : Nat → Option α} {f : Nat → α → Option β} {a : α} {r : β} (h : Ev g a) (k : Ev (fun n => f n a) r) : Ev (fun n => (g n).bind (f n)) r := Ev.bind h k
theorem ev_bind0 {α β : Type} {g : Option α} {f : Nat → α → Option β} {a : α} {r : β} (h : g = some a) (k : Ev (fun n => f n a) r) : Ev (fun n => g.bind (f n)) r := by
  subst h
  exact k
theorem ev_now {α : Type} {r r' : α} (h : r = r') : Ev (fun _ => some r) r' := by
  subst h
  exact Ev.now _
theorem ev_eq {α : Type} {g g' : Nat → Option α} {r : α} (h : g = g') (k : Ev g' r) : Ev g r := by
  rw [h]
  exact k
/-- What answers twice answers the same. -/
theorem ev_one {α : Type} {g : Nat → Option α} {r r' : α} (h : Ev g r) (h' : Ev g r') : r = r' := by
  obtain ⟨K, h⟩ := h
  obtain ⟨K', h'⟩ := h'
  have h1 := h (max K K') (by omega)
  have h2 := h' (max K K') (by omega)
  rw [h1] at h2
  exact Option.some.inj h2
/-- A loop over n rounds. -/
theorem loop_ev {ρ : Type} (n : Nat) (S : Nat → Nat → Option ρ) (r : ρ) (step : ∀ i, i < n → Ev (S (i + 1)) r → Ev (S i) r) (last : Ev (S n) r) : Ev (S 0) r := by
  have key : ∀ d i, i + d = n → Ev (S i) r := by
    intro d
    induction d with
    | zero => intro i h; obtain rfl : i = n := by omega
              exact last
    | succ d ih => intro i h; exact step i (by omega) (ih (i + 1) (by omega))
  exact key n 0 (by omega)
/-- A loop that may end early: F tells the answer from round i on. -/
theorem loop_to {ρ : Type} (n : Nat) (S : Nat → Nat → Option ρ) (F : Nat → ρ) (step : ∀ i, i < n → Ev (S (i + 1)) (F (i + 1)) → Ev (S i) (F i)) (last : Ev (S n) (F n)) : ∀ i, i ≤ n → Ev (S i) (F i) := by
  have key : ∀ d i, i + d = n → Ev (S i) (F i) := by
    intro d
    induction d with
    | zero => intro i h; obtain rfl : i = n := by omega
              exact last
    | succ d ih => intro i h; exact step i (by omega) (ih (i + 1) (by omega))
  intro i hi
  exact key (n - i) i (by omega)
theorem rdOf_at {α : Type} (z : α) (xs : List α) (i : Nat) (h : i < xs.length) : rdOf z xs (i : Int) = xs[i] := by
  simp [rdOf, List.getD_eq_getElem?_getD, List.getElem?_eq_getElem h]
theorem rd_at (xs : List Int) (i : Nat) (h : i < xs.length) : rd xs (i : Int) = xs[i] := by
  simp [rd, List.getD_eq_getElem?_getD, List.getElem?_eq_getElem h]
/-- A row that is filled from the front. -/
def fillTo {α : Type} (z : α) (xs : List α) (i : Nat) : List α := xs.take i ++ List.replicate (xs.length - i) z
theorem fillTo_length {α : Type} (z : α) (xs : List α) (i : Nat) (h : i ≤ xs.length) : (fillTo z xs i).length = xs.length := by
  simp [fillTo]
  omega
theorem fillTo_zero {α : Type} (z : α) (xs : List α) : fillTo z xs 0 = List.replicate xs.length z := by simp [fillTo]
theorem fillTo_all {α : Type} (z : α) (xs : List α) : fillTo z xs xs.length = xs := by simp [fillTo]
theorem fillTo_set {α : Type} (z : α) (xs : List α) (i : Nat) (h : i < xs.length) : (fillTo z xs i).set i xs[i] = fillTo z xs (i + 1) := by
  apply List.ext_getElem?
  intro j
  by_cases hj : i = j
  · subst hj
    rw [List.getElem?_set_self (by rw [fillTo_length _ _ _ (by omega)]; exact h)]
    unfold fillTo
    rw [List.getElem?_append_left (by simp; omega), List.getElem?_take, if_pos (by omega), List.getElem?_eq_getElem h]
  · rw [List.getElem?_set_ne hj]
    unfold fillTo
    rcases Nat.lt_or_ge j i with h1 | h1
    · rw [List.getElem?_append_left (by rw [List.length_take]; omega), List.getElem?_append_left (by rw [List.length_take]; omega), List.getElem?_take_of_lt h1, List.getElem?_take_of_lt (by omega)]
    · rw [List.getElem?_append_right (by rw [List.length_take]; omega), List.getElem?_append_right (by rw [List.length_take]; omega), List.length_take, List.length_take, Nat.min_eq_left (by omega), Nat.min_eq_left (by omega), List.getElem?_replicate, List.getElem?_replicate]
      by_cases h2 : j < xs.length
      · rw [if_pos (by omega), if_pos (by omega)]
      · rw [if_neg (by omega), if_neg (by omega)]
/-- A row filled place by place. -/
theorem fill_ev {α β : Type} (l : List α) (g : α → β) (z : β) (L : Nat → List β → Int → Option (List β))
    (step : ∀ (i : Nat) (hi : i < l.length) (ys : List β) (r : List β), ys.length = l.length → Ev (fun k => L k (ys.set i (g l[i])) ((i + 1 : Nat) : Int)) r → Ev (fun k => L k ys (i : Int)) r)
    (last : ∀ ys : List β, ys.length = l.length → Ev (fun k => L k ys (l.length : Int)) ys) : Ev (fun k => L k (List.replicate l.length z) 0) (l.map g) := by
  have hm : (l.map g).length = l.length := by simp
  have h := loop_ev l.length (fun i k => L k (fillTo z (l.map g) i) (i : Int)) (l.map g) ?_ ?_
  · simpa [fillTo_zero] using h
  · intro i hi ih
    refine step i hi _ _ (by rw [fillTo_length _ _ _ (by omega)]; omega) ?_
    have e : g l[i] = (l.map g)[i]'(by omega) := by simp
    rw [e, fillTo_set _ _ _ (by omega)]
    exact ih
  · have h := last (fillTo z (l.map g) l.length) (by rw [fillTo_length _ _ _ (by omega)]; omega)
    have e : fillTo z (l.map g) l.length = l.map g := by
      have := fillTo_all z (l.map g)
      rwa [hm] at this
    rw [e] at h
    simpa [e] using h
/-- What a row weighs. -/
def sumW {α : Type} (f : α → Nat) : List α → Nat
  | [] => 0
  | x :: xs => f x + sumW f xs
theorem sumW_mem {α : Type} (f : α → Nat) (l : List α) (i : Nat) (h : i < l.length) : f l[i] ≤ sumW f l := by
  induction l generalizing i with
  | nil => simp at h
  | cons x xs ih =>
    cases i with
    | zero => simp [sumW]
    | succ i => simp only [List.getElem_cons_succ, sumW]; have := ih i (by simpa using h); omega
/-- A weighing loop. -/
theorem szLoop {α : Type} (l : List α) (f : α → Nat) (L : Nat → Int → Int → Option Int)
    (step : ∀ (i : Nat) (hi : i < l.length) (a : Int), 0 ≤ a → a ≤ 1048576 → ∃ r : Int, (r < 0 ∨ (0 ≤ r ∧ r + (f l[i] : Int) ≤ a)) ∧ (r < 0 → Ev (fun k => L k a (i : Int)) (-1)) ∧ ∀ r', 0 ≤ r → Ev (fun k => L k r ((i + 1 : Nat) : Int)) r' → Ev (fun k => L k a (i : Int)) r')
    (last : ∀ a, Ev (fun k => L k a (l.length : Int)) a) : ∀ a : Int, 0 ≤ a → a ≤ 1048576 → ∃ r, Ev (fun k => L k a 0) r ∧ (r < 0 ∨ (0 ≤ r ∧ r + (sumW f l : Int) ≤ a)) := by
  have key : ∀ (d i : Nat) (a : Int), i + d = l.length → 0 ≤ a → a ≤ 1048576 → ∃ r, Ev (fun k => L k a (i : Int)) r ∧ (r < 0 ∨ (0 ≤ r ∧ r + (sumW f (l.drop i) : Int) ≤ a)) := by
    intro d
    induction d with
    | zero =>
      intro i a hd h0 h1
      obtain rfl : i = l.length := by omega
      refine ⟨a, last a, .inr ⟨h0, ?_⟩⟩
      rw [List.drop_length]
      simp [sumW]
    | succ d ih =>
      intro i a hd h0 h1
      have hi : i < l.length := by omega
      obtain ⟨r, hb, hneg, hpos⟩ := step i hi a h0 h1
      by_cases hr : r < 0
      · exact ⟨-1, hneg hr, .inl (by omega)⟩
      · obtain ⟨r', hr', hb'⟩ := ih (i + 1) r (by omega) (by omega) (by omega)
        refine ⟨r', hpos r' (by omega) hr', ?_⟩
        rcases hb' with hb' | hb'
        · exact .inl hb'
        · rw [List.drop_eq_getElem_cons hi]
          simp only [sumW]
          omega
  intro a h0 h1
  have := key l.length 0 a (by omega) h0 h1
  simpa using this
theorem drop_at {α : Type} (l : List α) (i : Nat) (h : i < l.length) : l.drop i = l[i] :: l.drop (i + 1) := List.drop_eq_getElem_cons h
theorem bytes_inj {a b : ByteArray} (h : a.toList = b.toList) : a = b := by
  rw [Lib.toList_data, Lib.toList_data] at h
  cases a
  cases b
  congr 1
  exact Array.toList_inj.1 h
end Go.Proofs.Ytghngiekkkeohaa.Pu
