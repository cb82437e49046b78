import Derived.Test.YtdgjddkibiffnaaPuBase
import Derived.Test.YtdgjddkibiffnaaFlawsmarkText
import Derived.Test.YtdgjddkibiffnaaFlawsmarkStringS
import Derived.Test.YtdgjddkibiffnaaFlawsheldStringS
/-! Marks: each number has a text; marked rows of strings hold their marks. -/
namespace Go.Proofs.Ytdgjddkibiffnaa.Pu
set_option linter.unusedSimpArgs false
set_option linter.unusedVariables false
open Go.RowKit Go.Proofs.Ytdgjddkibiffnaa.F Go.Proofs.YtdgjddkibiffnaaW.PrintWords
theorem strOfNums_one (x : Int) : (strOfNums [x]).size = 1 := by
  simp [strOfNums, ByteArray.size]
/-- The text of a mark: its digits, with d rounds at most. -/
def mtL : Nat → Int → ByteArray → ByteArray
  | 0, _, s => (⟨#[109]⟩ : ByteArray) ++ s
  | d + 1, a, s => if a > 0 then mtL d (a / 10) (strOfNums [(wrap64 (48 + (Int.tmod a 10))) % 256] ++ s) else (⟨#[109]⟩ : ByteArray) ++ s
/-- The text of a mark. -/
def mt (a : Int) : ByteArray := if a ≤ 0 then (⟨#[109, 48]⟩ : ByteArray) else mtL 64 a (⟨#[]⟩ : ByteArray)
theorem markText_loop (d : Nat) : ∀ (a : Int) (s : ByteArray), 0 ≤ a → a ≤ 9223372036854775807 → a < 2 ^ d → s.size + d ≤ 1000 → Ev (fun k => laws_markText.l0 k a s) (mtL d a s) := by
  induction d with
  | zero =>
    intro a s h0 h2 h1 hs
    have : a = 0 := by omega
    subst this
    refine Ev.step (fun k => by rw [laws_markText.l0]) ?_
    exact ev_neg (by omega) (ev_pos (by omega) (Ev.now _))
  | succ d ih =>
    intro a s h0 h2 h1 hs
    unfold mtL
    by_cases ha : a > 0
    · have hq : Int.tdiv a 10 = a / 10 := Int.tdiv_eq_ediv_of_nonneg h0
      have hlt : a / 10 < 2 ^ d := by
        have : (2 : Int) ^ (d + 1) = 2 * 2 ^ d := by rw [Int.pow_succ]; omega
        omega
      have hr := ih (a / 10) (strOfNums [(wrap64 (48 + (Int.tmod a 10))) % 256] ++ s) (by omega) (by omega) hlt (by rw [ByteArray.size_append, strOfNums_one]; omega)
      rw [if_pos ha]
      refine Ev.step (fun k => by rw [laws_markText.l0]) ?_
      refine ev_pos ha (ev_some ?_)
      refine ev_pos ?_ ?_
      · rw [strOfNums_one]; omega
      · rw [hq, wrap_in (by omega) (by omega)]
        exact hr
    · rw [if_neg ha]
      refine Ev.step (fun k => by rw [laws_markText.l0]) ?_
      exact ev_neg ha (ev_pos (by omega) (Ev.now _))
theorem mt_ev (a : Int) (h : a ≤ 9223372036854775807) : Ev (fun k => laws_markText.f k a) (mt a) := by
  unfold laws_markText.f mt
  by_cases ha : a ≤ 0
  · rw [if_pos ha]; exact ev_pos ha (Ev.now _)
  · rw [if_neg ha]
    have h64 : (2 : Int) ^ 64 = 18446744073709551616 := by decide
    exact ev_neg ha (markText_loop 64 a (⟨#[]⟩ : ByteArray) (by omega) h (by omega) (by simp [ByteArray.size]))
/-- n marks from a on. -/
def marksS : Nat → Int → List ByteArray
  | 0, _ => []
  | n + 1, a => mt a :: marksS n (a + 1)
theorem marksS_length (n : Nat) : ∀ a, (marksS n a).length = n := by
  induction n with
  | zero => intro a; rfl
  | succ n ih => intro a; simp [marksS, ih]
theorem marksS_at (n : Nat) : ∀ (a : Int) (i : Nat) (h : i < (marksS n a).length), (marksS n a)[i] = mt (a + i) := by
  induction n with
  | zero => intro a i h; simp [marksS] at h
  | succ n ih =>
    intro a i h
    cases i with
    | zero => simp [marksS]
    | succ i =>
      simp only [marksS, List.getElem_cons_succ]
      rw [ih]
      congr 1
      omega
theorem set_take_append {α : Type} (xs ys : List α) (i : Nat) (x : α) (h : i < xs.length) (hy : i < ys.length) (e : ys[i] = x) : (ys.take i ++ xs.drop i).set i x = ys.take (i + 1) ++ xs.drop (i + 1) := by
  apply List.ext_getElem?
  intro j
  by_cases hj : i = j
  · subst hj
    rw [List.getElem?_set_self (by simp; omega), List.getElem?_append_left (by simp; omega), List.getElem?_take, if_pos (by omega), List.getElem?_eq_getElem hy, e]
  · rw [List.getElem?_set_ne hj]
    rcases Nat.lt_or_ge j i with h1 | h1
    · rw [List.getElem?_append_left (by rw [List.length_take]; omega), List.getElem?_append_left (by rw [List.length_take]; omega), List.getElem?_take_of_lt h1, List.getElem?_take_of_lt (by omega)]
    · rw [List.getElem?_append_right (by rw [List.length_take]; omega), List.getElem?_append_right (by rw [List.length_take]; omega), List.length_take, List.length_take, Nat.min_eq_left (by omega), Nat.min_eq_left (by omega), List.getElem?_drop, List.getElem?_drop]
      congr 1
      omega
theorem markStringS_ev (l : List ByteArray) (a : Int) (h0 : 0 ≤ a) (h1 : a + l.length ≤ 9223372036854775806) : Ev (fun k => laws_markStringS.f k l a) (a + l.length, marksS l.length a) := by
  unfold laws_markStringS.f
  have hm := marksS_length l.length a
  have h := loop_ev l.length (fun i k => laws_markStringS.l0 k ((marksS l.length a).take i ++ l.drop i) (a + i) (i : Int)) (a + l.length, marksS l.length a) ?_ ?_
  · simpa using h
  · intro i hi ih
    refine Ev.step (fun k => by rw [laws_markStringS.l0]) ?_
    refine ev_pos (by simp; omega) (ev_bind (mt_ev _ (by omega)) (ev_pos (by omega) ?_))
    rw [wrap_succ (by omega), wrap_in (by omega) (by omega), Int.toNat_natCast, set_take_append _ _ _ _ hi (by omega) (marksS_at _ _ _ _), show a + (i : Int) + 1 = a + ((i + 1 : Nat) : Int) by omega]
    exact ih
  · refine Ev.step (fun k => by rw [laws_markStringS.l0]) (ev_neg (by simp; omega) (ev_now ?_))
    rw [List.take_of_length_le (by omega)]
    simp
theorem heldStringS_ev (n : Nat) (a : Int) (h0 : 0 ≤ a) (h1 : a + n ≤ 9223372036854775806) : Ev (fun k => laws_heldStringS.f k (marksS n a) a) (a + n) := by
  unfold laws_heldStringS.f
  have hm := marksS_length n a
  have h := loop_ev n (fun i k => laws_heldStringS.l0 k (marksS n a) (a + i) (i : Int)) (a + n) ?_ ?_
  · simpa using h
  · intro i hi ih
    refine Ev.step (fun k => by rw [laws_heldStringS.l0]) ?_
    refine ev_pos (by omega) (ev_pos (by omega) (ev_bind (mt_ev _ (by omega)) (ev_pos ?_ ?_)))
    · rw [rdOf_at _ _ _ (by omega), marksS_at]
    · rw [wrap_succ (by omega), wrap_in (by omega) (by omega), show a + (i : Int) + 1 = a + ((i + 1 : Nat) : Int) by omega]
      exact ih
  · exact Ev.step (fun k => by rw [laws_heldStringS.l0]) (ev_neg (by omega) (Ev.now _))
end Go.Proofs.Ytdgjddkibiffnaa.Pu
