/- Kinds: numbers, strings, terms, bindings. -/
import Derived.Test.YtopjbcfkaggleaaD7
import Derived.Test.YtopjbcfkaggleaaM2
import Derived.Test.YtopjbcfkaggleaaB1
import Derived.Test.YtopjbcfkaggleaaR1
namespace Go.Proofs.Ytopjbcfkaggleaa.AM
open Go
set_option linter.unusedVariables false
set_option linter.unusedSimpArgs false

instance : Kind Int where
  sz := 1
  e := 3
  enc := fun _ n cs => cs = [.int .i64 n]
  own := fun _ n cs L => cs = [.int .i64 n] ∧ L = []
  enc_len := fun _ _ _ h => by rw [h]; rfl
  enc_ext := fun _ _ _ _ _ h => h
  own_len := fun _ _ _ _ h => by rw [h.1]; rfl
  own_lt := fun _ _ _ _ h => by rw [h.2]; simp
  own_frame := fun _ _ _ _ _ _ h => h
  own_enc := fun _ _ _ _ h => h.1
instance : Marks Int where
  mk1 := fun _ k => (k, k + 1)
  mk1_ge := fun _ k => Nat.le_succ k
instance : Kind ByteArray where
  sz := 1
  e := 9
  enc := fun _ n cs => cs = [.string n]
  own := fun _ n cs L => cs = [.string n] ∧ L = []
  enc_len := fun _ _ _ h => by rw [h]; rfl
  enc_ext := fun _ _ _ _ _ h => h
  own_len := fun _ _ _ _ h => by rw [h.1]; rfl
  own_lt := fun _ _ _ _ h => by rw [h.2]; simp
  own_frame := fun _ _ _ _ _ _ h => h
  own_enc := fun _ _ _ _ h => h.1
instance : Marks ByteArray where
  mk1 := fun _ k => (mtext k, k + 1)
  mk1_ge := fun _ k => Nat.le_succ k
instance : Flat Int where
  flat_own := fun _ _ _ h => And.intro h rfl
instance : Flat ByteArray where
  flat_own := fun _ _ _ h => And.intro h rfl
instance : Kind T where
  sz := 4
  e := 36
  enc := Enc
  own := Own 36
  enc_len := fun _ x _ h => by cases x; obtain ⟨s, rfl, _⟩ := h.open; rfl
  enc_ext := fun _ _ x cs hx h => Enc.ext hx x cs h
  own_len := fun _ => Own.len
  own_lt := fun _ => Own.lt
  own_frame := fun _ _ => Own.frame
  own_enc := fun _ => Own.enc
instance : Marks T where
  mk1 := T.mk1
  mk1_ge := fun x k => (T.mk1_ge x k).1
theorem T.eta (x : T) : ∃ k n nm args, x = .mk k n nm args := by cases x; exact ⟨_, _, _, _, rfl⟩
abbrev RowT (st : St) (xs : List T) (s : Value) : Prop := Row (Enc st) 4 st xs s
abbrev SlT (st : St) (xs : List T) (s : Value) (L : List Nat) : Prop := SliceO (Own 36 st) 36 st xs s L
theorem Own.args_cells {e : TypeId} {st : St} {t : T} {cs : List Value} {L : List Nat} (h : Own e st t cs L) : ∃ k n nm s, cs = [.int .i64 k, .int .i64 n, .string nm, s] ∧ okv s = true ∧ isLoc s = false ∧ vc s = #[s] := by
  obtain ⟨k, n, nm, args⟩ := t
  obtain ⟨s, rfl, hs⟩ := h.open
  exact ⟨k, n, nm, s, rfl, hs.okv, hs.loc, hs.cells⟩
theorem mkL_T (xs : List T) (k : Nat) : mkL xs k = T.mkL xs k := by
  induction xs generalizing k with
  | nil => rfl
  | cons x xs ih => simp only [mkL, T.mkL, ih]; rfl

/-- How much a datum weighs. -/
class Wt (α : Type) where
  wt : α → Nat
def wtL {α : Type} [Wt α] : List α → Nat
  | [] => 0
  | x :: xs => Wt.wt x + wtL xs
theorem wtL_drop {α : Type} [Wt α] {xs : List α} {j : Nat} (hj : j < xs.length) : wtL (xs.drop j) = Wt.wt xs[j] + wtL (xs.drop (j + 1)) := by
  rw [List.drop_eq_getElem_cons hj]; rfl
theorem wt_mem {α : Type} [Wt α] {xs : List α} {x : α} (h : x ∈ xs) : Wt.wt x ≤ wtL xs := by
  induction xs with
  | nil => cases h
  | cons y ys ih =>
    simp only [wtL]
    cases h with
    | head => omega
    | tail _ h => have := ih h; omega
instance : Wt ByteArray := ⟨ByteArray.size⟩
instance : Wt T := ⟨T.wt⟩
theorem wtL_T (xs : List T) : wtL xs = T.wtL xs := by
  induction xs with
  | nil => rfl
  | cons x xs ih => simp only [wtL, T.wtL, ih]; rfl
end Go.Proofs.Ytopjbcfkaggleaa.AM
