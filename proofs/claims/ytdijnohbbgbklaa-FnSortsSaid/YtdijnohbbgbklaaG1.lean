/- My texts for the law, laid together (part 1): D1 D2 D3 D6 D7 M1 M2 B1 R1 DT Q1 C0 C6 DB K3 C11 C12 C13 C15 C16 N1 K2 N2 C17 D5 E1 L0 C21 Q2 Q3. -/
import Derived.Test.YtdijnohbbgbklaaH18
import Derived.Test.YtdijnohbbgbklaaHF
import Derived.Laws.Strings
import Derived.Sort.Walk0
import Derived.Shelf.Sort.Plain
import Derived.Shelf.Slices.CompactS
import Derived.Test.YtdijnohbbgbklaaH3
import Derived.ChangeOld
import Derived.ChangeArms
import Derived.DataReads
/- Data in the abstract store: rows, terms. -/
namespace Go.Proofs.Ytdijnohbbgbklaa.AM
open Go
set_option linter.unusedVariables false
set_option linter.unusedSimpArgs false

/-- Cells that stand in a row. -/
def CellsAt (st : St) (i o : Nat) (cs : List Value) : Prop := ∀ (q : Nat) v, cs[q]? = some v → cell st i (o + q) = some v

theorem cell_ext {st st' : St} (h : Ext st st') {i j : Nat} {v : Value} (hc : cell st i j = some v) : cell st' i j = some v := by
 unfold cell at hc ⊢
 split at hc
 ·rename_i b hb; rw [h i b hb]; exact hc
 ·cases hc
theorem CellsAt.ext {st st' : St} (h : Ext st st') {i o : Nat} {cs : List Value} (hc : CellsAt st i o cs) : CellsAt st' i o cs := fun q v hq => cell_ext h (hc q v hq)

/-- A slice of no elements: nil, or one of which nothing is known. -/
def emptyS (s : Value) : Prop := s = .slice none 0 0 ∨ s = .slice (some ⟨0, 0, some 0⟩) 0 0
/-- A slice whose elements read as the members of a list. -/
def Row {α : Type} (E : α → List Value → Prop) (sz : Nat) (st : St) (xs : List α) (s : Value) : Prop :=
 (emptyS s ∧ xs = []) ∨ ∃ i o c, s = .slice (some ⟨i, o, none⟩) xs.length c ∧ ∀ (j : Nat) x, xs[j]? = some x → ∃ cs, cs.length = sz ∧ E x cs ∧ CellsAt st i (o + j * sz) cs

theorem Row.mono {α : Type} {E E' : α → List Value → Prop} {sz : Nat} {st st' : St} {xs : List α} {s : Value} (h : Row E sz st xs s) (hs : Ext st st') (hE : ∀ x ∈ xs, ∀ cs, E x cs → E' x cs) : Row E' sz st' xs s := by
 rcases h with h | ⟨i, o, c, rfl, h⟩
 ·exact .inl h
 ·refine .inr ⟨i, o, c, rfl, fun j x hx => ?_⟩
  obtain ⟨cs, h1, h2, h3⟩ := h j x hx
  exact ⟨cs, h1, hE x (List.mem_of_getElem? hx) cs h2, h3.ext hs⟩

inductive T where
 | mk (k n : Int) (nm : ByteArray) (args : List T)

mutual
def T.wt : T → Nat
 | .mk _ _ nm args => nm.size + args.length + T.wtL args
def T.wtL : List T → Nat
 | [] => 0
 | x :: xs => x.wt + T.wtL xs
end

theorem T.ind {P : T → Prop} (h : ∀ k n nm args, (∀ a ∈ args, P a) → P (.mk k n nm args)) : ∀ t, P t := by
 intro t
 refine T.rec (motive_1 := P) (motive_2 := fun l => ∀ a ∈ l, P a) (fun k n nm args ih => h k n nm args ih) (fun a ha => by cases ha) (fun x xs hx hxs a ha => ?_) t
 cases ha with
 | head => exact hx
 | tail _ ha => exact hxs a ha

inductive Enc (st : St) : T → List Value → Prop
 | nil (k n : Int) (nm : ByteArray) (s : Value) (h : emptyS s) : Enc st (.mk k n nm []) [.int .i64 k, .int .i64 n, .string nm, s]
 | sl (k n : Int) (nm : ByteArray) (args : List T) (i o c : Nat) (f : Nat → List Value) (hl : ∀ (j : Nat) x, args[j]? = some x → (f j).length = 4) (he : ∀ (j : Nat) x, args[j]? = some x → Enc st x (f j))
   (hc : ∀ (j : Nat) x, args[j]? = some x → CellsAt st i (o + j * 4) (f j)) : Enc st (.mk k n nm args) [.int .i64 k, .int .i64 n, .string nm, .slice (some ⟨i, o, none⟩) args.length c]

theorem Enc.open {st : St} {k n : Int} {nm : ByteArray} {args : List T} {cs : List Value} (h : Enc st (.mk k n nm args) cs) : ∃ s, cs = [.int .i64 k, .int .i64 n, .string nm, s] ∧ Row (Enc st) 4 st args s := by
 cases h with
 | nil _ _ _ s h => exact ⟨_, rfl, .inl ⟨h, rfl⟩⟩
 | sl _ _ _ _ i o c f hl he hc => exact ⟨_, rfl, .inr ⟨i, o, c, rfl, fun j x hx => ⟨f j, hl j x hx, he j x hx, hc j x hx⟩⟩⟩
theorem Enc.close {st : St} (k n : Int) (nm : ByteArray) {args : List T} {s : Value} (h : Row (Enc st) 4 st args s) : Enc st (.mk k n nm args) [.int .i64 k, .int .i64 n, .string nm, s] := by
 rcases h with ⟨hs, rfl⟩ | ⟨i, o, c, rfl, h⟩
 ·exact .nil k n nm s hs
 ·have hex : ∀ j, ∃ cs : List Value, ∀ x, args[j]? = some x → cs.length = 4 ∧ Enc st x cs ∧ CellsAt st i (o + j * 4) cs := by
   intro j
   cases hj : args[j]? with
   | none => exact ⟨[], fun x hx => by cases hx⟩
   | some x =>
    obtain ⟨cs, h1⟩ := h j x hj
    exact ⟨cs, fun y hy => by obtain rfl := Option.some.inj hy; exact h1⟩
  exact .sl k n nm args i o c (fun j => Classical.choose (hex j)) (fun j x hx => (Classical.choose_spec (hex j) x hx).1) (fun j x hx => (Classical.choose_spec (hex j) x hx).2.1) (fun j x hx => (Classical.choose_spec (hex j) x hx).2.2)
theorem Enc.ext {st st' : St} (hs : Ext st st') : ∀ (t : T) (cs : List Value), Enc st t cs → Enc st' t cs := by
 refine T.ind fun k n nm args ih cs h => ?_
 obtain ⟨s, rfl, hr⟩ := h.open
 exact Enc.close k n nm (hr.mono hs fun x hx cs he => ih x hx cs he)

section
variable {P : Program} {A : List Tmp} {loc : Nat → Nat × List Value} {st : St} {t : TypeId}
/-- An element is read whole. -/
theorem load_row {i o n : Nat} {cs : List Value} (ha : aggA P t = some true) (hs : szA P t = some n) (hl : cs.length = n) (hc : CellsAt st i o cs) : loadA P A t (.pointer (some ⟨i, o, none⟩)) loc st = some (.agg cs.toArray) :=
 load_hn ha hs hl hc
end

section
variable {P : Program} {A H : List Tmp} {loc : Nat → Nat × List Value} {st : St} {t : TypeId} {b o : Nat}
theorem loadA_p {sp : Option Nat} : loadA P A t (.pointer (some ⟨b, o, sp⟩)) loc st = (match aggA P t with
  | some false => cellAt A loc st b sp o
  | some true => (match szA P t with
   | some n => (match cellsFrom (cellAt A loc st b sp) o n with
    | some cs => if okPtr A loc b sp then some (.agg cs.toArray) else none
    | none => none)
   | none => none)
  | none => none) := by
 unfold loadA
 cases aggA P t with
 | none => rfl
 | some b => cases b <;> cases szA P t <;> rfl
theorem cellAt_l {w j : Nat} : cellAt A loc st b (some w) j = if w ≠ 0 ∧ (loc b).1 = w ∧ b ∉ A then (loc b).2[j]? else none := rfl
theorem cellAt_h {j : Nat} : cellAt A loc st b none j = cell st b j := rfl
theorem okPtr_l {w : Nat} : okPtr A loc b (some w) = decide (w ≠ 0 ∧ (loc b).1 = w ∧ b ∉ A) := rfl
theorem okPtr_h : okPtr A loc b none = true := rfl
theorem fadA_p {sp : Option Nat} {f : Nat} : fadA P A t (.pointer (some ⟨b, o, sp⟩)) f loc = (match offA P t f with
  | some d => if okPtr A loc b sp then some (.pointer (some ⟨b, o + d, sp⟩)) else none
  | none => none) := rfl
theorem allocA_l {d : Tmp} {z : List Value} {t : TypeId} : allocA [] d z t loc st = (.pointer (some ⟨d, 0, some ((loc d).1 + 1)⟩), upd loc d ((loc d).1 + 1, z), st) := rfl
theorem storeA_l {w : Nat} {v : Value} : storeA P t (.pointer (some ⟨b, o, some w⟩)) v loc st = (if okv v then (match szA P t with
  | some sz => if w ≠ 0 ∧ (loc b).1 = w ∧ (vc v).size = sz ∧ o + sz ≤ (loc b).2.length then some (upd loc b (w, splice (loc b).2 o (vc v).toList), st) else none
  | none => none) else none) := by
 unfold storeA
 cases szA P t <;> rfl
theorem storeA_h {v : Value} : storeA P t (.pointer (some ⟨b, o, none⟩)) v loc st = (if okv v then (match szA P t with
  | some sz => (match st[b]? with
   | some blk => if blk.stat = 0 ∧ (vc v).size = sz ∧ o + sz ≤ blk.cells.length then some (loc, st.set b { blk with cells := splice blk.cells o (vc v).toList }) else none
   | none => none)
  | none => none) else none) := by
 unfold storeA
 cases szA P t <;> rfl
theorem cells_agg {cs : Array Value} : vc (Value.agg cs) = cs := rfl
theorem cells_int {k : IntKind} {i : Int} : vc (Value.int k i) = #[.int k i] := rfl
theorem cells_str {s : ByteArray} : vc (Value.string s) = #[.string s] := rfl
theorem cells_sl {a : Option Addr} {n c : Nat} : vc (Value.slice a n c) = #[.slice a n c] := rfl
theorem cells_bool {b : Bool} : vc (Value.bool b) = #[.bool b] := rfl
theorem flat_i {k : IntKind} {i : Int} : flat (.int k i) = true := rfl
theorem flat_s {s : ByteArray} : flat (.string s) = true := rfl
theorem flat_b {b : Bool} : flat (.bool b) = true := rfl
theorem flat_sl {a : Addr} {n c : Nat} : flat (.slice (some a) n c) = false := rfl
theorem flat_nil : flat (.slice none 0 0) = true := rfl
theorem loc_agg {cs : Array Value} : isLoc (.agg cs) = false := rfl
theorem loc_int {k : IntKind} {i : Int} : isLoc (.int k i) = false := rfl
theorem loc_str {s : ByteArray} : isLoc (.string s) = false := rfl
theorem loc_sl {a : Option Addr} {n c : Nat} : isLoc (.slice a n c) = false := rfl
theorem loc_bool {b : Bool} : isLoc (.bool b) = false := rfl
theorem loc_fn {f : Fn} {a b : Array Value} : isLoc (.func f a b) = false := rfl
theorem loc_ptr : isLoc (.pointer (some ⟨b, o, none⟩)) = false := rfl
theorem okv_agg {cs : Array Value} : okv (.agg cs) = true := rfl
theorem okv_int {k : IntKind} {i : Int} : okv (.int k i) = true := rfl
theorem okv_str {s : ByteArray} : okv (.string s) = true := rfl
theorem okv_sl {a : Option Addr} {n c : Nat} : okv (.slice a n c) = true := rfl
theorem okv_bool {b : Bool} : okv (.bool b) = true := rfl
end

theorem wrap_in {x : Int} (h0 : -9223372036854775808 ≤ x) (h1 : x ≤ 9223372036854775807) : IntKind.i64.wrap x = x := IntWalk.i64_in _ ⟨h0, h1⟩

theorem upd_eval {α : Type} (f : Nat → α) (i : Nat) (v : α) (j : Nat) : upd f i v j = if j = i then v else f j := rfl
theorem argEnv_zero (v : Value) (l : List Value) : argEnv (v :: l) 0 = v := rfl
theorem argEnv_succ (v : Value) (l : List Value) (n : Nat) : argEnv (v :: l) (n + 1) = argEnv l n := rfl
theorem row_len {α : Type} {E : α → List Value → Prop} {sz : Nat} {st : St} {xs : List α} {s : Value} (h : Row E sz st xs s) {P : Program} {t e : TypeId} (hu : P.underlying t = some (.slice e)) : lenE P t s = some (.int .i64 xs.length) := by
 rcases h with ⟨rfl | rfl, rfl⟩ | ⟨i, o, c, rfl, _⟩
 ·exact len_sl hu
 ·exact len_sl hu
 ·exact len_sl hu
theorem row_at {α : Type} {E : α → List Value → Prop} {sz : Nat} {st : St} {xs : List α} {s : Value} (h : Row E sz st xs s) {j : Nat} {x : α} (hx : xs[j]? = some x) : ∃ i o c cs, s = .slice (some ⟨i, o, none⟩) xs.length c ∧ cs.length = sz ∧ E x cs ∧ CellsAt st i (o + j * sz) cs := by
 rcases h with ⟨_, rfl⟩ | ⟨i, o, c, rfl, h⟩
 ·simp at hx
 ·obtain ⟨cs, h1, h2, h3⟩ := h j x hx
  exact ⟨i, o, c, cs, rfl, h1, h2, h3⟩
theorem idxOk {j n : Nat} (h : j < n) : (0 ≤ (j : Int) ∧ (j : Int) < (n : Int)) = True := by simp; omega
theorem Row.notLoc {α : Type} {E : α → List Value → Prop} {sz : Nat} {st : St} {xs : List α} {s : Value} (h : Row E sz st xs s) : isLoc s = false ∧ okv s = true := by
 rcases h with ⟨rfl | rfl, rfl⟩ | ⟨i, o, c, rfl, _⟩ <;> exact ⟨rfl, rfl⟩

end Go.Proofs.Ytdijnohbbgbklaa.AM


/- Data that is one's own: rows of blocks that no one else holds; how they are built. -/
namespace Go.Proofs.Ytdijnohbbgbklaa.AM
open Go
set_option linter.unusedVariables false
set_option linter.unusedSimpArgs false

inductive RowO {α : Type} (E : α → List Value → List Nat → Prop) : List α → List Value → List Nat → Prop
 | nil : RowO E [] [] []
 | cons (x : α) (xs : List α) (cx cs : List Value) (Lx L : List Nat) (h : E x cx Lx) (hs : RowO E xs cs L) : RowO E (x :: xs) (cx ++ cs) (Lx ++ L)

theorem RowO.app {α : Type} {E : α → List Value → List Nat → Prop} {xs ys : List α} {cs ds : List Value} {L K : List Nat} (h : RowO E xs cs L) (k : RowO E ys ds K) : RowO E (xs ++ ys) (cs ++ ds) (L ++ K) := by
 induction h with
 | nil => exact k
 | cons x xs cx cs Lx L h hs ih => rw [List.append_assoc, List.append_assoc]; exact .cons x _ cx _ Lx _ h ih
theorem RowO.one {α : Type} {E : α → List Value → List Nat → Prop} {x : α} {cx : List Value} {Lx : List Nat} (h : E x cx Lx) : RowO E [x] cx Lx := by
 have := RowO.cons x [] cx [] Lx [] h .nil
 simpa using this
theorem RowO.len {α : Type} {E : α → List Value → List Nat → Prop} {sz : Nat} (hE : ∀ x cx Lx, E x cx Lx → cx.length = sz) {xs : List α} {cs : List Value} {L : List Nat} (h : RowO E xs cs L) : cs.length = xs.length * sz := by
 induction h with
 | nil => simp
 | cons x xs cx cs Lx L h hs ih => rw [List.length_append, hE _ _ _ h, ih, List.length_cons, Nat.add_mul]; omega
theorem RowO.mono {α : Type} {E E' : α → List Value → List Nat → Prop} {xs : List α} {cs : List Value} {L : List Nat} (h : RowO E xs cs L) (hE : ∀ x ∈ xs, ∀ cx Lx, (∀ i ∈ Lx, i ∈ L) → E x cx Lx → E' x cx Lx) : RowO E' xs cs L := by
 induction h with
 | nil => exact .nil
 | cons x xs cx cs Lx L h hs ih =>
  exact .cons x xs cx cs Lx L (hE x (by simp) cx Lx (fun i hi => by simp [hi]) h) (ih fun y hy cy Ly hL he => hE y (by simp [hy]) cy Ly (fun i hi => by simp [hL i hi]) he)
theorem RowO.get {α : Type} {E : α → List Value → List Nat → Prop} {sz : Nat} (hE : ∀ x cx Lx, E x cx Lx → cx.length = sz) {xs : List α} {cs : List Value} {L : List Nat} (h : RowO E xs cs L) :
  ∀ (j : Nat) x, xs[j]? = some x → ∃ cx Lx, E x cx Lx ∧ (∀ i ∈ Lx, i ∈ L) ∧ ∀ (q : Nat) v, cx[q]? = some v → cs[j * sz + q]? = some v := by
 induction h with
 | nil => intro j x hx; simp at hx
 | cons y xs cy cs Ly L h hs ih =>
  intro j x hx
  have hl := hE _ _ _ h
  cases j with
  | zero =>
   simp only [List.getElem?_cons_zero, Option.some.injEq] at hx
   subst hx
   refine ⟨cy, Ly, h, fun i hi => by simp [hi], fun q v hq => ?_⟩
   have : q < cy.length := (List.getElem?_eq_some_iff.1 hq).1
   rw [Nat.zero_mul, Nat.zero_add, List.getElem?_append_left this]; exact hq
  | succ j =>
   obtain ⟨cx, Lx, h1, h2, h3⟩ := ih j x (by simpa using hx)
   refine ⟨cx, Lx, h1, fun i hi => by simp [h2 i hi], fun q v hq => ?_⟩
   rw [List.getElem?_append_right (by rw [hl, Nat.succ_mul]; omega)]
   have e : (j + 1) * sz + q - cy.length = j * sz + q := by rw [hl, Nat.succ_mul]; omega
   rw [e]; exact h3 q v hq
/-- What stands before, at and behind a place. -/
theorem RowO.split {α : Type} {E : α → List Value → List Nat → Prop} {xs : List α} {cs : List Value} {L : List Nat} (h : RowO E xs cs L) : ∀ (j : Nat) x, xs[j]? = some x →
  ∃ c1 cx c2 L1 Lx L2, RowO E (xs.take j) c1 L1 ∧ E x cx Lx ∧ RowO E (xs.drop (j + 1)) c2 L2 ∧ cs = c1 ++ cx ++ c2 ∧ L = L1 ++ Lx ++ L2 := by
 induction h with
 | nil => intro j x hx; simp at hx
 | cons y xs cy cs Ly L h hs ih =>
  intro j x hx
  cases j with
  | zero =>
   simp only [List.getElem?_cons_zero, Option.some.injEq] at hx
   subst hx
   exact ⟨[], cy, cs, [], Ly, L, .nil, h, by simpa using hs, by simp, by simp⟩
  | succ j =>
   obtain ⟨c1, cx, c2, L1, Lx, L2, h1, h2, h3, h4, h5⟩ := ih j x (by simpa using hx)
   refine ⟨cy ++ c1, cx, c2, Ly ++ L1, Lx, L2, ?_, h2, by simpa using h3, by rw [h4]; simp, by rw [h5]; simp⟩
   rw [List.take_succ_cons]
   exact .cons y _ cy c1 Ly L1 h h1

/-- A slice that lies in a block of its own. -/
def SliceO {α : Type} (E : α → List Value → List Nat → Prop) (e : TypeId) (st : St) (xs : List α) (s : Value) (L : List Nat) : Prop :=
 (s = .slice none 0 0 ∧ xs = [] ∧ L = []) ∨ ∃ i c cs K, s = .slice (some ⟨i, 0, none⟩) xs.length c ∧ st[i]? = some ⟨cs, e, 0⟩ ∧ RowO E xs cs K ∧ L = i :: K

theorem SliceO.okv {α : Type} {E : α → List Value → List Nat → Prop} {e : TypeId} {st : St} {xs : List α} {s : Value} {L : List Nat} (h : SliceO E e st xs s L) : AM.okv s = true := by
 rcases h with ⟨rfl, _⟩ | ⟨i, c, cs, K, rfl, _⟩ <;> rfl
theorem SliceO.loc {α : Type} {E : α → List Value → List Nat → Prop} {e : TypeId} {st : St} {xs : List α} {s : Value} {L : List Nat} (h : SliceO E e st xs s L) : isLoc s = false := by
 rcases h with ⟨rfl, _⟩ | ⟨i, c, cs, K, rfl, _⟩ <;> rfl
theorem SliceO.cells {α : Type} {E : α → List Value → List Nat → Prop} {e : TypeId} {st : St} {xs : List α} {s : Value} {L : List Nat} (h : SliceO E e st xs s L) : vc s = #[s] := by
 rcases h with ⟨rfl, _⟩ | ⟨i, c, cs, K, rfl, _⟩ <;> rfl

inductive Own (e : TypeId) (st : St) : T → List Value → List Nat → Prop
 | nil (k n : Int) (nm : ByteArray) : Own e st (.mk k n nm []) [.int .i64 k, .int .i64 n, .string nm, .slice none 0 0] []
 | sl (k n : Int) (nm : ByteArray) (args : List T) (i c : Nat) (cs : List Value) (K : List Nat) (hb : st[i]? = some ⟨cs, e, 0⟩) (h : RowO (Own e st) args cs K) :
   Own e st (.mk k n nm args) [.int .i64 k, .int .i64 n, .string nm, .slice (some ⟨i, 0, none⟩) args.length c] (i :: K)

theorem Own.open {e : TypeId} {st : St} {k n : Int} {nm : ByteArray} {args : List T} {cs : List Value} {L : List Nat} (h : Own e st (.mk k n nm args) cs L) : ∃ s, cs = [.int .i64 k, .int .i64 n, .string nm, s] ∧ SliceO (Own e st) e st args s L := by
 cases h with
 | nil => exact ⟨_, rfl, .inl ⟨rfl, rfl, rfl⟩⟩
 | sl _ _ _ _ i c cs K hb h => exact ⟨_, rfl, .inr ⟨i, c, cs, K, rfl, hb, h, rfl⟩⟩
theorem Own.close {e : TypeId} {st : St} (k n : Int) (nm : ByteArray) {args : List T} {s : Value} {L : List Nat} (h : SliceO (Own e st) e st args s L) : Own e st (.mk k n nm args) [.int .i64 k, .int .i64 n, .string nm, s] L := by
 rcases h with ⟨rfl, rfl, rfl⟩ | ⟨i, c, cs, K, rfl, hb, h, rfl⟩
 ·exact .nil k n nm
 ·exact .sl k n nm args i c cs K hb h
theorem Own.len {e : TypeId} {st : St} : ∀ x cx Lx, Own e st x cx Lx → cx.length = 4 := by
 intro x cx Lx h
 cases h <;> rfl

/-- What happens elsewhere. -/
def SameOn (L : List Nat) (st st' : St) : Prop := ∀ i ∈ L, st'[i]? = st[i]?
theorem Own.frame {e : TypeId} {st st' : St} : ∀ (t : T) (cs : List Value) (L : List Nat), SameOn L st st' → Own e st t cs L → Own e st' t cs L := by
 refine T.ind fun k n nm args ih cs L hs h => ?_
 obtain ⟨s, rfl, hr⟩ := h.open
 refine Own.close k n nm ?_
 rcases hr with hr | ⟨i, c, cs, K, rfl, hb, hr, rfl⟩
 ·exact .inl hr
 ·exact .inr ⟨i, c, cs, K, rfl, (hs i (by simp)).trans hb, hr.mono fun x hx cx Lx hL he => ih x hx cx Lx (fun j hj => hs j (by simp [hL j hj])) he, rfl⟩
theorem SliceO.frame {α : Type} {E : St → α → List Value → List Nat → Prop} (hE : ∀ (st st' : St) x cx Lx, SameOn Lx st st' → E st x cx Lx → E st' x cx Lx) {e : TypeId} {st st' : St} {xs : List α} {s : Value} {L : List Nat} (hs : SameOn L st st') (h : SliceO (E st) e st xs s L) : SliceO (E st') e st' xs s L := by
 rcases h with h | ⟨i, c, cs, K, rfl, hb, hr, rfl⟩
 ·exact .inl h
 ·exact .inr ⟨i, c, cs, K, rfl, (hs i (by simp)).trans hb, hr.mono fun x hx cx Lx hL he => hE _ _ x cx Lx (fun j hj => hs j (by simp [hL j hj])) he, rfl⟩
theorem SliceO.lt {α : Type} {E : α → List Value → List Nat → Prop} {e : TypeId} {st : St} {xs : List α} {s : Value} {L : List Nat} (hE : ∀ x cx Lx, E x cx Lx → ∀ i ∈ Lx, i < st.length) (h : SliceO E e st xs s L) : ∀ i ∈ L, i < st.length := by
 rcases h with ⟨_, _, rfl⟩ | ⟨i, c, cs, K, rfl, hb, hr, rfl⟩
 ·intro i hi; cases hi
 ·intro j hj
  cases hj with
  | head => exact (List.getElem?_eq_some_iff.1 hb).1
  | tail _ hj =>
   clear hb
   induction hr with
   | nil => cases hj
   | cons x xs cx cs Lx L h hs ih =>
    rcases List.mem_append.1 hj with hj | hj
    ·exact hE x cx Lx h j hj
    ·exact ih hj
theorem Own.lt {e : TypeId} {st : St} : ∀ (t : T) (cs : List Value) (L : List Nat), Own e st t cs L → ∀ i ∈ L, i < st.length := by
 refine T.ind fun k n nm args ih cs L h => ?_
 obtain ⟨s, rfl, hr⟩ := h.open
 rcases hr with ⟨_, _, rfl⟩ | ⟨i, c, cs, K, rfl, hb, hr, rfl⟩
 ·intro i hi; cases hi
 ·intro j hj
  cases hj with
  | head => exact (List.getElem?_eq_some_iff.1 hb).1
  | tail _ hj =>
   clear hb h
   induction hr with
   | nil => cases hj
   | cons x xs cx cs Lx L h hs ih2 =>
    rcases List.mem_append.1 hj with hj | hj
    ·exact ih x (by simp) cx Lx h j hj
    ·exact ih2 (fun y hy => ih y (by simp [hy])) hj

theorem cell_of {st : St} {i : Nat} {cs : List Value} {e : TypeId} {q : Nat} (hb : st[i]? = some ⟨cs, e, 0⟩) : cell st i q = cs[q]? := by
 unfold cell; rw [hb]; rfl
theorem SliceO.row {α : Type} {E : α → List Value → List Nat → Prop} {E' : α → List Value → Prop} {sz : Nat} {e : TypeId} {st : St} {xs : List α} {s : Value} {L : List Nat} (hl : ∀ x cx Lx, E x cx Lx → cx.length = sz) (hE : ∀ x ∈ xs, ∀ cx Lx, E x cx Lx → E' x cx) (h : SliceO E e st xs s L) : Row E' sz st xs s := by
 rcases h with ⟨rfl, rfl, _⟩ | ⟨i, c, cs, K, rfl, hb, hr, rfl⟩
 ·exact .inl ⟨.inl rfl, rfl⟩
 ·refine .inr ⟨i, 0, c, rfl, fun j x hx => ?_⟩
  obtain ⟨cx, Lx, h1, _, h3⟩ := hr.get hl j x hx
  exact ⟨cx, hl _ _ _ h1, hE x (List.mem_of_getElem? hx) cx Lx h1, fun q v hq => by rw [cell_of hb, Nat.zero_add]; exact h3 q v hq⟩
theorem Own.enc {e : TypeId} {st : St} : ∀ (t : T) (cs : List Value) (L : List Nat), Own e st t cs L → Enc st t cs := by
 refine T.ind fun k n nm args ih cs L h => ?_
 obtain ⟨s, rfl, hr⟩ := h.open
 exact Enc.close k n nm (hr.row Own.len fun x hx cx Lx he => ih x hx cx Lx he)

/-- New since n. -/
def Fresh (n : Nat) (L : List Nat) : Prop := L.Nodup ∧ ∀ i ∈ L, n ≤ i

theorem appendA_nil {P : Program} {t e : TypeId} {sz by_ n : Nat} {z cs : List Value} {x : Value} {st : St} (he : elemA P t = some e) (hs : szA P e = some (sz + 1)) (hb : bytA P e = some by_) (hz : zeroA P e = some z) (hzl : z.length = sz + 1)
  {u : TypeId} (hn : newsA P u (sz + 1) x st = some (n, cs)) (h0 : n ≠ 0) (hbd : n * by_ ≤ 2 ^ 46) (hbn : n ≤ 2 ^ 46) : appendA P t u (.slice none 0 0) x st = some (.slice (some ⟨st.length, 0, none⟩) n n, st ++ [⟨cs, e, 0⟩]) := by
 unfold appendA
 simp only [he, hs, hb, hz, hn, hzl, if_true, h0, if_false, hbd, hbn, and_self]
theorem appendA_to {P : Program} {t e : TypeId} {sz by_ n i len c : Nat} {z cs ds : List Value} {x : Value} {st : St} (he : elemA P t = some e) (hs : szA P e = some (sz + 1)) (hb : bytA P e = some by_) (hz : zeroA P e = some z) (hzl : z.length = sz + 1)
  {u : TypeId} (hn : newsA P u (sz + 1) x st = some (n, cs)) (h0 : n ≠ 0) (hi : st[i]? = some ⟨ds, e, 0⟩) (hl : ds.length = len * (sz + 1)) (hbd : (len + n) * by_ ≤ 2 ^ 46) (hbn : len + n ≤ 2 ^ 46) :
  appendA P t u (.slice (some ⟨i, 0, none⟩) len c) x st = some (.slice (some ⟨st.length, 0, none⟩) (len + n) (len + n), st.set i ⟨ds, e, 2⟩ ++ [⟨ds ++ cs, e, 0⟩]) := by
 unfold appendA
 have ht : ds.take (len * (sz + 1)) = ds := List.take_of_length_le (by omega)
 simp only [he, hs, hb, hz, hn, hzl, if_true, h0, if_false, hi, hl, hbd, hbn, Nat.le_refl, and_self, ht]
theorem newsA_one {P : Program} {u e : TypeId} {sz i c : Nat} {cs : List Value} {st : St} (hu : P.underlying u = some (.slice e)) (hi : st[i]? = some ⟨cs, e, 0⟩) (hl : cs.length = sz) : newsA P u sz (.slice (some ⟨i, 0, none⟩) 1 c) st = some (1, cs) := by
 unfold newsA
 simp only [hu, Nat.one_mul]
 rw [cellsFrom_of (f := cell st i) hl fun j v hj => by rw [cell_of hi, Nat.zero_add]; exact hj]
 rfl

/-- An element is put behind a row of one's own. -/
theorem SliceO.step {α : Type} {E : St → α → List Value → List Nat → Prop} (hE : ∀ (st st' : St) x cx Lx, SameOn Lx st st' → E st x cx Lx → E st' x cx Lx) (hlt : ∀ (st : St) x cx Lx, E st x cx Lx → ∀ i ∈ Lx, i < st.length)
  {P : Program} {t e : TypeId} {sz by_ n0 : Nat} (hl : ∀ st x cx Lx, E st x cx Lx → cx.length = sz + 1) {z : List Value} {st st2 : St} {xs : List α} {s : Value} {L : List Nat} {x : α} {cx : List Value} {Lx : List Nat}
  (hu : P.underlying t = some (.slice e)) (hs : szA P e = some (sz + 1)) (hb : bytA P e = some by_) (hz : zeroA P e = some z) (hzl : z.length = sz + 1)
  (h : SliceO (E st) e st xs s L) (hf : Fresh n0 L) (hn0 : n0 ≤ st.length) (hext : Ext st st2) (hx : E st2 x cx Lx) (hfx : Fresh st.length Lx) (hbd : (xs.length + 1) * by_ ≤ 2 ^ 46) (hbn : xs.length + 1 ≤ 2 ^ 46) :
  ∃ s' st' L', appendA P t t s (.slice (some ⟨st2.length, 0, none⟩) 1 1) (st2 ++ [⟨cx, e, 0⟩]) = some (s', st') ∧ SliceO (E st') e st' (xs ++ [x]) s' L' ∧ Fresh n0 L' ∧ st2.length ≤ st'.length ∧ (∀ i, i < n0 → st'[i]? = st2[i]?) := by
 have he : elemA P t = some e := by unfold elemA; rw [hu]
 have hlen : st.length ≤ st2.length := by
  rcases Nat.lt_or_ge st2.length st.length with h | h
  ·have h1 : st[st2.length]? = some st[st2.length] := List.getElem?_eq_getElem h
   have h2 := hext _ _ h1
   have := (List.getElem?_eq_some_iff.1 h2).1
   omega
  ·exact h
 have hnew : (st2 ++ [(⟨cx, e, 0⟩ : Blk)])[st2.length]? = some ⟨cx, e, 0⟩ := by simp
 have hn := newsA_one (P := P) (u := t) (sz := sz + 1) (c := 1) hu hnew (hl _ _ _ _ hx)
 have hxlt := hlt _ _ _ _ hx
 rcases h with ⟨rfl, rfl, rfl⟩ | ⟨i, c, cs, K, rfl, hbk, hr, rfl⟩
 ·refine ⟨_, _, (st2.length + 1) :: Lx, appendA_nil he hs hb hz hzl hn (by omega) (by simpa using hbd) (by omega), .inr ⟨st2.length + 1, 1, cx, Lx, by simp, by simp, ?_, rfl⟩, ⟨List.nodup_cons.2 ⟨fun hm => by have := hxlt _ hm; omega, hfx.1⟩, fun j hj => ?_⟩, by simp, fun j hj => ?_⟩
  ·refine RowO.one (hE st2 _ x cx Lx (fun j hj => ?_) hx)
   have := hxlt j hj
   rw [List.getElem?_append_left (by simp; omega), List.getElem?_append_left this]
  ·cases hj with
   | head => omega
   | tail _ hj => have := hfx.2 j hj; omega
  ·rw [List.getElem?_append_left (by simp; omega), List.getElem?_append_left (by omega)]
 ·have hi : i < st.length := (List.getElem?_eq_some_iff.1 hbk).1
  have hbk2 : (st2 ++ [(⟨cx, e, 0⟩ : Blk)])[i]? = some ⟨cs, e, 0⟩ := by rw [List.getElem?_append_left (by omega)]; exact hext _ _ hbk
  have hrl := hr.len (hl st)
  have hap := appendA_to (c := c) he hs hb hz hzl hn (by omega) hbk2 hrl hbd hbn
  have hK := SliceO.lt (E := E st) (e := e) (st := st) (xs := xs) (s := .slice (some ⟨i, 0, none⟩) xs.length c) (L := i :: K) (fun x cx Lx h => hlt st x cx Lx h) (.inr ⟨i, c, cs, K, rfl, hbk, hr, rfl⟩)
  have hiK : i ∉ K := (List.nodup_cons.1 hf.1).1
  have hst' : ((st2 ++ [(⟨cx, e, 0⟩ : Blk)]).set i ⟨cs, e, 2⟩ ++ [(⟨cs ++ cx, e, 0⟩ : Blk)]).length = st2.length + 2 := by simp
  have get : ∀ j, j ≠ i → j < st2.length → ((st2 ++ [(⟨cx, e, 0⟩ : Blk)]).set i ⟨cs, e, 2⟩ ++ [(⟨cs ++ cx, e, 0⟩ : Blk)])[j]? = st2[j]? := by
   intro j hj hlt
   rw [List.getElem?_append_left (by simp; omega), List.getElem?_set, if_neg (Ne.symm hj), List.getElem?_append_left hlt]
  refine ⟨_, _, (st2.length + 1) :: (K ++ Lx), hap, .inr ⟨st2.length + 1, xs.length + 1, cs ++ cx, K ++ Lx, by simp, ?_, ?_, rfl⟩, ⟨List.nodup_cons.2 ⟨fun hm => ?_, List.nodup_append.2 ⟨(List.nodup_cons.1 hf.1).2, hfx.1, fun a ha b hb' e' => ?_⟩⟩, fun j hj => ?_⟩, by simp; omega, fun j hj => ?_⟩
  ·have : ((st2 ++ [(⟨cx, e, 0⟩ : Blk)]).set i ⟨cs, e, 2⟩).length = st2.length + 1 := by simp
   rw [← this]; simp
  ·refine (hr.mono fun y hy cy Ly hL he' => ?_).app (RowO.one (hE st2 _ x cx Lx (fun j hj => ?_) hx))
   ·refine hE st _ y cy Ly (fun j hj => ?_) he'
    have hjK := hL j hj
    have hjl := hK j (by simp [hjK])
    have hji : j ≠ i := fun e' => hiK (e' ▸ hjK)
    rw [get j hji (by omega)]
    have h1 : st[j]? = some st[j] := List.getElem?_eq_getElem hjl
    rw [h1, hext _ _ h1]
   ·have h1 := hxlt j hj
    have h2 := hfx.2 j hj
    exact get j (by omega) h1
  ·rcases List.mem_append.1 hm with hm | hm
   ·have := hK _ (List.mem_cons_of_mem _ hm); omega
   ·have := hxlt _ hm; omega
  ·subst e'
   have h1 := hK a (by simp [ha])
   have h2 := hfx.2 a hb'
   omega
  ·cases hj with
   | head => omega
   | tail _ hj =>
    rcases List.mem_append.1 hj with hj | hj
    ·exact hf.2 j (by simp [hj])
    ·have := hfx.2 j hj; omega
  ·have h1 := hf.2 i (by simp)
   exact get j (by omega) (by omega)

end Go.Proofs.Ytdijnohbbgbklaa.AM


/- Rows that are made at their full length and then filled. -/
namespace Go.Proofs.Ytdijnohbbgbklaa.AM
open Go
set_option linter.unusedVariables false
set_option linter.unusedSimpArgs false

def FillO {α : Type} (E : St → α → List Value → List Nat → Prop) (e : TypeId) (sz : Nat) (st : St) (xs : List α) (n o : Nat) (K : List Nat) : Prop :=
 ∃ cs zs, st[o]? = some ⟨cs ++ zs, e, 0⟩ ∧ RowO (E st) xs cs K ∧ zs.length = (n - xs.length) * sz ∧ xs.length ≤ n

theorem Ext.length {st st' : St} (h : Ext st st') : st.length ≤ st'.length := by
 rcases Nat.lt_or_ge st'.length st.length with hlt | hge
 ·have h1 : st[st'.length]? = some st[st'.length] := List.getElem?_eq_getElem hlt
  have := (List.getElem?_eq_some_iff.1 (h _ _ h1)).1
  omega
 ·exact hge
theorem Ext.get {st st' : St} (h : Ext st st') {i : Nat} (hi : i < st.length) : st'[i]? = st[i]? := by
 have h1 : st[i]? = some st[i] := List.getElem?_eq_getElem hi
 rw [h1]; exact h _ _ h1
theorem Ext.of_get {st st' : St} (h : ∀ i, i < st.length → st'[i]? = st[i]?) : Ext st st' := fun i b hb => (h i (List.getElem?_eq_some_iff.1 hb).1).trans hb

theorem FillO.lt {α : Type} {E : St → α → List Value → List Nat → Prop} (hlt : ∀ (st : St) x cx Lx, E st x cx Lx → ∀ i ∈ Lx, i < st.length) {e : TypeId} {sz n o : Nat} {st : St} {xs : List α} {K : List Nat} (h : FillO E e sz st xs n o K) : ∀ i ∈ K, i < st.length := by
 obtain ⟨cs, zs, hb, hr, hz, hle⟩ := h
 clear hb hz hle
 induction hr with
 | nil => intro i hi; cases hi
 | cons x xs cx cs Lx L h hs ih =>
  intro j hj
  rcases List.mem_append.1 hj with hj | hj
  ·exact hlt st x cx Lx h j hj
  ·exact ih j hj

theorem FillO.step {α : Type} {E : St → α → List Value → List Nat → Prop} (hE : ∀ (st st' : St) x cx Lx, SameOn Lx st st' → E st x cx Lx → E st' x cx Lx) (hlt : ∀ (st : St) x cx Lx, E st x cx Lx → ∀ i ∈ Lx, i < st.length)
  {P : Program} {e : TypeId} {sz n0 n o : Nat} (hl : ∀ st x cx Lx, E st x cx Lx → cx.length = sz) {st st2 : St} {xs : List α} {K : List Nat} {x : α} {cx : List Value} {Lx : List Nat} {v : Value} {loc : Nat → Nat × List Value}
  (hs : szA P e = some sz) (h : FillO E e sz st xs n o K) (hf : Fresh n0 (o :: K)) (hext : Ext st st2) (hx : E st2 x cx Lx) (hfx : Fresh st.length Lx) (hv : v.cells.toList = cx) (hok : okv v = true) (hn : xs.length < n) :
  ∃ st', storeA P e (.pointer (some ⟨o, 0 + xs.length * sz, none⟩)) v loc st2 = some (loc, st') ∧ FillO E e sz st' (xs ++ [x]) n o (K ++ Lx) ∧ Fresh n0 (o :: (K ++ Lx)) ∧ st'.length = st2.length ∧ (∀ i, i ≠ o → st'[i]? = st2[i]?) := by
 have hK := h.lt hlt
 obtain ⟨cs, zs, hb, hr, hz, hle⟩ := h
 have ho : o < st.length := (List.getElem?_eq_some_iff.1 hb).1
 have hb2 := hext _ _ hb
 have hcl := hr.len (hl st)
 have hcx : cx.length = sz := hl _ _ _ _ hx
 have hvs : v.cells.size = sz := by rw [← hcx, ← hv]; simp
 have hxlt := hlt _ _ _ _ hx
 have hnd := List.nodup_cons.1 hf.1
 have hzge : sz ≤ zs.length := by rw [hz]; exact Nat.le_mul_of_pos_left _ (by omega)
 have hsp : splice (cs ++ zs) (0 + xs.length * sz) cx = cs ++ cx ++ zs.drop sz := by
  unfold AM.splice
  rw [Nat.zero_add, ← hcl, hcx, List.take_left, List.drop_append]
  simp
 have get : ∀ i, i ≠ o → (st2.set o ⟨cs ++ cx ++ zs.drop sz, e, 0⟩)[i]? = st2[i]? := fun i hi => by rw [List.getElem?_set, if_neg (Ne.symm hi)]
 refine ⟨st2.set o ⟨cs ++ cx ++ zs.drop sz, e, 0⟩, ?_, ⟨cs ++ cx, zs.drop sz, ?_, ?_, ?_, by simp; omega⟩, ⟨List.nodup_cons.2 ⟨fun hm => ?_, List.nodup_append.2 ⟨hnd.2, hfx.1, fun a ha b hb' e' => ?_⟩⟩, fun j hj => ?_⟩, by simp, get⟩
 ·unfold storeA
  simp only [hok, if_true, hs, hb2, hvs, true_and, hv]
  rw [if_pos (by rw [List.length_append, hcl, hz, Nat.zero_add]; have := Nat.mul_le_mul_right sz (show xs.length + 1 ≤ n by omega); rw [Nat.add_mul, Nat.one_mul] at this; rw [Nat.sub_mul]; omega), hsp]
 ·rw [List.getElem?_set, if_pos rfl, if_pos (by have := hext.length; omega)]
 ·refine (hr.mono fun y hy cy Ly hL he => ?_).app (RowO.one (hE st2 _ x cx Lx (fun j hj => ?_) hx))
  ·refine hE st _ y cy Ly (fun j hj => ?_) he
   have hjK := hL j hj
   rw [get j (fun e' => hnd.1 (e' ▸ hjK)), hext.get (hK j hjK)]
  ·have := hfx.2 j hj
   exact get j (by omega)
 ·rw [List.length_drop, hz, List.length_append, List.length_singleton, ← Nat.sub_sub, Nat.sub_mul (n - xs.length) 1, Nat.one_mul]
 ·rcases List.mem_append.1 hm with hm | hm
  ·exact hnd.1 hm
  ·have := hfx.2 _ hm; omega
 ·subst e'
  have h1 := hK a ha
  have h2 := hfx.2 a hb'
  omega
 ·cases hj with
  | head => exact hf.2 o (by simp)
  | tail _ hj =>
   rcases List.mem_append.1 hj with hj | hj
   ·exact hf.2 j (by simp [hj])
   ·have h1 := hfx.2 j hj
    have h2 := hf.2 o (by simp)
    omega

theorem FillO.done {α : Type} {E : St → α → List Value → List Nat → Prop} {e : TypeId} {sz o c : Nat} {st : St} {xs : List α} {K : List Nat} (h : FillO E e sz st xs xs.length o K) : SliceO (E st) e st xs (.slice (some ⟨o, 0, none⟩) xs.length c) (o :: K) := by
 obtain ⟨cs, zs, hb, hr, hz, _⟩ := h
 have : zs = [] := List.eq_nil_of_length_eq_zero (by rw [hz]; simp)
 subst this
 rw [List.append_nil] at hb
 exact .inr ⟨o, c, cs, K, rfl, hb, hr, rfl⟩

/-- Every node has few arguments. -/
inductive Lim (B : Nat) : T → Prop
 | mk (k n : Int) (nm : ByteArray) (args : List T) (h : args.length ≤ B) (hs : ∀ a ∈ args, Lim B a) : Lim B (.mk k n nm args)
theorem T.wt_mem {xs : List T} {x : T} (h : x ∈ xs) : x.wt ≤ T.wtL xs := by
 induction xs with
 | nil => cases h
 | cons y ys ih =>
  simp only [T.wtL]
  cases h with
  | head => omega
  | tail _ h => have := ih h; omega
theorem Lim.of_wt {B : Nat} : ∀ t : T, t.wt ≤ B → Lim B t := by
 refine T.ind fun k n nm args ih h => ?_
 simp only [T.wt] at h
 exact .mk k n nm args (by omega) fun a ha => ih a ha (by have := T.wt_mem ha; omega)
theorem Lim.args {B : Nat} {k n : Int} {nm : ByteArray} {args : List T} (h : Lim B (.mk k n nm args)) : args.length ≤ B ∧ ∀ a ∈ args, Lim B a := by cases h; exact ⟨by assumption, by assumption⟩

end Go.Proofs.Ytdijnohbbgbklaa.AM


/- Kinds of data: what rows of each have in common. -/
namespace Go.Proofs.Ytdijnohbbgbklaa.AM
open Go
set_option linter.unusedVariables false
set_option linter.unusedSimpArgs false

/-- A kind of data: its cells, how they read, how they are owned. -/
class Kind (α : Type) where
 sz : Nat
 e : TypeId
 enc : St → α → List Value → Prop
 own : St → α → List Value → List Nat → Prop
 enc_len : ∀ (st : St) (x : α) (cs : List Value), enc st x cs → cs.length = sz
 enc_ext : ∀ (st st' : St) (x : α) (cs : List Value), Ext st st' → enc st x cs → enc st' x cs
 own_len : ∀ (st : St) (x : α) (cs : List Value) (L : List Nat), own st x cs L → cs.length = sz
 own_lt : ∀ (st : St) (x : α) (cs : List Value) (L : List Nat), own st x cs L → ∀ i ∈ L, i < st.length
 own_frame : ∀ (st st' : St) (x : α) (cs : List Value) (L : List Nat), SameOn L st st' → own st x cs L → own st' x cs L
 own_enc : ∀ (st : St) (x : α) (cs : List Value) (L : List Nat), own st x cs L → enc st x cs

theorem Fresh.mono {n m : Nat} {L : List Nat} (h : Fresh n L) (hm : m ≤ n) : Fresh m L := ⟨h.1, fun i hi => Nat.le_trans hm (h.2 i hi)⟩
theorem Fresh.nil (n : Nat) : Fresh n [] := ⟨by simp, by simp⟩
theorem SameOn.ext {L : List Nat} {st st' : St} (hx : Ext st st') (hL : ∀ i ∈ L, i < st.length) : SameOn L st st' := fun i hi => hx.get (hL i hi)

section
variable {α : Type} [Kind α]
abbrev Rw (st : St) (xs : List α) (s : Value) : Prop := Row (Kind.enc st) (Kind.sz α) st xs s
abbrev Sl (st : St) (xs : List α) (s : Value) (L : List Nat) : Prop := SliceO (Kind.own st) (Kind.e α) st xs s L
theorem Rw.ext {st st' : St} {xs : List α} {s : Value} (h : Rw st xs s) (hx : Ext st st') : Rw st' xs s := h.mono hx fun x _ cs he => Kind.enc_ext _ _ x cs hx he
theorem Rw.at {st : St} {xs : List α} {s : Value} (h : Rw st xs s) {j : Nat} {x : α} (hx : xs[j]? = some x) : ∃ i o c cs, s = .slice (some ⟨i, o, none⟩) xs.length c ∧ cs.length = Kind.sz α ∧ Kind.enc st x cs ∧ CellsAt st i (o + j * Kind.sz α) cs := row_at h hx
theorem Rw.nil (st : St) : Rw (α := α) st [] (.slice none 0 0) := .inl ⟨.inl rfl, rfl⟩
theorem Sl.row {st : St} {xs : List α} {s : Value} {L : List Nat} (h : Sl st xs s L) : Rw st xs s := SliceO.row (Kind.own_len st) (fun x _ cs L he => Kind.own_enc st x cs L he) h
theorem Sl.lt {st : St} {xs : List α} {s : Value} {L : List Nat} (h : Sl st xs s L) : ∀ i ∈ L, i < st.length := SliceO.lt (Kind.own_lt st) h
theorem Sl.frame {st st' : St} {xs : List α} {s : Value} {L : List Nat} (h : Sl st xs s L) (hs : SameOn L st st') : Sl st' xs s L := SliceO.frame (E := Kind.own) (fun st st' x cs L => Kind.own_frame st st' x cs L) hs h
theorem Sl.ext {st st' : St} {xs : List α} {s : Value} {L : List Nat} (h : Sl st xs s L) (hx : Ext st st') : Sl st' xs s L := h.frame (.ext hx h.lt)
theorem Sl.apart {st : St} {xs : List α} {s : Value} {L K : List Nat} (h : Sl st xs s L) (hf : Fresh st.length K) : ∀ i ∈ L, i ∉ K := fun i hi hk => by
 have h1 := h.lt i hi
 have h2 := hf.2 i hk
 omega
theorem Sl.nil (st : St) : Sl (α := α) st [] (.slice none 0 0) [] := .inl ⟨rfl, rfl, rfl⟩
theorem own_ext {st st' : St} {x : α} {cs : List Value} {L : List Nat} (h : Kind.own st x cs L) (hx : Ext st st') : Kind.own st' x cs L := Kind.own_frame _ _ _ _ _ (.ext hx (Kind.own_lt _ _ _ _ h)) h
/-- A slice of no elements that is not nil. -/
theorem Sl.empty (st : St) : Sl (α := α) (st ++ [⟨[], Kind.e α, 0⟩]) [] (.slice (some ⟨st.length, 0, none⟩) 0 0) [st.length] := .inr ⟨st.length, 0, [], [], rfl, by simp, .nil, rfl⟩

/-- An element is put behind a row of one's own. -/
theorem Sl.step {P : Program} {t : TypeId} {by_ sz' n0 : Nat} {z : List Value} {st st2 : St} {xs : List α} {s : Value} {L : List Nat} {x : α} {cx : List Value} {Lx : List Nat}
  (hu : P.underlying t = some (.slice (Kind.e α))) (hs : szA P (Kind.e α) = some (sz' + 1)) (hz' : Kind.sz α = sz' + 1) (hb : bytA P (Kind.e α) = some by_) (hz : zeroA P (Kind.e α) = some z) (hzl : z.length = sz' + 1)
  (h : Sl st xs s L) (hf : Fresh n0 L) (hn0 : n0 ≤ st.length) (hext : Ext st st2) (hx : Kind.own st2 x cx Lx) (hfx : Fresh st.length Lx) (hbd : (xs.length + 1) * by_ ≤ 2 ^ 46) (hbn : xs.length + 1 ≤ 2 ^ 46) :
  ∃ s' st' L', appendA P t t s (.slice (some ⟨st2.length, 0, none⟩) 1 1) (st2 ++ [⟨cx, Kind.e α, 0⟩]) = some (s', st') ∧ Sl st' (xs ++ [x]) s' L' ∧ Fresh n0 L' ∧ st2.length ≤ st'.length ∧ (∀ i, i < n0 → st'[i]? = st2[i]?) :=
 SliceO.step (E := Kind.own) (fun st st' x cs L => Kind.own_frame st st' x cs L) (fun st x cs L => Kind.own_lt st x cs L) (sz := sz') (fun st x cs L h => (Kind.own_len st x cs L h).trans hz') hu hs hb hz hzl h hf hn0 hext hx hfx hbd hbn
end

/-! Marks. -/
/-- How the elements of a row of a kind are marked. -/
class Marks (α : Type) extends Kind α where
 mk1 : α → Nat → α × Nat
 mk1_ge : ∀ x k, k ≤ (mk1 x k).2
section
variable {α : Type} [Marks α]
def mkL : List α → Nat → List α × Nat
 | [], k => ([], k)
 | x :: xs, k => ((Marks.mk1 x k).1 :: (mkL xs (Marks.mk1 x k).2).1, (mkL xs (Marks.mk1 x k).2).2)
theorem mkL_len (xs : List α) (k : Nat) : (mkL xs k).1.length = xs.length := by
 induction xs generalizing k with
 | nil => rfl
 | cons x xs ih => simp only [mkL, List.length_cons, ih]
theorem mkL_app (xs ys : List α) (k : Nat) : mkL (xs ++ ys) k = ((mkL xs k).1 ++ (mkL ys (mkL xs k).2).1, (mkL ys (mkL xs k).2).2) := by
 induction xs generalizing k with
 | nil => rfl
 | cons x xs ih => simp only [List.cons_append, mkL, ih]
theorem mkL_ge (l : List α) (k : Nat) : k ≤ (mkL l k).2 := by
 induction l generalizing k with
 | nil => exact Nat.le_refl _
 | cons x xs ih => simp only [mkL]; have h1 := Marks.mk1_ge x k; have h2 := ih (Marks.mk1 x k).2; omega
theorem mkL_snoc {xs : List α} {j : Nat} (hj : j < xs.length) (k : Nat) : mkL (xs.take (j + 1)) k = ((mkL (xs.take j) k).1 ++ [(Marks.mk1 xs[j] (mkL (xs.take j) k).2).1], (Marks.mk1 xs[j] (mkL (xs.take j) k).2).2) := by
 rw [List.take_succ_eq_append_getElem hj, mkL_app]; rfl
/-- A row that is being marked, j of its elements done. -/
structure MarkSt (xs : List α) (k : Nat) (st : St) (s : Value) (L : List Nat) (j : Nat) (st' : St) : Prop where
 sl : Sl st' ((mkL (xs.take j) k).1 ++ xs.drop j) s L
 le : st.length ≤ st'.length
 oth : ∀ i, i < st.length → i ∉ L → st'[i]? = st[i]?

theorem MarkSt.len {xs : List α} {k : Nat} {st st' : St} {s : Value} {L : List Nat} {j : Nat} (h : MarkSt xs k st s L j st') (hj : j ≤ xs.length) {P : Program} {t e : TypeId} (hu : P.underlying t = some (.slice e)) : lenE P t s = some (.int .i64 xs.length) := by
 have := row_len h.sl.row hu
 rw [this]; simp [mkL_len]; omega
/-- The element that comes next, and what stands about it. -/
theorem MarkSt.open {xs : List α} {k : Nat} {st st' : St} {s : Value} {L : List Nat} {j : Nat} (h : MarkSt xs k st s L j st') (hnd : L.Nodup) (hj : j < xs.length) :
  ∃ i c c1 cx c2 L1 Lx L2, s = .slice (some ⟨i, 0, none⟩) xs.length c ∧ L = i :: (L1 ++ Lx ++ L2) ∧ st'[i]? = some ⟨c1 ++ cx ++ c2, Kind.e α, 0⟩ ∧ c1.length = j * Kind.sz α ∧ Kind.own st' xs[j] cx Lx ∧ Lx.Nodup ∧ i ∉ Lx ∧ i < st'.length ∧
   (∀ (st2 : St) (cx' : List Value), st2[i]? = some ⟨c1 ++ cx' ++ c2, Kind.e α, 0⟩ → st'.length ≤ st2.length → Kind.own st2 (Marks.mk1 xs[j] (mkL (xs.take j) k).2).1 cx' Lx → (∀ q, q < st'.length → q ≠ i → q ∉ Lx → st2[q]? = st'[q]?) → MarkSt xs k st s L (j + 1) st2) := by
 have hml : (mkL (xs.take j) k).1.length = j := by rw [mkL_len]; simp; omega
 have hdr : xs.drop j = xs[j] :: xs.drop (j + 1) := List.drop_eq_getElem_cons hj
 have hat : ((mkL (xs.take j) k).1 ++ xs.drop j)[j]? = some xs[j] := by
  rw [List.getElem?_append_right (by omega), hml, Nat.sub_self, hdr]; rfl
 have hl2 : (((mkL (xs.take j) k).1 ++ xs.drop j)).length = xs.length := by simp [hml]; omega
 have hd2 : ((mkL (xs.take j) k).1 ++ xs.drop j).drop (j + 1) = xs.drop (j + 1) := by
  rw [List.drop_append, hml, Nat.add_sub_cancel_left, List.drop_eq_nil_of_le (by omega), hdr]; rfl
 have hsl := h.sl
 have hlt := hsl.lt
 rcases hsl with ⟨rfl, h0, rfl⟩ | ⟨i, c, cs, K, rfl, hb, hr, rfl⟩
 ·rw [h0] at hat; simp at hat
 obtain ⟨c1, cx, c2, L1, Lx, L2, h1, h2, h3, rfl, rfl⟩ := hr.split j _ hat
 have hcl := h1.len (Kind.own_len st')
 rw [List.take_left' hml] at h1
 rw [hd2] at h3
 obtain ⟨hi0, hnd1⟩ := List.nodup_cons.1 hnd
 obtain ⟨hnd2, hnd3, hnd4⟩ := List.nodup_append.1 hnd1
 obtain ⟨hnd5, hnd6, hnd7⟩ := List.nodup_append.1 hnd2
 refine ⟨i, c, c1, cx, c2, L1, Lx, L2, by rw [hl2], rfl, hb, by rw [hcl, List.length_take, hl2, Nat.min_eq_left (by omega)], h2, hnd6, fun hh => hi0 (by simp [hh]), (List.getElem?_eq_some_iff.1 hb).1, fun st2 cx' hb2 hle2 hown hot => ⟨?_, Nat.le_trans h.le hle2, fun q h1 h2 => ?_⟩⟩
 ·have hs1 : SameOn L1 st' st2 := fun q hq => hot q (hlt q (by simp [hq])) (fun e => hi0 (by simp [← e, hq])) (fun hh => hnd7 q hq q hh rfl)
  have hs2 : SameOn L2 st' st2 := fun q hq => hot q (hlt q (by simp [hq])) (fun e => hi0 (by simp [← e, hq])) (fun hh => hnd4 q (by simp [hh]) q hq rfl)
  have g1 := h1.mono (E' := Kind.own st2) fun x _ cx Lx hL he => Kind.own_frame _ _ x cx Lx (fun q hq => hs1 q (hL q hq)) he
  have g3 := h3.mono (E' := Kind.own st2) fun x _ cx Lx hL he => Kind.own_frame _ _ x cx Lx (fun q hq => hs2 q (hL q hq)) he
  rw [mkL_snoc hj]
  refine .inr ⟨i, c, _, L1 ++ Lx ++ L2, ?_, hb2, ?_, rfl⟩
  ·rw [hl2]; simp [hml]; omega
  ·exact (g1.app (RowO.one hown)).app g3
 ·rw [hot q (by have := h.le; omega) (fun e => h2 (by simp [e])) (fun hh => h2 (by simp [hh])), h.oth q h1 h2]
end
end Go.Proofs.Ytdijnohbbgbklaa.AM


/- Rows put behind rows. -/
namespace Go.Proofs.Ytdijnohbbgbklaa.AM
open Go
set_option linter.unusedVariables false
set_option linter.unusedSimpArgs false

/-- What reads, and is no one's. -/
def Shr {α : Type} (E : α → List Value → Prop) : α → List Value → List Nat → Prop := fun x cx Lx => E x cx ∧ Lx = []
theorem RowO.take {α : Type} {E : α → List Value → List Nat → Prop} {sz : Nat} (hE : ∀ x cx Lx, E x cx Lx → cx.length = sz) {xs : List α} {cs : List Value} {L : List Nat} (h : RowO E xs cs L) : cs.length = xs.length * sz := h.len hE

theorem cellsFrom_app {f : Nat → Option Value} : ∀ {m n o : Nat} {cs ds : List Value}, cellsFrom f o m = some cs → cellsFrom f (o + m) n = some ds → cellsFrom f o (m + n) = some (cs ++ ds) := by
 intro m n o cs ds h1 h2
 refine cellsFrom_of (by rw [List.length_append, cellsFrom_len h1, cellsFrom_len h2]) fun j v hj => ?_
 have hl := cellsFrom_len h1
 by_cases hlt : j < m
 ·rw [List.getElem?_append_left (by omega)] at hj
  exact cellsFrom_get h1 j v hj
 ·rw [List.getElem?_append_right (by omega), hl] at hj
  have := cellsFrom_get h2 (j - m) v hj
  rwa [show o + m + (j - m) = o + j by omega] at this

/-- The cells of a row. -/
theorem row_cells {α : Type} {E : α → List Value → Prop} {sz : Nat} {st : St} : ∀ {xs : List α} {i o : Nat}, (∀ (j : Nat) x, xs[j]? = some x → ∃ cs, cs.length = sz ∧ E x cs ∧ CellsAt st i (o + j * sz) cs) →
  ∃ cs, cellsFrom (cell st i) o (xs.length * sz) = some cs ∧ RowO (Shr E) xs cs [] := by
 intro xs
 induction xs with
 | nil => intro i o _; exact ⟨[], by simp [cellsFrom], .nil⟩
 | cons x xs ih =>
  intro i o h
  obtain ⟨c0, h1, h2, h3⟩ := h 0 x rfl
  obtain ⟨cs, h4, h5⟩ := ih (i := i) (o := o + sz) fun j y hy => by
   obtain ⟨c, g1, g2, g3⟩ := h (j + 1) y (by simpa using hy)
   exact ⟨c, g1, g2, by rwa [show o + (j + 1) * sz = o + sz + j * sz by rw [Nat.add_mul, Nat.one_mul]; omega] at g3⟩
  refine ⟨c0 ++ cs, ?_, ?_⟩
  ·have e : (x :: xs).length * sz = sz + xs.length * sz := by rw [List.length_cons, Nat.add_mul, Nat.one_mul]; omega
   rw [e]
   refine cellsFrom_app (cellsFrom_of h1 fun j v hj => ?_) h4
   rw [Nat.zero_mul, Nat.add_zero] at h3
   exact h3 j v hj
  ·have := RowO.cons x xs c0 cs [] [] (E := Shr E) ⟨h2, rfl⟩ h5
   simpa using this
theorem newsA_row {α : Type} {E : α → List Value → Prop} {sz : Nat} {st : St} {xs : List α} {s : Value} (h : Row E sz st xs s) {P : Program} {u e : TypeId} (hu : P.underlying u = some (.slice e)) : ∃ cs, newsA P u sz s st = some (xs.length, cs) ∧ RowO (Shr E) xs cs [] := by
 rcases h with ⟨rfl | rfl, rfl⟩ | ⟨i, o, c, rfl, h⟩
 ·exact ⟨[], by unfold newsA; simp only [hu]; rfl, .nil⟩
 ·exact ⟨[], by unfold newsA; simp only [hu]; rfl, .nil⟩
 ·obtain ⟨cs, h1, h2⟩ := row_cells h
  refine ⟨cs, ?_, h2⟩
  unfold newsA
  simp only [hu]
  rw [h1]
  rfl

theorem RowO.lt {α : Type} {E : α → List Value → List Nat → Prop} {n : Nat} (hE : ∀ x cx Lx, E x cx Lx → ∀ i ∈ Lx, i < n) {xs : List α} {cs : List Value} {L : List Nat} (h : RowO E xs cs L) : ∀ i ∈ L, i < n := by
 induction h with
 | nil => intro i hi; cases hi
 | cons x xs cx cs Lx L h hs ih =>
  intro j hj
  rcases List.mem_append.1 hj with hj | hj
  ·exact hE x cx Lx h j hj
  ·exact ih j hj

/-- The block in which a slice lies. -/
def topId : Value → Option Nat
 | .slice (some ⟨b, _, none⟩) _ _ => some b
 | _ => none
/-- All that was there is there still, but for one block. -/
def Away (k : Option Nat) (st st' : St) : Prop := st.length ≤ st'.length ∧ ∀ i, i < st.length → k ≠ some i → st'[i]? = st[i]?
/-- A row grew: its old block alone has turned. -/
structure Grow (st : St) (s : Value) (st' : St) (s' : Value) : Prop where
 away : Away (topId s) st st'
 top : topId s' = topId s ∨ ∃ m, st.length ≤ m ∧ topId s' = some m
theorem Grow.refl (st : St) (s : Value) : Grow st s st s := ⟨⟨Nat.le_refl _, fun _ _ _ => rfl⟩, .inl rfl⟩
theorem Away.trans {k k' : Option Nat} {a b c : St} (h : Away k a b) (g : Away k' b c) (hk : k' = k ∨ ∃ m, a.length ≤ m ∧ k' = some m) : Away k a c := ⟨Nat.le_trans h.1 g.1, fun i hi hne => by
 rw [g.2 i (by have := h.1; omega) (fun e => ?_), h.2 i hi hne]
 rcases hk with rfl | ⟨m, hm, rfl⟩
 ·exact hne e
 ·cases e; omega⟩
theorem Grow.trans {a b c : St} {s s' s'' : Value} (h : Grow a s b s') (g : Grow b s' c s'') : Grow a s c s'' := ⟨h.away.trans g.away h.top, by
 rcases g.top with h1 | ⟨m, h1, h2⟩
 ·rw [h1]; exact h.top
 ·exact .inr ⟨m, Nat.le_trans h.away.1 h1, h2⟩⟩
theorem Grow.topOk {a b : St} {s s' : Value} {n : Nat} (h : Grow a s b s') (hs : topId s = none ∨ ∃ m, n ≤ m ∧ topId s = some m) (hn : n ≤ a.length) : topId s' = none ∨ ∃ m, n ≤ m ∧ topId s' = some m := by
 rcases h.top with h1 | ⟨m, h1, h2⟩
 ·rw [h1]; exact hs
 ·exact .inr ⟨m, by omega, h2⟩
theorem Away.of_ext {k : Option Nat} {a b : St} (h : Ext a b) : Away k a b := ⟨h.length, fun i hi _ => h.get hi⟩
theorem Grow.of_ext {a b : St} (h : Ext a b) (s : Value) : Grow a s b s := ⟨.of_ext h, .inl rfl⟩
theorem Away.ext {a b : St} (h : Away none a b) : Ext a b := Ext.of_get fun i hi => h.2 i hi (by simp)
theorem Away.ext_of {k : Option Nat} {a b c : St} (h : Away k b c) (hx : Ext a b) (hk : k = none ∨ ∃ m, a.length ≤ m ∧ k = some m) : Ext a c := Ext.of_get fun i hi => by
 rw [h.2 i (by have := hx.length; omega) (fun e => ?_), hx.get hi]
 rcases hk with rfl | ⟨m, hm, rfl⟩
 ·cases e
 ·cases e; omega

/-- A row is put behind a row of one's own. -/
theorem SliceO.app {α : Type} {E : St → α → List Value → List Nat → Prop} (hE : ∀ (st st' : St) x cx Lx, SameOn Lx st st' → E st x cx Lx → E st' x cx Lx) (hlt : ∀ (st : St) x cx Lx, E st x cx Lx → ∀ i ∈ Lx, i < st.length)
  {P : Program} {t u e : TypeId} {sz by_ n0 : Nat} (hl : ∀ st x cx Lx, E st x cx Lx → cx.length = sz + 1) {z : List Value} {st st2 : St} {xs ys : List α} {s y : Value} {L : List Nat} {cy : List Value} {K : List Nat}
  (hu : P.underlying t = some (.slice e)) (hs : szA P e = some (sz + 1)) (hb : bytA P e = some by_) (hz : zeroA P e = some z) (hzl : z.length = sz + 1)
  (h : SliceO (E st) e st xs s L) (hf : Fresh n0 L) (hn0 : n0 ≤ st.length) (hext : Ext st st2) (hn : newsA P u (sz + 1) y st2 = some (ys.length, cy)) (hx : RowO (E st2) ys cy K) (hfx : Fresh st.length K) (hbd : (xs.length + ys.length) * by_ ≤ 2 ^ 46) (hbn : xs.length + ys.length ≤ 2 ^ 46) :
  ∃ s' st' L', appendA P t u s y st2 = some (s', st') ∧ SliceO (E st') e st' (xs ++ ys) s' L' ∧ Fresh n0 L' ∧ Grow st2 s st' s' := by
 have he : elemA P t = some e := by unfold elemA; rw [hu]
 have hlen := hext.length
 by_cases h0 : ys = []
 ·subst h0
  cases hx
  have hap : appendA P t u s y st2 = some (s, st2) := by
   unfold appendA
   simp only [he, hs, hb, hz, hn, hzl, if_true, List.length_nil]
   rcases h with ⟨rfl, _⟩ | ⟨i, c, cs, K, rfl, _⟩ <;> rfl
  refine ⟨s, st2, L, hap, ?_, hf, .refl _ _⟩
  rw [List.append_nil]
  exact h.frame hE (.ext hext (h.lt (hlt st)))
 have hy0 : ys.length ≠ 0 := fun e => h0 (List.eq_nil_of_length_eq_zero e)
 have hxlt := hx.lt (hlt st2)
 rcases h with ⟨rfl, rfl, rfl⟩ | ⟨i, c, cs, K1, rfl, hbk, hr, rfl⟩
 ·refine ⟨_, _, st2.length :: K, appendA_nil he hs hb hz hzl hn hy0 (by simpa using hbd) (by simpa using hbn), .inr ⟨st2.length, ys.length, cy, K, rfl, by simp, ?_, rfl⟩, ⟨List.nodup_cons.2 ⟨fun hm => by have := hxlt _ hm; omega, hfx.1⟩, fun j hj => ?_⟩, ⟨⟨by simp, fun j hj _ => ?_⟩, .inr ⟨_, Nat.le_refl _, rfl⟩⟩⟩
  ·exact hx.mono fun x _ cx Lx hL he' => hE st2 _ x cx Lx (fun j hj => by rw [List.getElem?_append_left (hxlt j (hL j hj))]) he'
  ·cases hj with
   | head => omega
   | tail _ hj => have := hfx.2 j hj; omega
  ·rw [List.getElem?_append_left (by omega)]
 ·have hi : i < st.length := (List.getElem?_eq_some_iff.1 hbk).1
  have hbk2 := hext _ _ hbk
  have hrl := hr.len (hl st)
  have hap := appendA_to (c := c) he hs hb hz hzl hn hy0 hbk2 hrl hbd hbn
  have hK := SliceO.lt (E := E st) (e := e) (st := st) (xs := xs) (s := .slice (some ⟨i, 0, none⟩) xs.length c) (L := i :: K1) (fun x cx Lx h => hlt st x cx Lx h) (.inr ⟨i, c, cs, K1, rfl, hbk, hr, rfl⟩)
  have hiK : i ∉ K1 := (List.nodup_cons.1 hf.1).1
  have get : ∀ j, j ≠ i → j < st2.length → (st2.set i ⟨cs, e, 2⟩ ++ [(⟨cs ++ cy, e, 0⟩ : Blk)])[j]? = st2[j]? := by
   intro j hj hlt
   rw [List.getElem?_append_left (by simp; omega), List.getElem?_set, if_neg (Ne.symm hj)]
  have hlast : (st2.set i ⟨cs, e, 2⟩ ++ [(⟨cs ++ cy, e, 0⟩ : Blk)])[st2.length]? = some ⟨cs ++ cy, e, 0⟩ := by
   have : (st2.set i (⟨cs, e, 2⟩ : Blk)).length = st2.length := by simp
   rw [← this]; simp
  refine ⟨_, _, st2.length :: (K1 ++ K), hap, .inr ⟨st2.length, xs.length + ys.length, cs ++ cy, K1 ++ K, by simp, hlast, ?_, rfl⟩, ⟨List.nodup_cons.2 ⟨fun hm => ?_, List.nodup_append.2 ⟨(List.nodup_cons.1 hf.1).2, hfx.1, fun a ha b hb' e' => ?_⟩⟩, fun j hj => ?_⟩, ⟨⟨by simp, fun j hj hjL => ?_⟩, .inr ⟨_, Nat.le_refl _, rfl⟩⟩⟩
  ·refine (hr.mono fun y hy cy Ly hL he' => ?_).app (hx.mono fun x _ cx Lx hL he' => ?_)
   ·refine hE st _ y cy Ly (fun j hj => ?_) he'
    have hjK := hL j hj
    have hjl := hK j (by simp [hjK])
    rw [get j (fun e' => hiK (e' ▸ hjK)) (by omega), hext.get hjl]
   ·refine hE st2 _ x cx Lx (fun j hj => ?_) he'
    have h1 := hxlt j (hL j hj)
    have h2 := hfx.2 j (hL j hj)
    exact get j (by omega) h1
  ·rcases List.mem_append.1 hm with hm | hm
   ·have := hK _ (List.mem_cons_of_mem _ hm); omega
   ·have := hxlt _ hm; omega
  ·subst e'
   have h1 := hK a (by simp [ha])
   have h2 := hfx.2 a hb'
   omega
  ·cases hj with
   | head => omega
   | tail _ hj =>
    rcases List.mem_append.1 hj with hj | hj
    ·exact hf.2 j (by simp [hj])
    ·have := hfx.2 j hj; omega
  ·exact get j (fun e' => hjL (by rw [e']; rfl)) hj

/-- A row is put behind a new slice of no elements. -/
theorem SliceO.fresh {α : Type} {E : St → α → List Value → List Nat → Prop} (hE : ∀ (st st' : St) x cx Lx, SameOn Lx st st' → E st x cx Lx → E st' x cx Lx) (hlt : ∀ (st : St) x cx Lx, E st x cx Lx → ∀ i ∈ Lx, i < st.length)
  {P : Program} {t u e : TypeId} {sz by_ : Nat} (hl : ∀ st x cx Lx, E st x cx Lx → cx.length = sz + 1) {z : List Value} {st : St} {ys : List α} {y : Value} {cy : List Value}
  (hu : P.underlying t = some (.slice e)) (hs : szA P e = some (sz + 1)) (hb : bytA P e = some by_) (hz : zeroA P e = some z) (hzl : z.length = sz + 1)
  (hn : newsA P u (sz + 1) y (st ++ [⟨[], e, 0⟩]) = some (ys.length, cy)) (hx : RowO (E (st ++ [⟨[], e, 0⟩])) ys cy []) (hbd : ys.length * by_ ≤ 2 ^ 46) (hbn : ys.length ≤ 2 ^ 46) :
  ∃ s' st' L', appendA P t u (.slice (some ⟨st.length, 0, none⟩) 0 0) y (st ++ [⟨[], e, 0⟩]) = some (s', st') ∧ SliceO (E st') e st' ys s' L' ∧ Fresh st.length L' ∧ Ext st st' ∧ st.length + 1 ≤ st'.length := by
 obtain ⟨s', st', L', h1, h2, h3, h4⟩ := SliceO.app (xs := []) (L := [st.length]) (K := []) (n0 := st.length) hE hlt hl hu hs hb hz hzl (.inr ⟨st.length, 0, [], [], rfl, by simp, .nil, rfl⟩) ⟨by simp, by simp⟩ (by simp) (Ext.refl (st ++ [⟨[], e, 0⟩])) hn hx ⟨by simp, by simp⟩ (by simpa using hbd) (by simpa using hbn)
 refine ⟨s', st', L', h1, by simpa using h2, h3, Ext.of_get fun i hi => ?_, by simpa using h4.away.1⟩
 rw [h4.away.2 i (by simp; omega) (fun e => by cases e; omega), List.getElem?_append_left hi]

/-- The cells of a row of one's own. -/
theorem newsA_own {α : Type} {E : α → List Value → List Nat → Prop} {P : Program} {u e e' : TypeId} {sz n0 : Nat} {st : St} {ys : List α} {y : Value} {L : List Nat} (hu : P.underlying u = some (.slice e')) (hl : ∀ x cx Lx, E x cx Lx → cx.length = sz) (h : SliceO E e st ys y L) (hf : Fresh n0 L) :
  ∃ cy K, newsA P u sz y st = some (ys.length, cy) ∧ RowO E ys cy K ∧ Fresh n0 K := by
 rcases h with ⟨rfl, rfl, rfl⟩ | ⟨i, c, cs, K, rfl, hb, hr, rfl⟩
 ·exact ⟨[], [], by unfold newsA; simp only [hu]; rfl, .nil, hf⟩
 ·refine ⟨cs, K, ?_, hr, (List.nodup_cons.1 hf.1).2, fun j hj => hf.2 j (by simp [hj])⟩
  unfold newsA
  simp only [hu]
  rw [cellsFrom_of (f := cell st i) (hr.len hl) fun j v hj => by rw [cell_of hb, Nat.zero_add]; exact hj]
  rfl
theorem newsA_1 {P : Program} {u e : TypeId} {sz : Nat} {st : St} {cx : List Value} (hu : P.underlying u = some (.slice e)) (hl : cx.length = sz) : newsA P u sz (.slice (some ⟨st.length, 0, none⟩) 1 1) (st ++ [⟨cx, e, 0⟩]) = some (1, cx) := newsA_one hu (by simp) hl
section
variable {α : Type} [Kind α]
/-- An element is put behind a row of one's own; what else was there stays. -/
theorem Sl.push {P : Program} {t u : TypeId} {by_ sz' n0 : Nat} {z : List Value} {st st2 : St} {xs : List α} {s : Value} {L : List Nat} {x : α} {cx : List Value} {Lx : List Nat}
  (hu : P.underlying t = some (.slice (Kind.e α))) (hu2 : P.underlying u = some (.slice (Kind.e α))) (hs : szA P (Kind.e α) = some (sz' + 1)) (hz' : Kind.sz α = sz' + 1) (hb : bytA P (Kind.e α) = some by_) (hz : zeroA P (Kind.e α) = some z) (hzl : z.length = sz' + 1)
  (h : Sl st xs s L) (hf : Fresh n0 L) (hn0 : n0 ≤ st.length) (hext : Ext st st2) (hx : Kind.own st2 x cx Lx) (hfx : Fresh st.length Lx) (hbd : (xs.length + 1) * by_ ≤ 2 ^ 46) (hbn : xs.length + 1 ≤ 2 ^ 46) :
  ∃ s' st' L', appendA P t u s (.slice (some ⟨st2.length, 0, none⟩) 1 1) (st2 ++ [⟨cx, Kind.e α, 0⟩]) = some (s', st') ∧ Sl st' (xs ++ [x]) s' L' ∧ Fresh n0 L' ∧ Grow st s st' s' := by
 have hx' : Kind.own (st2 ++ [⟨cx, Kind.e α, 0⟩]) x cx Lx := own_ext hx (Ext.app _ _)
 obtain ⟨s', st', L', h1, h2, h3, h4⟩ := SliceO.app (E := Kind.own) (fun st st' x cs L => Kind.own_frame st st' x cs L) (fun st x cs L => Kind.own_lt st x cs L) (sz := sz') (fun st x cs L h => (Kind.own_len st x cs L h).trans hz') (ys := [x]) (u := u) hu hs hb hz hzl h hf hn0 (hext.trans (Ext.app _ [⟨cx, Kind.e α, 0⟩])) (newsA_1 hu2 ((Kind.own_len _ _ _ _ hx).trans hz')) (RowO.one hx') hfx hbd hbn
 exact ⟨s', st', L', h1, h2, h3, (Grow.of_ext (hext.trans (Ext.app _ _)) s).trans h4⟩
/-- A row of one's own is put behind another. -/
theorem Sl.join {P : Program} {t u : TypeId} {by_ sz' n0 : Nat} {z : List Value} {st st2 : St} {xs ys : List α} {s y : Value} {L K : List Nat}
  (hu : P.underlying t = some (.slice (Kind.e α))) (hu2 : P.underlying u = some (.slice (Kind.e α))) (hs : szA P (Kind.e α) = some (sz' + 1)) (hz' : Kind.sz α = sz' + 1) (hb : bytA P (Kind.e α) = some by_) (hz : zeroA P (Kind.e α) = some z) (hzl : z.length = sz' + 1)
  (h : Sl st xs s L) (hf : Fresh n0 L) (hn0 : n0 ≤ st.length) (hext : Ext st st2) (hy : Sl st2 ys y K) (hfx : Fresh st.length K) (hbd : (xs.length + ys.length) * by_ ≤ 2 ^ 46) (hbn : xs.length + ys.length ≤ 2 ^ 46) :
  ∃ s' st' L', appendA P t u s y st2 = some (s', st') ∧ Sl st' (xs ++ ys) s' L' ∧ Fresh n0 L' ∧ Grow st s st' s' := by
 obtain ⟨cy, K', hn, hr, hK⟩ := newsA_own (P := P) (u := u) hu2 (Kind.own_len st2) hy hfx
 rw [hz'] at hn
 obtain ⟨s', st', L', h1, h2, h3, h4⟩ := SliceO.app (E := Kind.own) (fun st st' x cs L => Kind.own_frame st st' x cs L) (fun st x cs L => Kind.own_lt st x cs L) (sz := sz') (fun st x cs L h => (Kind.own_len st x cs L h).trans hz') hu hs hb hz hzl h hf hn0 hext hn hr hK hbd hbn
 exact ⟨s', st', L', h1, h2, h3, (Grow.of_ext hext s).trans h4⟩
end
theorem SliceO.top {α : Type} {E : α → List Value → List Nat → Prop} {e : TypeId} {st : St} {xs : List α} {s : Value} {L : List Nat} {n : Nat} (h : SliceO E e st xs s L) (hf : Fresh n L) : topId s = none ∨ ∃ m, n ≤ m ∧ topId s = some m := by
 rcases h with ⟨rfl, _, _⟩ | ⟨i, c, cs, K, rfl, _, _, rfl⟩
 ·exact .inl rfl
 ·exact .inr ⟨i, hf.2 i (by simp), rfl⟩
theorem eq_nil {P : Program} {t e : TypeId} (h : P.underlying t = some (.slice e)) : pureRun P (Op.equal t (.slice none 0 0) (.slice none 0 0)) = some true := by
 show pureRun P (Op.equalIn (9999 + 1) t (.slice none 0 0) (.slice none 0 0)) = _
 rw [Op.equalIn, pureRun_bind, pureRun_und h]
 rfl
theorem row_nil {α : Type} {E : α → List Value → Prop} {sz : Nat} {st : St} {xs : List α} {s : Value} (h : Row E sz st xs s) {P : Program} {t e : TypeId} (hu : P.underlying t = some (.slice e)) :
  ∃ b, (∀ x y, binE P .eql t x y s (.slice none 0 0) = some (.bool b)) ∧ (b = true → xs = [] ∧ s = .slice none 0 0) := by
 have he : elemA P t = some e := by unfold elemA; rw [hu]
 have hno : ∀ a n c x y, binE P .eql t x y (.slice (some a) n c) (.slice none 0 0) = some (.bool false) := fun a n c x y => by
  show (match elemA P t with | some _ => eqNil .eql (.slice (some a) n c) (.slice none 0 0) | none => eqNilI P t .eql (.slice (some a) n c) (.slice none 0 0)) = _
  rw [he]; rfl
 rcases h with ⟨rfl | rfl, rfl⟩ | ⟨i, o, c, rfl, h⟩
 ·refine ⟨true, fun x y => ?_, fun _ => ⟨rfl, rfl⟩⟩
  have : binE P .eql t x y (.slice none 0 0) (.slice none 0 0) = flatRun P (do pure (.bool (← Op.equal t (.slice none 0 0) (.slice none 0 0)))) := rfl
  rw [this, flatRun, pureRun_bind, eq_nil hu]; rfl
 ·exact ⟨false, fun x y => hno _ _ _ x y, fun e => by cases e⟩
 ·exact ⟨false, fun x y => hno _ _ _ x y, fun e => by cases e⟩

section
variable {α : Type} [Kind α]
/-- An element of a row of one's own is put. -/
theorem Sl.set {P : Program} {n0 j : Nat} {st st2 : St} {xs : List α} {s v : Value} {L : List Nat} {x : α} {cx : List Value} {Lx : List Nat} (hs : szA P (Kind.e α) = some (Kind.sz α))
  (h : Sl st xs s L) (hf : Fresh n0 L) (hn0 : n0 ≤ st.length) (hext : Ext st st2) (hx : Kind.own st2 x cx Lx) (hfx : Fresh st.length Lx) (hj : j < xs.length) (hv : v.cells.toList = cx) (hok : okv v = true) :
  ∃ b c st' L', s = .slice (some ⟨b, 0, none⟩) xs.length c ∧ (∀ loc, storeA P (Kind.e α) (.pointer (some ⟨b, j * Kind.sz α, none⟩)) v loc st2 = some (loc, st')) ∧ Sl st' (xs.set j x) s L' ∧ Fresh n0 L' ∧ st'.length = st2.length ∧ n0 ≤ b ∧ ∀ i, i ≠ b → st'[i]? = st2[i]? := by
 have hlt := h.lt
 rcases h with ⟨_, h0, _⟩ | ⟨b, c, cs, K, rfl, hb, hr, rfl⟩
 ·rw [h0] at hj; simp at hj
 obtain ⟨c1, c0, c2, L1, L0, L2, g1, g2, g3, rfl, rfl⟩ := hr.split j _ (List.getElem?_eq_getElem hj)
 have hcl := g1.len (Kind.own_len st)
 have hc0 := Kind.own_len _ _ _ _ g2
 have hcx := Kind.own_len _ _ _ _ hx
 have hl1 : c1.length = j * Kind.sz α := by rw [hcl, List.length_take, Nat.min_eq_left (by omega)]
 have hxlt := Kind.own_lt _ _ _ _ hx
 obtain ⟨hi0, hnd1⟩ := List.nodup_cons.1 hf.1
 obtain ⟨hnd2, hnd3, hnd4⟩ := List.nodup_append.1 hnd1
 obtain ⟨hnd5, hnd6, hnd7⟩ := List.nodup_append.1 hnd2
 have hb2 := hext _ _ hb
 have hbl : b < st.length := (List.getElem?_eq_some_iff.1 hb).1
 have hel := hext.length
 have hbb : (st2.set b ⟨c1 ++ cx ++ c2, Kind.e α, 0⟩)[b]? = some ⟨c1 ++ cx ++ c2, Kind.e α, 0⟩ := by rw [List.getElem?_set]; simp; omega
 have get : ∀ i, i ≠ b → (st2.set b ⟨c1 ++ cx ++ c2, Kind.e α, 0⟩)[i]? = st2[i]? := fun i hi => by rw [List.getElem?_set, if_neg (Ne.symm hi)]
 refine ⟨b, c, st2.set b ⟨c1 ++ cx ++ c2, Kind.e α, 0⟩, b :: (L1 ++ Lx ++ L2), rfl, fun loc => ?_, .inr ⟨b, c, c1 ++ cx ++ c2, L1 ++ Lx ++ L2, by rw [List.length_set], hbb, ?_, rfl⟩, ⟨List.nodup_cons.2 ⟨fun hm => ?_, List.nodup_append.2 ⟨List.nodup_append.2 ⟨hnd5, hfx.1, fun a ha d hd e => ?_⟩, hnd3, fun a ha d hd e => ?_⟩⟩, fun i hi => ?_⟩, by simp, hf.2 b (by simp), get⟩
 ·have hvs : v.cells.size = Kind.sz α := by rw [← hcx, ← hv]; simp
  rw [storeA_h]
  have hvc : vc v = v.cells := rfl
  simp only [hok, if_true, hs, hb2, hvc, hvs, hv, true_and]
  rw [if_pos (by simp [hl1, hc0])]
  unfold AM.splice
  have e1 : (c1 ++ c0 ++ c2).take (j * Kind.sz α) = c1 := by rw [← hl1, List.append_assoc, List.take_left]
  have e2 : (c1 ++ c0 ++ c2).drop (j * Kind.sz α + cx.length) = c2 := by rw [← hl1, hcx, ← hc0, ← List.length_append, List.drop_left]
  rw [e1, e2]
 ·have e : xs.set j x = xs.take j ++ [x] ++ xs.drop (j + 1) := by rw [List.set_eq_take_append_cons_drop, if_pos hj]; simp
  rw [e]
  refine (RowO.app (g1.mono fun y _ cy Ly hL he => ?_) (RowO.one ?_)).app (g3.mono fun y _ cy Ly hL he => ?_)
  ·exact Kind.own_frame _ _ y cy Ly (fun q hq => by
    have hq1 := hL q hq
    rw [get q (fun e => hi0 (by simp [← e, hq1])), hext.get (hlt q (by simp [hq1]))]) he
  ·exact Kind.own_frame _ _ x cx Lx (fun q hq => get q (by have := hfx.2 q hq; omega)) hx
  ·exact Kind.own_frame _ _ y cy Ly (fun q hq => by
    have hq1 := hL q hq
    rw [get q (fun e => hi0 (by simp [← e, hq1])), hext.get (hlt q (by simp [hq1]))]) he
 ·simp only [List.mem_append] at hm
  rcases hm with (hm | hm) | hm
  ·exact hi0 (by simp [hm])
  ·have := hfx.2 _ hm; omega
  ·exact hi0 (by simp [hm])
 ·subst e
  have h1 := hlt a (by simp [ha])
  have h2 := hfx.2 a hd
  omega
 ·subst e
  rcases List.mem_append.1 ha with ha | ha
  ·exact hnd4 a (by simp [ha]) a hd rfl
  ·have h1 := hlt a (by simp [hd])
   have h2 := hfx.2 a ha
   omega
 ·rcases List.mem_cons.1 hi with rfl | hi
  ·exact hf.2 _ (by simp)
  ·simp only [List.mem_append] at hi
   rcases hi with (hi | hi) | hi
   ·exact hf.2 i (by simp [hi])
   ·have := hfx.2 i hi; omega
   ·exact hf.2 i (by simp [hi])
end
/-- A kind whose data stand in their cells alone. -/
class Flat (α : Type) extends Kind α where
 flat_own : ∀ (st : St) (x : α) (cs : List Value), enc st x cs → own st x cs []
section
variable {α : Type} [Flat α]
theorem shr_own {st : St} {xs : List α} {cs : List Value} {L : List Nat} (h : RowO (Shr (Kind.enc (α := α) st)) xs cs L) : RowO (Kind.own st) xs cs L := h.mono fun x _ cx Lx _ he => by obtain ⟨h1, rfl⟩ := he; exact Flat.flat_own st x cx h1
/-- A row of flat data is put behind one's own. -/
theorem Sl.appRow {P : Program} {t u : TypeId} {by_ sz' n0 : Nat} {z : List Value} {st st2 : St} {xs ys : List α} {s y : Value} {L : List Nat}
  (hu : P.underlying t = some (.slice (Kind.e α))) (hu2 : P.underlying u = some (.slice (Kind.e α))) (hs : szA P (Kind.e α) = some (sz' + 1)) (hz' : Kind.sz α = sz' + 1) (hb : bytA P (Kind.e α) = some by_) (hz : zeroA P (Kind.e α) = some z) (hzl : z.length = sz' + 1)
  (h : Sl st xs s L) (hf : Fresh n0 L) (hn0 : n0 ≤ st.length) (hext : Ext st st2) (hy : Rw st2 ys y) (hbd : (xs.length + ys.length) * by_ ≤ 2 ^ 46) (hbn : xs.length + ys.length ≤ 2 ^ 46) :
  ∃ s' st' L', appendA P t u s y st2 = some (s', st') ∧ Sl st' (xs ++ ys) s' L' ∧ Fresh n0 L' ∧ Grow st2 s st' s' := by
 obtain ⟨cy, hn, hx⟩ := newsA_row hy hu2
 rw [hz'] at hn
 exact SliceO.app (E := Kind.own) (fun st st' x cs L => Kind.own_frame st st' x cs L) (fun st x cs L => Kind.own_lt st x cs L) (sz := sz') (fun st x cs L h => (Kind.own_len st x cs L h).trans hz') hu hs hb hz hzl h hf hn0 hext hn (shr_own hx) ⟨by simp, by simp⟩ hbd hbn
theorem Sl.freshRow {P : Program} {t u : TypeId} {by_ sz' : Nat} {z : List Value} {st : St} {ys : List α} {y : Value}
  (hu : P.underlying t = some (.slice (Kind.e α))) (hu2 : P.underlying u = some (.slice (Kind.e α))) (hs : szA P (Kind.e α) = some (sz' + 1)) (hz' : Kind.sz α = sz' + 1) (hb : bytA P (Kind.e α) = some by_) (hz : zeroA P (Kind.e α) = some z) (hzl : z.length = sz' + 1)
  (hy : Rw st ys y) (hbd : ys.length * by_ ≤ 2 ^ 46) (hbn : ys.length ≤ 2 ^ 46) :
  ∃ s' st' L', appendA P t u (.slice (some ⟨st.length, 0, none⟩) 0 0) y (st ++ [⟨[], Kind.e α, 0⟩]) = some (s', st') ∧ Sl st' ys s' L' ∧ Fresh st.length L' ∧ Ext st st' ∧ st.length + 1 ≤ st'.length := by
 obtain ⟨cy, hn, hx⟩ := newsA_row (hy.ext (Ext.app st [⟨[], Kind.e α, 0⟩])) hu2
 rw [hz'] at hn
 exact SliceO.fresh (E := Kind.own) (fun st st' x cs L => Kind.own_frame st st' x cs L) (fun st x cs L => Kind.own_lt st x cs L) (sz := sz') (fun st x cs L h => (Kind.own_len st x cs L h).trans hz') hu hs hb hz hzl hn (shr_own hx) hbd hbn
end
end Go.Proofs.Ytdijnohbbgbklaa.AM


namespace Go.Proofs.Ytdijnohbbgbklaa.AM
open Go
attribute [local go_sem] List.map_cons List.map_nil List.all_cons List.all_nil Bool.and_self Option.map_some List.getElem?_toArray Option.bind_some gye_b gye_t gsk_b gsk_t gb1 gb2 gb3 gb4 bne_self_eq_false beq_self_eq_true w_guard w_nil stepV_some step_some step_some' w_move w_assign w_pick w_binOp w_unOp w_load w_fieldAddr w_indexAddr w_len w_max w_index ev_max max_int ev_index w_box w_alloc w_store w_field w_extract w_nilCheck w_convert w_buildSlice w_build ev_buildL fillL_nil fillL_cons bs0 bs1 ev_conv ev_bin ev_un ev_pick ev_load ev_fieldAddr ev_indexAddr ev_len ev_field ev_extract ev_nilCheck fr_tmp fr_int fr_bool fr_str fr_nil fr_func put_some put_none bin_lss bin_leq bin_gtr bin_geq bin_eql bin_neq bin_add bin_sub bin_mul bin_seql bin_sneq un_not pick_ ext_ loadA_p cellAt_l cellAt_h okPtr_l okPtr_h fadA_p allocA_l storeA_l cells_agg cells_int cells_str cells_sl cells_bool flat_i flat_s flat_b flat_sl flat_nil loc_agg loc_int loc_str loc_sl loc_bool loc_fn loc_ptr okv_agg okv_int okv_str okv_sl okv_bool cellsFrom splice upd_eval argEnv_zero argEnv_succ ne_eq Nat.add_one_ne_zero not_false_eq_true List.not_mem_nil and_self decide_true List.getElem?_cons_zero List.getElem?_cons_succ List.size_toArray List.length_cons List.length_nil List.take_succ_cons List.take_zero List.drop_succ_cons List.drop_zero List.cons_append List.nil_append List.drop_nil Bool.not_true Bool.not_false Bool.false_eq_true Nat.zero_add Nat.add_zero wrap_in List.toList_toArray List.mem_cons or_self or_false false_or
attribute [local go_sem] ag103 ag22 ag24 ag25 ag27 ag28 ag3 ag30 ag37 ag5 ag54 ag9 bu27 bu30 bu37 bu54 bu67 by30 by37 by54 by9 el22 el24 el25 el28 el33 el52 of27_0 of27_1 of30_0 of30_1 of30_2 of30_3 of37_0 of37_1 of54_0 of54_1 of54_2 of67_0 of67_1 of67_2 ro3_3 ro3_4 ro30_0 ro30_1 ro30_2 ro37_0 ro37_1 ro37_4 ro54_1 ro54_7 ro9_0 ro9_1 ro9_2 ro9_3 ro9_4 ro9_5 sz103 sz22 sz24 sz25 sz27 sz28 sz3 sz30 sz37 sz5 sz54 sz9 ze103 ze27 ze3 ze30 ze37 ze54 ze9
section
/- The marks: laws.markText. -/
open Go Go.Proofs
set_option linter.unusedVariables false
set_option linter.unusedSimpArgs false
set_option maxRecDepth 100000

def digitB (k : Nat) : ByteArray := ⟨#[UInt8.ofNat (48 + k % 10)]⟩
def mtF : Nat → Nat → ByteArray → ByteArray
 | 0, _, acc => acc
 | f + 1, k, acc => if k = 0 then acc else mtF f (k / 10) (digitB k ++ acc)
/-- A mark's text. -/
def mtext (k : Nat) : ByteArray := if k = 0 then ⟨#[109, 48]⟩ else (⟨#[109]⟩ : ByteArray) ++ mtF (k + 1) k ⟨#[]⟩


end

section
/- The marks: laws.markTermS, laws.markTerm, laws.heldTermS, laws.heldTerm. -/
open Go Go.Proofs
set_option linter.unusedVariables false
set_option linter.unusedSimpArgs false
set_option maxRecDepth 100000

mutual
def T.mk1 : T → Nat → T × Nat
 | .mk _ _ _ args, k => (.mk k (k + 1 : Nat) (mtext (k + 2)) (T.mkL args (k + 3)).1, (T.mkL args (k + 3)).2)
def T.mkL : List T → Nat → List T × Nat
 | [], k => ([], k)
 | x :: xs, k => ((x.mk1 k).1 :: (T.mkL xs (x.mk1 k).2).1, (T.mkL xs (x.mk1 k).2).2)
end
theorem T.mk1_ge : ∀ (t : T) (k : Nat), k ≤ (t.mk1 k).2 ∧ k + 3 ≤ (t.mk1 k).2 := by
 refine T.ind fun k0 n nm args ih k => ?_
 have : ∀ (l : List T), (∀ a ∈ l, ∀ k, k ≤ (a.mk1 k).2 ∧ k + 3 ≤ (a.mk1 k).2) → ∀ k, k ≤ (T.mkL l k).2 := by
  intro l
  induction l with
  | nil => intro _ k; exact Nat.le_refl _
  | cons x xs ihx =>
   intro h k
   simp only [T.mkL]
   have h1 := (h x (by simp) k).1
   have h2 := ihx (fun a ha => h a (by simp [ha])) (x.mk1 k).2
   omega
 have h := this args ih (k + 3)
 simp only [T.mk1]
 omega
theorem T.mkL_ge (l : List T) (k : Nat) : k ≤ (T.mkL l k).2 := by
 induction l generalizing k with
 | nil => exact Nat.le_refl _
 | cons x xs ih => simp only [T.mkL]; have h1 := (T.mk1_ge x k).1; have h2 := ih (x.mk1 k).2; omega

theorem store_cell {P : Program} {t e : TypeId} {i o : Nat} {c1 c2 : List Value} {x v : Value} {loc : Nat → Nat × List Value} {st : St} (hs : szA P t = some 1) (hb : st[i]? = some ⟨c1 ++ x :: c2, e, 0⟩) (ho : c1.length = o) (hok : okv v = true) (hc : vc v = #[v]) :
  storeA P t (.pointer (some ⟨i, o, none⟩)) v loc st = some (loc, st.set i ⟨c1 ++ v :: c2, e, 0⟩) := by
 subst ho
 rw [storeA_h]
 have h1 : (#[v] : Array Value).toList = [v] := rfl
 simp only [hok, if_true, hs, hb, hc, List.size_toArray, List.length_singleton, true_and, h1]
 rw [if_pos (by simp)]
 unfold AM.splice
 simp

theorem RowO.frame {st st' : St} {e : TypeId} {xs : List T} {cs : List Value} {L : List Nat} (h : RowO (Own e st) xs cs L) (hs : SameOn L st st') : RowO (Own e st') xs cs L :=
 h.mono fun x _ cx Lx hL he => Own.frame x cx Lx (fun j hj => hs j (hL j hj)) he

/-- The place holds another tree, all else of the row is as it was. -/
theorem SliceO.put {st st' : St} {e : TypeId} {xs ys : List T} {i c j : Nat} {c1 c2 : List Value} {s' : Value} {L1 Lx L2 : List Nat} {k n : Int} {nm : ByteArray} {args : List T} (hj : j < xs.length) (hl1 : ys.length = j)
  (h1 : RowO (Own e st) ys c1 L1) (h2 : RowO (Own e st) (xs.drop (j + 1)) c2 L2) (hb : st'[i]? = some ⟨c1 ++ .int .i64 k :: .int .i64 n :: .string nm :: s' :: c2, e, 0⟩) (hx : SliceO (Own e st') e st' args s' Lx)
  (hs1 : SameOn L1 st st') (hs2 : SameOn L2 st st') : SliceO (Own e st') e st' (ys ++ .mk k n nm args :: xs.drop (j + 1)) (.slice (some ⟨i, 0, none⟩) xs.length c) (i :: (L1 ++ Lx ++ L2)) := by
 refine .inr ⟨i, c, _, L1 ++ Lx ++ L2, ?_, hb, ?_, rfl⟩
 ·have : (ys ++ T.mk k n nm args :: xs.drop (j + 1)).length = xs.length := by simp; omega
  rw [this]
 ·rw [List.append_assoc]
  exact (h1.frame hs1).app (.cons _ _ [_, _, _, _] c2 Lx L2 (Own.close k n nm hx) (h2.frame hs2))

theorem get_set_ne {st : St} {i j : Nat} {b : Blk} (h : j ≠ i) : (st.set i b)[j]? = st[j]? := by rw [List.getElem?_set, if_neg (Ne.symm h)]
theorem get_set_eq {st : St} {i : Nat} {b b0 : Blk} (h : st[i]? = some b0) : (st.set i b)[i]? = some b := by
 have := (List.getElem?_eq_some_iff.1 h).1
 rw [List.getElem?_set]; simp [this]

theorem store_at {P : Program} {t e : TypeId} {i o : Nat} {c1 c2 : List Value} {x : Value} (v : Value) {st : St} (hs : szA P t = some 1) (hb : st[i]? = some ⟨c1 ++ x :: c2, e, 0⟩) (ho : c1.length = o) (hok : okv v = true) (hc : vc v = #[v]) :
  ∃ st1, (∀ loc, storeA P t (.pointer (some ⟨i, o, none⟩)) v loc st = some (loc, st1)) ∧ st1[i]? = some ⟨c1 ++ v :: c2, e, 0⟩ ∧ st1.length = st.length ∧ ∀ j, j ≠ i → st1[j]? = st[j]? :=
 ⟨_, fun _ => store_cell hs hb ho hok hc, get_set_eq hb, by simp, fun j hj => get_set_ne hj⟩


end

section
/- Builders: laws.toTermS, laws.toTerm. -/
open Go Go.Proofs
set_option linter.unusedVariables false
set_option linter.unusedSimpArgs false
set_option maxRecDepth 100000

/-- A term of the program's own, new since n. -/
abbrev OwnT (st : St) (t : T) (cs : List Value) (L : List Nat) : Prop := Own 30 st t cs L


end

section
/- Readers of terms: laws.eqTermS, laws.eqTerm, laws.szTermS, laws.szTerm. -/
open Go Go.Proofs
set_option linter.unusedVariables false
set_option linter.unusedSimpArgs false
set_option maxRecDepth 100000

theorem T.wtL_drop {xs : List T} {j : Nat} {x : T} (h : xs[j]? = some x) : T.wtL (xs.drop j) = x.wt + T.wtL (xs.drop (j + 1)) := by
 have hj := (List.getElem?_eq_some_iff.1 h)
 obtain ⟨hlt, rfl⟩ := hj
 rw [List.drop_eq_getElem_cons hlt]; rfl


end

end Go.Proofs.Ytdijnohbbgbklaa.AM
/- Kinds: numbers, strings, terms, bindings. -/
namespace Go.Proofs.Ytdijnohbbgbklaa.AM
open Go
set_option linter.unusedVariables false
set_option linter.unusedSimpArgs false

instance : Kind Int where
 sz := 1
 e := 3
 enc := fun _ n cs => cs = [.int .i64 n]
 own := fun _ n cs L => cs = [.int .i64 n] ∧ L = []
 enc_len := fun _ _ _ h => by rw [h]; rfl
 enc_ext := fun _ _ _ _ _ h => h
 own_len := fun _ _ _ _ h => by rw [h.1]; rfl
 own_lt := fun _ _ _ _ h => by rw [h.2]; simp
 own_frame := fun _ _ _ _ _ _ h => h
 own_enc := fun _ _ _ _ h => h.1
instance : Marks Int where
 mk1 := fun _ k => (k, k + 1)
 mk1_ge := fun _ k => Nat.le_succ k
instance : Kind ByteArray where
 sz := 1
 e := 9
 enc := fun _ n cs => cs = [.string n]
 own := fun _ n cs L => cs = [.string n] ∧ L = []
 enc_len := fun _ _ _ h => by rw [h]; rfl
 enc_ext := fun _ _ _ _ _ h => h
 own_len := fun _ _ _ _ h => by rw [h.1]; rfl
 own_lt := fun _ _ _ _ h => by rw [h.2]; simp
 own_frame := fun _ _ _ _ _ _ h => h
 own_enc := fun _ _ _ _ h => h.1
instance : Marks ByteArray where
 mk1 := fun _ k => (mtext k, k + 1)
 mk1_ge := fun _ k => Nat.le_succ k
instance : Flat Int where
 flat_own := fun _ _ _ h => And.intro h rfl
instance : Flat ByteArray where
 flat_own := fun _ _ _ h => And.intro h rfl
/-- How much a datum weighs. -/
class Wt (α : Type) where
 wt : α → Nat
def wtL {α : Type} [Wt α] : List α → Nat
 | [] => 0
 | x :: xs => Wt.wt x + wtL xs
theorem wtL_drop {α : Type} [Wt α] {xs : List α} {j : Nat} (hj : j < xs.length) : wtL (xs.drop j) = Wt.wt xs[j] + wtL (xs.drop (j + 1)) := by
 rw [List.drop_eq_getElem_cons hj]; rfl
theorem wt_mem {α : Type} [Wt α] {xs : List α} {x : α} (h : x ∈ xs) : Wt.wt x ≤ wtL xs := by
 induction xs with
 | nil => cases h
 | cons y ys ih =>
  simp only [wtL]
  cases h with
  | head => omega
  | tail _ h => have := ih h; omega
instance : Wt ByteArray := ⟨ByteArray.size⟩
instance : Kind T where
 sz := 4
 e := 30
 enc := Enc
 own := Own 30
 enc_len := fun _ x _ h => by cases x; obtain ⟨s, rfl, _⟩ := h.open; rfl
 enc_ext := fun _ _ x cs hx h => Enc.ext hx x cs h
 own_len := fun _ => Own.len
 own_lt := fun _ => Own.lt
 own_frame := fun _ _ => Own.frame
 own_enc := fun _ => Own.enc
instance : Marks T where
 mk1 := T.mk1
 mk1_ge := fun x k => (T.mk1_ge x k).1
theorem T.eta (x : T) : ∃ k n nm args, x = .mk k n nm args := by cases x; exact ⟨_, _, _, _, rfl⟩
abbrev RowT (st : St) (xs : List T) (s : Value) : Prop := Row (Enc st) 4 st xs s
theorem Own.args_cells {e : TypeId} {st : St} {t : T} {cs : List Value} {L : List Nat} (h : Own e st t cs L) : ∃ k n nm s, cs = [.int .i64 k, .int .i64 n, .string nm, s] ∧ okv s = true ∧ isLoc s = false ∧ vc s = #[s] := by
 obtain ⟨k, n, nm, args⟩ := t
 obtain ⟨s, rfl, hs⟩ := h.open
 exact ⟨k, n, nm, s, rfl, hs.okv, hs.loc, hs.cells⟩
instance : Wt T := ⟨T.wt⟩
end Go.Proofs.Ytdijnohbbgbklaa.AM


namespace Go.Proofs.Ytdijnohbbgbklaa.AM
open Go
attribute [local go_sem] List.map_cons List.map_nil List.all_cons List.all_nil Bool.and_self Option.map_some List.getElem?_toArray Option.bind_some gye_b gye_t gsk_b gsk_t gb1 gb2 gb3 gb4 bne_self_eq_false beq_self_eq_true w_guard w_nil stepV_some step_some step_some' w_move w_assign w_pick w_binOp w_unOp w_load w_fieldAddr w_indexAddr w_len w_max w_index ev_max max_int ev_index w_box w_alloc w_store w_field w_extract w_nilCheck w_convert w_buildSlice w_build ev_buildL fillL_nil fillL_cons bs0 bs1 ev_conv ev_bin ev_un ev_pick ev_load ev_fieldAddr ev_indexAddr ev_len ev_field ev_extract ev_nilCheck fr_tmp fr_int fr_bool fr_str fr_nil fr_func put_some put_none bin_lss bin_leq bin_gtr bin_geq bin_eql bin_neq bin_add bin_sub bin_mul bin_seql bin_sneq un_not pick_ ext_ loadA_p cellAt_l cellAt_h okPtr_l okPtr_h fadA_p allocA_l storeA_l cells_agg cells_int cells_str cells_sl cells_bool flat_i flat_s flat_b flat_sl flat_nil loc_agg loc_int loc_str loc_sl loc_bool loc_fn loc_ptr okv_agg okv_int okv_str okv_sl okv_bool cellsFrom splice upd_eval argEnv_zero argEnv_succ ne_eq Nat.add_one_ne_zero not_false_eq_true List.not_mem_nil and_self decide_true List.getElem?_cons_zero List.getElem?_cons_succ List.size_toArray List.length_cons List.length_nil List.take_succ_cons List.take_zero List.drop_succ_cons List.drop_zero List.cons_append List.nil_append List.drop_nil Bool.not_true Bool.not_false Bool.false_eq_true Nat.zero_add Nat.add_zero wrap_in List.toList_toArray List.mem_cons or_self or_false false_or
attribute [local go_sem] ag103 ag22 ag24 ag25 ag27 ag28 ag3 ag30 ag37 ag5 ag54 ag9 bu27 bu30 bu37 bu54 bu67 by30 by37 by54 by9 el22 el24 el25 el28 el33 el52 of27_0 of27_1 of30_0 of30_1 of30_2 of30_3 of37_0 of37_1 of54_0 of54_1 of54_2 of67_0 of67_1 of67_2 ro3_3 ro3_4 ro30_0 ro30_1 ro30_2 ro37_0 ro37_1 ro37_4 ro54_1 ro54_7 ro9_0 ro9_1 ro9_2 ro9_3 ro9_4 ro9_5 sz103 sz22 sz24 sz25 sz27 sz28 sz3 sz30 sz37 sz5 sz54 sz9 ze103 ze27 ze3 ze30 ze37 ze54 ze9
section
/- Rows of bytes; the cursor of a draw: spec.l1New, l1Byte, l1Below, l1Once. -/
open Go Go.Proofs
set_option linter.unusedVariables false
set_option linter.unusedSimpArgs false
set_option maxRecDepth 100000
-- AUTO

/-- A byte of a row. -/
structure Byt where
 v : Int
def EncY (st : St) (b : Byt) (cs : List Value) : Prop := cs = [.int .u8 b.v]
abbrev RowY (st : St) (xs : List Byt) (s : Value) : Prop := Row (EncY st) 1 st xs s
theorem RowY.ext {st st' : St} {xs : List Byt} {s : Value} (h : RowY st xs s) (hx : Ext st st') : RowY st' xs s := Row.mono h hx fun _ _ _ he => he
theorem row_atY {st : St} {xs : List Byt} {s : Value} (h : RowY st xs s) {j : Nat} (hj : j < xs.length) : ∃ i o c, s = .slice (some ⟨i, o, none⟩) xs.length c ∧ cell st i (o + j * 1) = some (.int .u8 xs[j].v) := by
 obtain ⟨i, o, c, cs, rfl, _, hE, hc⟩ := row_at h (List.getElem?_eq_getElem hj)
 have : cs = [.int .u8 xs[j].v] := hE
 subst this
 exact ⟨i, o, c, rfl, hc 0 _ rfl⟩

def andI (a b : Int) : Int := IntKind.i64.wrap (BitVec.ofInt IntKind.i64.bits a &&& BitVec.ofInt IntKind.i64.bits b).toNat
def xorI (a b : Int) : Int := IntKind.i64.wrap (BitVec.ofInt IntKind.i64.bits a ^^^ BitVec.ofInt IntKind.i64.bits b).toNat
section
variable {P : Program} {t : TypeId} {x y : Operand}
theorem bin_and {a b : Int} : binE P .and t x y (.int .i64 a) (.int .i64 b) = some (.int .i64 (andI a b)) := rfl
theorem bin_xor {a b : Int} : binE P .xor t x y (.int .i64 a) (.int .i64 b) = some (.int .i64 (xorI a b)) := rfl
theorem bin_shr33 {a : Int} : binE P .shr t x y (.int .i64 a) (.int .u64 33) = some (.int .i64 (a.fdiv (2 ^ 33))) := rfl
theorem bin_shr45 {a : Int} : binE P .shr t x y (.int .i64 a) (.int .u64 45) = some (.int .i64 (a.fdiv (2 ^ 45))) := rfl
end
theorem and255 (a : Int) : 0 ≤ andI a 255 ∧ andI a 255 ≤ 255 := by
 have h : (BitVec.ofInt IntKind.i64.bits a &&& BitVec.ofInt IntKind.i64.bits 255).toNat ≤ 255 := by
  rw [BitVec.toNat_and]
  exact Nat.le_trans Nat.and_le_right (by decide)
 unfold andI
 generalize (BitVec.ofInt IntKind.i64.bits a &&& BitVec.ofInt IntKind.i64.bits 255).toNat = n at h
 rw [wrap_in (by omega) (by omega)]
 omega

/-- The cursor lies in block q; it goes over the row sb. -/
def Cur (st : St) (q : Nat) (xs : List Byt) : Prop := ∃ sb i h, st[q]? = some ⟨[sb, .int .i64 i, .int .i64 h], 67, 0⟩ ∧ RowY st xs sb ∧ (xs = [] ∨ ∃ b, topId sb = some b ∧ b < q) ∧ 0 ≤ i ∧ i ≤ xs.length ∧ xs.length ≤ 4611686018427387904
theorem far {xs : List Byt} {sb : Value} {q k : Nat} (h : xs = [] ∨ ∃ b, topId sb = some b ∧ b < q) (hk : q ≤ k) : xs = [] ∨ topId sb ≠ some k := h.imp id fun ⟨b, h1, h2⟩ e => by
 rw [h1] at e; cases e; omega
/-- What a draw leaves: the cursor alone has turned; what is new is new. -/
structure Drawn (q : Nat) (xs : List Byt) (st st' : St) : Prop where
 cur : Cur st' q xs
 away : Away (some q) st st'
theorem Away.refl (k : Option Nat) (st : St) : Away k st st := ⟨Nat.le_refl _, fun _ _ _ => rfl⟩
theorem Away.same {k : Option Nat} {a b c : St} (h : Away k a b) (g : Away k b c) : Away k a c := h.trans g (.inl rfl)
theorem Drawn.refl {q : Nat} {xs : List Byt} {st : St} (h : Cur st q xs) : Drawn q xs st st := ⟨h, .refl _ _⟩
theorem Drawn.trans {q : Nat} {xs : List Byt} {a b c : St} (h : Drawn q xs a b) (g : Drawn q xs b c) : Drawn q xs a c := ⟨g.cur, h.away.same g.away⟩
theorem row_away {st st' : St} {xs : List Byt} {s : Value} {q : Nat} (h : RowY st xs s) (ha : Away (some q) st st') (hn : xs = [] ∨ topId s ≠ some q) : RowY st' xs s := by
 rcases h with h | ⟨i, o, c, rfl, h⟩
 ·exact .inl h
 ·refine .inr ⟨i, o, c, rfl, fun j x hx => ?_⟩
  obtain ⟨cs, h1, h2, h3⟩ := h j x hx
  refine ⟨cs, h1, h2, fun k v hv => ?_⟩
  have h4 := h3 k v hv
  rcases hn with rfl | hn
  ·simp at hx
  have hi : i < st.length := by
   unfold cell at h4
   rcases Nat.lt_or_ge i st.length with h5 | h5
   ·exact h5
   ·rw [List.getElem?_eq_none h5] at h4; cases h4
  have h5 := ha.2 i hi (fun e => hn e.symm)
  unfold cell at h4 ⊢
  rw [h5]; exact h4
theorem Cur.ext {st st' : St} {q : Nat} {xs : List Byt} (h : Cur st q xs) (hx : Ext st st') : Cur st' q xs := by
 obtain ⟨sb, i, h, h1, h2, h3⟩ := h
 exact ⟨sb, i, h, hx q _ h1, h2.ext hx, h3⟩
section
variable {st : St} {q : Nat} {a b c : Value}
theorem cur_cell0 {st : St} {q : Nat} {a b c : Value} {t : TypeId} (h : st[q]? = some ⟨[a, b, c], t, 0⟩) : cell st q 0 = some a := by simp [cell, h]
theorem cur_cell1 {st : St} {q : Nat} {a b c : Value} {t : TypeId} (h : st[q]? = some ⟨[a, b, c], t, 0⟩) : cell st q 1 = some b := by simp [cell, h]
theorem cur_cell2 {st : St} {q : Nat} {a b c : Value} {t : TypeId} (h : st[q]? = some ⟨[a, b, c], t, 0⟩) : cell st q 2 = some c := by simp [cell, h]
theorem cur_set1 {st : St} {q : Nat} {a b c : Value} {t : TypeId} (h : st[q]? = some ⟨[a, b, c], t, 0⟩) (loc : Nat → Nat × List Value) (v : Int) : storeA Try.prog 3 (.pointer (some ⟨q, 1, none⟩)) (.int .i64 v) loc st = some (loc, st.set q ⟨[a, .int .i64 v, c], t, 0⟩) := by
 rw [storeA_h, sz3]
 simp [h, okv_int, cells_int, splice]
theorem cur_set2 {st : St} {q : Nat} {a b c : Value} {t : TypeId} (h : st[q]? = some ⟨[a, b, c], t, 0⟩) (loc : Nat → Nat × List Value) (v : Int) : storeA Try.prog 3 (.pointer (some ⟨q, 2, none⟩)) (.int .i64 v) loc st = some (loc, st.set q ⟨[a, b, .int .i64 v], t, 0⟩) := by
 rw [storeA_h, sz3]
 simp [h, okv_int, cells_int, splice]
end
/-- The cursor stays where a block beyond it has turned. -/
theorem Cur.far {st st' : St} {q k : Nat} {xs : List Byt} (h : Cur st q xs) (ha : Away (some k) st st') (hk : q < k) : Cur st' q xs := by
 obtain ⟨sb, i, h, h1, h2, h3, h4⟩ := h
 have hq := (List.getElem?_eq_some_iff.1 h1).1
 exact ⟨sb, i, h, by rw [ha.2 q hq (fun e => by cases e; omega)]; exact h1, row_away h2 ha (AM.far h3 (by omega)), h3, h4⟩
theorem set_at {st : St} {q : Nat} {b b' : Blk} (h : st[q]? = some b) : (st.set q b')[q]? = some b' := List.getElem?_set_self (List.getElem?_eq_some_iff.1 h).1
theorem set_away {st : St} {q : Nat} {b' : Blk} : Away (some q) st (st.set q b') := ⟨by simp, fun i _ hi => List.getElem?_set_ne (fun e => hi (by rw [e]))⟩

theorem Row.cells1 {α : Type} {E : α → List Value → Prop} {sz : Nat} {st : St} {xs : List α} {s : Value} (h : Row E sz st xs s) : vc s = #[s] := by
 rcases h with ⟨h | h, _⟩ | ⟨i, o, c, rfl, _⟩
 ·subst h; rfl
 ·subst h; rfl
 ·rfl
theorem l1New_ok (xs : List Byt) (st : St) (s : Value) (hbig : xs.length ≤ 4611686018427387904) (hr : RowY st xs s) :
  CallS Try.prog 15 [s] st fun r st2 => r = .pointer (some ⟨st.length, 0, none⟩) ∧ Ext st st2 ∧ Cur st2 st.length xs := by
 refine CallS_of_W [31] 32 Try.func15 rfl rfl rfl rfl (by simp) ?_
 have q1 := hr.notLoc.1
 have q2 := hr.notLoc.2
 have q3 := Row.cells1 hr
 have hlen : lenE Try.prog 22 s = some (.int .i64 xs.length) := row_len hr Try.underlying22
 have hcv := fun n => cvI_int (P := Try.prog) (k := .u8) (k' := .i64) (n := n) Try.underlying5 Try.underlying3
 repeat (first | with_reducible (first | refine thenI ?_ | refine thenE ?_ | refine thenR ?_ | refine inBI ?_ | refine inBR ?_ | refine inBS ?_ | refine inBN (by decide) ?_) | refine W_seqS ?_ | refine W_seqC ?_ | refine W_seqB ?_ | refine W_block ?_ | refine W_skip ?_ | (apply W_condB; (case hc => (simp (disch := omega) only [go_sem, ↓reduceIte, Nat.reduceEqDiff, q1, hlen, hcv, bin_and]); rfl); first | refine qzT ?_ | refine qzF ?_) | ((first | refine W_reg rfl fun G K hG hK => ?_ | refine W_end rfl fun G K hG hK => ?_); simp (disch := omega) only [go_sem, ↓reduceIte, Nat.reduceEqDiff, hG, q1, hlen, hcv, bin_and]; refine hK _ _ ?_; clear hK K hG G))
 refine W_loop (fun d fr st' => ∃ (j : Nat) (h : Int), d = xs.length - j ∧ j ≤ xs.length ∧ (st = st') ∧ (fr.env 0 = s) ∧ (fr.env 3 = .int .i64 h) ∧ (fr.env 4 = .int .i64 j)) (xs.length) ?_ ?_
 ·exact ⟨0, _, by omega, by omega, rfl, (by refine ⟨?_, ?_, ?_⟩ <;> ((simp (disch := omega) only [go_sem, ↓reduceIte, Nat.reduceEqDiff, q1, hlen, hcv, bin_and]); try rfl))⟩
 rintro d ⟨env, loc⟩ st' ⟨j, h, hd, hj, hst, e0, e3, e4⟩
 simp only at e0 e3 e4
 subst hst
 have hne : xs = [] ∨ ∃ b, topId s = some b ∧ b < st.length := by
  rcases Nat.eq_zero_or_pos xs.length with h0 | h0
  ·exact .inl (List.eq_nil_of_length_eq_zero h0)
  ·obtain ⟨i, o, c, rfl, hce⟩ := row_atY hr h0
   refine .inr ⟨i, rfl, ?_⟩
   unfold cell at hce
   rcases Nat.lt_or_ge i st.length with h5 | h5
   ·exact h5
   ·rw [List.getElem?_eq_none h5] at hce; cases hce
 have hal : ∀ (z : List Value) (t : TypeId) (loc : Nat → Nat × List Value) (st : St), allocA [31] 31 z t loc st = (.pointer (some ⟨st.length, 0, none⟩), loc, st ++ [⟨z, t, 0⟩]) := fun _ _ _ _ => rfl
 have hfin : ∀ h : Int, Cur (st ++ [⟨[s, .int .i64 0, .int .i64 h], 67, 0⟩]) st.length xs := fun h => ⟨s, 0, h, by simp, hr.ext (Ext.app _ _), hne, by omega, by omega, hbig⟩
 by_cases hlt : j < xs.length
 ·have c1 : decide ((j : Int) < (xs.length : Int)) = true := by simpa using hlt
  have hi := idxOk hlt
  have hx : xs[j]? = some xs[j] := List.getElem?_eq_getElem hlt
  have htk : xs.take (j + 1) = xs.take j ++ [xs[j]] := List.take_succ_eq_append_getElem hlt
  cases hc4 : decide ((j : Int) < 4000) with
  | false =>
   repeat (first | with_reducible (first | refine thenI ?_ | refine thenE ?_ | refine thenR ?_ | refine inBI ?_ | refine inBR ?_ | refine inBS ?_ | refine inBN (by decide) ?_) | refine W_seqS ?_ | refine W_seqC ?_ | refine W_seqB ?_ | refine W_block ?_ | refine W_skip ?_ | (apply W_condB; (case hc => (simp (disch := omega) only [go_sem, ↓reduceIte, Nat.reduceEqDiff, q1, hlen, hcv, bin_and, e0, e3, e4, hal, q2, q3, c1, hi, idxA, Int.toNat_natCast, hc4]); rfl); first | refine qzT ?_ | refine qzF ?_) | ((first | refine W_reg rfl fun G K hG hK => ?_ | refine W_end rfl fun G K hG hK => ?_); simp (disch := omega) only [go_sem, ↓reduceIte, Nat.reduceEqDiff, hG, q1, hlen, hcv, bin_and, e0, e3, e4, hal, q2, q3, c1, hi, idxA, Int.toNat_natCast, hc4]; refine hK _ _ ?_; clear hK K hG G))
   refine W_exit ?_; repeat (with_reducible first | refine thenI ?_ | refine thenE ?_ | refine thenR ?_ | refine inBI ?_ | refine inBR ?_ | refine inBS ?_ | refine inBN (by decide) ?_)
   repeat (first | with_reducible (first | refine thenI ?_ | refine thenE ?_ | refine thenR ?_ | refine inBI ?_ | refine inBR ?_ | refine inBS ?_ | refine inBN (by decide) ?_) | refine W_seqS ?_ | refine W_seqC ?_ | refine W_seqB ?_ | refine W_block ?_ | refine W_skip ?_ | (apply W_condB; (case hc => (simp (disch := omega) only [go_sem, ↓reduceIte, Nat.reduceEqDiff, q1, hlen, hcv, bin_and, e0, e3, e4, hal, q2, q3, c1, hi, idxA, Int.toNat_natCast]); rfl); first | refine qzT ?_ | refine qzF ?_) | ((first | refine W_reg rfl fun G K hG hK => ?_ | refine W_end rfl fun G K hG hK => ?_); simp (disch := omega) only [go_sem, ↓reduceIte, Nat.reduceEqDiff, hG, q1, hlen, hcv, bin_and, e0, e3, e4, hal, q2, q3, c1, hi, idxA, Int.toNat_natCast]; refine hK _ _ ?_; clear hK K hG G))
   refine W_ret ?_; try (repeat (with_reducible first | refine thenI ?_ | refine thenE ?_ | refine thenR ?_ | refine inBI ?_ | refine inBR ?_ | refine inBS ?_ | refine inBN (by decide) ?_))
   refine fin1 (.inl rfl) (by (simp (disch := omega) only [go_sem, ↓reduceIte, Nat.reduceEqDiff, q1, hlen, hcv, bin_and, e0, e3, e4, hal, q2, q3, c1, hi, idxA, Int.toNat_natCast]); try rfl) rfl ⟨rfl, Ext.app _ _, hfin h⟩
  | true =>
   obtain ⟨i, o, c, rfl, hce⟩ := row_atY hr hlt
   repeat (first | with_reducible (first | refine thenI ?_ | refine thenE ?_ | refine thenR ?_ | refine inBI ?_ | refine inBR ?_ | refine inBS ?_ | refine inBN (by decide) ?_) | refine W_seqS ?_ | refine W_seqC ?_ | refine W_seqB ?_ | refine W_block ?_ | refine W_skip ?_ | (apply W_condB; (case hc => (simp (disch := omega) only [go_sem, ↓reduceIte, Nat.reduceEqDiff, q1, hlen, hcv, bin_and, e0, e3, e4, hal, q2, q3, c1, hi, idxA, Int.toNat_natCast, hc4, hce]); rfl); first | refine qzT ?_ | refine qzF ?_) | ((first | refine W_reg rfl fun G K hG hK => ?_ | refine W_end rfl fun G K hG hK => ?_); simp (disch := omega) only [go_sem, ↓reduceIte, Nat.reduceEqDiff, hG, q1, hlen, hcv, bin_and, e0, e3, e4, hal, q2, q3, c1, hi, idxA, Int.toNat_natCast, hc4, hce]; refine hK _ _ ?_; clear hK K hG G))
   refine ⟨xs.length - (j + 1), by omega, j + 1, _, rfl, by omega, rfl, (by refine ⟨?_, ?_, ?_⟩ <;> ((simp (disch := omega) only [go_sem, ↓reduceIte, Nat.reduceEqDiff, q1, hlen, hcv, bin_and, e0, e3, e4, hal, q2, q3, c1, hi, idxA, Int.toNat_natCast]); try rfl))⟩
 ·have c1 : decide ((j : Int) < (xs.length : Int)) = false := by simpa using hlt
  have hjn : j = xs.length := by omega
  subst hjn
  repeat (first | with_reducible (first | refine thenI ?_ | refine thenE ?_ | refine thenR ?_ | refine inBI ?_ | refine inBR ?_ | refine inBS ?_ | refine inBN (by decide) ?_) | refine W_seqS ?_ | refine W_seqC ?_ | refine W_seqB ?_ | refine W_block ?_ | refine W_skip ?_ | (apply W_condB; (case hc => (simp (disch := omega) only [go_sem, ↓reduceIte, Nat.reduceEqDiff, q1, hlen, hcv, bin_and, e0, e3, e4, c1, hal, q2, q3]); rfl); first | refine qzT ?_ | refine qzF ?_) | ((first | refine W_reg rfl fun G K hG hK => ?_ | refine W_end rfl fun G K hG hK => ?_); simp (disch := omega) only [go_sem, ↓reduceIte, Nat.reduceEqDiff, hG, q1, hlen, hcv, bin_and, e0, e3, e4, c1, hal, q2, q3]; refine hK _ _ ?_; clear hK K hG G))
  refine W_exit ?_; repeat (with_reducible first | refine thenI ?_ | refine thenE ?_ | refine thenR ?_ | refine inBI ?_ | refine inBR ?_ | refine inBS ?_ | refine inBN (by decide) ?_)
  repeat (first | with_reducible (first | refine thenI ?_ | refine thenE ?_ | refine thenR ?_ | refine inBI ?_ | refine inBR ?_ | refine inBS ?_ | refine inBN (by decide) ?_) | refine W_seqS ?_ | refine W_seqC ?_ | refine W_seqB ?_ | refine W_block ?_ | refine W_skip ?_ | (apply W_condB; (case hc => (simp (disch := omega) only [go_sem, ↓reduceIte, Nat.reduceEqDiff, q1, hlen, hcv, bin_and, e0, e3, e4, c1, hal, q2, q3]); rfl); first | refine qzT ?_ | refine qzF ?_) | ((first | refine W_reg rfl fun G K hG hK => ?_ | refine W_end rfl fun G K hG hK => ?_); simp (disch := omega) only [go_sem, ↓reduceIte, Nat.reduceEqDiff, hG, q1, hlen, hcv, bin_and, e0, e3, e4, c1, hal, q2, q3]; refine hK _ _ ?_; clear hK K hG G))
  refine W_ret ?_; try (repeat (with_reducible first | refine thenI ?_ | refine thenE ?_ | refine thenR ?_ | refine inBI ?_ | refine inBR ?_ | refine inBS ?_ | refine inBN (by decide) ?_))
  refine fin1 (.inl rfl) (by (simp (disch := omega) only [go_sem, ↓reduceIte, Nat.reduceEqDiff, q1, hlen, hcv, bin_and, e0, e3, e4, c1, hal, q2, q3]); try rfl) rfl ⟨rfl, Ext.app _ _, hfin h⟩

theorem l1Byte_ok (q : Nat) (xs : List Byt) (st : St) (hq : Cur st q xs) :
  CallS Try.prog 55 [.pointer (some ⟨q, 0, none⟩)] st fun r st2 => (∃ x : Int, r = .int .i64 x ∧ 0 ≤ x ∧ x ≤ 255) ∧ Drawn q xs st st2 ∧ st2.length = st.length := by
 refine CallS_of_W [] 58 Try.func55 rfl rfl rfl rfl (by simp) ?_
 obtain ⟨sb, i, h, h1, hr, hne, hi0, hi1, hbig⟩ := hq
 obtain ⟨n, rfl⟩ : ∃ n : Nat, i = n := ⟨i.toNat, by omega⟩
 have hlen : lenE Try.prog 22 sb = some (.int .i64 xs.length) := row_len hr Try.underlying22
 have q1 := hr.notLoc.1
 have q2 := hr.notLoc.2
 have hcv := fun n => cvI_int (P := Try.prog) (k := .u8) (k' := .i64) (n := n) Try.underlying5 Try.underlying3
 have c2 := cur_cell2 h1
 have s2 := cur_set2 h1
 repeat (first | with_reducible (first | refine thenI ?_ | refine thenE ?_ | refine thenR ?_ | refine inBI ?_ | refine inBR ?_ | refine inBS ?_ | refine inBN (by decide) ?_) | refine W_seqS ?_ | refine W_seqC ?_ | refine W_seqB ?_ | refine W_block ?_ | refine W_skip ?_ | (apply W_condB; (case hc => (simp (disch := omega) only [go_sem, ↓reduceIte, Nat.reduceEqDiff, q1, q2, hlen, hcv, bin_and, bin_xor, bin_shr33, bin_shr45, nc_h, okPtr_h, cellAt_h, c2, s2]); rfl); first | refine qzT ?_ | refine qzF ?_) | ((first | refine W_reg rfl fun G K hG hK => ?_ | refine W_end rfl fun G K hG hK => ?_); simp (disch := omega) only [go_sem, ↓reduceIte, Nat.reduceEqDiff, hG, q1, q2, hlen, hcv, bin_and, bin_xor, bin_shr33, bin_shr45, nc_h, okPtr_h, cellAt_h, c2, s2]; refine hK _ _ ?_; clear hK K hG G))
 obtain ⟨h2, hh2⟩ : ∃ h2, h2 = IntKind.i64.wrap (IntKind.i64.wrap (h * 6364136223846793005) + 1442695040888963407) := ⟨_, rfl⟩
 rw [← hh2]
 have g1 := set_at (b' := ⟨[sb, .int .i64 (n : Int), .int .i64 h2], 67, 0⟩) h1
 have ha := set_away (st := st) (q := q) (b' := ⟨[sb, .int .i64 (n : Int), .int .i64 h2], 67, 0⟩)
 have hl2 : (st.set q ⟨[sb, .int .i64 (n : Int), .int .i64 h2], 67, 0⟩).length = st.length := by simp
 generalize st.set q ⟨[sb, .int .i64 (n : Int), .int .i64 h2], 67, 0⟩ = st1 at g1 ha hl2 ⊢
 have hr1 := row_away hr ha (far hne (Nat.le_refl q))
 have d0 := cur_cell0 g1
 have d1 := cur_cell1 g1
 have d2 := cur_cell2 g1
 (repeat (first | refine W_seqS ?_ | refine W_seqC ?_ | refine W_seqB ?_ | refine W_block ?_)); refine W_regD mixed [] [(0,false),(1,false),(2,false),(3,false),(4,false),(5,false),(6,false),(7,false),(8,false),(9,false),(10,false),(11,false),(12,false)] rfl (by decide +kernel) fun G K hG hK => ?_; simp only [pickOps, List.filterMap_cons, List.filterMap_nil, List.getElem?_cons_zero, List.getElem?_cons_succ, Option.map_some]; simp (disch := omega) only [go_sem, ↓reduceIte, Nat.reduceEqDiff, hG, q1, q2, hlen, hcv, bin_and, bin_xor, bin_shr33, bin_shr45, nc_h, okPtr_h, cellAt_h, d0, d1, d2]
 refine hK _ _ ?_; clear hK K hG G; repeat (with_reducible first | refine thenI ?_ | refine thenE ?_ | refine thenR ?_ | refine inBI ?_ | refine inBR ?_ | refine inBS ?_ | refine inBN (by decide) ?_)
 by_cases hlt : n < xs.length
 ·have c1 : decide ((n : Int) < (xs.length : Int)) = true := by simpa using hlt
  have hi := idxOk hlt
  obtain ⟨ib, ob, cb, rfl, hce⟩ := row_atY hr1 hlt
  have s1 := cur_set1 g1
  (repeat (first | refine W_seqS ?_ | refine W_seqC ?_ | refine W_seqB ?_ | refine W_block ?_)); refine W_regD mixed [] [(0,false),(1,false),(2,false),(3,false),(4,false),(5,false),(6,false),(7,false),(8,false),(9,false)] rfl (by decide +kernel) fun G K hG hK => ?_; simp only [pickOps, List.filterMap_cons, List.filterMap_nil, List.getElem?_cons_zero, List.getElem?_cons_succ, Option.map_some]; simp (disch := omega) only [go_sem, ↓reduceIte, Nat.reduceEqDiff, hG, q1, q2, hlen, hcv, bin_and, bin_xor, bin_shr33, bin_shr45, nc_h, okPtr_h, cellAt_h, d0, d1, d2, c1]
  refine hK _ _ ?_; clear hK K hG G; repeat (with_reducible first | refine thenI ?_ | refine thenE ?_ | refine thenR ?_ | refine inBI ?_ | refine inBR ?_ | refine inBS ?_ | refine inBN (by decide) ?_)
  repeat (first | with_reducible (first | refine thenI ?_ | refine thenE ?_ | refine thenR ?_ | refine inBI ?_ | refine inBR ?_ | refine inBS ?_ | refine inBN (by decide) ?_) | refine W_seqS ?_ | refine W_seqC ?_ | refine W_seqB ?_ | refine W_block ?_ | refine W_skip ?_ | (apply W_condB; (case hc => (simp (disch := omega) only [go_sem, ↓reduceIte, Nat.reduceEqDiff, q1, q2, hlen, hcv, bin_and, bin_xor, bin_shr33, bin_shr45, nc_h, okPtr_h, cellAt_h, d0, d1, d2, c1]); rfl); first | refine qzT ?_ | refine qzF ?_) | ((first | refine W_reg rfl fun G K hG hK => ?_ | refine W_end rfl fun G K hG hK => ?_); simp (disch := omega) only [go_sem, ↓reduceIte, Nat.reduceEqDiff, hG, q1, q2, hlen, hcv, bin_and, bin_xor, bin_shr33, bin_shr45, nc_h, okPtr_h, cellAt_h, d0, d1, d2, c1]; refine hK _ _ ?_; clear hK K hG G))
  (repeat (first | refine W_seqS ?_ | refine W_seqC ?_ | refine W_seqB ?_ | refine W_block ?_)); refine W_regD mixed [] [(0,false),(1,false),(2,false),(3,false),(4,false),(5,false),(6,false),(7,false),(8,false),(9,false),(10,false),(11,false),(12,false),(13,false),(14,false)] rfl (by decide +kernel) fun G K hG hK => ?_; simp only [pickOps, List.filterMap_cons, List.filterMap_nil, List.getElem?_cons_zero, List.getElem?_cons_succ, Option.map_some]; simp (disch := omega) only [go_sem, ↓reduceIte, Nat.reduceEqDiff, hG, q1, q2, hlen, hcv, bin_and, bin_xor, bin_shr33, bin_shr45, nc_h, okPtr_h, cellAt_h, d0, d1, d2, hi, idxA, Int.toNat_natCast, hce]
  refine hK _ _ ?_; clear hK K hG G; repeat (with_reducible first | refine thenI ?_ | refine thenE ?_ | refine thenR ?_ | refine inBI ?_ | refine inBR ?_ | refine inBS ?_ | refine inBN (by decide) ?_)
  repeat (first | with_reducible (first | refine thenI ?_ | refine thenE ?_ | refine thenR ?_ | refine inBI ?_ | refine inBR ?_ | refine inBS ?_ | refine inBN (by decide) ?_) | refine W_seqS ?_ | refine W_seqC ?_ | refine W_seqB ?_ | refine W_block ?_ | refine W_skip ?_ | (apply W_condB; (case hc => (simp (disch := omega) only [go_sem, ↓reduceIte, Nat.reduceEqDiff, q1, q2, hlen, hcv, bin_and, bin_xor, bin_shr33, bin_shr45, nc_h, okPtr_h, cellAt_h, d0, d1, d2, s1]); rfl); first | refine qzT ?_ | refine qzF ?_) | ((first | refine W_reg rfl fun G K hG hK => ?_ | refine W_end rfl fun G K hG hK => ?_); simp (disch := omega) only [go_sem, ↓reduceIte, Nat.reduceEqDiff, hG, q1, q2, hlen, hcv, bin_and, bin_xor, bin_shr33, bin_shr45, nc_h, okPtr_h, cellAt_h, d0, d1, d2, s1]; refine hK _ _ ?_; clear hK K hG G))
  refine W_ret ?_; try (repeat (with_reducible first | refine thenI ?_ | refine thenE ?_ | refine thenR ?_ | refine inBI ?_ | refine inBR ?_ | refine inBS ?_ | refine inBN (by decide) ?_))
  refine fin1 (.inl rfl) (by (simp (disch := omega) only [go_sem, ↓reduceIte, Nat.reduceEqDiff, q1, q2, hlen, hcv, bin_and, bin_xor, bin_shr33, bin_shr45, nc_h, okPtr_h, cellAt_h, d0, d1, d2]); try rfl) rfl ⟨⟨_, rfl, and255 _⟩, ⟨⟨_, (n : Int) + 1, h2, set_at g1, row_away hr1 set_away (far hne (Nat.le_refl q)), hne, by omega, by omega, hbig⟩, ha.same set_away⟩, by rw [List.length_set, hl2]⟩
 ·have c1 : decide ((n : Int) < (xs.length : Int)) = false := by simpa using hlt
  (repeat (first | refine W_seqS ?_ | refine W_seqC ?_ | refine W_seqB ?_ | refine W_block ?_)); refine W_regD mixed [] [(0,false),(1,false),(2,false),(3,false),(4,false),(5,false),(6,false),(7,false),(8,false),(9,false)] rfl (by decide +kernel) fun G K hG hK => ?_; simp only [pickOps, List.filterMap_cons, List.filterMap_nil, List.getElem?_cons_zero, List.getElem?_cons_succ, Option.map_some]; simp (disch := omega) only [go_sem, ↓reduceIte, Nat.reduceEqDiff, hG, q1, q2, hlen, hcv, bin_and, bin_xor, bin_shr33, bin_shr45, nc_h, okPtr_h, cellAt_h, d0, d1, d2, c1]
  refine hK _ _ ?_; clear hK K hG G; repeat (with_reducible first | refine thenI ?_ | refine thenE ?_ | refine thenR ?_ | refine inBI ?_ | refine inBR ?_ | refine inBS ?_ | refine inBN (by decide) ?_)
  repeat (first | with_reducible (first | refine thenI ?_ | refine thenE ?_ | refine thenR ?_ | refine inBI ?_ | refine inBR ?_ | refine inBS ?_ | refine inBN (by decide) ?_) | refine W_seqS ?_ | refine W_seqC ?_ | refine W_seqB ?_ | refine W_block ?_ | refine W_skip ?_ | (apply W_condB; (case hc => (simp (disch := omega) only [go_sem, ↓reduceIte, Nat.reduceEqDiff, q1, q2, hlen, hcv, bin_and, bin_xor, bin_shr33, bin_shr45, nc_h, okPtr_h, cellAt_h, d0, d1, d2, c1]); rfl); first | refine qzT ?_ | refine qzF ?_) | ((first | refine W_reg rfl fun G K hG hK => ?_ | refine W_end rfl fun G K hG hK => ?_); simp (disch := omega) only [go_sem, ↓reduceIte, Nat.reduceEqDiff, hG, q1, q2, hlen, hcv, bin_and, bin_xor, bin_shr33, bin_shr45, nc_h, okPtr_h, cellAt_h, d0, d1, d2, c1]; refine hK _ _ ?_; clear hK K hG G))
  refine W_ret ?_; try (repeat (with_reducible first | refine thenI ?_ | refine thenE ?_ | refine thenR ?_ | refine inBI ?_ | refine inBR ?_ | refine inBS ?_ | refine inBN (by decide) ?_))
  refine fin1 (.inl rfl) (by (simp (disch := omega) only [go_sem, ↓reduceIte, Nat.reduceEqDiff, q1, q2, hlen, hcv, bin_and, bin_xor, bin_shr33, bin_shr45, nc_h, okPtr_h, cellAt_h, d0, d1, d2]); try rfl) rfl ⟨⟨_, rfl, and255 _⟩, ⟨⟨_, (n : Int), h2, g1, hr1, hne, by omega, by omega, hbig⟩, ha⟩, hl2⟩
/-- A number drawn below n. -/
theorem l1Below_ok (q : Nat) (xs : List Byt) (st : St) (n : Int) (hn0 : 0 < n) (hn1 : n ≤ 256) (hq : Cur st q xs) :
  CallS Try.prog 40 [.pointer (some ⟨q, 0, none⟩), .int .i64 n] st fun r st2 => (∃ x : Int, r = .int .i64 x ∧ 0 ≤ x ∧ x < n) ∧ Drawn q xs st st2 ∧ st2.length = st.length := by
 refine CallS_of_W [] 37 Try.func40 rfl rfl rfl rfl (by simp) ?_
 have c1 : decide (n ≤ 0) = false := by simp; omega
 have c2 : decide (n ≤ 256) = true := by simp; omega
 have hrem : ∀ (t : TypeId) (x y : Operand) (a : Int), binE Try.prog .rem t x y (.int .i64 a) (.int .i64 n) = some (.int .i64 (a.tmod n)) := fun t x y a => bin_rem (by omega)
 repeat (first | with_reducible (first | refine thenI ?_ | refine thenE ?_ | refine thenR ?_ | refine inBI ?_ | refine inBR ?_ | refine inBS ?_ | refine inBN (by decide) ?_) | refine W_seqS ?_ | refine W_seqC ?_ | refine W_seqB ?_ | refine W_block ?_ | refine W_skip ?_ | (apply W_condB; (case hc => (simp (disch := omega) only [go_sem, ↓reduceIte, Nat.reduceEqDiff, c1, c2]); rfl); first | refine qzT ?_ | refine qzF ?_) | ((first | refine W_reg rfl fun G K hG hK => ?_ | refine W_end rfl fun G K hG hK => ?_); simp (disch := omega) only [go_sem, ↓reduceIte, Nat.reduceEqDiff, hG, c1, c2]; refine hK _ _ ?_; clear hK K hG G))
 (repeat (first | refine W_seqS ?_ | refine W_seqC ?_ | refine W_seqB ?_ | refine W_block ?_)); refine W_reg rfl fun G K hG hK => ?_; simp (disch := omega) only [go_sem, ↓reduceIte, Nat.reduceEqDiff, hG]
 refine w_call (l1Byte_ok q xs st hq) (by simp (disch := omega) only [go_sem, ↓reduceIte, Nat.reduceEqDiff]) ?hl ?_
 case hl => first | rfl | (simp only [go_sem, List.all_cons, List.all_nil, Bool.not_false, Bool.and_self]; done)
 rintro r_ sa ⟨⟨x, rfl, hx0, hx1⟩, hd, hl⟩; refine ⟨fun e => (by cases e), ?_⟩
 simp (disch := omega) only [go_sem, ↓reduceIte, Nat.reduceEqDiff, hG, hrem]; refine hK _ _ ?_; clear hK K hG G; repeat (with_reducible first | refine thenI ?_ | refine thenE ?_ | refine thenR ?_ | refine inBI ?_ | refine inBR ?_ | refine inBS ?_ | refine inBN (by decide) ?_)
 repeat (first | with_reducible (first | refine thenI ?_ | refine thenE ?_ | refine thenR ?_ | refine inBI ?_ | refine inBR ?_ | refine inBS ?_ | refine inBN (by decide) ?_) | refine W_seqS ?_ | refine W_seqC ?_ | refine W_seqB ?_ | refine W_block ?_ | refine W_skip ?_ | (apply W_condB; (case hc => (simp (disch := omega) only [go_sem, ↓reduceIte, Nat.reduceEqDiff]); rfl); first | refine qzT ?_ | refine qzF ?_) | ((first | refine W_reg rfl fun G K hG hK => ?_ | refine W_end rfl fun G K hG hK => ?_); simp (disch := omega) only [go_sem, ↓reduceIte, Nat.reduceEqDiff, hG]; refine hK _ _ ?_; clear hK K hG G))
 refine W_ret ?_; try (repeat (with_reducible first | refine thenI ?_ | refine thenE ?_ | refine thenR ?_ | refine inBI ?_ | refine inBR ?_ | refine inBS ?_ | refine inBN (by decide) ?_))
 refine fin1 (.inl rfl) (by (simp (disch := omega) only [go_sem, ↓reduceIte, Nat.reduceEqDiff]); try rfl) rfl ⟨⟨_, rfl, Int.tmod_nonneg _ hx0, Int.tmod_lt_of_pos _ hn0⟩, hd, hl⟩
theorem l1Once_ok (q : Nat) (xs : List Byt) (st : St) (n : Int) (hn0 : 0 < n) (hn1 : n ≤ 256) (hq : Cur st q xs) :
  CallS Try.prog 41 [.pointer (some ⟨q, 0, none⟩), .int .i64 n] st fun r st2 => (∃ b : Bool, r = .bool b) ∧ Drawn q xs st st2 ∧ st2.length = st.length := by
 refine CallS_of_W [] 9 Try.func41 rfl rfl rfl rfl (by simp) ?_
 repeat (first | with_reducible (first | refine thenI ?_ | refine thenE ?_ | refine thenR ?_ | refine inBI ?_ | refine inBR ?_ | refine inBS ?_ | refine inBN (by decide) ?_) | refine W_seqS ?_ | refine W_seqC ?_ | refine W_seqB ?_ | refine W_block ?_ | refine W_skip ?_ | (apply W_condB; (case hc => (simp (disch := omega) only [go_sem, ↓reduceIte, Nat.reduceEqDiff]); rfl); first | refine qzT ?_ | refine qzF ?_) | ((first | refine W_reg rfl fun G K hG hK => ?_ | refine W_end rfl fun G K hG hK => ?_); simp (disch := omega) only [go_sem, ↓reduceIte, Nat.reduceEqDiff, hG]; refine hK _ _ ?_; clear hK K hG G))
 (repeat (first | refine W_seqS ?_ | refine W_seqC ?_ | refine W_seqB ?_ | refine W_block ?_)); refine W_reg rfl fun G K hG hK => ?_; simp (disch := omega) only [go_sem, ↓reduceIte, Nat.reduceEqDiff, hG]
 refine w_call (l1Below_ok q xs st n hn0 hn1 hq) (by simp (disch := omega) only [go_sem, ↓reduceIte, Nat.reduceEqDiff]) ?hl ?_
 case hl => first | rfl | (simp only [go_sem, List.all_cons, List.all_nil, Bool.not_false, Bool.and_self]; done)
 rintro r_ sa ⟨⟨x, rfl, hx0, hx1⟩, hd, hl⟩; refine ⟨fun e => (by cases e), ?_⟩
 simp (disch := omega) only [go_sem, ↓reduceIte, Nat.reduceEqDiff, hG]; refine hK _ _ ?_; clear hK K hG G; repeat (with_reducible first | refine thenI ?_ | refine thenE ?_ | refine thenR ?_ | refine inBI ?_ | refine inBR ?_ | refine inBS ?_ | refine inBN (by decide) ?_)
 refine W_ret ?_; try (repeat (with_reducible first | refine thenI ?_ | refine thenE ?_ | refine thenR ?_ | refine inBI ?_ | refine inBR ?_ | refine inBS ?_ | refine inBN (by decide) ?_))
 refine fin1 (.inl rfl) (by (simp (disch := omega) only [go_sem, ↓reduceIte, Nat.reduceEqDiff]); try rfl) rfl ⟨⟨_, rfl⟩, hd, hl⟩

end

section
/- A tree behind a row of one's own. -/
open Go Go.Proofs
set_option linter.unusedVariables false
set_option linter.unusedSimpArgs false
set_option maxRecDepth 100000

/-- Every name is short. -/
inductive LimN (B : Nat) : T → Prop
 | mk (k n : Int) (nm : ByteArray) (args : List T) (h : nm.size ≤ B) (hs : ∀ a ∈ args, LimN B a) : LimN B (.mk k n nm args)
theorem LimN.of_wt {B : Nat} : ∀ t : T, t.wt ≤ B → LimN B t := by
 refine T.ind fun k n nm args ih h => ?_
 simp only [T.wt] at h
 exact .mk k n nm args (by omega) fun a ha => ih a ha (by have := T.wt_mem ha; omega)
theorem LimN.args {B : Nat} {k n : Int} {nm : ByteArray} {args : List T} (h : LimN B (.mk k n nm args)) : nm.size ≤ B ∧ ∀ a ∈ args, LimN B a := by cases h; exact ⟨by assumption, by assumption⟩

/-- A tree is put behind a row of one's own. -/
theorem Own.step {n0 : Nat} {st st2 : St} {xs : List T} {s : Value} {L : List Nat} {x : T} {cx : List Value} {Lx : List Nat} (h : SliceO (Own 30 st) 30 st xs s L) (hf : Fresh n0 L) (hn0 : n0 ≤ st.length) (hext : Ext st st2)
  (hx : Own 30 st2 x cx Lx) (hfx : Fresh st.length Lx) (hb : xs.length + 1 ≤ 1099511627776) :
  ∃ s' st' L', appendA Try.prog 28 28 s (.slice (some ⟨st2.length, 0, none⟩) 1 1) (st2 ++ [⟨cx, 30, 0⟩]) = some (s', st') ∧ SliceO (Own 30 st') 30 st' (xs ++ [x]) s' L' ∧ Fresh n0 L' ∧ st2.length ≤ st'.length ∧ (∀ i, i < n0 → st'[i]? = st2[i]?) :=
 SliceO.step (fun _ _ => Own.frame) (fun _ => Own.lt) (fun _ => Own.len) Try.underlying28 sz30 by30 ze30 rfl h hf hn0 hext hx hfx (by omega) (by omega)


end

section
/- Copies of trees: impl.copyTerm, spec.l3Copy. -/
open Go Go.Proofs
set_option linter.unusedVariables false
set_option linter.unusedSimpArgs false
set_option maxRecDepth 100000


end

end Go.Proofs.Ytdijnohbbgbklaa.AM
/- Kinds: bindings. -/
namespace Go.Proofs.Ytdijnohbbgbklaa.AM
open Go
set_option linter.unusedVariables false
set_option linter.unusedSimpArgs false

/-- A binding. -/
structure Bnd where
 nm : ByteArray
 tm : T
end Go.Proofs.Ytdijnohbbgbklaa.AM


namespace Go.Proofs.Ytdijnohbbgbklaa.AM
open Go
attribute [local go_sem] List.map_cons List.map_nil List.all_cons List.all_nil Bool.and_self Option.map_some List.getElem?_toArray Option.bind_some gye_b gye_t gsk_b gsk_t gb1 gb2 gb3 gb4 bne_self_eq_false beq_self_eq_true w_guard w_nil stepV_some step_some step_some' w_move w_assign w_pick w_binOp w_unOp w_load w_fieldAddr w_indexAddr w_len w_max w_index ev_max max_int ev_index w_box w_alloc w_store w_field w_extract w_nilCheck w_convert w_buildSlice w_build ev_buildL fillL_nil fillL_cons bs0 bs1 ev_conv ev_bin ev_un ev_pick ev_load ev_fieldAddr ev_indexAddr ev_len ev_field ev_extract ev_nilCheck fr_tmp fr_int fr_bool fr_str fr_nil fr_func put_some put_none bin_lss bin_leq bin_gtr bin_geq bin_eql bin_neq bin_add bin_sub bin_mul bin_seql bin_sneq un_not pick_ ext_ loadA_p cellAt_l cellAt_h okPtr_l okPtr_h fadA_p allocA_l storeA_l cells_agg cells_int cells_str cells_sl cells_bool flat_i flat_s flat_b flat_sl flat_nil loc_agg loc_int loc_str loc_sl loc_bool loc_fn loc_ptr okv_agg okv_int okv_str okv_sl okv_bool cellsFrom splice upd_eval argEnv_zero argEnv_succ ne_eq Nat.add_one_ne_zero not_false_eq_true List.not_mem_nil and_self decide_true List.getElem?_cons_zero List.getElem?_cons_succ List.size_toArray List.length_cons List.length_nil List.take_succ_cons List.take_zero List.drop_succ_cons List.drop_zero List.cons_append List.nil_append List.drop_nil Bool.not_true Bool.not_false Bool.false_eq_true Nat.zero_add Nat.add_zero wrap_in List.toList_toArray List.mem_cons or_self or_false false_or
attribute [local go_sem] ag103 ag22 ag24 ag25 ag27 ag28 ag3 ag30 ag37 ag5 ag54 ag9 bu27 bu30 bu37 bu54 bu67 by30 by37 by54 by9 el22 el24 el25 el28 el33 el52 of27_0 of27_1 of30_0 of30_1 of30_2 of30_3 of37_0 of37_1 of54_0 of54_1 of54_2 of67_0 of67_1 of67_2 ro3_3 ro3_4 ro30_0 ro30_1 ro30_2 ro37_0 ro37_1 ro37_4 ro54_1 ro54_7 ro9_0 ro9_1 ro9_2 ro9_3 ro9_4 ro9_5 sz103 sz22 sz24 sz25 sz27 sz28 sz3 sz30 sz37 sz5 sz54 sz9 ze103 ze27 ze3 ze30 ze37 ze54 ze9
section
/- Rows of bindings: laws.szBind, szBindS, toBind, toBindS, eqBind, eqBindS, markBindS, heldBindS. -/
open Go Go.Proofs
set_option linter.unusedVariables false
set_option linter.unusedSimpArgs false
set_option maxRecDepth 100000
-- AUTO


end

section
/- Bindings are found and applied: impl.bound, impl.FindBind, spec.l7At, spec.FindBind, impl.ApplySubst, spec.ApplySubst. -/
open Go Go.Proofs
set_option linter.unusedVariables false
set_option linter.unusedSimpArgs false
set_option maxRecDepth 100000
-- AUTO

def T.zero' : T := .mk 0 0 ⟨#[]⟩ []
theorem Lim.zero' {B : Nat} : Lim B T.zero' := .mk _ _ _ _ (by simp) (by simp)
/-- The term of the first binding of a name. -/
def findB (nm : ByteArray) : List Bnd → Option T
 | [] => none
 | b :: bs => if (b.nm.toList == nm.toList) = true then some b.tm else findB nm bs
theorem findB_mem {nm : ByteArray} {bs : List Bnd} {t : T} (h : findB nm bs = some t) : ∃ b ∈ bs, b.tm = t := by
 induction bs with
 | nil => cases h
 | cons b bs ih =>
  simp only [findB] at h
  split at h
  ·exact ⟨b, by simp, Option.some.inj h⟩
  ·obtain ⟨b', h1, h2⟩ := ih h; exact ⟨b', by simp [h1], h2⟩
abbrev findD (nm : ByteArray) (bs : List Bnd) : T := (findB nm bs).getD T.zero'
theorem Lim.findD {B : Nat} {nm : ByteArray} {bs : List Bnd} (h : ∀ b ∈ bs, Lim B b.tm) : Lim B (findD nm bs) := by
 unfold AM.findD
 cases hf : findB nm bs with
 | none => exact .zero'
 | some t => obtain ⟨b, h1, rfl⟩ := findB_mem hf; exact h b h1


end

section
/- Substitutions are applied: impl.ApplySubst, spec.ApplySubst. -/
open Go Go.Proofs
set_option linter.unusedVariables false
set_option linter.unusedSimpArgs false
set_option maxRecDepth 100000
-- AUTO

mutual
def T.sub (bs : List Bnd) : T → T
 | .mk k n nm args => if ((k == 1) && (findB nm bs).isSome) = true then findD nm bs else .mk k n nm (T.subL bs args)
def T.subL (bs : List Bnd) : List T → List T
 | [] => []
 | x :: xs => x.sub bs :: T.subL bs xs
end
theorem T.subL_map (bs : List Bnd) (xs : List T) : T.subL bs xs = xs.map (T.sub bs) := by
 induction xs with
 | nil => rfl
 | cons x xs ih => simp only [T.subL, List.map_cons, ih]
theorem Lim.sub {B : Nat} {bs : List Bnd} (hb : ∀ b ∈ bs, Lim B b.tm) : ∀ t : T, Lim B t → Lim B (t.sub bs) := by
 refine T.ind fun k n nm args ih h => ?_
 by_cases h1 : ((k == 1) && (findB nm bs).isSome) = true
 ·simp only [T.sub, h1, if_true]; exact Lim.findD hb
 ·simp only [T.sub, if_neg h1, T.subL_map]
  refine .mk _ _ _ _ (by simpa using h.args.1) fun a ha => ?_
  obtain ⟨x, hx, rfl⟩ := List.mem_map.1 ha
  exact ih x hx (h.args.2 x hx)


end

section
/- Substitutions are composed: impl.copyBind, impl.ComposeSubst, spec.ComposeSubst. -/
open Go Go.Proofs
set_option linter.unusedVariables false
set_option linter.unusedSimpArgs false
set_option maxRecDepth 100000
-- AUTO


end

section
/- Terms are compared: impl.EqualTerm, spec.EqualTerm. -/
open Go Go.Proofs
set_option linter.unusedVariables false
set_option linter.unusedSimpArgs false
set_option maxRecDepth 100000
-- AUTO

mutual
def T.eqv : T → T → Bool
 | .mk k n nm xs, .mk k' n' nm' bs => (k == k') && ((n == n') && ((nm.toList == nm'.toList) && T.eqvL xs bs))
def T.eqvL : List T → List T → Bool
 | [], [] => true
 | a :: xs, b :: bs => T.eqv a b && T.eqvL xs bs
 | _, _ => false
end
theorem ba_toList {a b : ByteArray} (h : (a.toList == b.toList) = true) : a = b := by
 have h1 : a.toList = b.toList := by simpa using h
 have h2 : a.data.toList = b.data.toList := by rw [← Go.ByteArray.toList_eq, ← Go.ByteArray.toList_eq]; exact h1
 exact ByteArray.ext (Array.toList_inj.1 h2)

end

section
/- Terms are matched: impl.match, spec.l8Match. -/
open Go Go.Proofs
set_option linter.unusedVariables false
set_option linter.unusedSimpArgs false
set_option maxRecDepth 100000
-- AUTO


end

end Go.Proofs.Ytdijnohbbgbklaa.AM
/- Sorted lists of names, each once. -/
namespace Go.Proofs.Ytdijnohbbgbklaa.AM
open Go
set_option linter.unusedVariables false
set_option linter.unusedSimpArgs false

/-- The strings' letters. -/
def chs (xs : List ByteArray) : List (List UInt8) := xs.map (fun b => b.data.toList)
/-- .. and back. -/
def unchs (xs : List (List UInt8)) : List ByteArray := xs.map (fun l => (⟨l.toArray⟩ : ByteArray))
theorem unchs_chs (xs : List ByteArray) : unchs (chs xs) = xs := by
 unfold unchs chs
 rw [List.map_map]
 exact (List.map_congr_left (fun b _ => rfl)).trans (List.map_id xs)
theorem chs_length (xs : List ByteArray) : (chs xs).length = xs.length := by simp [chs]
theorem unchs_length (xs : List (List UInt8)) : (unchs xs).length = xs.length := by simp [unchs]
/-- The strings in their order. -/
def sortB (xs : List ByteArray) : List ByteArray := unchs ((chs xs).mergeSort fun x y => decide (x ≤ y))
/-- No string twice in a row. -/
def compS (xs : List ByteArray) : List ByteArray := unchs (Lib.compact (chs xs))
theorem compact_le (zs : List (List UInt8)) : (Lib.compact zs).length ≤ zs.length := by
 unfold Lib.compact Lib.compactUpTo
 rw [List.length_map]
 have := List.length_filter_le (Lib.keeps zs.toArray) (List.range zs.length)
 simpa using this
theorem sortB_length (xs : List ByteArray) : (sortB xs).length = xs.length := by
 unfold sortB
 rw [unchs_length, List.length_mergeSort, chs_length]
theorem lt_cases (a b : List UInt8) : a < b ∨ a = b ∨ b < a := by
 rcases List.le_total a b with h | h
 ·rcases List.le_iff_lt_or_eq.1 h with h | h
  ·exact .inl h
  ·exact .inr (.inl h)
 ·rcases List.le_iff_lt_or_eq.1 h with h | h
  ·exact .inr (.inr h)
  ·exact .inr (.inl h.symm)
/-- Put in its place, unless it is there. -/
def insU (e : List UInt8) : List (List UInt8) → List (List UInt8)
 | [] => [e]
 | x :: xs => if x < e then x :: insU e xs else if x = e then x :: xs else e :: x :: xs
theorem insU_mem (e : List UInt8) (l : List (List UInt8)) (y : List UInt8) : y ∈ insU e l ↔ y = e ∨ y ∈ l := by
 induction l with
 | nil => simp [insU]
 | cons x xs ih =>
  simp only [insU]
  by_cases h1 : x < e
  ·rw [if_pos h1]
   simp only [List.mem_cons, ih]
   constructor
   ·rintro (h | h | h)
    ·exact .inr (.inl h)
    ·exact .inl h
    ·exact .inr (.inr h)
   ·rintro (h | h | h)
    ·exact .inr (.inl h)
    ·exact .inl h
    ·exact .inr (.inr h)
  ·rw [if_neg h1]
   by_cases h2 : x = e
   ·rw [if_pos h2]
    simp only [List.mem_cons]
    constructor
    ·exact .inr
    ·rintro (h | h)
     ·exact .inl (h.trans h2.symm)
     ·exact h
   ·rw [if_neg h2]
    simp only [List.mem_cons]
theorem insU_strict (e : List UInt8) (l : List (List UInt8)) (h : l.Pairwise (· < ·)) : (insU e l).Pairwise (· < ·) := by
 induction l with
 | nil => simp [insU]
 | cons x xs ih =>
  obtain ⟨hx, hxs⟩ := List.pairwise_cons.1 h
  simp only [insU]
  by_cases h1 : x < e
  ·rw [if_pos h1]
   refine List.pairwise_cons.2 ⟨fun y hy => ?_, ih hxs⟩
   rcases (insU_mem e xs y).1 hy with rfl | hy
   ·exact h1
   ·exact hx y hy
  ·rw [if_neg h1]
   by_cases h2 : x = e
   ·rw [if_pos h2]; exact h
   ·rw [if_neg h2]
    have h3 : e < x := by
     rcases lt_cases x e with h | h | h
     ·exact absurd h h1
     ·exact absurd h h2
     ·exact h
    refine List.pairwise_cons.2 ⟨fun y hy => ?_, h⟩
    rcases List.mem_cons.1 hy with rfl | hy
    ·exact h3
    ·exact List.lt_trans h3 (hx y hy)
def insAll (acc l : List (List UInt8)) : List (List UInt8) := l.foldl (fun a e => insU e a) acc
theorem insAll_mem (l : List (List UInt8)) : ∀ (acc : List (List UInt8)) (y : List UInt8), y ∈ insAll acc l ↔ y ∈ acc ∨ y ∈ l := by
 induction l with
 | nil => intro acc y; simp [insAll]
 | cons x xs ih =>
  intro acc y
  have := ih (insU x acc) y
  unfold insAll at this ⊢
  rw [List.foldl_cons, this, insU_mem, List.mem_cons]
  constructor
  ·rintro ((h | h) | h)
   ·exact .inr (.inl h)
   ·exact .inl h
   ·exact .inr (.inr h)
  ·rintro (h | h | h)
   ·exact .inl (.inr h)
   ·exact .inl (.inl h)
   ·exact .inr h
theorem insAll_strict (l : List (List UInt8)) : ∀ acc : List (List UInt8), acc.Pairwise (· < ·) → (insAll acc l).Pairwise (· < ·) := by
 induction l with
 | nil => intro acc h; exact h
 | cons x xs ih =>
  intro acc h
  exact ih (insU x acc) (insU_strict x acc h)
theorem strict_one {l m : List (List UInt8)} (hl : l.Pairwise (· < ·)) (hm : m.Pairwise (· < ·)) (h : ∀ y, y ∈ l ↔ y ∈ m) : l = m := by
 induction l generalizing m with
 | nil =>
  cases m with
  | nil => rfl
  | cons y ys => exact absurd ((h y).2 List.mem_cons_self) (by simp)
 | cons x xs ih =>
  cases m with
  | nil => exact absurd ((h x).1 List.mem_cons_self) (by simp)
  | cons y ys =>
   obtain ⟨hx, hxs⟩ := List.pairwise_cons.1 hl
   obtain ⟨hy, hys⟩ := List.pairwise_cons.1 hm
   have e : x = y := by
    rcases List.mem_cons.1 ((h x).1 List.mem_cons_self) with h1 | h1
    ·exact h1
    ·rcases List.mem_cons.1 ((h y).2 List.mem_cons_self) with h2 | h2
     ·exact h2.symm
     ·exact absurd (List.lt_trans (hy x h1) (hx y h2)) (List.lt_irrefl y)
   subst e
   congr 1
   refine ih hxs hys (fun z => ⟨fun hz => ?_, fun hz => ?_⟩)
   ·rcases List.mem_cons.1 ((h z).1 (List.mem_cons_of_mem _ hz)) with h1 | h1
    ·subst h1; exact absurd (hx z hz) (List.lt_irrefl z)
    ·exact h1
   ·rcases List.mem_cons.1 ((h z).2 (List.mem_cons_of_mem _ hz)) with h1 | h1
    ·subst h1; exact absurd (hy z hz) (List.lt_irrefl z)
    ·exact h1
theorem sorted_of (l : List (List UInt8)) : (l.mergeSort fun x y => decide (x ≤ y)).Pairwise (fun a b => a ≤ b) := by
 have h := List.pairwise_mergeSort (le := fun x y : List UInt8 => decide (x ≤ y)) (fun a b c h1 h2 => by
  simp only [decide_eq_true_eq] at *
  exact List.le_trans h1 h2) (fun a b => by
  simp only [Bool.or_eq_true, decide_eq_true_eq]
  exact List.le_total a b) l
 exact h.imp (fun h => by simpa using h)
theorem compact_facts (zs : List (List UInt8)) (hs : zs.Pairwise (fun a b => a ≤ b)) : ∀ m, m ≤ zs.length → (Lib.compactUpTo zs.toArray m).Pairwise (· < ·) ∧ ∀ y, y ∈ Lib.compactUpTo zs.toArray m ↔ ∃ j, ∃ h : j < zs.length, j < m ∧ zs[j] = y := by
 intro m
 induction m with
 | zero =>
  intro _
  simp [Lib.compactUpTo]
 | succ m ih =>
  intro hm
  obtain ⟨h1, h2⟩ := ih (by omega)
  rw [Lib.compactUpTo_succ]
  have hat : ∀ j, (h : j < zs.length) → zs.toArray[j]! = zs[j] := fun j h => by rw [getElem!_pos _ j (by simpa using h)]; simp
  have hle : ∀ i j, (hi : i < zs.length) → (hj : j < zs.length) → i < j → zs[i] ≤ zs[j] := fun i j hi hj hij => List.pairwise_iff_getElem.1 hs i j hi hj hij
  have hmem : ∀ y, (∃ j, ∃ h : j < zs.length, j < m + 1 ∧ zs[j] = y) ↔ (∃ j, ∃ h : j < zs.length, j < m ∧ zs[j] = y) ∨ y = zs[m] := by
   intro y
   constructor
   ·rintro ⟨j, h, hj, e⟩
    rcases Nat.lt_or_ge j m with h3 | h3
    ·exact .inl ⟨j, h, h3, e⟩
    ·have : j = m := by omega
     subst this
     exact .inr e.symm
   ·rintro (⟨j, h, hj, e⟩ | e)
    ·exact ⟨j, h, by omega, e⟩
    ·exact ⟨m, by omega, by omega, e.symm⟩
  by_cases hk : Lib.keeps zs.toArray m = true
  ·rw [if_pos hk, hat m (by omega)]
   constructor
   ·refine List.pairwise_append.2 ⟨h1, by simp, fun a ha b hb => ?_⟩
    obtain ⟨j, hj, hjm, e⟩ := (h2 a).1 ha
    rw [List.mem_singleton.1 hb, ← e]
    have hk' : m = 0 ∨ zs.toArray[m]! ≠ zs.toArray[m - 1]! := by simpa [Lib.keeps] using hk
    rcases hk' with hk' | hk'
    ·omega
    ·rw [hat m (by omega), hat (m - 1) (by omega)] at hk'
     have l1 : zs[m - 1] < zs[m] := by
      rcases List.le_iff_lt_or_eq.1 (hle (m - 1) m (by omega) (by omega) (by omega)) with h | h
      ·exact h
      ·exact absurd h.symm hk'
     rcases Nat.lt_or_ge j (m - 1) with h3 | h3
     ·rcases List.le_iff_lt_or_eq.1 (hle j (m - 1) hj (by omega) h3) with h | h
      ·exact List.lt_trans h l1
      ·rw [h]; exact l1
     ·have : j = m - 1 := by omega
      subst this
      exact l1
   ·intro y
    rw [hmem, ← h2, List.mem_append, List.mem_singleton]
  ·rw [if_neg hk]
   refine ⟨by simpa using h1, fun y => ?_⟩
   rw [List.append_nil, hmem, ← h2]
   constructor
   ·exact .inl
   ·rintro (h | h)
    ·exact h
    ·have hk' : ¬ (m = 0 ∨ zs.toArray[m]! ≠ zs.toArray[m - 1]!) := by simpa [Lib.keeps] using hk
     have hm0 : m ≠ 0 := fun e => hk' (.inl e)
     have he : zs.toArray[m]! = zs.toArray[m - 1]! := Classical.byContradiction fun e => hk' (.inr e)
     rw [hat m (by omega), hat (m - 1) (by omega)] at he
     rw [h, he, h2]
     exact ⟨m - 1, by omega, by omega, rfl⟩
theorem chs_unchs (l : List (List UInt8)) : chs (unchs l) = l := by
 unfold unchs chs
 rw [List.map_map]
 exact (List.map_congr_left (fun b _ => by simp)).trans (List.map_id l)
theorem chs_inj {a b : List ByteArray} (h : chs a = chs b) : a = b := by
 rw [← unchs_chs a, ← unchs_chs b, h]
/-- The list's strings, each once, in their order. -/
def namesB (l : List ByteArray) : List ByteArray := unchs (insAll [] (chs l))
theorem names_strict (l : List ByteArray) : (chs (namesB l)).Pairwise (· < ·) := by
 unfold namesB
 rw [chs_unchs]
 exact insAll_strict _ _ (by simp)
theorem names_mem (l : List ByteArray) (y : List UInt8) : y ∈ chs (namesB l) ↔ y ∈ chs l := by
 unfold namesB
 rw [chs_unchs, insAll_mem]
 simp
theorem sort_same (l : List ByteArray) : compS (sortB l) = namesB l := by
 apply chs_inj
 unfold compS sortB
 rw [chs_unchs, chs_unchs]
 obtain ⟨h1, h2⟩ := compact_facts ((chs l).mergeSort fun x y => decide (x ≤ y)) (sorted_of _) _ (Nat.le_refl _)
 refine strict_one h1 (names_strict l) (fun y => ?_)
 unfold Lib.compact
 rw [h2, names_mem]
 rw [← (List.mergeSort_perm (chs l) (fun x y => decide (x ≤ y))).mem_iff, List.mem_iff_getElem]
 constructor
 ·rintro ⟨j, h, _, e⟩
  exact ⟨j, h, e⟩
 ·rintro ⟨j, h, e⟩
  exact ⟨j, h, h, e⟩
theorem nodup_le {α : Type} [DecidableEq α] (l : List α) : ∀ m : List α, l.Nodup → (∀ y, y ∈ l → y ∈ m) → l.length ≤ m.length := by
 induction l with
 | nil => intro m _ _; simp
 | cons x xs ih =>
  intro m hn hs
  obtain ⟨h1, h2⟩ := List.nodup_cons.1 hn
  have hx := hs x List.mem_cons_self
  have h3 := ih (m.erase x) h2 (fun y hy => (List.mem_erase_of_ne (fun e => h1 (by rw [← e]; exact hy))).2 (hs y (List.mem_cons_of_mem _ hy)))
  have h4 := List.length_erase_of_mem hx
  have h5 := List.length_pos_of_mem hx
  simp only [List.length_cons]
  omega
theorem strict_nodup {l : List (List UInt8)} (h : l.Pairwise (· < ·)) : l.Nodup := h.imp (fun h e => by subst e; exact List.lt_irrefl _ h)
theorem names_length (l : List ByteArray) : (namesB l).length ≤ l.length := by
 have := nodup_le _ (chs l) (strict_nodup (names_strict l)) (fun y hy => (names_mem l y).1 hy)
 rwa [chs_length, chs_length] at this
theorem nodup_of_length {α : Type} [DecidableEq α] (s : List α) (hs : s.Nodup) (m : List α) (hlen : s.length = m.length) (hm : ∀ y, y ∈ s ↔ y ∈ m) : m.Nodup := by
 refine Classical.byContradiction fun hnd => ?_
 have hsplit : ∀ m : List α, ¬ m.Nodup → ∃ a x b, m = a ++ x :: b ∧ x ∈ b := by
  intro m
  induction m with
  | nil => intro h; exact absurd List.nodup_nil h
  | cons z zs ihz =>
   intro h
   by_cases hz : z ∈ zs
   ·exact ⟨[], z, zs, rfl, hz⟩
   ·obtain ⟨a, x, b, e, hx⟩ := ihz (fun h' => h (List.nodup_cons.2 ⟨hz, h'⟩))
    exact ⟨z :: a, x, b, by rw [e]; rfl, hx⟩
 obtain ⟨a, x, b, e, hx⟩ := hsplit m hnd
 have h1 := nodup_le s (a ++ b) hs (fun y hy => by
  have := (hm y).1 hy
  rw [e] at this
  rcases List.mem_append.1 this with h | h
  ·exact List.mem_append.2 (.inl h)
  ·rcases List.mem_cons.1 h with h | h
   ·subst h; exact List.mem_append.2 (.inr hx)
   ·exact List.mem_append.2 (.inr h))
 rw [hlen, e] at h1
 simp only [List.length_append, List.length_cons] at h1
 omega
/-- A list has no string twice if and only if sorting takes none away. -/
theorem names_all (l : List ByteArray) : (namesB l).length = l.length ↔ (chs l).Nodup := by
 constructor
 ·intro h
  exact nodup_of_length _ (strict_nodup (names_strict l)) (chs l) (by rw [chs_length, chs_length]; exact h) (fun y => names_mem l y)
 ·intro h
  have h1 := names_length l
  have h2 := nodup_le (chs l) (chs (namesB l)) h (fun y hy => (names_mem l y).2 hy)
  rw [chs_length, chs_length] at h2
  omega
def insB (e : ByteArray) : List ByteArray → List ByteArray
 | [] => [e]
 | x :: xs => if Op.bytesLess x.toList e.toList = true then x :: insB e xs else if x.toList = e.toList then x :: xs else e :: x :: xs
theorem chs_insB (e : ByteArray) (l : List ByteArray) : chs (insB e l) = insU e.data.toList (chs l) := by
 induction l with
 | nil => rfl
 | cons x xs ih =>
  simp only [insB, Go.Proofs.bytesLess_eq, Lib.toList_data, decide_eq_true_eq]
  have e1 : chs (x :: xs) = x.data.toList :: chs xs := rfl
  rw [e1]
  simp only [insU]
  split
  ·rw [← ih]; rfl
  ·split
   ·rfl
   ·rfl
theorem insB_length (e : ByteArray) (l : List ByteArray) : (insB e l).length ≤ l.length + 1 := by
 induction l with
 | nil => simp [insB]
 | cons x xs ih =>
  simp only [insB]
  split
  ·simp only [List.length_cons]; omega
  ·split <;> simp
theorem foldB_length (l : List ByteArray) : ∀ acc : List ByteArray, (l.foldl (fun a e => insB e a) acc).length ≤ acc.length + l.length := by
 induction l with
 | nil => intro acc; simp
 | cons x xs ih =>
  intro acc
  have h1 := ih (insB x acc)
  have h2 := insB_length x acc
  simp only [List.foldl_cons, List.length_cons]
  omega
theorem foldB (l : List ByteArray) : ∀ acc : List ByteArray, chs (l.foldl (fun a e => insB e a) acc) = insAll (chs acc) (chs l) := by
 induction l with
 | nil => intro acc; rfl
 | cons x xs ih =>
  intro acc
  rw [List.foldl_cons, ih, chs_insB]
  rfl
theorem foldB_names (l : List ByteArray) : l.foldl (fun a e => insB e a) [] = namesB l := by
 apply chs_inj
 rw [foldB]
 unfold namesB
 rw [chs_unchs]
 rfl
end Go.Proofs.Ytdijnohbbgbklaa.AM


namespace Go.Proofs.Ytdijnohbbgbklaa.AM
open Go
attribute [local go_sem] List.map_cons List.map_nil List.all_cons List.all_nil Bool.and_self Option.map_some List.getElem?_toArray Option.bind_some gye_b gye_t gsk_b gsk_t gb1 gb2 gb3 gb4 bne_self_eq_false beq_self_eq_true w_guard w_nil stepV_some step_some step_some' w_move w_assign w_pick w_binOp w_unOp w_load w_fieldAddr w_indexAddr w_len w_max w_index ev_max max_int ev_index w_box w_alloc w_store w_field w_extract w_nilCheck w_convert w_buildSlice w_build ev_buildL fillL_nil fillL_cons bs0 bs1 ev_conv ev_bin ev_un ev_pick ev_load ev_fieldAddr ev_indexAddr ev_len ev_field ev_extract ev_nilCheck fr_tmp fr_int fr_bool fr_str fr_nil fr_func put_some put_none bin_lss bin_leq bin_gtr bin_geq bin_eql bin_neq bin_add bin_sub bin_mul bin_seql bin_sneq un_not pick_ ext_ loadA_p cellAt_l cellAt_h okPtr_l okPtr_h fadA_p allocA_l storeA_l cells_agg cells_int cells_str cells_sl cells_bool flat_i flat_s flat_b flat_sl flat_nil loc_agg loc_int loc_str loc_sl loc_bool loc_fn loc_ptr okv_agg okv_int okv_str okv_sl okv_bool cellsFrom splice upd_eval argEnv_zero argEnv_succ ne_eq Nat.add_one_ne_zero not_false_eq_true List.not_mem_nil and_self decide_true List.getElem?_cons_zero List.getElem?_cons_succ List.size_toArray List.length_cons List.length_nil List.take_succ_cons List.take_zero List.drop_succ_cons List.drop_zero List.cons_append List.nil_append List.drop_nil Bool.not_true Bool.not_false Bool.false_eq_true Nat.zero_add Nat.add_zero wrap_in List.toList_toArray List.mem_cons or_self or_false false_or
attribute [local go_sem] ag103 ag22 ag24 ag25 ag27 ag28 ag3 ag30 ag37 ag5 ag54 ag9 bu27 bu30 bu37 bu54 bu67 by30 by37 by54 by9 el22 el24 el25 el28 el33 el52 of27_0 of27_1 of30_0 of30_1 of30_2 of30_3 of37_0 of37_1 of54_0 of54_1 of54_2 of67_0 of67_1 of67_2 ro3_3 ro3_4 ro30_0 ro30_1 ro30_2 ro37_0 ro37_1 ro37_4 ro54_1 ro54_7 ro9_0 ro9_1 ro9_2 ro9_3 ro9_4 ro9_5 sz103 sz22 sz24 sz25 sz27 sz28 sz3 sz30 sz37 sz5 sz54 sz9 ze103 ze27 ze3 ze30 ze37 ze54 ze9
section
/- Rows of strings: laws.toStringS, laws.szStringS, laws.eqStringS, laws.markStringS, laws.heldStringS. -/
open Go Go.Proofs
set_option linter.unusedVariables false
set_option linter.unusedSimpArgs false
set_option maxRecDepth 100000
-- AUTO

theorem row_atS {st : St} {xs : List ByteArray} {s : Value} (h : Rw st xs s) {j : Nat} {x : ByteArray} (hx : xs[j]? = some x) {n : Nat} (hn : xs.length = n := by rfl) : ∃ i o c, s = .slice (some ⟨i, o, none⟩) n c ∧ cell st i (o + j * 1) = some (.string x) := by
 subst hn
 obtain ⟨i, o, c, cs, rfl, _, rfl, hc⟩ := row_at h hx
 exact ⟨i, o, c, rfl, hc 0 _ rfl⟩


end

section
/- Names are sorted: spec.SortNames. -/
open Go Go.Proofs
set_option linter.unusedVariables false
set_option linter.unusedSimpArgs false
set_option maxRecDepth 100000
-- AUTO

theorem insB_drop {e : ByteArray} {acc : List ByteArray} {j : Nat} (hj : j < acc.length) : insB e (acc.drop j) = if Op.bytesLess acc[j].toList e.toList = true then acc[j] :: insB e (acc.drop (j + 1)) else if acc[j].toList = e.toList then acc.drop j else e :: acc.drop j := by
 rw [List.drop_eq_getElem_cons hj]; rfl
/-- Parts of a row. -/
theorem row_upto {α : Type} {E : α → List Value → Prop} {sz : Nat} {st : St} {xs : List α} {i o c : Nat} (h : Row E (sz + 1) st xs (.slice (some ⟨i, o, none⟩) xs.length c)) {P : Program} {t e : TypeId} (hu : P.underlying t = some (.slice e)) (hs : szA P e = some (sz + 1)) {k : Nat} (hk : k ≤ xs.length) :
  ∃ s', sliceA P t (.slice (some ⟨i, o, none⟩) xs.length c) none (some (.int .i64 k)) = some s' ∧ Row E (sz + 1) st (xs.take k) s' := by
 have he : elemA P t = some e := by unfold elemA; rw [hu]
 refine ⟨.slice (some ⟨i, o + 0 * (sz + 1), none⟩) (k - 0) (k - 0), ?_, ?_⟩
 ·unfold sliceA
  simp only [he, hs, Int.toNat_natCast]
  rw [if_pos (by omega)]; rfl
 ·rcases h with ⟨h0, rfl⟩ | ⟨i', o', c', he', h⟩
  ·refine .inr ⟨i, o + 0 * (sz + 1), k - 0, by simp at hk; simp [hk], fun j x hx => by simp at hx⟩
  ·cases he'
   refine .inr ⟨i, o + 0 * (sz + 1), k - 0, by simp; omega, fun j x hx => ?_⟩
   rw [List.getElem?_take] at hx
   split at hx
   ·rw [Nat.zero_mul, Nat.add_zero]; exact h j x hx
   ·cases hx
theorem row_from {α : Type} {E : α → List Value → Prop} {sz : Nat} {st : St} {xs : List α} {i o c : Nat} (h : Row E (sz + 1) st xs (.slice (some ⟨i, o, none⟩) xs.length c)) {P : Program} {t e : TypeId} (hu : P.underlying t = some (.slice e)) (hs : szA P e = some (sz + 1)) {k : Nat} (hk : k ≤ xs.length) :
  ∃ s', sliceA P t (.slice (some ⟨i, o, none⟩) xs.length c) (some (.int .i64 k)) none = some s' ∧ Row E (sz + 1) st (xs.drop k) s' := by
 have he : elemA P t = some e := by unfold elemA; rw [hu]
 refine ⟨.slice (some ⟨i, o + k * (sz + 1), none⟩) (xs.length - k) (xs.length - k), ?_, ?_⟩
 ·unfold sliceA
  simp only [he, hs, Int.toNat_natCast]
  rw [if_pos (by omega)]
 ·rcases h with ⟨h0, rfl⟩ | ⟨i', o', c', he', h⟩
  ·exact .inr ⟨i, o + k * (sz + 1), _, by simp; rfl, fun j x hx => by simp at hx⟩
  ·cases he'
   refine .inr ⟨i, o + k * (sz + 1), xs.length - k, by simp, fun j x hx => ?_⟩
   rw [List.getElem?_drop] at hx
   obtain ⟨cs, h1, h2, h3⟩ := h (k + j) x hx
   exact ⟨cs, h1, h2, by rwa [show o + k * (sz + 1) + j * (sz + 1) = o + (k + j) * (sz + 1) by rw [Nat.add_mul]; omega]⟩
/-- A string is put behind a row of one's own. -/
theorem OwnS.step {n0 : Nat} {st st2 : St} {xs : List ByteArray} {s : Value} {L : List Nat} {x : ByteArray} (h : Sl st xs s L) (hf : Fresh n0 L) (hn0 : n0 ≤ st.length) (hext : Ext st st2) (hbd : xs.length + 1 ≤ 274877906944) :
  ∃ s' st' L', appendA Try.prog 24 24 s (.slice (some ⟨st2.length, 0, none⟩) 1 1) (st2 ++ [⟨[.string x], 9, 0⟩]) = some (s', st') ∧ Sl st' (xs ++ [x]) s' L' ∧ Fresh n0 L' ∧ Grow st s st' s' :=
 Sl.push (α := ByteArray) Try.underlying24 Try.underlying24 sz9 rfl by9 ze9 rfl h hf hn0 hext ⟨rfl, rfl⟩ (.nil _) (by omega) (by omega)
theorem OwnS.join {n0 : Nat} {st st2 : St} {xs ys : List ByteArray} {s y : Value} {L : List Nat} (h : Sl st xs s L) (hf : Fresh n0 L) (hn0 : n0 ≤ st.length) (hext : Ext st st2) (hy : Rw st2 ys y) (hbd : xs.length + ys.length ≤ 274877906944) :
  ∃ s' st' L', appendA Try.prog 24 24 s y st2 = some (s', st') ∧ Sl st' (xs ++ ys) s' L' ∧ Fresh n0 L' ∧ Grow st2 s st' s' :=
 Sl.appRow (α := ByteArray) Try.underlying24 Try.underlying24 sz9 rfl by9 ze9 rfl h hf hn0 hext hy (by omega) (by omega)
theorem OwnS.fresh {st : St} {ys : List ByteArray} {y : Value} (hy : Rw st ys y) (hbd : ys.length ≤ 274877906944) :
  ∃ s' st' L', appendA Try.prog 24 24 (.slice (some ⟨st.length, 0, none⟩) 0 0) y (st ++ [⟨[], 9, 0⟩]) = some (s', st') ∧ Sl st' ys s' L' ∧ Fresh st.length L' ∧ Ext st st' ∧ st.length + 1 ≤ st'.length :=
 Sl.freshRow (α := ByteArray) Try.underlying24 Try.underlying24 sz9 rfl by9 ze9 rfl hy (by omega) (by omega)

theorem SliceO.topSome {α : Type} {E : α → List Value → List Nat → Prop} {e : TypeId} {st : St} {xs : List α} {s : Value} {L : List Nat} {n : Nat} (h : SliceO E e st xs s L) (hf : Fresh n L) (h0 : xs ≠ []) : ∃ m, n ≤ m ∧ topId s = some m := by
 rcases h with ⟨rfl, h, _⟩ | ⟨i, c, cs, K, rfl, _, _, rfl⟩
 ·exact absurd h h0
 ·exact ⟨i, hf.2 i (by simp), rfl⟩
/-- What R9, R10 and R11 do: a string is set into a row. -/
theorem OwnS.insert {n0 br cr : Nat} {st : St} {acc : List ByteArray} {L : List Nat} {x : ByteArray} (h : Sl st acc (.slice (some ⟨br, 0, none⟩) acc.length cr) L) (hn0 : n0 ≤ st.length) {j : Nat} (hj : j ≤ acc.length) (hbd : acc.length ≤ 1073741824) :
  ∃ u1 u2 v1 v2 v3 s2 s3 s4 L4, sliceA Try.prog 24 (.slice (some ⟨br, 0, none⟩) acc.length cr) none (some (.int .i64 j)) = some u1 ∧
   appendA Try.prog 24 24 (.slice (some ⟨st.length, 0, none⟩) 0 0) u1 (st ++ [⟨[], 9, 0⟩]) = some (v1, s2) ∧
   appendA Try.prog 24 24 v1 (.slice (some ⟨s2.length, 0, none⟩) 1 1) (s2 ++ [⟨[.string x], 9, 0⟩]) = some (v2, s3) ∧
   sliceA Try.prog 24 (.slice (some ⟨br, 0, none⟩) acc.length cr) (some (.int .i64 j)) none = some u2 ∧
   appendA Try.prog 24 24 v2 u2 s3 = some (v3, s4) ∧ Sl s4 (acc.take j ++ x :: acc.drop j) v3 L4 ∧ Fresh n0 L4 ∧ Ext st s2 ∧ Ext st s4 ∧ (∃ m, n0 ≤ m ∧ topId v3 = some m) ∧
   isLoc u1 = false ∧ isLoc u2 = false ∧ isLoc v1 = false ∧ isLoc v2 = false ∧ isLoc v3 = false := by
 have hr := h.row
 obtain ⟨u1, a1, a2⟩ := row_upto (sz := 0) (α := ByteArray) hr Try.underlying24 sz9 hj
 obtain ⟨u2, b1, b2⟩ := row_from (sz := 0) (α := ByteArray) hr Try.underlying24 sz9 hj
 obtain ⟨v1, s2, L2, c1, c2, c3, c4, c5⟩ := OwnS.fresh (st := st) (ys := acc.take j) a2 (by simp; omega)
 have t1 := c2.top c3
 obtain ⟨v2, s3, L3, d1, d2, d3, d4⟩ := OwnS.step (x := x) c2 c3 c4.length (Ext.refl s2) (by simp; omega)
 have x3 : Ext st s3 := d4.away.ext_of c4 t1
 have t2 := d2.top d3
 have hl3 := d4.away.1
 obtain ⟨v3, s4, L4, e1, e2, e3, e4⟩ := OwnS.join (ys := acc.drop j) d2 d3 (by have := x3.length; exact this) (Ext.refl s3) (Rw.ext b2 x3) (by simp; omega)
 have x4 : Ext st s4 := e4.away.ext_of x3 t2
 have e2' : Sl s4 (acc.take j ++ x :: acc.drop j) v3 L4 := by rw [List.append_cons]; exact e2
 have e3' : Fresh n0 L4 := ⟨e3.1, fun i hi => Nat.le_trans hn0 (e3.2 i hi)⟩
 exact ⟨u1, u2, v1, v2, v3, s2, s3, s4, L4, a1, c1, d1, b1, e1, e2', e3', c4, x4, e2'.topSome e3' (by simp), a2.notLoc.1, b2.notLoc.1, c2.loc, d2.loc, e2.loc⟩
theorem insB_nil {e : ByteArray} : insB e [] = [e] := rfl
theorem specSort_ok (xs : List ByteArray) (st : St) (s : Value) (hbig : xs.length ≤ 1073741824) (hr : Rw st xs s) :
  CallS Try.prog 37 [s] st fun r st2 => Ext st st2 ∧ ∃ L, Sl st2 (namesB xs) r L ∧ Fresh st.length L := by
 refine CallS_of_W [] 64 Try.func37 rfl rfl rfl rfl (by simp) ?_
 have hlen : lenE Try.prog 24 s = some (.int .i64 xs.length) := row_len hr Try.underlying24
 have hsl := hr.notLoc.1
 repeat (first | with_reducible (first | refine thenI ?_ | refine thenE ?_ | refine thenR ?_ | refine inBI ?_ | refine inBR ?_ | refine inBS ?_ | refine inBN (by decide) ?_) | refine W_seqS ?_ | refine W_seqC ?_ | refine W_seqB ?_ | refine W_block ?_ | refine W_skip ?_ | (apply W_condB; (case hc => (simp (disch := omega) only [go_sem, ↓reduceIte, Nat.reduceEqDiff, hlen, hsl]); rfl); first | refine qzT ?_ | refine qzF ?_) | ((first | refine W_reg rfl fun G K hG hK => ?_ | refine W_end rfl fun G K hG hK => ?_); simp (disch := omega) only [go_sem, ↓reduceIte, Nat.reduceEqDiff, hG, hlen, hsl]; refine hK _ _ ?_; clear hK K hG G))
 refine W_loop (fun d fr st' => ∃ (i : Nat) (acc : List ByteArray) (r : Value) (L : List Nat), d = xs.length - i ∧ i ≤ xs.length ∧ (Ext st st') ∧ (Sl st' acc r L) ∧ (Fresh st.length L) ∧ ((∃ m, st.length ≤ m ∧ topId r = some m)) ∧ (acc = (xs.take i).foldl (fun a e => insB e a) []) ∧ (fr.env 0 = s) ∧ (fr.env 3 = r) ∧ (fr.env 4 = .int .i64 i)) (xs.length) ?_ ?_
 ·exact ⟨0, [], _, _, by omega, by omega, Ext.app _ _, Sl.empty _, ⟨by simp, by simp⟩, ⟨_, Nat.le_refl _, rfl⟩, rfl, (by refine ⟨?_, ?_, ?_⟩ <;> ((simp (disch := omega) only [go_sem, ↓reduceIte, Nat.reduceEqDiff, hlen, hsl]); try rfl))⟩
 rintro d ⟨env, loc⟩ st' ⟨i, acc, r, L, hd_i, hj_i, hext, hown, hfr, htop, hacc, e0, e3, e4⟩
 simp only at e0 e3 e4
 by_cases hlt_i : i < xs.length
 ·have c1_i : decide ((i : Int) < (xs.length : Int)) = true := by simpa using hlt_i
  have hi_i := idxOk hlt_i
  have hx_i : xs[i]? = some xs[i] := List.getElem?_eq_getElem hlt_i
  have htk_i : xs.take (i + 1) = xs.take i ++ [xs[i]] := List.take_succ_eq_append_getElem hlt_i
  obtain ⟨ib, ob, cb, rfl, hce⟩ := row_atS hr hx_i
  have hce := cell_ext hext hce
  have hal : acc.length ≤ xs.length := by
   have := foldB_length (xs.take i) []
   rw [← hacc] at this
   simp at this; omega
  have hlena : lenE Try.prog 24 r = some (.int .i64 acc.length) := row_len hown.row Try.underlying24
  have hnext : (xs.take (i + 1)).foldl (fun a e => insB e a) [] = insB xs[i] acc := by rw [htk_i, List.foldl_append, ← hacc]; rfl
  obtain ⟨br, cr, rfl⟩ : ∃ b c, r = .slice (some ⟨b, 0, none⟩) acc.length c := by
   obtain ⟨m, hm1, hm2⟩ := htop
   rcases hown with ⟨rfl, _, _⟩ | ⟨b, c, _, _, h, _⟩
   ·cases hm2
   ·exact ⟨b, c, h⟩
  have hl0 := hext.length
  repeat (first | with_reducible (first | refine thenI ?_ | refine thenE ?_ | refine thenR ?_ | refine inBI ?_ | refine inBR ?_ | refine inBS ?_ | refine inBN (by decide) ?_) | refine W_seqS ?_ | refine W_seqC ?_ | refine W_seqB ?_ | refine W_block ?_ | refine W_skip ?_ | (apply W_condB; (case hc => (simp (disch := omega) only [go_sem, ↓reduceIte, Nat.reduceEqDiff, hlen, hsl, e0, e3, e4, c1_i, hi_i, idxA, Int.toNat_natCast, hlena]); rfl); first | refine qzT ?_ | refine qzF ?_) | ((first | refine W_reg rfl fun G K hG hK => ?_ | refine W_end rfl fun G K hG hK => ?_); simp (disch := omega) only [go_sem, ↓reduceIte, Nat.reduceEqDiff, hG, hlen, hsl, e0, e3, e4, c1_i, hi_i, idxA, Int.toNat_natCast, hlena]; refine hK _ _ ?_; clear hK K hG G))
  rename St => s1
  refine W_loop (fun d fr st' => ∃ (j : Nat) , d = acc.length - j ∧ j ≤ acc.length ∧ (st' = s1) ∧ (insB xs[i] acc = acc.take j ++ insB xs[i] (acc.drop j)) ∧ (fr.env 0 = .slice (some ⟨ib, ob, none⟩) xs.length cb) ∧ (fr.env 3 = .slice (some ⟨br, 0, none⟩) acc.length cr) ∧ (fr.env 4 = .int .i64 i) ∧ (fr.env 5 = .int .i64 j)) (acc.length) ?_ ?_
  ·exact ⟨0, by omega, by omega, rfl, by simp, (by refine ⟨?_, ?_, ?_, ?_⟩ <;> ((simp (disch := omega) only [go_sem, ↓reduceIte, Nat.reduceEqDiff, hlen, hsl, e0, e3, e4, c1_i, hi_i, idxA, Int.toNat_natCast, hlena]); try rfl))⟩
  clear e0 e3 e4
  rintro d ⟨env, loc⟩ st' ⟨j, hd, hj, hst2, hins, e0, e3, e4, e5⟩
  simp only at e0 e3 e4 e5
  subst hst2
  obtain ⟨u1, u2, v1, v2, v3, s2, s3, s4, L4, a1, c1', d1, b1, ea, f1, f2, f3, f4, f5, k1, k2, k3, k4, k5⟩ := OwnS.insert (x := xs[i]) hown hl0 hj (by omega)
  have hce2 := cell_ext f3 hce
  by_cases hlt : j < acc.length
  ·have c1 : decide ((j : Int) < (acc.length : Int)) = true := by simpa using hlt
   have hi := idxOk hlt
   have hx : acc[j]? = some acc[j] := List.getElem?_eq_getElem hlt
   have htk : acc.take (j + 1) = acc.take j ++ [acc[j]] := List.take_succ_eq_append_getElem hlt
   rw [insB_drop hlt] at hins
   obtain ⟨_, _, _, hee, hca⟩ := row_atS hown.row hx
   cases hee
   rw [Nat.zero_add] at hca
   repeat (first | with_reducible (first | refine thenI ?_ | refine thenE ?_ | refine thenR ?_ | refine inBI ?_ | refine inBR ?_ | refine inBS ?_ | refine inBN (by decide) ?_) | refine W_seqS ?_ | refine W_seqC ?_ | refine W_seqB ?_ | refine W_block ?_ | refine W_skip ?_ | (apply W_condB; (case hc => (simp (disch := omega) only [go_sem, ↓reduceIte, Nat.reduceEqDiff, hlen, hsl, c1_i, hi_i, hlena, e0, e3, e4, e5, k1, k2, k3, k4, k5, c1, hi, idxA, Int.toNat_natCast]); rfl); first | refine qzT ?_ | refine qzF ?_) | ((first | refine W_reg rfl fun G K hG hK => ?_ | refine W_end rfl fun G K hG hK => ?_); simp (disch := omega) only [go_sem, ↓reduceIte, Nat.reduceEqDiff, hG, hlen, hsl, c1_i, hi_i, hlena, e0, e3, e4, e5, k1, k2, k3, k4, k5, c1, hi, idxA, Int.toNat_natCast]; refine hK _ _ ?_; clear hK K hG G))
   (repeat (first | refine W_seqS ?_ | refine W_seqC ?_ | refine W_seqB ?_ | refine W_block ?_)); refine W_regD mixed [] [(0,false),(1,false),(2,false),(3,false),(4,false),(5,false),(6,false),(7,false),(8,false),(9,false),(10,false),(11,false),(12,false),(13,false),(14,false)] rfl (by decide +kernel) fun G K hG hK => ?_; simp only [pickOps, List.filterMap_cons, List.filterMap_nil, List.getElem?_cons_zero, List.getElem?_cons_succ, Option.map_some]; simp (disch := omega) only [go_sem, ↓reduceIte, Nat.reduceEqDiff, hG, hlen, hsl, c1_i, hi_i, hlena, e0, e3, e4, e5, k1, k2, k3, k4, k5, c1, hi, idxA, Int.toNat_natCast, bin_slss, hce, hca]
   refine hK _ _ ?_; clear hK K hG G; repeat (with_reducible first | refine thenI ?_ | refine thenE ?_ | refine thenR ?_ | refine inBI ?_ | refine inBR ?_ | refine inBS ?_ | refine inBN (by decide) ?_)
   cases hc : Op.bytesLess acc[j].toList xs[i].toList with
   | true =>
    rw [if_pos hc] at hins
    repeat (first | with_reducible (first | refine thenI ?_ | refine thenE ?_ | refine thenR ?_ | refine inBI ?_ | refine inBR ?_ | refine inBS ?_ | refine inBN (by decide) ?_) | refine W_seqS ?_ | refine W_seqC ?_ | refine W_seqB ?_ | refine W_block ?_ | refine W_skip ?_ | (apply W_condB; (case hc => (simp (disch := omega) only [go_sem, ↓reduceIte, Nat.reduceEqDiff, hlen, hsl, c1_i, hi_i, hlena, e0, e3, e4, e5, k1, k2, k3, k4, k5, c1, hi, idxA, Int.toNat_natCast, hc]); rfl); first | refine qzT ?_ | refine qzF ?_) | ((first | refine W_reg rfl fun G K hG hK => ?_ | refine W_end rfl fun G K hG hK => ?_); simp (disch := omega) only [go_sem, ↓reduceIte, Nat.reduceEqDiff, hG, hlen, hsl, c1_i, hi_i, hlena, e0, e3, e4, e5, k1, k2, k3, k4, k5, c1, hi, idxA, Int.toNat_natCast, hc]; refine hK _ _ ?_; clear hK K hG G))
    refine ⟨acc.length - (j + 1), by omega, j + 1, rfl, by omega, rfl, by rw [htk, List.append_assoc]; exact hins, (by refine ⟨?_, ?_, ?_, ?_⟩ <;> ((simp (disch := omega) only [go_sem, ↓reduceIte, Nat.reduceEqDiff, hlen, hsl, c1_i, hi_i, hlena, e0, e3, e4, e5, k1, k2, k3, k4, k5, c1, hi, idxA, Int.toNat_natCast]); try rfl))⟩
   | false =>
    rw [if_neg (by rw [hc]; simp)] at hins
    repeat (first | with_reducible (first | refine thenI ?_ | refine thenE ?_ | refine thenR ?_ | refine inBI ?_ | refine inBR ?_ | refine inBS ?_ | refine inBN (by decide) ?_) | refine W_seqS ?_ | refine W_seqC ?_ | refine W_seqB ?_ | refine W_block ?_ | refine W_skip ?_ | (apply W_condB; (case hc => (simp (disch := omega) only [go_sem, ↓reduceIte, Nat.reduceEqDiff, hlen, hsl, c1_i, hi_i, hlena, e0, e3, e4, e5, k1, k2, k3, k4, k5, c1, hi, idxA, Int.toNat_natCast, hc]); rfl); first | refine qzT ?_ | refine qzF ?_) | ((first | refine W_reg rfl fun G K hG hK => ?_ | refine W_end rfl fun G K hG hK => ?_); simp (disch := omega) only [go_sem, ↓reduceIte, Nat.reduceEqDiff, hG, hlen, hsl, c1_i, hi_i, hlena, e0, e3, e4, e5, k1, k2, k3, k4, k5, c1, hi, idxA, Int.toNat_natCast, hc]; refine hK _ _ ?_; clear hK K hG G))
    refine W_exit ?_; repeat (with_reducible first | refine thenI ?_ | refine thenE ?_ | refine thenR ?_ | refine inBI ?_ | refine inBR ?_ | refine inBS ?_ | refine inBN (by decide) ?_)
    (repeat (first | refine W_seqS ?_ | refine W_seqC ?_ | refine W_seqB ?_ | refine W_block ?_)); refine W_regD mixed [] [(0,false),(1,false),(2,false),(3,false),(4,false),(5,false),(6,false),(7,false),(8,false),(9,false),(10,false),(11,false),(12,false),(13,false),(14,false)] rfl (by decide +kernel) fun G K hG hK => ?_; simp only [pickOps, List.filterMap_cons, List.filterMap_nil, List.getElem?_cons_zero, List.getElem?_cons_succ, Option.map_some]; simp (disch := omega) only [go_sem, ↓reduceIte, Nat.reduceEqDiff, hG, hlen, hsl, c1_i, hi_i, hlena, e0, e3, e4, e5, k1, k2, k3, k4, k5, c1, hi, idxA, Int.toNat_natCast, hce, hca]
    refine hK _ _ ?_; clear hK K hG G; repeat (with_reducible first | refine thenI ?_ | refine thenE ?_ | refine thenR ?_ | refine inBI ?_ | refine inBR ?_ | refine inBS ?_ | refine inBN (by decide) ?_)
    cases hq : (acc[j].toList == xs[i].toList) with
    | true =>
     rw [if_pos (by simpa using hq), List.take_append_drop] at hins
     repeat (first | with_reducible (first | refine thenI ?_ | refine thenE ?_ | refine thenR ?_ | refine inBI ?_ | refine inBR ?_ | refine inBS ?_ | refine inBN (by decide) ?_) | refine W_seqS ?_ | refine W_seqC ?_ | refine W_seqB ?_ | refine W_block ?_ | refine W_skip ?_ | (apply W_condB; (case hc => (simp (disch := omega) only [go_sem, ↓reduceIte, Nat.reduceEqDiff, hlen, hsl, c1_i, hi_i, hlena, e0, e3, e4, e5, k1, k2, k3, k4, k5, c1, hi, idxA, Int.toNat_natCast, hq]); rfl); first | refine qzT ?_ | refine qzF ?_) | ((first | refine W_reg rfl fun G K hG hK => ?_ | refine W_end rfl fun G K hG hK => ?_); simp (disch := omega) only [go_sem, ↓reduceIte, Nat.reduceEqDiff, hG, hlen, hsl, c1_i, hi_i, hlena, e0, e3, e4, e5, k1, k2, k3, k4, k5, c1, hi, idxA, Int.toNat_natCast, hq]; refine hK _ _ ?_; clear hK K hG G))
     refine W_exit ?_; repeat (with_reducible first | refine thenI ?_ | refine thenE ?_ | refine thenR ?_ | refine inBI ?_ | refine inBR ?_ | refine inBS ?_ | refine inBN (by decide) ?_)
     repeat (first | with_reducible (first | refine thenI ?_ | refine thenE ?_ | refine thenR ?_ | refine inBI ?_ | refine inBR ?_ | refine inBS ?_ | refine inBN (by decide) ?_) | refine W_seqS ?_ | refine W_seqC ?_ | refine W_seqB ?_ | refine W_block ?_ | refine W_skip ?_ | (apply W_condB; (case hc => (simp (disch := omega) only [go_sem, ↓reduceIte, Nat.reduceEqDiff, hlen, hsl, c1_i, hi_i, hlena, e0, e3, e4, e5, k1, k2, k3, k4, k5, c1, hi, idxA, Int.toNat_natCast]); rfl); first | refine qzT ?_ | refine qzF ?_) | ((first | refine W_reg rfl fun G K hG hK => ?_ | refine W_end rfl fun G K hG hK => ?_); simp (disch := omega) only [go_sem, ↓reduceIte, Nat.reduceEqDiff, hG, hlen, hsl, c1_i, hi_i, hlena, e0, e3, e4, e5, k1, k2, k3, k4, k5, c1, hi, idxA, Int.toNat_natCast]; refine hK _ _ ?_; clear hK K hG G))
     refine ⟨xs.length - (i + 1), by omega, i + 1, acc, .slice (some ⟨br, 0, none⟩) acc.length cr, L, rfl, by omega, hext, hown, hfr, htop, by rw [hnext, hins], (by refine ⟨?_, ?_, ?_⟩ <;> ((simp (disch := omega) only [go_sem, ↓reduceIte, Nat.reduceEqDiff, hlen, hsl, c1_i, hi_i, hlena, e0, e3, e4, e5, k1, k2, k3, k4, k5, c1, hi, idxA, Int.toNat_natCast]); try rfl))⟩
    | false =>
     rw [if_neg (by simpa using hq)] at hins
     repeat (first | with_reducible (first | refine thenI ?_ | refine thenE ?_ | refine thenR ?_ | refine inBI ?_ | refine inBR ?_ | refine inBS ?_ | refine inBN (by decide) ?_) | refine W_seqS ?_ | refine W_seqC ?_ | refine W_seqB ?_ | refine W_block ?_ | refine W_skip ?_ | (apply W_condB; (case hc => (simp (disch := omega) only [go_sem, ↓reduceIte, Nat.reduceEqDiff, hlen, hsl, c1_i, hi_i, hlena, e0, e3, e4, e5, k1, k2, k3, k4, k5, c1, hi, idxA, Int.toNat_natCast, hq]); rfl); first | refine qzT ?_ | refine qzF ?_) | ((first | refine W_reg rfl fun G K hG hK => ?_ | refine W_end rfl fun G K hG hK => ?_); simp (disch := omega) only [go_sem, ↓reduceIte, Nat.reduceEqDiff, hG, hlen, hsl, c1_i, hi_i, hlena, e0, e3, e4, e5, k1, k2, k3, k4, k5, c1, hi, idxA, Int.toNat_natCast, hq]; refine hK _ _ ?_; clear hK K hG G))
     (repeat (first | refine W_seqS ?_ | refine W_seqC ?_ | refine W_seqB ?_ | refine W_block ?_)); refine W_reg rfl fun G K hG hK => ?_; simp (disch := omega) only [go_sem, ↓reduceIte, Nat.reduceEqDiff, hG, hlen, hsl, c1_i, hi_i, hlena, e0, e3, e4, e5, k1, k2, k3, k4, k5, c1, hi, idxA, Int.toNat_natCast, w_slice, ev_slice, Bool.false_and, Option.map_none, a1, w_append, c1']
     refine hK _ _ ?_; clear hK K hG G; repeat (with_reducible first | refine thenI ?_ | refine thenE ?_ | refine thenR ?_ | refine inBI ?_ | refine inBR ?_ | refine inBS ?_ | refine inBN (by decide) ?_)
     (repeat (first | refine W_seqS ?_ | refine W_seqC ?_ | refine W_seqB ?_ | refine W_block ?_)); refine W_reg rfl fun G K hG hK => ?_; simp (disch := omega) only [go_sem, ↓reduceIte, Nat.reduceEqDiff, hG, hlen, hsl, c1_i, hi_i, hlena, e0, e3, e4, e5, k1, k2, k3, k4, k5, c1, hi, idxA, Int.toNat_natCast, hce2, w_append, d1]
     refine hK _ _ ?_; clear hK K hG G; repeat (with_reducible first | refine thenI ?_ | refine thenE ?_ | refine thenR ?_ | refine inBI ?_ | refine inBR ?_ | refine inBS ?_ | refine inBN (by decide) ?_)
     refine W_end rfl fun G K hG hK => ?_; simp (disch := omega) only [go_sem, ↓reduceIte, Nat.reduceEqDiff, hG, hlen, hsl, c1_i, hi_i, hlena, e0, e3, e4, e5, k1, k2, k3, k4, k5, c1, hi, idxA, Int.toNat_natCast, w_slice, ev_slice, Bool.false_and, Option.map_none, b1, w_append, ea]
     refine hK _ _ ?_; clear hK K hG G; repeat (with_reducible first | refine thenI ?_ | refine thenE ?_ | refine thenR ?_ | refine inBI ?_ | refine inBR ?_ | refine inBS ?_ | refine inBN (by decide) ?_)
     repeat (first | with_reducible (first | refine thenI ?_ | refine thenE ?_ | refine thenR ?_ | refine inBI ?_ | refine inBR ?_ | refine inBS ?_ | refine inBN (by decide) ?_) | refine W_seqS ?_ | refine W_seqC ?_ | refine W_seqB ?_ | refine W_block ?_ | refine W_skip ?_ | (apply W_condB; (case hc => (simp (disch := omega) only [go_sem, ↓reduceIte, Nat.reduceEqDiff, hlen, hsl, c1_i, hi_i, hlena, e0, e3, e4, e5, k1, k2, k3, k4, k5, c1, hi, idxA, Int.toNat_natCast]); rfl); first | refine qzT ?_ | refine qzF ?_) | ((first | refine W_reg rfl fun G K hG hK => ?_ | refine W_end rfl fun G K hG hK => ?_); simp (disch := omega) only [go_sem, ↓reduceIte, Nat.reduceEqDiff, hG, hlen, hsl, c1_i, hi_i, hlena, e0, e3, e4, e5, k1, k2, k3, k4, k5, c1, hi, idxA, Int.toNat_natCast]; refine hK _ _ ?_; clear hK K hG G))
     refine ⟨xs.length - (i + 1), by omega, i + 1, _, v3, L4, rfl, by omega, hext.trans f4, f1, f2, f5, by rw [hnext, hins], (by refine ⟨?_, ?_, ?_⟩ <;> ((simp (disch := omega) only [go_sem, ↓reduceIte, Nat.reduceEqDiff, hlen, hsl, c1_i, hi_i, hlena, e0, e3, e4, e5, k1, k2, k3, k4, k5, c1, hi, idxA, Int.toNat_natCast]); try rfl))⟩
  ·have c1 : decide ((j : Int) < (acc.length : Int)) = false := by simpa using hlt
   have hjn : j = acc.length := by omega
   subst hjn
   rw [List.drop_length, insB_nil] at hins
   rw [List.drop_length] at f1
   repeat (first | with_reducible (first | refine thenI ?_ | refine thenE ?_ | refine thenR ?_ | refine inBI ?_ | refine inBR ?_ | refine inBS ?_ | refine inBN (by decide) ?_) | refine W_seqS ?_ | refine W_seqC ?_ | refine W_seqB ?_ | refine W_block ?_ | refine W_skip ?_ | (apply W_condB; (case hc => (simp (disch := omega) only [go_sem, ↓reduceIte, Nat.reduceEqDiff, hlen, hsl, c1_i, hi_i, idxA, Int.toNat_natCast, hlena, e0, e3, e4, e5, c1]); rfl); first | refine qzT ?_ | refine qzF ?_) | ((first | refine W_reg rfl fun G K hG hK => ?_ | refine W_end rfl fun G K hG hK => ?_); simp (disch := omega) only [go_sem, ↓reduceIte, Nat.reduceEqDiff, hG, hlen, hsl, c1_i, hi_i, idxA, Int.toNat_natCast, hlena, e0, e3, e4, e5, c1]; refine hK _ _ ?_; clear hK K hG G))
   (repeat (first | refine W_seqS ?_ | refine W_seqC ?_ | refine W_seqB ?_ | refine W_block ?_)); refine W_regD mixed [] [(0,false),(1,false),(2,false),(3,false),(4,false),(5,false),(6,false),(7,false),(8,false),(9,false),(10,false),(11,false),(12,false),(13,false),(14,false)] rfl (by decide +kernel) fun G K hG hK => ?_; simp only [pickOps, List.filterMap_cons, List.filterMap_nil, List.getElem?_cons_zero, List.getElem?_cons_succ, Option.map_some]; simp (disch := omega) only [go_sem, ↓reduceIte, Nat.reduceEqDiff, hG, hlen, hsl, c1_i, hi_i, idxA, Int.toNat_natCast, hlena, e0, e3, e4, e5, c1]
   refine hK _ _ ?_; clear hK K hG G; repeat (with_reducible first | refine thenI ?_ | refine thenE ?_ | refine thenR ?_ | refine inBI ?_ | refine inBR ?_ | refine inBS ?_ | refine inBN (by decide) ?_)
   repeat (first | with_reducible (first | refine thenI ?_ | refine thenE ?_ | refine thenR ?_ | refine inBI ?_ | refine inBR ?_ | refine inBS ?_ | refine inBN (by decide) ?_) | refine W_seqS ?_ | refine W_seqC ?_ | refine W_seqB ?_ | refine W_block ?_ | refine W_skip ?_ | (apply W_condB; (case hc => (simp (disch := omega) only [go_sem, ↓reduceIte, Nat.reduceEqDiff, hlen, hsl, c1_i, hi_i, idxA, Int.toNat_natCast, hlena, e0, e3, e4, e5, c1]); rfl); first | refine qzT ?_ | refine qzF ?_) | ((first | refine W_reg rfl fun G K hG hK => ?_ | refine W_end rfl fun G K hG hK => ?_); simp (disch := omega) only [go_sem, ↓reduceIte, Nat.reduceEqDiff, hG, hlen, hsl, c1_i, hi_i, idxA, Int.toNat_natCast, hlena, e0, e3, e4, e5, c1]; refine hK _ _ ?_; clear hK K hG G))
   refine W_exit ?_; repeat (with_reducible first | refine thenI ?_ | refine thenE ?_ | refine thenR ?_ | refine inBI ?_ | refine inBR ?_ | refine inBS ?_ | refine inBN (by decide) ?_)
   (repeat (first | refine W_seqS ?_ | refine W_seqC ?_ | refine W_seqB ?_ | refine W_block ?_)); refine W_regD mixed [] [(0,false),(1,false),(2,false),(3,false),(4,false),(5,false),(6,false),(7,false),(8,false),(9,false),(10,false),(11,false),(12,false),(13,false),(14,false)] rfl (by decide +kernel) fun G K hG hK => ?_; simp only [pickOps, List.filterMap_cons, List.filterMap_nil, List.getElem?_cons_zero, List.getElem?_cons_succ, Option.map_some]; simp (disch := omega) only [go_sem, ↓reduceIte, Nat.reduceEqDiff, hG, hlen, hsl, c1_i, hi_i, idxA, Int.toNat_natCast, hlena, e0, e3, e4, e5, c1]
   refine hK _ _ ?_; clear hK K hG G; repeat (with_reducible first | refine thenI ?_ | refine thenE ?_ | refine thenR ?_ | refine inBI ?_ | refine inBR ?_ | refine inBS ?_ | refine inBN (by decide) ?_)
   repeat (first | with_reducible (first | refine thenI ?_ | refine thenE ?_ | refine thenR ?_ | refine inBI ?_ | refine inBR ?_ | refine inBS ?_ | refine inBN (by decide) ?_) | refine W_seqS ?_ | refine W_seqC ?_ | refine W_seqB ?_ | refine W_block ?_ | refine W_skip ?_ | (apply W_condB; (case hc => (simp (disch := omega) only [go_sem, ↓reduceIte, Nat.reduceEqDiff, hlen, hsl, c1_i, hi_i, idxA, Int.toNat_natCast, hlena, e0, e3, e4, e5, c1]); rfl); first | refine qzT ?_ | refine qzF ?_) | ((first | refine W_reg rfl fun G K hG hK => ?_ | refine W_end rfl fun G K hG hK => ?_); simp (disch := omega) only [go_sem, ↓reduceIte, Nat.reduceEqDiff, hG, hlen, hsl, c1_i, hi_i, idxA, Int.toNat_natCast, hlena, e0, e3, e4, e5, c1]; refine hK _ _ ?_; clear hK K hG G))
   (repeat (first | refine W_seqS ?_ | refine W_seqC ?_ | refine W_seqB ?_ | refine W_block ?_)); refine W_reg rfl fun G K hG hK => ?_; simp (disch := omega) only [go_sem, ↓reduceIte, Nat.reduceEqDiff, hG, hlen, hsl, c1_i, hi_i, idxA, Int.toNat_natCast, hlena, e0, e3, e4, e5, c1, w_slice, ev_slice, Bool.false_and, Option.map_none, a1, w_append, c1']
   refine hK _ _ ?_; clear hK K hG G; repeat (with_reducible first | refine thenI ?_ | refine thenE ?_ | refine thenR ?_ | refine inBI ?_ | refine inBR ?_ | refine inBS ?_ | refine inBN (by decide) ?_)
   (repeat (first | refine W_seqS ?_ | refine W_seqC ?_ | refine W_seqB ?_ | refine W_block ?_)); refine W_reg rfl fun G K hG hK => ?_; simp (disch := omega) only [go_sem, ↓reduceIte, Nat.reduceEqDiff, hG, hlen, hsl, c1_i, hi_i, idxA, Int.toNat_natCast, hlena, e0, e3, e4, e5, c1, hce2, w_append, d1]
   refine hK _ _ ?_; clear hK K hG G; repeat (with_reducible first | refine thenI ?_ | refine thenE ?_ | refine thenR ?_ | refine inBI ?_ | refine inBR ?_ | refine inBS ?_ | refine inBN (by decide) ?_)
   refine W_end rfl fun G K hG hK => ?_; simp (disch := omega) only [go_sem, ↓reduceIte, Nat.reduceEqDiff, hG, hlen, hsl, c1_i, hi_i, idxA, Int.toNat_natCast, hlena, e0, e3, e4, e5, c1, w_slice, ev_slice, Bool.false_and, Option.map_none, b1, w_append, ea]
   refine hK _ _ ?_; clear hK K hG G; repeat (with_reducible first | refine thenI ?_ | refine thenE ?_ | refine thenR ?_ | refine inBI ?_ | refine inBR ?_ | refine inBS ?_ | refine inBN (by decide) ?_)
   repeat (first | with_reducible (first | refine thenI ?_ | refine thenE ?_ | refine thenR ?_ | refine inBI ?_ | refine inBR ?_ | refine inBS ?_ | refine inBN (by decide) ?_) | refine W_seqS ?_ | refine W_seqC ?_ | refine W_seqB ?_ | refine W_block ?_ | refine W_skip ?_ | (apply W_condB; (case hc => (simp (disch := omega) only [go_sem, ↓reduceIte, Nat.reduceEqDiff, hlen, hsl, c1_i, hi_i, idxA, Int.toNat_natCast, hlena, e0, e3, e4, e5, c1]); rfl); first | refine qzT ?_ | refine qzF ?_) | ((first | refine W_reg rfl fun G K hG hK => ?_ | refine W_end rfl fun G K hG hK => ?_); simp (disch := omega) only [go_sem, ↓reduceIte, Nat.reduceEqDiff, hG, hlen, hsl, c1_i, hi_i, idxA, Int.toNat_natCast, hlena, e0, e3, e4, e5, c1]; refine hK _ _ ?_; clear hK K hG G))
   refine ⟨xs.length - (i + 1), by omega, i + 1, _, v3, L4, rfl, by omega, hext.trans f4, f1, f2, f5, by rw [hnext, hins], (by refine ⟨?_, ?_, ?_⟩ <;> ((simp (disch := omega) only [go_sem, ↓reduceIte, Nat.reduceEqDiff, hlen, hsl, c1_i, hi_i, idxA, Int.toNat_natCast, hlena, e0, e3, e4, e5, c1]); try rfl))⟩
 ·have c1_i : decide ((i : Int) < (xs.length : Int)) = false := by simpa using hlt_i
  have hjn_i : i = xs.length := by omega
  subst hjn_i
  repeat (first | with_reducible (first | refine thenI ?_ | refine thenE ?_ | refine thenR ?_ | refine inBI ?_ | refine inBR ?_ | refine inBS ?_ | refine inBN (by decide) ?_) | refine W_seqS ?_ | refine W_seqC ?_ | refine W_seqB ?_ | refine W_block ?_ | refine W_skip ?_ | (apply W_condB; (case hc => (simp (disch := omega) only [go_sem, ↓reduceIte, Nat.reduceEqDiff, hlen, hsl, e0, e3, e4, c1_i]); rfl); first | refine qzT ?_ | refine qzF ?_) | ((first | refine W_reg rfl fun G K hG hK => ?_ | refine W_end rfl fun G K hG hK => ?_); simp (disch := omega) only [go_sem, ↓reduceIte, Nat.reduceEqDiff, hG, hlen, hsl, e0, e3, e4, c1_i]; refine hK _ _ ?_; clear hK K hG G))
  refine W_exit ?_; repeat (with_reducible first | refine thenI ?_ | refine thenE ?_ | refine thenR ?_ | refine inBI ?_ | refine inBR ?_ | refine inBS ?_ | refine inBN (by decide) ?_)
  repeat (first | with_reducible (first | refine thenI ?_ | refine thenE ?_ | refine thenR ?_ | refine inBI ?_ | refine inBR ?_ | refine inBS ?_ | refine inBN (by decide) ?_) | refine W_seqS ?_ | refine W_seqC ?_ | refine W_seqB ?_ | refine W_block ?_ | refine W_skip ?_ | (apply W_condB; (case hc => (simp (disch := omega) only [go_sem, ↓reduceIte, Nat.reduceEqDiff, hlen, hsl, e0, e3, e4, c1_i]); rfl); first | refine qzT ?_ | refine qzF ?_) | ((first | refine W_reg rfl fun G K hG hK => ?_ | refine W_end rfl fun G K hG hK => ?_); simp (disch := omega) only [go_sem, ↓reduceIte, Nat.reduceEqDiff, hG, hlen, hsl, e0, e3, e4, c1_i]; refine hK _ _ ?_; clear hK K hG G))
  rw [List.take_length, foldB_names] at hacc
  subst hacc
  refine W_ret ?_; try (repeat (with_reducible first | refine thenI ?_ | refine thenE ?_ | refine thenR ?_ | refine inBI ?_ | refine inBR ?_ | refine inBS ?_ | refine inBN (by decide) ?_))
  refine fin1 (.inl rfl) (by (simp (disch := omega) only [go_sem, ↓reduceIte, Nat.reduceEqDiff, hlen, hsl, e0, e3, e4, c1_i]); try rfl) hown.loc ⟨hext, L, hown, hfr⟩

end

section
/- What a pattern's variables take: spec.l3Vars, spec.VarsOfTerm, spec.RestrictSubst, spec.MatchTerm, IsInstance and IsVariant on both sides. -/
open Go Go.Proofs
set_option linter.unusedVariables false
set_option linter.unusedSimpArgs false
set_option maxRecDepth 100000
-- AUTO

mutual
def T.vars : T → List ByteArray
 | .mk k _ nm xs => (if (k == 1) = true then [nm] else []) ++ T.varsL xs
def T.varsL : List T → List ByteArray
 | [] => []
 | x :: xs => T.vars x ++ T.varsL xs
end
theorem T.vars_mk {k n : Int} {nm : ByteArray} {xs : List T} : T.vars (.mk k n nm xs) = (if (k == 1) = true then [nm] else []) ++ T.varsL xs := by simp only [T.vars]
theorem T.varsL_snoc (xs : List T) (x : T) : T.varsL (xs ++ [x]) = T.varsL xs ++ T.vars x := by
 induction xs with
 | nil => simp [T.varsL]
 | cons y ys ih => simp only [List.cons_append, T.varsL, ih, List.append_assoc]
theorem T.varsL_take {xs : List T} {j : Nat} (h : j < xs.length) : T.varsL (xs.take (j + 1)) = T.varsL (xs.take j) ++ T.vars xs[j] := by
 rw [List.take_succ_eq_append_getElem h, T.varsL_snoc]
theorem T.varsL_len0 : ∀ ys : List T, (∀ y ∈ ys, (T.vars y).length ≤ y.wt + 1) → (T.varsL ys).length ≤ T.wtL ys + ys.length := by
 intro ys
 induction ys with
 | nil => intro _; simp [T.varsL]
 | cons y ys ihy =>
  intro h
  have h1 := h y (by simp)
  have h2 := ihy fun z hz => h z (by simp [hz])
  simp only [T.varsL, List.length_append, T.wtL, List.length_cons]
  omega
theorem T.vars_len : ∀ t : T, (T.vars t).length ≤ t.wt + 1 := by
 refine T.ind fun k n nm xs ih => ?_
 have h1 := T.varsL_len0 xs ih
 rw [T.vars_mk]
 simp only [T.wt, List.length_append]
 split <;> simp <;> omega
theorem T.varsL_len (ys : List T) : (T.varsL ys).length ≤ T.wtL ys + ys.length := T.varsL_len0 ys fun y _ => T.vars_len y
theorem T.wtL_app (xs ys : List T) : T.wtL (xs ++ ys) = T.wtL xs + T.wtL ys := by
 induction xs with
 | nil => simp [T.wtL]
 | cons x xs ih => simp only [List.cons_append, T.wtL, ih]; omega
theorem T.vars_room {xs : List T} {j : Nat} (h : j < xs.length) : (T.varsL (xs.take j)).length + xs[j].wt + 1 ≤ T.wtL xs + xs.length := by
 have h1 := T.varsL_len (xs.take j)
 have h2 := T.wtL_app (xs.take j) (xs.drop j)
 rw [List.take_append_drop, List.drop_eq_getElem_cons h] at h2
 simp only [T.wtL] at h2
 simp only [List.length_take] at h1
 omega
theorem specVars_ok : ∀ (t : T) (s0 st : St) (cs : List Value) (l : List ByteArray) (s : Value) (L : List Nat), Lim 1073741824 t → l.length + t.wt + 1 ≤ 1073741824 → Ext s0 st → Enc s0 t cs → Sl st l s L → Fresh s0.length L →
  CallS Try.prog 38 [.agg cs.toArray, s] st fun r st2 => Ext s0 st2 ∧ ∃ L', Sl st2 (l ++ T.vars t) r L' ∧ Fresh s0.length L' := by
 refine T.ind fun k n nm xs ih s0 st cs l s L hlm hB hx0 hE hs hf => ?_
 obtain ⟨s1, rfl, hr⟩ := hE.open
 refine CallS_of_W [] 29 Try.func38 rfl rfl rfl rfl (by simp) ?_
 have q1 := hr.notLoc.1
 have q2 := hr.notLoc.2
 have q3 := hs.loc
 have hb := hlm.args.1
 have hwt : (T.mk k n nm xs).wt = nm.size + xs.length + T.wtL xs := by simp only [T.wt]
 have hlen : lenE Try.prog 28 s1 = some (.int .i64 xs.length) := row_len hr Try.underlying28
 repeat (first | with_reducible (first | refine thenI ?_ | refine thenE ?_ | refine thenR ?_ | refine inBI ?_ | refine inBR ?_ | refine inBS ?_ | refine inBN (by decide) ?_) | refine W_seqS ?_ | refine W_seqC ?_ | refine W_seqB ?_ | refine W_block ?_ | refine W_skip ?_ | (apply W_condB; (case hc => (simp (disch := omega) only [go_sem, ↓reduceIte, Nat.reduceEqDiff, q1, q2, q3]); rfl); first | refine qzT ?_ | refine qzF ?_) | ((first | refine W_reg rfl fun G K hG hK => ?_ | refine W_end rfl fun G K hG hK => ?_); simp (disch := omega) only [go_sem, ↓reduceIte, Nat.reduceEqDiff, hG, q1, q2, q3]; refine hK _ _ ?_; clear hK K hG G))
 refine W_to (fun fr st' => ∃ (r : Value) (L1 : List Nat), (Ext s0 st') ∧ (Sl st' (l ++ (if (k == 1) = true then [nm] else [])) r L1) ∧ (Fresh s0.length L1) ∧ (fr.env 1 = r) ∧ (fr.env 2 = .pointer (some ⟨2, 0, some 1⟩)) ∧ (fr.loc 2 = (1, [.int .i64 k, .int .i64 n, .string nm, s1]))) ?_ ?_
 ·cases hk : (k == 1) with
  | false =>
   repeat (first | with_reducible (first | refine thenI ?_ | refine thenE ?_ | refine thenR ?_ | refine inBI ?_ | refine inBR ?_ | refine inBS ?_ | refine inBN (by decide) ?_) | refine W_seqS ?_ | refine W_seqC ?_ | refine W_seqB ?_ | refine W_block ?_ | refine W_skip ?_ | (apply W_condB; (case hc => (simp (disch := omega) only [go_sem, ↓reduceIte, Nat.reduceEqDiff, q1, q2, q3, hk]); rfl); first | refine qzT ?_ | refine qzF ?_) | ((first | refine W_reg rfl fun G K hG hK => ?_ | refine W_end rfl fun G K hG hK => ?_); simp (disch := omega) only [go_sem, ↓reduceIte, Nat.reduceEqDiff, hG, q1, q2, q3, hk]; refine hK _ _ ?_; clear hK K hG G))
   exact ⟨s, L, hx0, by simpa using hs, hf, (by refine ⟨?_, ?_, ?_⟩ <;> ((simp (disch := omega) only [go_sem, ↓reduceIte, Nat.reduceEqDiff, q1, q2, q3]); try rfl))⟩
  | true =>
   obtain ⟨s', sb, L', hap, hs', hf', hg⟩ := OwnS.step (x := nm) hs hf hx0.length (Ext.refl st) (by omega)
   repeat (first | with_reducible (first | refine thenI ?_ | refine thenE ?_ | refine thenR ?_ | refine inBI ?_ | refine inBR ?_ | refine inBS ?_ | refine inBN (by decide) ?_) | refine W_seqS ?_ | refine W_seqC ?_ | refine W_seqB ?_ | refine W_block ?_ | refine W_skip ?_ | (apply W_condB; (case hc => (simp (disch := omega) only [go_sem, ↓reduceIte, Nat.reduceEqDiff, q1, q2, q3, hk]); rfl); first | refine qzT ?_ | refine qzF ?_) | ((first | refine W_reg rfl fun G K hG hK => ?_ | refine W_end rfl fun G K hG hK => ?_); simp (disch := omega) only [go_sem, ↓reduceIte, Nat.reduceEqDiff, hG, q1, q2, q3, hk]; refine hK _ _ ?_; clear hK K hG G))
   refine W_end rfl fun G K hG hK => ?_; simp (disch := omega) only [go_sem, ↓reduceIte, Nat.reduceEqDiff, hG, q1, q2, q3, w_append, hap]
   refine hK _ _ ?_; clear hK K hG G; repeat (with_reducible first | refine thenI ?_ | refine thenE ?_ | refine thenR ?_ | refine inBI ?_ | refine inBR ?_ | refine inBS ?_ | refine inBN (by decide) ?_)
   exact ⟨s', L', hg.away.ext_of hx0 (hs.top hf), hs', hf', (by refine ⟨?_, ?_, ?_⟩ <;> ((simp (disch := omega) only [go_sem, ↓reduceIte, Nat.reduceEqDiff, q1, q2, q3]); try rfl))⟩
 rintro ⟨env, loc⟩ st' ⟨r, L1, hx1, hs1, hf1, e1, e2, l2⟩
 simp only at e1 e2 l2
 have hl1 : (l ++ (if (k == 1) = true then [nm] else [])).length ≤ l.length + 1 := by split <;> simp
 rw [T.vars_mk, ← List.append_assoc]
 generalize hgl : l ++ (if (k == 1) = true then [nm] else []) = l1 at hs1 hl1
 repeat (first | with_reducible (first | refine thenI ?_ | refine thenE ?_ | refine thenR ?_ | refine inBI ?_ | refine inBR ?_ | refine inBS ?_ | refine inBN (by decide) ?_) | refine W_seqS ?_ | refine W_seqC ?_ | refine W_seqB ?_ | refine W_block ?_ | refine W_skip ?_ | (apply W_condB; (case hc => (simp (disch := omega) only [go_sem, ↓reduceIte, Nat.reduceEqDiff, q1, q2, q3, e1, e2, l2]); rfl); first | refine qzT ?_ | refine qzF ?_) | ((first | refine W_reg rfl fun G K hG hK => ?_ | refine W_end rfl fun G K hG hK => ?_); simp (disch := omega) only [go_sem, ↓reduceIte, Nat.reduceEqDiff, hG, q1, q2, q3, e1, e2, l2]; refine hK _ _ ?_; clear hK K hG G))
 refine W_loop (fun d fr st' => ∃ (j : Nat) (r1 : Value) (L2 : List Nat), d = xs.length - j ∧ j ≤ xs.length ∧ (Ext s0 st') ∧ (Sl st' (l1 ++ T.varsL (xs.take j)) r1 L2) ∧ (Fresh s0.length L2) ∧ (fr.env 1 = r1) ∧ (fr.env 2 = .pointer (some ⟨2, 0, some 1⟩)) ∧ (fr.env 5 = .int .i64 j) ∧ (fr.loc 2 = (1, [.int .i64 k, .int .i64 n, .string nm, s1]))) (xs.length) ?_ ?_
 ·exact ⟨0, r, L1, by omega, by omega, hx1, by simpa [T.varsL] using hs1, hf1, (by refine ⟨?_, ?_, ?_, ?_⟩ <;> ((simp (disch := omega) only [go_sem, ↓reduceIte, Nat.reduceEqDiff, q1, q2, q3, e1, e2, l2, hlen]); try rfl))⟩
 clear e1 e2 l2
 rintro d ⟨env, loc⟩ st' ⟨j, r1, L2, hd, hj, hext, hown, hfr, e1, e2, e5, l2⟩
 simp only at e1 e2 e5 l2
 have ol := hown.loc
 by_cases hlt : j < xs.length
 ·have c1 : decide ((j : Int) < (xs.length : Int)) = true := by simpa using hlt
  have hi := idxOk hlt
  have hx : xs[j]? = some xs[j] := List.getElem?_eq_getElem hlt
  have htk : xs.take (j + 1) = xs.take j ++ [xs[j]] := List.take_succ_eq_append_getElem hlt
  obtain ⟨i, o, c, cs, rfl, hcl, hE, hcs⟩ := row_at hr hx
  have hld := fun loc => load_row (A := []) (loc := loc) ag30 sz30 hcl (hcs.ext hext)
  have hbt := T.vars_room hlt
  repeat (first | with_reducible (first | refine thenI ?_ | refine thenE ?_ | refine thenR ?_ | refine inBI ?_ | refine inBR ?_ | refine inBS ?_ | refine inBN (by decide) ?_) | refine W_seqS ?_ | refine W_seqC ?_ | refine W_seqB ?_ | refine W_block ?_ | refine W_skip ?_ | (apply W_condB; (case hc => (simp (disch := omega) only [go_sem, ↓reduceIte, Nat.reduceEqDiff, q1, q2, q3, hlen, e1, e2, e5, l2, c1, hi, idxA, Int.toNat_natCast]); rfl); first | refine qzT ?_ | refine qzF ?_) | ((first | refine W_reg rfl fun G K hG hK => ?_ | refine W_end rfl fun G K hG hK => ?_); simp (disch := omega) only [go_sem, ↓reduceIte, Nat.reduceEqDiff, hG, q1, q2, q3, hlen, e1, e2, e5, l2, c1, hi, idxA, Int.toNat_natCast]; refine hK _ _ ?_; clear hK K hG G))
  refine W_end rfl fun G K hG hK => ?_; simp (disch := omega) only [go_sem, ↓reduceIte, Nat.reduceEqDiff, hG, q1, q2, q3, hlen, e1, e2, e5, l2, c1, hi, idxA, Int.toNat_natCast, hld, ol]
  refine w_call (ih xs[j] (List.getElem_mem hlt) s0 st' _ (l1 ++ T.varsL (xs.take j)) r1 L2 (hlm.args.2 _ (List.getElem_mem hlt)) (by rw [List.length_append]; omega) hext hE hown hfr) (by simp (disch := omega) only [go_sem, ↓reduceIte, Nat.reduceEqDiff, q1, q2, q3, hlen, e1, e2, e5, l2, c1, hi, idxA, Int.toNat_natCast, ol]) ?hl ?_
  case hl => first | rfl | (simp only [go_sem, List.all_cons, List.all_nil, Bool.not_false, Bool.and_self, q1, q2, q3, hlen, e1, e2, e5, l2, c1, hi, idxA, Int.toNat_natCast, ol]; done)
  rintro r_ sb ⟨x1, L3, hown2, hfr2⟩; refine ⟨fun e => (by cases e), ?_⟩
  have ol2 := hown2.loc
  simp (disch := omega) only [go_sem, ↓reduceIte, Nat.reduceEqDiff, hG, q1, q2, q3, hlen, e1, e2, e5, l2, c1, hi, idxA, Int.toNat_natCast, ol2]; refine hK _ _ ?_; clear hK K hG G; repeat (with_reducible first | refine thenI ?_ | refine thenE ?_ | refine thenR ?_ | refine inBI ?_ | refine inBR ?_ | refine inBS ?_ | refine inBN (by decide) ?_)
  repeat (first | with_reducible (first | refine thenI ?_ | refine thenE ?_ | refine thenR ?_ | refine inBI ?_ | refine inBR ?_ | refine inBS ?_ | refine inBN (by decide) ?_) | refine W_seqS ?_ | refine W_seqC ?_ | refine W_seqB ?_ | refine W_block ?_ | refine W_skip ?_ | (apply W_condB; (case hc => (simp (disch := omega) only [go_sem, ↓reduceIte, Nat.reduceEqDiff, q1, q2, q3, hlen, e1, e2, e5, l2, c1, hi, idxA, Int.toNat_natCast]); rfl); first | refine qzT ?_ | refine qzF ?_) | ((first | refine W_reg rfl fun G K hG hK => ?_ | refine W_end rfl fun G K hG hK => ?_); simp (disch := omega) only [go_sem, ↓reduceIte, Nat.reduceEqDiff, hG, q1, q2, q3, hlen, e1, e2, e5, l2, c1, hi, idxA, Int.toNat_natCast]; refine hK _ _ ?_; clear hK K hG G))
  refine ⟨xs.length - (j + 1), by omega, j + 1, _, L3, rfl, by omega, x1, by rw [T.varsL_take hlt, ← List.append_assoc]; exact hown2, hfr2, (by refine ⟨?_, ?_, ?_, ?_⟩ <;> ((simp (disch := omega) only [go_sem, ↓reduceIte, Nat.reduceEqDiff, q1, q2, q3, hlen, e1, e2, e5, l2, c1, hi, idxA, Int.toNat_natCast]); try rfl))⟩
 ·have c1 : decide ((j : Int) < (xs.length : Int)) = false := by simpa using hlt
  have hjn : j = xs.length := by omega
  subst hjn
  rw [List.take_length] at hown
  repeat (first | with_reducible (first | refine thenI ?_ | refine thenE ?_ | refine thenR ?_ | refine inBI ?_ | refine inBR ?_ | refine inBS ?_ | refine inBN (by decide) ?_) | refine W_seqS ?_ | refine W_seqC ?_ | refine W_seqB ?_ | refine W_block ?_ | refine W_skip ?_ | (apply W_condB; (case hc => (simp (disch := omega) only [go_sem, ↓reduceIte, Nat.reduceEqDiff, q1, q2, q3, hlen, e1, e2, e5, l2, c1, ol]); rfl); first | refine qzT ?_ | refine qzF ?_) | ((first | refine W_reg rfl fun G K hG hK => ?_ | refine W_end rfl fun G K hG hK => ?_); simp (disch := omega) only [go_sem, ↓reduceIte, Nat.reduceEqDiff, hG, q1, q2, q3, hlen, e1, e2, e5, l2, c1, ol]; refine hK _ _ ?_; clear hK K hG G))
  refine W_exit ?_; repeat (with_reducible first | refine thenI ?_ | refine thenE ?_ | refine thenR ?_ | refine inBI ?_ | refine inBR ?_ | refine inBS ?_ | refine inBN (by decide) ?_)
  repeat (first | with_reducible (first | refine thenI ?_ | refine thenE ?_ | refine thenR ?_ | refine inBI ?_ | refine inBR ?_ | refine inBS ?_ | refine inBN (by decide) ?_) | refine W_seqS ?_ | refine W_seqC ?_ | refine W_seqB ?_ | refine W_block ?_ | refine W_skip ?_ | (apply W_condB; (case hc => (simp (disch := omega) only [go_sem, ↓reduceIte, Nat.reduceEqDiff, q1, q2, q3, hlen, e1, e2, e5, l2, c1, ol]); rfl); first | refine qzT ?_ | refine qzF ?_) | ((first | refine W_reg rfl fun G K hG hK => ?_ | refine W_end rfl fun G K hG hK => ?_); simp (disch := omega) only [go_sem, ↓reduceIte, Nat.reduceEqDiff, hG, q1, q2, q3, hlen, e1, e2, e5, l2, c1, ol]; refine hK _ _ ?_; clear hK K hG G))
  refine W_ret ?_; try (repeat (with_reducible first | refine thenI ?_ | refine thenE ?_ | refine thenR ?_ | refine inBI ?_ | refine inBR ?_ | refine inBS ?_ | refine inBN (by decide) ?_))
  refine fin1 (.inl rfl) (by (simp (disch := omega) only [go_sem, ↓reduceIte, Nat.reduceEqDiff, q1, q2, q3, hlen, e1, e2, e5, l2, c1, ol]); try rfl) ol ⟨hext, L2, hown, hfr⟩
theorem specVarsOf_ok (t : T) (st : St) (cs : List Value) (hlm : Lim 1073741824 t) (hB : t.wt + 1 ≤ 1073741824) (hE : Enc st t cs) :
  CallS Try.prog 14 [.agg cs.toArray] st fun r st2 => Ext st st2 ∧ ∃ L, Sl st2 (namesB (T.vars t)) r L ∧ Fresh st.length L := by
 obtain ⟨k, n, nm, args, hte⟩ := T.eta t
 obtain ⟨s1, rfl, hr⟩ := (hte ▸ hE).open
 refine CallS_of_W [] 7 Try.func14 rfl rfl rfl rfl (by simp) ?_
 have q1 := hr.notLoc.1
 have q2 := hr.notLoc.2
 have hvl := T.vars_len t
 repeat (first | with_reducible (first | refine thenI ?_ | refine thenE ?_ | refine thenR ?_ | refine inBI ?_ | refine inBR ?_ | refine inBS ?_ | refine inBN (by decide) ?_) | refine W_seqS ?_ | refine W_seqC ?_ | refine W_seqB ?_ | refine W_block ?_ | refine W_skip ?_ | (apply W_condB; (case hc => (simp (disch := omega) only [go_sem, ↓reduceIte, Nat.reduceEqDiff, q1, q2]); rfl); first | refine qzT ?_ | refine qzF ?_) | ((first | refine W_reg rfl fun G K hG hK => ?_ | refine W_end rfl fun G K hG hK => ?_); simp (disch := omega) only [go_sem, ↓reduceIte, Nat.reduceEqDiff, hG, q1, q2]; refine hK _ _ ?_; clear hK K hG G))
 (repeat (first | refine W_seqS ?_ | refine W_seqC ?_ | refine W_seqB ?_ | refine W_block ?_)); refine W_reg rfl fun G K hG hK => ?_; simp (disch := omega) only [go_sem, ↓reduceIte, Nat.reduceEqDiff, hG, q1, q2]
 refine w_call (specVars_ok t st (st ++ [⟨[], 9, 0⟩]) _ [] _ [st.length] hlm (by simpa using hB) (Ext.app _ _) hE (Sl.empty st) ⟨by simp, by simp⟩) (by simp (disch := omega) only [go_sem, ↓reduceIte, Nat.reduceEqDiff, q1, q2]) ?hl ?_
 case hl => first | rfl | (simp only [go_sem, List.all_cons, List.all_nil, Bool.not_false, Bool.and_self, q1, q2]; done)
 rintro r_ sa ⟨x1, L1, hs1, hf1⟩; refine ⟨fun e => (by cases e), ?_⟩
 have o1 := hs1.loc
 simp (disch := omega) only [go_sem, ↓reduceIte, Nat.reduceEqDiff, q1, q2, o1]
 refine w_call (specSort_ok (T.vars t) sa _ (by omega) (by simpa using hs1.row)) (by simp (disch := omega) only [go_sem, ↓reduceIte, Nat.reduceEqDiff, q1, q2, o1]) ?hl ?_
 case hl => first | rfl | (simp only [go_sem, List.all_cons, List.all_nil, Bool.not_false, Bool.and_self, q1, q2, o1]; done)
 rintro r_ sb ⟨x2, L2, hs2, hf2⟩; refine ⟨fun e => (by cases e), ?_⟩
 have o2 := hs2.loc
 simp (disch := omega) only [go_sem, ↓reduceIte, Nat.reduceEqDiff, hG, q1, q2, o2]; refine hK _ _ ?_; clear hK K hG G; repeat (with_reducible first | refine thenI ?_ | refine thenE ?_ | refine thenR ?_ | refine inBI ?_ | refine inBR ?_ | refine inBS ?_ | refine inBN (by decide) ?_)
 have hl1 := x1.length
 refine W_ret ?_; try (repeat (with_reducible first | refine thenI ?_ | refine thenE ?_ | refine thenR ?_ | refine inBI ?_ | refine inBR ?_ | refine inBS ?_ | refine inBN (by decide) ?_))
 refine fin1 (.inl rfl) (by (simp (disch := omega) only [go_sem, ↓reduceIte, Nat.reduceEqDiff, q1, q2]); try rfl) o2 ⟨x1.trans x2, L2, hs2, hf2.1, fun i hi => Nat.le_trans hl1 (hf2.2 i hi)⟩

/-- A row stays where another block alone has turned. -/
theorem Sl.away {α : Type} [Kind α] {a b : St} {xs : List α} {s : Value} {L : List Nat} {k : Option Nat} {n m : Nat} (h : Sl a xs s L) (hw : Away k a b) (hL : ∀ i ∈ L, n ≤ i ∧ i < m) (hk : ∀ q, k = some q → q < n ∨ m ≤ q) : Sl b xs s L :=
 h.frame fun i hi => hw.2 i (h.lt i hi) fun e => by
  have h1 := hL i hi
  have h2 := hk i e
  omega

end

end Go.Proofs.Ytdijnohbbgbklaa.AM
/- The whole world as an abstract store: what a law begins with. -/
namespace Go.Proofs.Ytdijnohbbgbklaa.AM
open Go Go.RowKit
set_option linter.unusedVariables false
set_option linter.unusedSimpArgs false

def jv : Value := .pointer (some ⟨0, 0, some 0⟩)
/-- A world's value, if it can be told of. -/
def absV (n : Nat) (v : Value) : Value := match v with
 | .slice (some a) l c => if a.spot = none ∧ a.block < n ∧ l ≤ c then v else if l = 0 ∧ c = 0 then .slice (some ⟨0, 0, some 0⟩) 0 0 else jv
 | v => if flat1 v then v else jv
def absB (W : World) (i : Nat) : Blk := match W.heap[i]? with
 | some (.cells c t _) => ⟨c.toList.map (absV W.heap.size), t, 1⟩
 | _ => ⟨[], 0, 1⟩
def size0 (W : World) (i : Nat) : Nat := match W.heap[i]? with
 | some (.cells c _ _) => c.size
 | _ => 0
def absS (W : World) : St := (List.range W.heap.size).map (absB W)
def absM (W : World) : List ME := (List.range W.heap.size).map fun i => ⟨i, size0 W i, 0, false⟩

theorem absS_get {W : World} {i : Nat} {b : Blk} (h : (absS W)[i]? = some b) : i < W.heap.size ∧ b = absB W i := by
 unfold absS at h
 rw [List.getElem?_map] at h
 by_cases hi : i < W.heap.size
 ·rw [List.getElem?_range hi] at h
  exact ⟨hi, (Option.some.inj h).symm⟩
 ·rw [List.getElem?_eq_none (by simp; omega)] at h; cases h
theorem absS_of {W : World} {i : Nat} (hi : i < W.heap.size) : (absS W)[i]? = some (absB W i) := by
 unfold absS
 rw [List.getElem?_map, List.getElem?_range hi]; rfl
theorem absM_get {W : World} {i : Nat} {m : ME} (h : (absM W)[i]? = some m) : i < W.heap.size ∧ m = ⟨i, size0 W i, 0, false⟩ := by
 unfold absM at h
 rw [List.getElem?_map] at h
 by_cases hi : i < W.heap.size
 ·rw [List.getElem?_range hi] at h
  exact ⟨hi, (Option.some.inj h).symm⟩
 ·rw [List.getElem?_eq_none (by simp; omega)] at h; cases h
theorem absM_of {W : World} {i : Nat} (hi : i < W.heap.size) : (absM W)[i]? = some ⟨i, size0 W i, 0, false⟩ := by
 unfold absM
 rw [List.getElem?_map, List.getElem?_range hi]; rfl
theorem absB_stat (W : World) (i : Nat) : (absB W i).stat = 1 := by unfold absB; split <;> rfl

theorem absV_vr {W : World} {v : Value} (h : isJ (absV W.heap.size v) = false) : one (absV W.heap.size v) = true ∧ VR (absM W) (absV W.heap.size v) v := by
 unfold absV at h ⊢
 split
 ·rename_i a l c
  split
  ·rename_i hc
   obtain ⟨b, o, sp⟩ := a
   obtain ⟨hsp, hb, hl⟩ := hc
   simp only at hsp
   subst hsp
   exact ⟨rfl, .sl _ _ _ _ _ _ _ (absM_of hb) hl (.inl ⟨rfl, fun _ e => by cases e⟩)⟩
  ·rename_i hc
   simp only [if_neg hc] at h
   split
   ·rename_i h0
    obtain ⟨rfl, rfl⟩ := h0
    exact ⟨rfl, .emp a⟩
   ·rename_i h0
    rw [if_neg h0] at h
    cases h
 ·rename_i hx
  split
  ·rename_i hf
   exact ⟨flat1_one hf, .fl _ hf⟩
  ·rename_i hf
   split at h
   ·rename_i a l c
    exact absurd rfl (hx a l c)
   ·rw [if_neg hf] at h; cases h

theorem Tab.lt {P : Program} {w : World} (h : Tab P w) : ∀ nm ∈ tabNm, ∀ g, P.globalNamed nm = some g → g < w.heap.size := by
 have key : ∀ nm g cs, P.globalNamed nm = some g → w.var? P nm = some cs → g < w.heap.size := fun nm g cs hg hv => by
  unfold World.var? at hv
  simp only [hg, Option.bind_some] at hv
  rcases Nat.lt_or_ge g w.heap.size with h' | h'
  ·exact h'
  ·rw [Array.getElem?_eq_none h'] at hv; cases hv
 intro nm hn g hg
 simp only [tabNm, List.mem_cons, List.not_mem_nil, or_false] at hn
 have hne : P.globalNamed nm ≠ none := by rw [hg]; simp
 rcases hn with rfl | hn
 ·exact key _ g _ hg (h.pow hne)
 ·obtain ⟨tp, p, hv⟩ := h.err nm hn hne
  exact key _ g _ hg hv
theorem abs_cov {P : Program} {W : World} (h : Tab P W) : Cov P (absM W) (absS W) := fun nm hn g hg => by
 have hlt := h.lt nm hn g hg
 exact ⟨g, _, _, absM_of hlt, rfl, absS_of hlt, absB_stat W g⟩
theorem abs_hr (P : Program) (W : World) (hT : Tab P W) : HR P ⟨W, absM W, absS W⟩ (absM W) (absS W) W := by
 refine ⟨by simp [absM, absS], fun _ _ h => h, fun i b m hb hm h2 hfar => ?_, fun i j b b' m m' hb hb' _ _ hm hm' e => ?_, fun i m hm => ?_, fun i m hm _ => ⟨i, m, hm, rfl⟩, fun i b m hb _ hm => ⟨hb, rfl⟩, rfl, rfl, rfl, Nat.le_refl _, fun _ _ _ => rfl, hT, abs_cov hT⟩
 ·obtain ⟨hi, rfl⟩ := absS_get hb
  obtain ⟨_, rfl⟩ := absM_get hm
  cases hh : W.heap[i]? with
  | none => exact absurd ⟨absB_stat W i, by simp [absB, hh]⟩ hfar
  | some o =>
   cases o with
   | cells c t q =>
    have e1 : absB W i = ⟨c.toList.map (absV W.heap.size), t, 1⟩ := by unfold absB; rw [hh]
    have e2 : size0 W i = c.size := by unfold size0; rw [hh]
    rw [e1, e2]
    refine ⟨c, ⟨q, hh, fun e => by cases e⟩, rfl, by simp, fun j x hx => ?_, fun e => by cases e⟩
    simp only [List.getElem?_map, Option.map_eq_some_iff] at hx
    obtain ⟨y, hy, rfl⟩ := hx
    cases hj : isJ (absV W.heap.size y) with
    | true => exact .inl ⟨rfl, rfl⟩
    | false =>
     obtain ⟨h2, h3⟩ := absV_vr hj
     exact .inr ⟨h2, y, by simpa using hy, h3⟩
   | _ => exact absurd ⟨absB_stat W i, by simp [absB, hh]⟩ hfar
 ·obtain ⟨_, rfl⟩ := absM_get hm
  obtain ⟨_, rfl⟩ := absM_get hm'
  exact e
 ·obtain ⟨hi, rfl⟩ := absM_get hm
  exact hi

/-- An argument, and what the store says of it. -/
def ArgS (W : World) (x v : Value) : Prop := (isJ (absV W.heap.size v) = false ∧ x = absV W.heap.size v) ∨ ∃ cs : List Value, v = .agg cs.toArray ∧ x = .agg (cs.map (absV W.heap.size)).toArray ∧ ∀ c ∈ cs, isJ (absV W.heap.size c) = false

/-- What holds of a call that begins at the whole world. -/
theorem CallS.enter {P : Program} {f : FuncId} {args : List Value} {vals : Array Value} {W : World} {Q : Value → St → Prop} (hT : Tab P W) (h : CallS P f args (absS W) Q) (hl : args.length = vals.size) (hv : ∀ (i : Nat) x v, args[i]? = some x → vals[i]? = some v → ArgS W x v) :
  Calls P f vals W fun e w' => ∃ r v st' M', e = .returned v ∧ Q r st' ∧ VR M' r v ∧ Below W.heap.size W w' := by
 refine (h.2 (absM W) W vals (abs_hr P W hT) ⟨hl, fun i x y hx hy => ?_⟩).mono fun e w' ⟨r, v, st', M', he, hq, hvr, hr⟩ => ⟨r, v, st', M', he, hq, hvr, hr.os, hr.tape, hr.output, hr.size, fun k hk => ?_⟩
 ·rcases hv i x y hx hy with ⟨h1, rfl⟩ | ⟨cs, rfl, rfl, hcs⟩
  ·exact (absV_vr h1).2
  ·refine .agg _ _ (by simp) (fun i c hc => ?_) fun i c d hc hd => ?_
   ·simp only [List.getElem?_toArray, List.getElem?_map, Option.map_eq_some_iff] at hc
    obtain ⟨d, hd, rfl⟩ := hc
    exact (absV_vr (hcs d (List.mem_of_getElem? hd))).1
   ·simp only [List.getElem?_toArray, List.getElem?_map] at hc hd
    rw [hd] at hc
    obtain rfl := Option.some.inj hc
    exact (absV_vr (hcs d (List.mem_of_getElem? hd))).2
 ·exact (hr.ro k _ _ (absS_of hk) (absB_stat W k) (absM_of hk)).2

inductive ArgsS (W : World) : List Value → List Value → Prop
 | nil : ArgsS W [] []
 | cons (x v : Value) (xs vs : List Value) (h : ArgS W x v) (hs : ArgsS W xs vs) : ArgsS W (x :: xs) (v :: vs)
theorem ArgsS.get {W : World} {xs vs : List Value} (h : ArgsS W xs vs) : xs.length = vs.length ∧ ∀ (i : Nat) x v, xs[i]? = some x → vs[i]? = some v → ArgS W x v := by
 induction h with
 | nil => exact ⟨rfl, fun i x v hx => by simp at hx⟩
 | cons x v xs vs h hs ih =>
  refine ⟨by simp [ih.1], fun i y u hy hu => ?_⟩
  cases i with
  | zero =>
   simp only [List.getElem?_cons_zero, Option.some.injEq] at hy hu
   subst hy; subst hu; exact h
  | succ i => exact ih.2 i y u (by simpa using hy) (by simpa using hu)
/-- A program that has none of these variables. -/
theorem noTab {P : Program} {W : World} (h1 : P.globalNamed "internal/strconv.uint64pow10" = none) (h2 : P.globalNamed "strconv.ErrSyntax" = none) (h3 : P.globalNamed "strconv.ErrRange" = none) : Tab P W :=
 ⟨fun h => absurd h1 h, fun nm hn h => by
  rcases hn with rfl | rfl
  ·exact absurd h2 h
  ·exact absurd h3 h⟩
theorem CallS.enters {P : Program} {f : FuncId} {args : List Value} {vals : List Value} {W : World} {b : Bool} (hT : Tab P W) (h : CallS P f args (absS W) fun r _ => r = .bool b) (hv : ArgsS W args vals) :
  Calls P f vals.toArray W fun e w' => e = .returned (.bool b) ∧ Below W.heap.size W w' :=
 (h.enter hT (by simpa using hv.get.1) fun i x v hx hv' => hv.get.2 i x v hx (by simpa using hv')).mono fun e w' ⟨r, v, st', M', he, hq, hvr, bel⟩ => by
  subst he; subst hq
  obtain rfl := hvr.flat_eq rfl
  exact ⟨rfl, bel⟩
theorem ArgS.flat {W : World} {v : Value} (h : isJ (absV W.heap.size v) = false) (e : absV W.heap.size v = v) : ArgS W v v := .inl ⟨h, e.symm⟩
theorem ArgS.int (W : World) (k : IntKind) (i : Int) : ArgS W (.int k i) (.int k i) := .inl ⟨rfl, rfl⟩
theorem ArgS.agg {W : World} {cs : Array Value} (h : ∀ c ∈ (Value.agg cs).cells.toList, isJ (absV W.heap.size c) = false) : ArgS W (.agg ((Value.agg cs).cells.toList.map (absV W.heap.size)).toArray) (.agg cs) := .inr ⟨cs.toList, rfl, rfl, h⟩

/-- A world's cell, read in the store. -/
theorem abs_cell {W : World} {b o : Nat} {v : Value} (h : W.cell? ⟨b, o, none⟩ = some v) (hj : isJ (absV W.heap.size v) = false) : cell (absS W) b o = some (absV W.heap.size v) := by
 unfold World.cell? at h
 simp only at h
 split at h
 ·rename_i c t q hb
  have hi : b < W.heap.size := (Array.getElem?_eq_some_iff.1 hb).1
  simp only [Option.isSome_none, Bool.false_eq_true, if_false] at h
  have e1 : absB W b = ⟨c.toList.map (absV W.heap.size), t, 1⟩ := by unfold absB; rw [hb]
  unfold cell
  rw [absS_of hi, e1]
  have e3 : (c.toList.map (absV W.heap.size))[o]? = some (absV W.heap.size v) := by
   rw [List.getElem?_map, Array.getElem?_toList, h]; rfl
  simp only [e3]
  simp [hj]
 ·cases h

/-- What a cell that was read holds can be told of. -/
def Told (W : World) (v : Value) : Prop := isJ (absV W.heap.size v) = false

theorem spot_of {w : World} {a : Addr} {n b : Nat} {cs : List Value} (h : w.cells? b a n = some cs) (hn : 0 < n) : a.spot = none := by
 obtain ⟨_, hl, hc⟩ := World.cells?_some h
 have h1 := hc 0 hn
 rw [List.getElem?_eq_getElem (by omega)] at h1
 obtain ⟨b, o, sp⟩ := a
 cases sp with
 | none => rfl
 | some s =>
  unfold World.cell? Addr.add at h1
  simp only at h1
  split at h1
  ·split at h1 <;> simp_all
  ·cases h1
theorem spot_add {a : Addr} {k : Nat} (hk : k = 0) (h : (a.add k).spot = none) : a.spot = none := by
 subst hk
 exact h

/-- A slice that was read: its elements, one by one. -/
theorem open_rowA {H : Type} {enc : TypeId × Value → H} {P : Program} {w : World} {α : Type} {E : α → List Value → Prop} {G : α → Prop} {t e : TypeId} {sz : Nat} (ht : P.underlying t = some (.slice e)) (hc : P.cellsOf e = sz) (hsz : 0 < sz) {fuel : Nat} {cs : List Value} {x : DataW H × List MemPlace}
  (h : DataW.trod enc P w 0 (fun _ => true) true fuel t cs = some x) (hel : ∀ n cs y, n < fuel → DataW.trod enc P w 0 (fun _ => true) true n e cs = some y → ∃ z, E z (cs.map (absV w.heap.size)) ∧ G z ∧ ∀ c ∈ cs, Told w c) :
  ∃ s, ∃ xs : List α, cs = [s] ∧ Told w s ∧ Row E sz (absS w) xs (absV w.heap.size s) ∧ xs.length ≤ maxLen ∧ ∀ z ∈ xs, G z := by
 have hlt := DataW.trod_lt _ _ _ _ h
 rcases DataW.trod_slice ht h with ⟨rfl, _⟩ | ⟨a, len, cap, elems, rest, n, rfl, rfl, rfl, _, hl, hm, hlen, hel2, hrest, _⟩
 ·exact ⟨_, [], rfl, rfl, .inl ⟨.inl rfl, rfl⟩, Nat.zero_le _, by simp⟩
 ·simp only [hc] at hel2 hlt hrest
  by_cases h0 : cap = 0
  ·subst h0
   obtain rfl : len = 0 := by omega
   by_cases hq : a.spot = none ∧ a.block < w.heap.size ∧ 0 ≤ 0
   ·obtain ⟨b, o, sp⟩ := a
    obtain ⟨hsp, hb, _⟩ := hq
    simp only at hsp hb
    subst hsp
    have e1 : absV w.heap.size (.slice (some ⟨b, o, none⟩) 0 0) = .slice (some ⟨b, o, none⟩) 0 0 := by unfold absV; simp only; rw [if_pos (by exact ⟨trivial, hb, Nat.le_refl _⟩)]
    refine ⟨_, [], rfl, by unfold Told; rw [e1]; rfl, ?_, Nat.zero_le _, by simp⟩
    rw [e1]
    exact .inr ⟨b, o, 0, rfl, by simp⟩
   ·have e1 : absV w.heap.size (.slice (some a) 0 0) = .slice (some ⟨0, 0, some 0⟩) 0 0 := by unfold absV; simp only; rw [if_neg hq]; simp
    refine ⟨_, [], rfl, by unfold Told; rw [e1]; rfl, ?_, Nat.zero_le _, by simp⟩
    rw [e1]
    exact .inl ⟨.inr rfl, rfl⟩
  ·have hrl := (hrest trivial).1
   have hb : a.block < w.heap.size := hlt (.cell a.block (a.off + 0)) (by
    refine List.mem_append_left _ ?_
    unfold MemPlace.row
    refine List.mem_map.2 ⟨0, List.mem_range.2 (Nat.mul_pos (by omega) hsz), rfl⟩)
   have hsp : a.spot = none := by
    by_cases hl0 : 0 < len
    ·have h1 := hel2 0 hl0
     rw [List.getElem?_eq_getElem (by omega), Option.bind_eq_some_iff] at h1
     obtain ⟨c, hcs, _⟩ := h1
     exact spot_add (by first | (simp; done) | (rw [show len = 0 by omega]; simp)) (spot_of hcs hsz)
    ·have h1 := (hrest trivial).2 0 (by omega)
     rw [List.getElem?_eq_getElem (by omega), Option.bind_eq_some_iff] at h1
     obtain ⟨c, hcs, _⟩ := h1
     exact spot_add (by first | (simp; done) | (rw [show len = 0 by omega]; simp)) (spot_of hcs hsz)
   obtain ⟨b, o, sp⟩ := a
   simp only at hsp hb
   subst hsp
   have e1 : absV w.heap.size (.slice (some ⟨b, o, none⟩) len cap) = .slice (some ⟨b, o, none⟩) len cap := by unfold absV; simp only; rw [if_pos (by exact ⟨trivial, hb, hl⟩)]
   have each : ∀ i : _root_.Fin len, ∃ z, G z ∧ ∃ c : List Value, c.length = sz ∧ E z c ∧ CellsAt (absS w) b (o + i.1 * sz) c := by
    intro i
    have hi := hel2 i.1 i.2
    rw [List.getElem?_eq_getElem (by rw [hlen]; exact i.2), Option.bind_eq_some_iff] at hi
    obtain ⟨c, hcs, hy⟩ := hi
    obtain ⟨z, hz, hG, htold⟩ := hel n c _ (Nat.lt_succ_self n) hy
    obtain ⟨_, hcl, hcc⟩ := World.cells?_some hcs
    refine ⟨z, hG, _, by simpa using hcl, hz, fun q v hv => ?_⟩
    simp only [List.getElem?_map, Option.map_eq_some_iff] at hv
    obtain ⟨u, hu, rfl⟩ := hv
    have hq : q < sz := by have := (List.getElem?_eq_some_iff.1 hu).1; omega
    have h2 := hcc q hq
    rw [addr_add, addr_add, hu] at h2
    exact abs_cell h2 (htold u (List.mem_of_getElem? hu))
   have hlen3 : (List.ofFn fun i : _root_.Fin len => Classical.choose (each i)).length = len := List.length_ofFn
   refine ⟨_, List.ofFn fun i : _root_.Fin len => Classical.choose (each i), rfl, by unfold Told; rw [e1]; rfl, ?_, by rw [hlen3]; omega, ?_⟩
   ·rw [e1]
    refine .inr ⟨b, o, cap, by rw [hlen3], fun j x hj => ?_⟩
    have hjl : j < len := by have := (List.getElem?_eq_some_iff.1 hj).1; rwa [hlen3] at this
    obtain ⟨_, c, h1, h2, h3⟩ := Classical.choose_spec (each ⟨j, hjl⟩)
    have hp : Classical.choose (each ⟨j, hjl⟩) = x := by
     have := (List.getElem?_eq_some_iff.1 hj).2
     rw [List.getElem_ofFn] at this
     exact this
    rw [hp] at h2
    exact ⟨c, h1, h2, h3⟩
   ·intro z hz
    rw [List.mem_ofFn] at hz
    obtain ⟨i, rfl⟩ := hz
    exact (Classical.choose_spec (each i)).1
end Go.Proofs.Ytdijnohbbgbklaa.AM


/- What a law's arguments read as. -/
namespace Go.Proofs.Ytdijnohbbgbklaa.AM
open Go Go.Proofs
set_option linter.unusedVariables false
set_option linter.unusedSimpArgs false

theorem toldA_int {H : Type} {enc : TypeId × Value → H} {P : Program} {w : World} {t : TypeId} {k : IntKind} (ht : P.underlying t = some (.int k)) {fuel : Nat} {cs : List Value} {x : DataW H × List MemPlace} (h : DataW.trod enc P w 0 (fun _ => true) true fuel t cs = some x) :
  ∃ z, cs = [.int k z] ∧ (Lit.int k z).wf = true := by
 obtain ⟨n, rfl, _, hw⟩ := DataW.trod_int ht h
 exact ⟨n, rfl, hw⟩
end Go.Proofs.Ytdijnohbbgbklaa.AM


namespace Go.Proofs.Ytdijnohbbgbklaa.AM
open Go
attribute [local go_sem] List.map_cons List.map_nil List.all_cons List.all_nil Bool.and_self Option.map_some List.getElem?_toArray Option.bind_some gye_b gye_t gsk_b gsk_t gb1 gb2 gb3 gb4 bne_self_eq_false beq_self_eq_true w_guard w_nil stepV_some step_some step_some' w_move w_assign w_pick w_binOp w_unOp w_load w_fieldAddr w_indexAddr w_len w_max w_index ev_max max_int ev_index w_box w_alloc w_store w_field w_extract w_nilCheck w_convert w_buildSlice w_build ev_buildL fillL_nil fillL_cons bs0 bs1 ev_conv ev_bin ev_un ev_pick ev_load ev_fieldAddr ev_indexAddr ev_len ev_field ev_extract ev_nilCheck fr_tmp fr_int fr_bool fr_str fr_nil fr_func put_some put_none bin_lss bin_leq bin_gtr bin_geq bin_eql bin_neq bin_add bin_sub bin_mul bin_seql bin_sneq un_not pick_ ext_ loadA_p cellAt_l cellAt_h okPtr_l okPtr_h fadA_p allocA_l storeA_l cells_agg cells_int cells_str cells_sl cells_bool flat_i flat_s flat_b flat_sl flat_nil loc_agg loc_int loc_str loc_sl loc_bool loc_fn loc_ptr okv_agg okv_int okv_str okv_sl okv_bool cellsFrom splice upd_eval argEnv_zero argEnv_succ ne_eq Nat.add_one_ne_zero not_false_eq_true List.not_mem_nil and_self decide_true List.getElem?_cons_zero List.getElem?_cons_succ List.size_toArray List.length_cons List.length_nil List.take_succ_cons List.take_zero List.drop_succ_cons List.drop_zero List.cons_append List.nil_append List.drop_nil Bool.not_true Bool.not_false Bool.false_eq_true Nat.zero_add Nat.add_zero wrap_in List.toList_toArray List.mem_cons or_self or_false false_or
attribute [local go_sem] ag103 ag22 ag24 ag25 ag27 ag28 ag3 ag30 ag37 ag5 ag54 ag9 bu27 bu30 bu37 bu54 bu67 by30 by37 by54 by9 el22 el24 el25 el28 el33 el52 of27_0 of27_1 of30_0 of30_1 of30_2 of30_3 of37_0 of37_1 of54_0 of54_1 of54_2 of67_0 of67_1 of67_2 ro3_3 ro3_4 ro30_0 ro30_1 ro30_2 ro37_0 ro37_1 ro37_4 ro54_1 ro54_7 ro9_0 ro9_1 ro9_2 ro9_3 ro9_4 ro9_5 sz103 sz22 sz24 sz25 sz27 sz28 sz3 sz30 sz37 sz5 sz54 sz9 ze103 ze27 ze3 ze30 ze37 ze54 ze9
section
/- What the laws of terms share. -/
open Go Go.Proofs
set_option linter.unusedVariables false
set_option linter.unusedSimpArgs false
set_option maxRecDepth 100000

theorem Own.ext {e : TypeId} {st st' : St} {t : T} {cs : List Value} {L : List Nat} (h : Own e st t cs L) (hx : Ext st st') : Own e st' t cs L := Own.frame _ _ _ (fun i hi => hx.get (Own.lt _ _ _ h i hi)) h
theorem Own.apart {e : TypeId} {st : St} {t : T} {cs : List Value} {L K : List Nat} (h : Own e st t cs L) (hf : Fresh st.length K) : ∀ i ∈ L, i ∉ K := fun i hi hk => by
 have h1 := Own.lt _ _ _ h i hi
 have h2 := hf.2 i hk
 omega

end

section
/- Two substitutions do the same: SameSubst on both sides. -/
open Go Go.Proofs
set_option linter.unusedVariables false
set_option linter.unusedSimpArgs false
set_option maxRecDepth 100000
-- AUTO

def T.var (nm : ByteArray) : T := .mk 1 0 nm []
def sameAt (xs ys : List Bnd) (b : Bnd) : Bool := T.eqv (T.sub xs (T.var b.nm)) (T.sub ys (T.var b.nm))
def same (xs ys : List Bnd) : Bool := (xs ++ ys).all (sameAt xs ys)
theorem l3Var_ok (nm : ByteArray) (st : St) : CallS Try.prog 59 [.string nm] st fun r st2 => r = .agg #[.int .i64 1, .int .i64 0, .string nm, .slice none 0 0] ∧ st2 = st := by
 refine CallS_of_W [] 5 Try.func59 rfl rfl rfl rfl (by simp) ?_
 repeat (first | with_reducible (first | refine thenI ?_ | refine thenE ?_ | refine thenR ?_ | refine inBI ?_ | refine inBR ?_ | refine inBS ?_ | refine inBN (by decide) ?_) | refine W_seqS ?_ | refine W_seqC ?_ | refine W_seqB ?_ | refine W_block ?_ | refine W_skip ?_ | (apply W_condB; (case hc => (simp (disch := omega) only [go_sem, ↓reduceIte, Nat.reduceEqDiff]); rfl); first | refine qzT ?_ | refine qzF ?_) | ((first | refine W_reg rfl fun G K hG hK => ?_ | refine W_end rfl fun G K hG hK => ?_); simp (disch := omega) only [go_sem, ↓reduceIte, Nat.reduceEqDiff, hG]; refine hK _ _ ?_; clear hK K hG G))
 refine W_ret ?_; try (repeat (with_reducible first | refine thenI ?_ | refine thenE ?_ | refine thenR ?_ | refine inBI ?_ | refine inBR ?_ | refine inBS ?_ | refine inBN (by decide) ?_))
 refine finC (.inl rfl) (by (simp (disch := omega) only [go_sem, ↓reduceIte, Nat.reduceEqDiff]); try rfl) ⟨rfl, rfl⟩


end

section
/- List literals; l1Pick, l1PickInt, l3App. -/
open Go Go.Proofs
set_option linter.unusedVariables false
set_option linter.unusedSimpArgs false
set_option maxRecDepth 100000
-- AUTO

/-- The parts of a list literal are laid in. -/
def fillK (sz : Nat) : List Value → List (Nat × Value) → Option (List Value)
 | z, [] => some z
 | z, (i, v) :: rest => if (vc v).size = sz ∧ i * sz + sz ≤ z.length then fillK sz (splice z (i * sz) (vc v).toList) rest else none
theorem fillK_nil {sz : Nat} {z : List Value} : fillK sz z [] = some z := rfl
theorem fillK_cons {sz i : Nat} {z : List Value} {v : Value} {rest : List (Nat × Value)} : fillK sz z ((i, v) :: rest) = if (vc v).size = sz ∧ i * sz + sz ≤ z.length then fillK sz (splice z (i * sz) (vc v).toList) rest else none := rfl
theorem fill_K (sz : Nat) : ∀ (ps : List (Nat × Value)) (z : List Value), Instr.fill (fun i => some (i * sz, sz)) z.toArray ps = (fillK sz z ps).map List.toArray := by
 intro ps
 induction ps with
 | nil => intro z; rfl
 | cons p ps ih =>
  intro z
  obtain ⟨i, v⟩ := p
  unfold Instr.fill fillK
  simp only
  unfold vc
  by_cases h : v.cells.size = sz ∧ i * sz + sz ≤ z.length
  ·rw [if_pos h, if_neg (by simp; omega)]
   rw [← ih]
   congr 1
   have := fold_splice v.cells.toList z.toArray (i * sz) 0 (by simp; omega)
   rw [← Array.foldl_toList]
   simpa [Array.toList_zipIdx] using this
  ·rw [if_neg h, if_pos (by simp; omega)]
   rfl
theorem bsL {P : Program} {H : List Tmp} {ρ : Operand → Value} {loc : Nat → Nat × List Value} {st : St} {t : TypeId} {n : Nat} {ps : Array (Nat × Operand)} {d : Option Tmp} {ty : TypeId} {p : String} {af : Array Edge} {g : Option (Nat × Bool)} : evalEff P H ⟨d, .buildSlice t n ps, ty, p, af, g⟩ ρ loc st = (match elemA P t with
  | some e => (match rowA P e n, szA P e with
   | some row, some sz => if ps.toList.all (fun p => okv (ρ p.2)) then (fillK sz row (ps.toList.map fun p => (p.1, ρ p.2))).map (fun l => (Value.slice (some ⟨st.length, 0, none⟩) n n, loc, st ++ [⟨l, e, 0⟩])) else none
   | _, _ => none)
  | none => none) := by
 simp only [evalEff]
 cases elemA P t with
 | none => rfl
 | some e =>
  simp only
  cases rowA P e n with
  | none => rfl
  | some row =>
   cases szA P e with
   | none => rfl
   | some sz =>
    simp only
    have h1 : (ps.all fun p => okv (ρ p.2)) = ps.toList.all (fun p => okv (ρ p.2)) := by rw [Array.all_toList]
    have h2 : (ps.map fun (i, x) => (i, ρ x)).toList = ps.toList.map fun p => (p.1, ρ p.2) := by simp
    rw [h1, h2, fill_K, Option.map_map]
    split
    ·cases fillK sz row (ps.toList.map fun p => (p.1, ρ p.2)) <;> rfl
    ·rfl
/-- A row stays where another block alone has turned. -/
theorem rw_away {st st' : St} {xs : List ByteArray} {s : Value} {q : Nat} (h : Rw st xs s) (ha : Away (some q) st st') (hn : topId s ≠ some q) : Rw st' xs s := by
 rcases h with h | ⟨i, o, c, rfl, h⟩
 ·exact .inl h
 ·refine .inr ⟨i, o, c, rfl, fun j x hx => ?_⟩
  obtain ⟨cs, h1, h2, h3⟩ := h j x hx
  refine ⟨cs, h1, h2, fun k v hv => ?_⟩
  have h4 := h3 k v hv
  have hi : i < st.length := by
   unfold cell at h4
   rcases Nat.lt_or_ge i st.length with h5 | h5
   ·exact h5
   ·rw [List.getElem?_eq_none h5] at h4; cases h4
  have h5 := ha.2 i hi (fun e => hn e.symm)
  unfold cell at h4 ⊢
  rw [h5]; exact h4
theorem l1Pick_ok (q : Nat) (xs : List Byt) (st : St) (ns : List ByteArray) (s : Value) (hn0 : 0 < ns.length) (hn1 : ns.length ≤ 256) (hq : Cur st q xs) (hr : Rw st ns s) (hne : topId s ≠ some q) :
  CallS Try.prog 18 [.pointer (some ⟨q, 0, none⟩), s] st fun r st2 => (∃ w, r = .string w ∧ w ∈ ns) ∧ Drawn q xs st st2 ∧ st2.length = st.length := by
 refine CallS_of_W [] 12 Try.func18 rfl rfl rfl rfl (by simp) ?_
 have q1 := hr.notLoc.1
 have hlen : lenE Try.prog 24 s = some (.int .i64 ns.length) := row_len hr Try.underlying24
 repeat (first | with_reducible (first | refine thenI ?_ | refine thenE ?_ | refine thenR ?_ | refine inBI ?_ | refine inBR ?_ | refine inBS ?_ | refine inBN (by decide) ?_) | refine W_seqS ?_ | refine W_seqC ?_ | refine W_seqB ?_ | refine W_block ?_ | refine W_skip ?_ | (apply W_condB; (case hc => (simp (disch := omega) only [go_sem, ↓reduceIte, Nat.reduceEqDiff, q1, hlen]); rfl); first | refine qzT ?_ | refine qzF ?_) | ((first | refine W_reg rfl fun G K hG hK => ?_ | refine W_end rfl fun G K hG hK => ?_); simp (disch := omega) only [go_sem, ↓reduceIte, Nat.reduceEqDiff, hG, q1, hlen]; refine hK _ _ ?_; clear hK K hG G))
 (repeat (first | refine W_seqS ?_ | refine W_seqC ?_ | refine W_seqB ?_ | refine W_block ?_)); refine W_reg rfl fun G K hG hK => ?_; simp (disch := omega) only [go_sem, ↓reduceIte, Nat.reduceEqDiff, hG, q1, hlen]
 refine w_call (l1Below_ok q xs st (ns.length : Int) (by omega) (by omega) hq) (by simp (disch := omega) only [go_sem, ↓reduceIte, Nat.reduceEqDiff, q1, hlen]) ?hl ?_
 case hl => first | rfl | (simp only [go_sem, List.all_cons, List.all_nil, Bool.not_false, Bool.and_self, q1, hlen]; done)
 rintro r_ sa ⟨⟨x, rfl, hx0, hx1⟩, hd, hl⟩; refine ⟨fun e => (by cases e), ?_⟩
 obtain ⟨n, rfl⟩ : ∃ n : Nat, x = n := ⟨x.toNat, by omega⟩
 have hlt : n < ns.length := by omega
 obtain ⟨i, o, c, rfl, hce⟩ := row_atS (rw_away hr hd.away hne) (List.getElem?_eq_getElem hlt)
 have hi := idxOk hlt
 simp (disch := omega) only [go_sem, ↓reduceIte, Nat.reduceEqDiff, hG, q1, hlen, hi, idxA, Int.toNat_natCast, hce]; refine hK _ _ ?_; clear hK K hG G; repeat (with_reducible first | refine thenI ?_ | refine thenE ?_ | refine thenR ?_ | refine inBI ?_ | refine inBR ?_ | refine inBS ?_ | refine inBN (by decide) ?_)
 refine W_ret ?_; try (repeat (with_reducible first | refine thenI ?_ | refine thenE ?_ | refine thenR ?_ | refine inBI ?_ | refine inBR ?_ | refine inBS ?_ | refine inBN (by decide) ?_))
 refine fin1 (.inl rfl) (by (simp (disch := omega) only [go_sem, ↓reduceIte, Nat.reduceEqDiff, q1, hlen]); try rfl) rfl ⟨⟨_, rfl, List.getElem_mem hlt⟩, hd, hl⟩
theorem l3App_ok (nm : ByteArray) (s : Value) (st : St) (h1 : isLoc s = false) (h2 : okv s = true) (h3 : vc s = #[s]) :
  CallS Try.prog 61 [.string nm, s] st fun r st2 => r = .agg #[.int .i64 2, .int .i64 0, .string nm, s] ∧ st2 = st := by
 refine CallS_of_W [] 8 Try.func61 rfl rfl rfl rfl (by simp) ?_
 repeat (first | with_reducible (first | refine thenI ?_ | refine thenE ?_ | refine thenR ?_ | refine inBI ?_ | refine inBR ?_ | refine inBS ?_ | refine inBN (by decide) ?_) | refine W_seqS ?_ | refine W_seqC ?_ | refine W_seqB ?_ | refine W_block ?_ | refine W_skip ?_ | (apply W_condB; (case hc => (simp (disch := omega) only [go_sem, ↓reduceIte, Nat.reduceEqDiff, h1, h2, h3]); rfl); first | refine qzT ?_ | refine qzF ?_) | ((first | refine W_reg rfl fun G K hG hK => ?_ | refine W_end rfl fun G K hG hK => ?_); simp (disch := omega) only [go_sem, ↓reduceIte, Nat.reduceEqDiff, hG, h1, h2, h3]; refine hK _ _ ?_; clear hK K hG G))
 refine W_ret ?_; try (repeat (with_reducible first | refine thenI ?_ | refine thenE ?_ | refine thenR ?_ | refine inBI ?_ | refine inBR ?_ | refine inBS ?_ | refine inBN (by decide) ?_))
 refine finC (.inl rfl) (by (simp (disch := omega) only [go_sem, ↓reduceIte, Nat.reduceEqDiff, h1, h2, h3]); try rfl) ⟨rfl, rfl⟩
theorem l3One_ok (nm : ByteArray) (t : T) (st : St) (cs : List Value) (L : List Nat) (ho : OwnT st t cs L) :
  CallS Try.prog 58 [.string nm, .agg cs.toArray] st fun r st2 => Ext st st2 ∧ ∃ ds, r = .agg ds.toArray ∧ OwnT st2 (.mk 2 0 nm [t]) ds (st.length :: L) := by
 refine CallS_of_W [] 9 Try.func58 rfl rfl rfl rfl (by simp) ?_
 obtain ⟨k, n, m, s, rfl, a1, a2, a3⟩ := ho.args_cells
 repeat (first | with_reducible (first | refine thenI ?_ | refine thenE ?_ | refine thenR ?_ | refine inBI ?_ | refine inBR ?_ | refine inBS ?_ | refine inBN (by decide) ?_) | refine W_seqS ?_ | refine W_seqC ?_ | refine W_seqB ?_ | refine W_block ?_ | refine W_skip ?_ | (apply W_condB; (case hc => (simp (disch := omega) only [go_sem, ↓reduceIte, Nat.reduceEqDiff, a1, a2, a3]); rfl); first | refine qzT ?_ | refine qzF ?_) | ((first | refine W_reg rfl fun G K hG hK => ?_ | refine W_end rfl fun G K hG hK => ?_); simp (disch := omega) only [go_sem, ↓reduceIte, Nat.reduceEqDiff, hG, a1, a2, a3]; refine hK _ _ ?_; clear hK K hG G))
 (repeat (first | refine W_seqS ?_ | refine W_seqC ?_ | refine W_seqB ?_ | refine W_block ?_)); refine W_reg rfl fun G K hG hK => ?_; simp (disch := omega) only [go_sem, ↓reduceIte, Nat.reduceEqDiff, hG, a1, a2, a3]
 refine w_call (l3App_ok nm (.slice (some ⟨st.length, 0, none⟩) 1 1) (st ++ [⟨[.int .i64 k, .int .i64 n, .string m, s], 30, 0⟩]) rfl rfl rfl) (by simp (disch := omega) only [go_sem, ↓reduceIte, Nat.reduceEqDiff, a1, a2, a3]) ?hl ?_
 case hl => first | rfl | (simp only [go_sem, List.all_cons, List.all_nil, Bool.not_false, Bool.and_self, a1, a2, a3]; done)
 rintro r_ sa ⟨rfl, rfl⟩; refine ⟨fun e => (by cases e), ?_⟩
 simp (disch := omega) only [go_sem, ↓reduceIte, Nat.reduceEqDiff, hG, a1, a2, a3]; refine hK _ _ ?_; clear hK K hG G; repeat (with_reducible first | refine thenI ?_ | refine thenE ?_ | refine thenR ?_ | refine inBI ?_ | refine inBR ?_ | refine inBS ?_ | refine inBN (by decide) ?_)
 refine W_ret ?_; try (repeat (with_reducible first | refine thenI ?_ | refine thenE ?_ | refine thenR ?_ | refine inBI ?_ | refine inBR ?_ | refine inBS ?_ | refine inBN (by decide) ?_))
 refine finC (.inl rfl) (by (simp (disch := omega) only [go_sem, ↓reduceIte, Nat.reduceEqDiff, a1, a2, a3]); try rfl) ⟨Ext.app _ _, [_, _, _, _], rfl, Own.close _ _ _ (.inr ⟨st.length, 1, _, L, rfl, by simp, RowO.one (Own.ext ho (Ext.app _ _)), rfl⟩)⟩
theorem l3Pair_ok (nm : ByteArray) (t u : T) (st : St) (cs ds : List Value) (L K : List Nat) (ho : OwnT st t cs L) (hp : OwnT st u ds K) :
  CallS Try.prog 60 [.string nm, .agg cs.toArray, .agg ds.toArray] st fun r st2 => Ext st st2 ∧ ∃ es, r = .agg es.toArray ∧ OwnT st2 (.mk 2 0 nm [t, u]) es (st.length :: (L ++ K)) := by
 refine CallS_of_W [] 12 Try.func60 rfl rfl rfl rfl (by simp) ?_
 obtain ⟨k, n, m, s, rfl, a1, a2, a3⟩ := ho.args_cells
 obtain ⟨k', n', m', s', rfl, b1, b2, b3⟩ := hp.args_cells
 repeat (first | with_reducible (first | refine thenI ?_ | refine thenE ?_ | refine thenR ?_ | refine inBI ?_ | refine inBR ?_ | refine inBS ?_ | refine inBN (by decide) ?_) | refine W_seqS ?_ | refine W_seqC ?_ | refine W_seqB ?_ | refine W_block ?_ | refine W_skip ?_ | (apply W_condB; (case hc => (simp (disch := omega) only [go_sem, ↓reduceIte, Nat.reduceEqDiff, a1, a2, a3, b1, b2, b3]); rfl); first | refine qzT ?_ | refine qzF ?_) | ((first | refine W_reg rfl fun G K hG hK => ?_ | refine W_end rfl fun G K hG hK => ?_); simp (disch := omega) only [go_sem, ↓reduceIte, Nat.reduceEqDiff, hG, a1, a2, a3, b1, b2, b3]; refine hK _ _ ?_; clear hK K hG G))
 (repeat (first | refine W_seqS ?_ | refine W_seqC ?_ | refine W_seqB ?_ | refine W_block ?_)); refine W_reg rfl fun G K hG hK => ?_; simp (disch := omega) only [go_sem, ↓reduceIte, Nat.reduceEqDiff, Nat.reduceAdd, Nat.reduceLeDiff, hG, a1, a2, a3, b1, b2, b3, bsL, fillK_cons, fillK_nil, Nat.reduceMul]
 refine w_call (l3App_ok nm (.slice (some ⟨st.length, 0, none⟩) 2 2) (st ++ [⟨[.int .i64 k, .int .i64 n, .string m, s, .int .i64 k', .int .i64 n', .string m', s'], 30, 0⟩]) rfl rfl rfl) (by simp (disch := omega) only [go_sem, ↓reduceIte, Nat.reduceEqDiff, a1, a2, a3, b1, b2, b3]) ?hl ?_
 case hl => first | rfl | (simp only [go_sem, List.all_cons, List.all_nil, Bool.not_false, Bool.and_self, a1, a2, a3, b1, b2, b3]; done)
 rintro r_ sa ⟨rfl, rfl⟩; refine ⟨fun e => (by cases e), ?_⟩
 simp (disch := omega) only [go_sem, ↓reduceIte, Nat.reduceEqDiff, hG, a1, a2, a3, b1, b2, b3]; refine hK _ _ ?_; clear hK K hG G; repeat (with_reducible first | refine thenI ?_ | refine thenE ?_ | refine thenR ?_ | refine inBI ?_ | refine inBR ?_ | refine inBS ?_ | refine inBN (by decide) ?_)
 refine W_ret ?_; try (repeat (with_reducible first | refine thenI ?_ | refine thenE ?_ | refine thenR ?_ | refine inBI ?_ | refine inBR ?_ | refine inBS ?_ | refine inBN (by decide) ?_))
 refine finC (.inl rfl) (by (simp (disch := omega) only [go_sem, ↓reduceIte, Nat.reduceEqDiff, a1, a2, a3, b1, b2, b3]); try rfl) ⟨Ext.app _ _, [_, _, _, _], rfl, Own.close _ _ _ (.inr ⟨st.length, 2, _, L ++ K, rfl, by simp, RowO.cons t [u] [.int .i64 k, .int .i64 n, .string m, s] _ L K (Own.ext ho (Ext.app _ _)) (RowO.one (Own.ext hp (Ext.app _ _))), rfl⟩)⟩

end

section
/- Names drawn: l1Pick out of a list literal, l2Any, l2List, DrawSortNames. -/
open Go Go.Proofs
set_option linter.unusedVariables false
set_option linter.unusedSimpArgs false
set_option maxRecDepth 100000
-- AUTO

def isStrB : Value → Bool
 | .string _ => true
 | _ => false
def strB : Value → ByteArray
 | .string s => s
 | _ => ⟨#[]⟩
theorem strs_map {cs : List Value} (h : cs.all isStrB = true) : cs = (cs.map strB).map Value.string := by
 rw [List.map_map]
 refine ((List.map_congr_left fun v hv => ?_).trans (List.map_id cs)).symm
 have := List.all_eq_true.1 h v hv
 cases v <;> first | rfl | cases this
theorem row_last (st : St) (ns : List ByteArray) (t : TypeId) (n : Nat) : Rw (st ++ [⟨ns.map Value.string, t, 0⟩]) ns (.slice (some ⟨st.length, 0, none⟩) ns.length n) := .inr ⟨st.length, 0, n, rfl, fun j x hx => ⟨[.string x], rfl, rfl, fun k v hv => by
 have hk : k = 0 := by have := (List.getElem?_eq_some_iff.1 hv).1; simp at this; omega
 subst hk
 have hj := List.getElem?_eq_some_iff.1 hx
 obtain ⟨hj1, hj2⟩ := hj
 have : v = .string x := by simpa using hv.symm
 subst this
 simp [cell, hx, show Kind.sz ByteArray = 1 from rfl]⟩⟩
theorem l1Pick_lit (q : Nat) (xs : List Byt) (sa : St) (cs : List Value) (t : TypeId) (n : Nat) (hq : Cur sa q xs) (hs : cs.all isStrB = true) (h0 : 0 < cs.length) (h1 : cs.length ≤ 256) :
  CallS Try.prog 18 [.pointer (some ⟨q, 0, none⟩), .slice (some ⟨sa.length, 0, none⟩) cs.length n] (sa ++ [⟨cs, t, 0⟩]) fun r st2 => (∃ w, r = .string w ∧ .string w ∈ cs) ∧ Drawn q xs (sa ++ [⟨cs, t, 0⟩]) st2 ∧ st2.length = sa.length + 1 := by
 have hcs := strs_map hs
 have hlq : q < sa.length := by obtain ⟨_, _, _, h, _⟩ := hq; exact (List.getElem?_eq_some_iff.1 h).1
 have hr := row_last sa (cs.map strB) t n
 rw [← hcs, List.length_map] at hr
 refine (l1Pick_ok q xs _ (cs.map strB) _ (by simpa using h0) (by simpa using h1) (hq.ext (Ext.app _ _)) hr (fun e => by simp only [topId, Option.some.injEq] at e; omega)).mono fun r st2 ⟨⟨w, hw, hm⟩, hd, hl⟩ => ⟨⟨w, hw, ?_⟩, hd, by simpa using hl⟩
 rw [hcs]
 exact List.mem_map.2 ⟨w, hm, rfl⟩
/-- What new data a draw adds: the cursor's turn, and new blocks. -/
theorem Drawn.pre {q : Nat} {xs : List Byt} {a b c : St} (hx : Ext a b) (h : Drawn q xs b c) : Drawn q xs a c := ⟨h.cur, (Away.of_ext hx).trans h.away (by first | exact .inl rfl)⟩
theorem size_of_mem2 {w : ByteArray} {cs : List Value} {m : Nat} (h : Value.string w ∈ cs) (hs : cs.all (fun v => match v with | .string s => decide (s.size ≤ m) | _ => false) = true) : w.size ≤ m := by
 have := List.all_eq_true.1 hs _ h
 simpa using this
/-- Own data stay over a draw. -/
theorem Drawn.sl {α : Type} [Kind α] {q : Nat} {bs : List Byt} {n0 : Nat} {a b : St} {xs : List α} {s : Value} {L : List Nat} (h : Drawn q bs a b) (ho : Sl a xs s L) (hf : Fresh n0 L) (hq : q < n0) : Sl b xs s L :=
 ho.frame fun i hi => h.away.2 i (ho.lt i hi) fun e => by
  have := hf.2 i hi
  cases e; omega
theorem Drawn.grow {q : Nat} {bs : List Byt} {n0 : Nat} {a b c : St} {s s' : Value} (h : Drawn q bs a b) (hg : Grow b s c s') (hs : topId s = none ∨ ∃ m, n0 ≤ m ∧ topId s = some m) (hq : q < n0) (ha : n0 = a.length) : Drawn q bs a c := by
 subst ha
 have hl := h.away.1
 rcases hs with hs | ⟨m, hm, hs⟩
 ·have hx := hg.away
  rw [hs] at hx
  exact ⟨h.cur.ext hx.ext, ⟨Nat.le_trans hl hx.1, fun i hi hne => by rw [hx.2 i (by omega) (by simp), h.away.2 i hi hne]⟩⟩
 ·have hx := hg.away
  rw [hs] at hx
  exact ⟨h.cur.far hx (by omega), ⟨Nat.le_trans hl hx.1, fun i hi hne => by rw [hx.2 i (by omega) (fun e => by cases e; omega), h.away.2 i hi hne]⟩⟩
theorem big_ok (bs : List Byt) (st : St) (s : Value) (hr : RowY st bs s) : CallS Try.prog 4 [s] st fun r st2 => r = .bool (decide ((bs.length : Int) > 1048576)) ∧ st2 = st := by
 refine CallS_of_W [] 6 Try.func4 rfl rfl rfl rfl (by simp) ?_
 have q1 := hr.notLoc.1
 have hlen : lenE Try.prog 22 s = some (.int .i64 bs.length) := row_len hr Try.underlying22
 repeat (first | with_reducible (first | refine thenI ?_ | refine thenE ?_ | refine thenR ?_ | refine inBI ?_ | refine inBR ?_ | refine inBS ?_ | refine inBN (by decide) ?_) | refine W_seqS ?_ | refine W_seqC ?_ | refine W_seqB ?_ | refine W_block ?_ | refine W_skip ?_ | (apply W_condB; (case hc => (simp (disch := omega) only [go_sem, ↓reduceIte, Nat.reduceEqDiff, q1, hlen]); rfl); first | refine qzT ?_ | refine qzF ?_) | ((first | refine W_reg rfl fun G K hG hK => ?_ | refine W_end rfl fun G K hG hK => ?_); simp (disch := omega) only [go_sem, ↓reduceIte, Nat.reduceEqDiff, hG, q1, hlen]; refine hK _ _ ?_; clear hK K hG G))
 refine W_ret ?_; try (repeat (with_reducible first | refine thenI ?_ | refine thenE ?_ | refine thenR ?_ | refine inBI ?_ | refine inBR ?_ | refine inBS ?_ | refine inBN (by decide) ?_))
 refine fin1 (.inl rfl) (by (simp (disch := omega) only [go_sem, ↓reduceIte, Nat.reduceEqDiff]); try rfl) rfl ⟨rfl, rfl⟩
theorem rwI_away {st st' : St} {xs : List Int} {s : Value} {q : Nat} (h : Rw st xs s) (ha : Away (some q) st st') (hn : topId s ≠ some q) : Rw st' xs s := by
 rcases h with h | ⟨i, o, c, rfl, h⟩
 ·exact .inl h
 ·refine .inr ⟨i, o, c, rfl, fun j x hx => ?_⟩
  obtain ⟨cs, h1, h2, h3⟩ := h j x hx
  refine ⟨cs, h1, h2, fun k v hv => ?_⟩
  have h4 := h3 k v hv
  have hi : i < st.length := by
   unfold cell at h4
   rcases Nat.lt_or_ge i st.length with h5 | h5
   ·exact h5
   ·rw [List.getElem?_eq_none h5] at h4; cases h4
  have h5 := ha.2 i hi (fun e => hn e.symm)
  unfold cell at h4 ⊢
  rw [h5]; exact h4
theorem l1PickInt_ok (q : Nat) (xs : List Byt) (st : St) (ns : List Int) (s : Value) (hn0 : 0 < ns.length) (hn1 : ns.length ≤ 256) (hq : Cur st q xs) (hr : Rw st ns s) (hne : topId s ≠ some q) :
  CallS Try.prog 22 [.pointer (some ⟨q, 0, none⟩), s] st fun r st2 => (∃ w, r = .int .i64 w ∧ w ∈ ns) ∧ Drawn q xs st st2 ∧ st2.length = st.length := by
 refine CallS_of_W [] 12 Try.func22 rfl rfl rfl rfl (by simp) ?_
 have q1 := hr.notLoc.1
 have hlen : lenE Try.prog 52 s = some (.int .i64 ns.length) := row_len hr Try.underlying52
 repeat (first | with_reducible (first | refine thenI ?_ | refine thenE ?_ | refine thenR ?_ | refine inBI ?_ | refine inBR ?_ | refine inBS ?_ | refine inBN (by decide) ?_) | refine W_seqS ?_ | refine W_seqC ?_ | refine W_seqB ?_ | refine W_block ?_ | refine W_skip ?_ | (apply W_condB; (case hc => (simp (disch := omega) only [go_sem, ↓reduceIte, Nat.reduceEqDiff, q1, hlen]); rfl); first | refine qzT ?_ | refine qzF ?_) | ((first | refine W_reg rfl fun G K hG hK => ?_ | refine W_end rfl fun G K hG hK => ?_); simp (disch := omega) only [go_sem, ↓reduceIte, Nat.reduceEqDiff, hG, q1, hlen]; refine hK _ _ ?_; clear hK K hG G))
 (repeat (first | refine W_seqS ?_ | refine W_seqC ?_ | refine W_seqB ?_ | refine W_block ?_)); refine W_reg rfl fun G K hG hK => ?_; simp (disch := omega) only [go_sem, ↓reduceIte, Nat.reduceEqDiff, hG, q1, hlen]
 refine w_call (l1Below_ok q xs st (ns.length : Int) (by omega) (by omega) hq) (by simp (disch := omega) only [go_sem, ↓reduceIte, Nat.reduceEqDiff, q1, hlen]) ?hl ?_
 case hl => first | rfl | (simp only [go_sem, List.all_cons, List.all_nil, Bool.not_false, Bool.and_self, q1, hlen]; done)
 rintro r_ sa ⟨⟨x, rfl, hx0, hx1⟩, hd, hl⟩; refine ⟨fun e => (by cases e), ?_⟩
 obtain ⟨n, rfl⟩ : ∃ n : Nat, x = n := ⟨x.toNat, by omega⟩
 have hlt : n < ns.length := by omega
 obtain ⟨i, o, c, cs, rfl, _, rfl, hc⟩ := row_at (rwI_away hr hd.away hne) (List.getElem?_eq_getElem hlt)
 have hce : cell sa i (o + n * 1) = some (.int .i64 ns[n]) := hc 0 _ rfl
 have hi := idxOk hlt
 simp (disch := omega) only [go_sem, ↓reduceIte, Nat.reduceEqDiff, hG, q1, hlen, hi, idxA, Int.toNat_natCast, hce]; refine hK _ _ ?_; clear hK K hG G; repeat (with_reducible first | refine thenI ?_ | refine thenE ?_ | refine thenR ?_ | refine inBI ?_ | refine inBR ?_ | refine inBS ?_ | refine inBN (by decide) ?_)
 refine W_ret ?_; try (repeat (with_reducible first | refine thenI ?_ | refine thenE ?_ | refine thenR ?_ | refine inBI ?_ | refine inBR ?_ | refine inBS ?_ | refine inBN (by decide) ?_))
 refine fin1 (.inl rfl) (by (simp (disch := omega) only [go_sem, ↓reduceIte, Nat.reduceEqDiff, q1, hlen]); try rfl) rfl ⟨⟨_, rfl, List.getElem_mem hlt⟩, hd, hl⟩

end

end Go.Proofs.Ytdijnohbbgbklaa.AM