/- My texts for the law, laid together (part 1): D1 D2 D3 D6 D7 M1 M2 B1 R1 DT Q1 C0 C6 DB K3 C11 C12 C13 C15 C16 N1 K2 N2 C17 D5 E1 L0 C21 Q2 Q3 A19 C3 C4 C1 PL3 Q5 D8 A21 O14 D9. -/
import Derived.Test.YtldnihpkiacgfaaA18
import Derived.Test.YtldnihpkiacgfaaAF
import Derived.Laws.Strings
import Derived.Sort.Walk0
import Derived.Shelf.Sort.Plain
import Derived.Shelf.Slices.CompactS
import Derived.Test.YtldnihpkiacgfaaA3
import Derived.ChangeOld
import Derived.ChangeArms
import Derived.DataReads
/- Data in the abstract store: rows, terms. -/
namespace Go.Proofs.Ytldnihpkiacgfaa.AM
open Go
set_option linter.unusedVariables false
set_option linter.unusedSimpArgs false

/-- Cells that stand in a row. -/
def CellsAt (st : St) (i o : Nat) (cs : List Value) : Prop := ∀ (q : Nat) v, cs[q]? = some v → cell st i (o + q) = some v

theorem cell_ext {st st' : St} (h : Ext st st') {i j : Nat} {v : Value} (hc : cell st i j = some v) : cell st' i j = some v := by
  unfold cell at hc ⊢
  split at hc
  · rename_i b hb; rw [h i b hb]; exact hc
  · cases hc
theorem CellsAt.ext {st st' : St} (h : Ext st st') {i o : Nat} {cs : List Value} (hc : CellsAt st i o cs) : CellsAt st' i o cs := fun q v hq => cell_ext h (hc q v hq)

/-- A slice of no elements: nil, or one of which nothing is known. -/
def emptyS (s : Value) : Prop := s = .slice none 0 0 ∨ s = .slice (some ⟨0, 0, some 0⟩) 0 0
/-- A slice whose elements read as the members of a list. -/
def Row {α : Type} (E : α → List Value → Prop) (sz : Nat) (st : St) (xs : List α) (s : Value) : Prop :=
  (emptyS s ∧ xs = []) ∨ ∃ i o c, s = .slice (some ⟨i, o, none⟩) xs.length c ∧ ∀ (j : Nat) x, xs[j]? = some x → ∃ cs, cs.length = sz ∧ E x cs ∧ CellsAt st i (o + j * sz) cs

theorem Row.mono {α : Type} {E E' : α → List Value → Prop} {sz : Nat} {st st' : St} {xs : List α} {s : Value} (h : Row E sz st xs s) (hs : Ext st st') (hE : ∀ x ∈ xs, ∀ cs, E x cs → E' x cs) : Row E' sz st' xs s := by
  rcases h with h | ⟨i, o, c, rfl, h⟩
  · exact .inl h
  · refine .inr ⟨i, o, c, rfl, fun j x hx => ?_⟩
    obtain ⟨cs, h1, h2, h3⟩ := h j x hx
    exact ⟨cs, h1, hE x (List.mem_of_getElem? hx) cs h2, h3.ext hs⟩

inductive T where
  | mk (k n : Int) (nm : ByteArray) (args : List T)

mutual
def T.wt : T → Nat
  | .mk _ _ nm args => nm.size + args.length + T.wtL args
def T.wtL : List T → Nat
  | [] => 0
  | x :: xs => x.wt + T.wtL xs
end

theorem T.ind {P : T → Prop} (h : ∀ k n nm args, (∀ a ∈ args, P a) → P (.mk k n nm args)) : ∀ t, P t := by
  intro t
  refine T.rec (motive_1 := P) (motive_2 := fun l => ∀ a ∈ l, P a) (fun k n nm args ih => h k n nm args ih) (fun a ha => by cases ha) (fun x xs hx hxs a ha => ?_) t
  cases ha with
  | head => exact hx
  | tail _ ha => exact hxs a ha

inductive Enc (st : St) : T → List Value → Prop
  | nil (k n : Int) (nm : ByteArray) (s : Value) (h : emptyS s) : Enc st (.mk k n nm []) [.int .i64 k, .int .i64 n, .string nm, s]
  | sl (k n : Int) (nm : ByteArray) (args : List T) (i o c : Nat) (f : Nat → List Value) (hl : ∀ (j : Nat) x, args[j]? = some x → (f j).length = 4) (he : ∀ (j : Nat) x, args[j]? = some x → Enc st x (f j))
      (hc : ∀ (j : Nat) x, args[j]? = some x → CellsAt st i (o + j * 4) (f j)) : Enc st (.mk k n nm args) [.int .i64 k, .int .i64 n, .string nm, .slice (some ⟨i, o, none⟩) args.length c]

theorem Enc.open {st : St} {k n : Int} {nm : ByteArray} {args : List T} {cs : List Value} (h : Enc st (.mk k n nm args) cs) : ∃ s, cs = [.int .i64 k, .int .i64 n, .string nm, s] ∧ Row (Enc st) 4 st args s := by
  cases h with
  | nil _ _ _ s h => exact ⟨_, rfl, .inl ⟨h, rfl⟩⟩
  | sl _ _ _ _ i o c f hl he hc => exact ⟨_, rfl, .inr ⟨i, o, c, rfl, fun j x hx => ⟨f j, hl j x hx, he j x hx, hc j x hx⟩⟩⟩
theorem Enc.close {st : St} (k n : Int) (nm : ByteArray) {args : List T} {s : Value} (h : Row (Enc st) 4 st args s) : Enc st (.mk k n nm args) [.int .i64 k, .int .i64 n, .string nm, s] := by
  rcases h with ⟨hs, rfl⟩ | ⟨i, o, c, rfl, h⟩
  · exact .nil k n nm s hs
  · have hex : ∀ j, ∃ cs : List Value, ∀ x, args[j]? = some x → cs.length = 4 ∧ Enc st x cs ∧ CellsAt st i (o + j * 4) cs := by
      intro j
      cases hj : args[j]? with
      | none => exact ⟨[], fun x hx => by cases hx⟩
      | some x =>
        obtain ⟨cs, h1⟩ := h j x hj
        exact ⟨cs, fun y hy => by obtain rfl := Option.some.inj hy; exact h1⟩
    exact .sl k n nm args i o c (fun j => Classical.choose (hex j)) (fun j x hx => (Classical.choose_spec (hex j) x hx).1) (fun j x hx => (Classical.choose_spec (hex j) x hx).2.1) (fun j x hx => (Classical.choose_spec (hex j) x hx).2.2)
theorem Enc.ext {st st' : St} (hs : Ext st st') : ∀ (t : T) (cs : List Value), Enc st t cs → Enc st' t cs := by
  refine T.ind fun k n nm args ih cs h => ?_
  obtain ⟨s, rfl, hr⟩ := h.open
  exact Enc.close k n nm (hr.mono hs fun x hx cs he => ih x hx cs he)

section
variable {P : Program} {A : List Tmp} {loc : Nat → Nat × List Value} {st : St} {t : TypeId}
/-- An element is read whole. -/
theorem load_row {i o n : Nat} {cs : List Value} (ha : aggA P t = some true) (hs : szA P t = some n) (hl : cs.length = n) (hc : CellsAt st i o cs) : loadA P A t (.pointer (some ⟨i, o, none⟩)) loc st = some (.agg cs.toArray) :=
  load_hn ha hs hl hc
end

section
variable {P : Program} {A H : List Tmp} {loc : Nat → Nat × List Value} {st : St} {t : TypeId} {b o : Nat}
theorem loadA_p {sp : Option Nat} : loadA P A t (.pointer (some ⟨b, o, sp⟩)) loc st = (match aggA P t with
    | some false => cellAt A loc st b sp o
    | some true => (match szA P t with
      | some n => (match cellsFrom (cellAt A loc st b sp) o n with
        | some cs => if okPtr A loc b sp then some (.agg cs.toArray) else none
        | none => none)
      | none => none)
    | none => none) := by
  unfold loadA
  cases aggA P t with
  | none => rfl
  | some b => cases b <;> cases szA P t <;> rfl
theorem cellAt_l {w j : Nat} : cellAt A loc st b (some w) j = if w ≠ 0 ∧ (loc b).1 = w ∧ b ∉ A then (loc b).2[j]? else none := rfl
theorem cellAt_h {j : Nat} : cellAt A loc st b none j = cell st b j := rfl
theorem okPtr_l {w : Nat} : okPtr A loc b (some w) = decide (w ≠ 0 ∧ (loc b).1 = w ∧ b ∉ A) := rfl
theorem okPtr_h : okPtr A loc b none = true := rfl
theorem fadA_p {sp : Option Nat} {f : Nat} : fadA P A t (.pointer (some ⟨b, o, sp⟩)) f loc = (match offA P t f with
    | some d => if okPtr A loc b sp then some (.pointer (some ⟨b, o + d, sp⟩)) else none
    | none => none) := rfl
theorem allocA_l {d : Tmp} {z : List Value} {t : TypeId} : allocA [] d z t loc st = (.pointer (some ⟨d, 0, some ((loc d).1 + 1)⟩), upd loc d ((loc d).1 + 1, z), st) := rfl
theorem storeA_l {w : Nat} {v : Value} : storeA P t (.pointer (some ⟨b, o, some w⟩)) v loc st = (if okv v then (match szA P t with
    | some sz => if w ≠ 0 ∧ (loc b).1 = w ∧ (vc v).size = sz ∧ o + sz ≤ (loc b).2.length then some (upd loc b (w, splice (loc b).2 o (vc v).toList), st) else none
    | none => none) else none) := by
  unfold storeA
  cases szA P t <;> rfl
theorem storeA_h {v : Value} : storeA P t (.pointer (some ⟨b, o, none⟩)) v loc st = (if okv v then (match szA P t with
    | some sz => (match st[b]? with
      | some blk => if blk.stat = 0 ∧ (vc v).size = sz ∧ o + sz ≤ blk.cells.length then some (loc, st.set b { blk with cells := splice blk.cells o (vc v).toList }) else none
      | none => none)
    | none => none) else none) := by
  unfold storeA
  cases szA P t <;> rfl
theorem cells_agg {cs : Array Value} : vc (Value.agg cs) = cs := rfl
theorem cells_int {k : IntKind} {i : Int} : vc (Value.int k i) = #[.int k i] := rfl
theorem cells_str {s : ByteArray} : vc (Value.string s) = #[.string s] := rfl
theorem cells_sl {a : Option Addr} {n c : Nat} : vc (Value.slice a n c) = #[.slice a n c] := rfl
theorem cells_bool {b : Bool} : vc (Value.bool b) = #[.bool b] := rfl
theorem flat_i {k : IntKind} {i : Int} : flat (.int k i) = true := rfl
theorem flat_s {s : ByteArray} : flat (.string s) = true := rfl
theorem flat_b {b : Bool} : flat (.bool b) = true := rfl
theorem flat_sl {a : Addr} {n c : Nat} : flat (.slice (some a) n c) = false := rfl
theorem flat_nil : flat (.slice none 0 0) = true := rfl
theorem loc_agg {cs : Array Value} : isLoc (.agg cs) = false := rfl
theorem loc_int {k : IntKind} {i : Int} : isLoc (.int k i) = false := rfl
theorem loc_str {s : ByteArray} : isLoc (.string s) = false := rfl
theorem loc_sl {a : Option Addr} {n c : Nat} : isLoc (.slice a n c) = false := rfl
theorem loc_bool {b : Bool} : isLoc (.bool b) = false := rfl
theorem loc_fn {f : Fn} {a b : Array Value} : isLoc (.func f a b) = false := rfl
theorem loc_ptr : isLoc (.pointer (some ⟨b, o, none⟩)) = false := rfl
theorem okv_agg {cs : Array Value} : okv (.agg cs) = true := rfl
theorem okv_int {k : IntKind} {i : Int} : okv (.int k i) = true := rfl
theorem okv_str {s : ByteArray} : okv (.string s) = true := rfl
theorem okv_sl {a : Option Addr} {n c : Nat} : okv (.slice a n c) = true := rfl
theorem okv_bool {b : Bool} : okv (.bool b) = true := rfl
end

theorem wrap_in {x : Int} (h0 : -9223372036854775808 ≤ x) (h1 : x ≤ 9223372036854775807) : IntKind.i64.wrap x = x := IntWalk.i64_in _ ⟨h0, h1⟩

theorem upd_eval {α : Type} (f : Nat → α) (i : Nat) (v : α) (j : Nat) : upd f i v j = if j = i then v else f j := rfl
theorem argEnv_zero (v : Value) (l : List Value) : argEnv (v :: l) 0 = v := rfl
theorem argEnv_succ (v : Value) (l : List Value) (n : Nat) : argEnv (v :: l) (n + 1) = argEnv l n := rfl
theorem row_len {α : Type} {E : α → List Value → Prop} {sz : Nat} {st : St} {xs : List α} {s : Value} (h : Row E sz st xs s) {P : Program} {t e : TypeId} (hu : P.underlying t = some (.slice e)) : lenE P t s = some (.int .i64 xs.length) := by
  rcases h with ⟨rfl | rfl, rfl⟩ | ⟨i, o, c, rfl, _⟩
  · exact len_sl hu
  · exact len_sl hu
  · exact len_sl hu
theorem row_at {α : Type} {E : α → List Value → Prop} {sz : Nat} {st : St} {xs : List α} {s : Value} (h : Row E sz st xs s) {j : Nat} {x : α} (hx : xs[j]? = some x) : ∃ i o c cs, s = .slice (some ⟨i, o, none⟩) xs.length c ∧ cs.length = sz ∧ E x cs ∧ CellsAt st i (o + j * sz) cs := by
  rcases h with ⟨_, rfl⟩ | ⟨i, o, c, rfl, h⟩
  · simp at hx
  · obtain ⟨cs, h1, h2, h3⟩ := h j x hx
    exact ⟨i, o, c, cs, rfl, h1, h2, h3⟩
theorem idxOk {j n : Nat} (h : j < n) : (0 ≤ (j : Int) ∧ (j : Int) < (n : Int)) = True := by simp; omega
theorem Row.notLoc {α : Type} {E : α → List Value → Prop} {sz : Nat} {st : St} {xs : List α} {s : Value} (h : Row E sz st xs s) : isLoc s = false ∧ okv s = true := by
  rcases h with ⟨rfl | rfl, rfl⟩ | ⟨i, o, c, rfl, _⟩ <;> exact ⟨rfl, rfl⟩

end Go.Proofs.Ytldnihpkiacgfaa.AM


/- Data that is one's own: rows of blocks that no one else holds; how they are built. -/
namespace Go.Proofs.Ytldnihpkiacgfaa.AM
open Go
set_option linter.unusedVariables false
set_option linter.unusedSimpArgs false

inductive RowO {α : Type} (E : α → List Value → List Nat → Prop) : List α → List Value → List Nat → Prop
  | nil : RowO E [] [] []
  | cons (x : α) (xs : List α) (cx cs : List Value) (Lx L : List Nat) (h : E x cx Lx) (hs : RowO E xs cs L) : RowO E (x :: xs) (cx ++ cs) (Lx ++ L)

theorem RowO.app {α : Type} {E : α → List Value → List Nat → Prop} {xs ys : List α} {cs ds : List Value} {L K : List Nat} (h : RowO E xs cs L) (k : RowO E ys ds K) : RowO E (xs ++ ys) (cs ++ ds) (L ++ K) := by
  induction h with
  | nil => exact k
  | cons x xs cx cs Lx L h hs ih => rw [List.append_assoc, List.append_assoc]; exact .cons x _ cx _ Lx _ h ih
theorem RowO.one {α : Type} {E : α → List Value → List Nat → Prop} {x : α} {cx : List Value} {Lx : List Nat} (h : E x cx Lx) : RowO E [x] cx Lx := by
  have := RowO.cons x [] cx [] Lx [] h .nil
  simpa using this
theorem RowO.len {α : Type} {E : α → List Value → List Nat → Prop} {sz : Nat} (hE : ∀ x cx Lx, E x cx Lx → cx.length = sz) {xs : List α} {cs : List Value} {L : List Nat} (h : RowO E xs cs L) : cs.length = xs.length * sz := by
  induction h with
  | nil => simp
  | cons x xs cx cs Lx L h hs ih => rw [List.length_append, hE _ _ _ h, ih, List.length_cons, Nat.add_mul]; omega
theorem RowO.mono {α : Type} {E E' : α → List Value → List Nat → Prop} {xs : List α} {cs : List Value} {L : List Nat} (h : RowO E xs cs L) (hE : ∀ x ∈ xs, ∀ cx Lx, (∀ i ∈ Lx, i ∈ L) → E x cx Lx → E' x cx Lx) : RowO E' xs cs L := by
  induction h with
  | nil => exact .nil
  | cons x xs cx cs Lx L h hs ih =>
    exact .cons x xs cx cs Lx L (hE x (by simp) cx Lx (fun i hi => by simp [hi]) h) (ih fun y hy cy Ly hL he => hE y (by simp [hy]) cy Ly (fun i hi => by simp [hL i hi]) he)
theorem RowO.get {α : Type} {E : α → List Value → List Nat → Prop} {sz : Nat} (hE : ∀ x cx Lx, E x cx Lx → cx.length = sz) {xs : List α} {cs : List Value} {L : List Nat} (h : RowO E xs cs L) :
    ∀ (j : Nat) x, xs[j]? = some x → ∃ cx Lx, E x cx Lx ∧ (∀ i ∈ Lx, i ∈ L) ∧ ∀ (q : Nat) v, cx[q]? = some v → cs[j * sz + q]? = some v := by
  induction h with
  | nil => intro j x hx; simp at hx
  | cons y xs cy cs Ly L h hs ih =>
    intro j x hx
    have hl := hE _ _ _ h
    cases j with
    | zero =>
      simp only [List.getElem?_cons_zero, Option.some.injEq] at hx
      subst hx
      refine ⟨cy, Ly, h, fun i hi => by simp [hi], fun q v hq => ?_⟩
      have : q < cy.length := (List.getElem?_eq_some_iff.1 hq).1
      rw [Nat.zero_mul, Nat.zero_add, List.getElem?_append_left this]; exact hq
    | succ j =>
      obtain ⟨cx, Lx, h1, h2, h3⟩ := ih j x (by simpa using hx)
      refine ⟨cx, Lx, h1, fun i hi => by simp [h2 i hi], fun q v hq => ?_⟩
      rw [List.getElem?_append_right (by rw [hl, Nat.succ_mul]; omega)]
      have e : (j + 1) * sz + q - cy.length = j * sz + q := by rw [hl, Nat.succ_mul]; omega
      rw [e]; exact h3 q v hq
/-- What stands before, at and behind a place. -/
theorem RowO.split {α : Type} {E : α → List Value → List Nat → Prop} {xs : List α} {cs : List Value} {L : List Nat} (h : RowO E xs cs L) : ∀ (j : Nat) x, xs[j]? = some x →
    ∃ c1 cx c2 L1 Lx L2, RowO E (xs.take j) c1 L1 ∧ E x cx Lx ∧ RowO E (xs.drop (j + 1)) c2 L2 ∧ cs = c1 ++ cx ++ c2 ∧ L = L1 ++ Lx ++ L2 := by
  induction h with
  | nil => intro j x hx; simp at hx
  | cons y xs cy cs Ly L h hs ih =>
    intro j x hx
    cases j with
    | zero =>
      simp only [List.getElem?_cons_zero, Option.some.injEq] at hx
      subst hx
      exact ⟨[], cy, cs, [], Ly, L, .nil, h, by simpa using hs, by simp, by simp⟩
    | succ j =>
      obtain ⟨c1, cx, c2, L1, Lx, L2, h1, h2, h3, h4, h5⟩ := ih j x (by simpa using hx)
      refine ⟨cy ++ c1, cx, c2, Ly ++ L1, Lx, L2, ?_, h2, by simpa using h3, by rw [h4]; simp, by rw [h5]; simp⟩
      rw [List.take_succ_cons]
      exact .cons y _ cy c1 Ly L1 h h1

/-- A slice that lies in a block of its own. -/
def SliceO {α : Type} (E : α → List Value → List Nat → Prop) (e : TypeId) (st : St) (xs : List α) (s : Value) (L : List Nat) : Prop :=
  (s = .slice none 0 0 ∧ xs = [] ∧ L = []) ∨ ∃ i c cs K, s = .slice (some ⟨i, 0, none⟩) xs.length c ∧ st[i]? = some ⟨cs, e, 0⟩ ∧ RowO E xs cs K ∧ L = i :: K

theorem SliceO.okv {α : Type} {E : α → List Value → List Nat → Prop} {e : TypeId} {st : St} {xs : List α} {s : Value} {L : List Nat} (h : SliceO E e st xs s L) : AM.okv s = true := by
  rcases h with ⟨rfl, _⟩ | ⟨i, c, cs, K, rfl, _⟩ <;> rfl
theorem SliceO.loc {α : Type} {E : α → List Value → List Nat → Prop} {e : TypeId} {st : St} {xs : List α} {s : Value} {L : List Nat} (h : SliceO E e st xs s L) : isLoc s = false := by
  rcases h with ⟨rfl, _⟩ | ⟨i, c, cs, K, rfl, _⟩ <;> rfl
theorem SliceO.cells {α : Type} {E : α → List Value → List Nat → Prop} {e : TypeId} {st : St} {xs : List α} {s : Value} {L : List Nat} (h : SliceO E e st xs s L) : vc s = #[s] := by
  rcases h with ⟨rfl, _⟩ | ⟨i, c, cs, K, rfl, _⟩ <;> rfl

inductive Own (e : TypeId) (st : St) : T → List Value → List Nat → Prop
  | nil (k n : Int) (nm : ByteArray) : Own e st (.mk k n nm []) [.int .i64 k, .int .i64 n, .string nm, .slice none 0 0] []
  | sl (k n : Int) (nm : ByteArray) (args : List T) (i c : Nat) (cs : List Value) (K : List Nat) (hb : st[i]? = some ⟨cs, e, 0⟩) (h : RowO (Own e st) args cs K) :
      Own e st (.mk k n nm args) [.int .i64 k, .int .i64 n, .string nm, .slice (some ⟨i, 0, none⟩) args.length c] (i :: K)

theorem Own.open {e : TypeId} {st : St} {k n : Int} {nm : ByteArray} {args : List T} {cs : List Value} {L : List Nat} (h : Own e st (.mk k n nm args) cs L) : ∃ s, cs = [.int .i64 k, .int .i64 n, .string nm, s] ∧ SliceO (Own e st) e st args s L := by
  cases h with
  | nil => exact ⟨_, rfl, .inl ⟨rfl, rfl, rfl⟩⟩
  | sl _ _ _ _ i c cs K hb h => exact ⟨_, rfl, .inr ⟨i, c, cs, K, rfl, hb, h, rfl⟩⟩
theorem Own.close {e : TypeId} {st : St} (k n : Int) (nm : ByteArray) {args : List T} {s : Value} {L : List Nat} (h : SliceO (Own e st) e st args s L) : Own e st (.mk k n nm args) [.int .i64 k, .int .i64 n, .string nm, s] L := by
  rcases h with ⟨rfl, rfl, rfl⟩ | ⟨i, c, cs, K, rfl, hb, h, rfl⟩
  · exact .nil k n nm
  · exact .sl k n nm args i c cs K hb h
theorem Own.len {e : TypeId} {st : St} : ∀ x cx Lx, Own e st x cx Lx → cx.length = 4 := by
  intro x cx Lx h
  cases h <;> rfl

/-- What happens elsewhere. -/
def SameOn (L : List Nat) (st st' : St) : Prop := ∀ i ∈ L, st'[i]? = st[i]?
theorem Own.frame {e : TypeId} {st st' : St} : ∀ (t : T) (cs : List Value) (L : List Nat), SameOn L st st' → Own e st t cs L → Own e st' t cs L := by
  refine T.ind fun k n nm args ih cs L hs h => ?_
  obtain ⟨s, rfl, hr⟩ := h.open
  refine Own.close k n nm ?_
  rcases hr with hr | ⟨i, c, cs, K, rfl, hb, hr, rfl⟩
  · exact .inl hr
  · exact .inr ⟨i, c, cs, K, rfl, (hs i (by simp)).trans hb, hr.mono fun x hx cx Lx hL he => ih x hx cx Lx (fun j hj => hs j (by simp [hL j hj])) he, rfl⟩
theorem SliceO.frame {α : Type} {E : St → α → List Value → List Nat → Prop} (hE : ∀ (st st' : St) x cx Lx, SameOn Lx st st' → E st x cx Lx → E st' x cx Lx) {e : TypeId} {st st' : St} {xs : List α} {s : Value} {L : List Nat} (hs : SameOn L st st') (h : SliceO (E st) e st xs s L) : SliceO (E st') e st' xs s L := by
  rcases h with h | ⟨i, c, cs, K, rfl, hb, hr, rfl⟩
  · exact .inl h
  · exact .inr ⟨i, c, cs, K, rfl, (hs i (by simp)).trans hb, hr.mono fun x hx cx Lx hL he => hE _ _ x cx Lx (fun j hj => hs j (by simp [hL j hj])) he, rfl⟩
theorem SliceO.lt {α : Type} {E : α → List Value → List Nat → Prop} {e : TypeId} {st : St} {xs : List α} {s : Value} {L : List Nat} (hE : ∀ x cx Lx, E x cx Lx → ∀ i ∈ Lx, i < st.length) (h : SliceO E e st xs s L) : ∀ i ∈ L, i < st.length := by
  rcases h with ⟨_, _, rfl⟩ | ⟨i, c, cs, K, rfl, hb, hr, rfl⟩
  · intro i hi; cases hi
  · intro j hj
    cases hj with
    | head => exact (List.getElem?_eq_some_iff.1 hb).1
    | tail _ hj =>
      clear hb
      induction hr with
      | nil => cases hj
      | cons x xs cx cs Lx L h hs ih =>
        rcases List.mem_append.1 hj with hj | hj
        · exact hE x cx Lx h j hj
        · exact ih hj
theorem Own.lt {e : TypeId} {st : St} : ∀ (t : T) (cs : List Value) (L : List Nat), Own e st t cs L → ∀ i ∈ L, i < st.length := by
  refine T.ind fun k n nm args ih cs L h => ?_
  obtain ⟨s, rfl, hr⟩ := h.open
  rcases hr with ⟨_, _, rfl⟩ | ⟨i, c, cs, K, rfl, hb, hr, rfl⟩
  · intro i hi; cases hi
  · intro j hj
    cases hj with
    | head => exact (List.getElem?_eq_some_iff.1 hb).1
    | tail _ hj =>
      clear hb h
      induction hr with
      | nil => cases hj
      | cons x xs cx cs Lx L h hs ih2 =>
        rcases List.mem_append.1 hj with hj | hj
        · exact ih x (by simp) cx Lx h j hj
        · exact ih2 (fun y hy => ih y (by simp [hy])) hj

theorem cell_of {st : St} {i : Nat} {cs : List Value} {e : TypeId} {q : Nat} (hb : st[i]? = some ⟨cs, e, 0⟩) : cell st i q = cs[q]? := by
  unfold cell; rw [hb]; rfl
theorem SliceO.row {α : Type} {E : α → List Value → List Nat → Prop} {E' : α → List Value → Prop} {sz : Nat} {e : TypeId} {st : St} {xs : List α} {s : Value} {L : List Nat} (hl : ∀ x cx Lx, E x cx Lx → cx.length = sz) (hE : ∀ x ∈ xs, ∀ cx Lx, E x cx Lx → E' x cx) (h : SliceO E e st xs s L) : Row E' sz st xs s := by
  rcases h with ⟨rfl, rfl, _⟩ | ⟨i, c, cs, K, rfl, hb, hr, rfl⟩
  · exact .inl ⟨.inl rfl, rfl⟩
  · refine .inr ⟨i, 0, c, rfl, fun j x hx => ?_⟩
    obtain ⟨cx, Lx, h1, _, h3⟩ := hr.get hl j x hx
    exact ⟨cx, hl _ _ _ h1, hE x (List.mem_of_getElem? hx) cx Lx h1, fun q v hq => by rw [cell_of hb, Nat.zero_add]; exact h3 q v hq⟩
theorem Own.enc {e : TypeId} {st : St} : ∀ (t : T) (cs : List Value) (L : List Nat), Own e st t cs L → Enc st t cs := by
  refine T.ind fun k n nm args ih cs L h => ?_
  obtain ⟨s, rfl, hr⟩ := h.open
  exact Enc.close k n nm (hr.row Own.len fun x hx cx Lx he => ih x hx cx Lx he)

/-- New since n. -/
def Fresh (n : Nat) (L : List Nat) : Prop := L.Nodup ∧ ∀ i ∈ L, n ≤ i

theorem appendA_nil {P : Program} {t e : TypeId} {sz by_ n : Nat} {z cs : List Value} {x : Value} {st : St} (he : elemA P t = some e) (hs : szA P e = some (sz + 1)) (hb : bytA P e = some by_) (hz : zeroA P e = some z) (hzl : z.length = sz + 1)
    {u : TypeId} (hn : newsA P u (sz + 1) x st = some (n, cs)) (h0 : n ≠ 0) (hbd : n * by_ ≤ 2 ^ 46) (hbn : n ≤ 2 ^ 46) : appendA P t u (.slice none 0 0) x st = some (.slice (some ⟨st.length, 0, none⟩) n n, st ++ [⟨cs, e, 0⟩]) := by
  unfold appendA
  simp only [he, hs, hb, hz, hn, hzl, if_true, h0, if_false, hbd, hbn, and_self]
theorem appendA_to {P : Program} {t e : TypeId} {sz by_ n i len c : Nat} {z cs ds : List Value} {x : Value} {st : St} (he : elemA P t = some e) (hs : szA P e = some (sz + 1)) (hb : bytA P e = some by_) (hz : zeroA P e = some z) (hzl : z.length = sz + 1)
    {u : TypeId} (hn : newsA P u (sz + 1) x st = some (n, cs)) (h0 : n ≠ 0) (hi : st[i]? = some ⟨ds, e, 0⟩) (hl : ds.length = len * (sz + 1)) (hbd : (len + n) * by_ ≤ 2 ^ 46) (hbn : len + n ≤ 2 ^ 46) :
    appendA P t u (.slice (some ⟨i, 0, none⟩) len c) x st = some (.slice (some ⟨st.length, 0, none⟩) (len + n) (len + n), st.set i ⟨ds, e, 2⟩ ++ [⟨ds ++ cs, e, 0⟩]) := by
  unfold appendA
  have ht : ds.take (len * (sz + 1)) = ds := List.take_of_length_le (by omega)
  simp only [he, hs, hb, hz, hn, hzl, if_true, h0, if_false, hi, hl, hbd, hbn, Nat.le_refl, and_self, ht]
theorem newsA_one {P : Program} {u e : TypeId} {sz i c : Nat} {cs : List Value} {st : St} (hu : P.underlying u = some (.slice e)) (hi : st[i]? = some ⟨cs, e, 0⟩) (hl : cs.length = sz) : newsA P u sz (.slice (some ⟨i, 0, none⟩) 1 c) st = some (1, cs) := by
  unfold newsA
  simp only [hu, Nat.one_mul]
  rw [cellsFrom_of (f := cell st i) hl fun j v hj => by rw [cell_of hi, Nat.zero_add]; exact hj]
  rfl

/-- An element is put behind a row of one's own. -/
theorem SliceO.step {α : Type} {E : St → α → List Value → List Nat → Prop} (hE : ∀ (st st' : St) x cx Lx, SameOn Lx st st' → E st x cx Lx → E st' x cx Lx) (hlt : ∀ (st : St) x cx Lx, E st x cx Lx → ∀ i ∈ Lx, i < st.length)
    {P : Program} {t e : TypeId} {sz by_ n0 : Nat} (hl : ∀ st x cx Lx, E st x cx Lx → cx.length = sz + 1) {z : List Value} {st st2 : St} {xs : List α} {s : Value} {L : List Nat} {x : α} {cx : List Value} {Lx : List Nat}
    (hu : P.underlying t = some (.slice e)) (hs : szA P e = some (sz + 1)) (hb : bytA P e = some by_) (hz : zeroA P e = some z) (hzl : z.length = sz + 1)
    (h : SliceO (E st) e st xs s L) (hf : Fresh n0 L) (hn0 : n0 ≤ st.length) (hext : Ext st st2) (hx : E st2 x cx Lx) (hfx : Fresh st.length Lx) (hbd : (xs.length + 1) * by_ ≤ 2 ^ 46) (hbn : xs.length + 1 ≤ 2 ^ 46) :
    ∃ s' st' L', appendA P t t s (.slice (some ⟨st2.length, 0, none⟩) 1 1) (st2 ++ [⟨cx, e, 0⟩]) = some (s', st') ∧ SliceO (E st') e st' (xs ++ [x]) s' L' ∧ Fresh n0 L' ∧ st2.length ≤ st'.length ∧ (∀ i, i < n0 → st'[i]? = st2[i]?) := by
  have he : elemA P t = some e := by unfold elemA; rw [hu]
  have hlen : st.length ≤ st2.length := by
    rcases Nat.lt_or_ge st2.length st.length with h | h
    · have h1 : st[st2.length]? = some st[st2.length] := List.getElem?_eq_getElem h
      have h2 := hext _ _ h1
      have := (List.getElem?_eq_some_iff.1 h2).1
      omega
    · exact h
  have hnew : (st2 ++ [(⟨cx, e, 0⟩ : Blk)])[st2.length]? = some ⟨cx, e, 0⟩ := by simp
  have hn := newsA_one (P := P) (u := t) (sz := sz + 1) (c := 1) hu hnew (hl _ _ _ _ hx)
  have hxlt := hlt _ _ _ _ hx
  rcases h with ⟨rfl, rfl, rfl⟩ | ⟨i, c, cs, K, rfl, hbk, hr, rfl⟩
  · refine ⟨_, _, (st2.length + 1) :: Lx, appendA_nil he hs hb hz hzl hn (by omega) (by simpa using hbd) (by omega), .inr ⟨st2.length + 1, 1, cx, Lx, by simp, by simp, ?_, rfl⟩, ⟨List.nodup_cons.2 ⟨fun hm => by have := hxlt _ hm; omega, hfx.1⟩, fun j hj => ?_⟩, by simp, fun j hj => ?_⟩
    · refine RowO.one (hE st2 _ x cx Lx (fun j hj => ?_) hx)
      have := hxlt j hj
      rw [List.getElem?_append_left (by simp; omega), List.getElem?_append_left this]
    · cases hj with
      | head => omega
      | tail _ hj => have := hfx.2 j hj; omega
    · rw [List.getElem?_append_left (by simp; omega), List.getElem?_append_left (by omega)]
  · have hi : i < st.length := (List.getElem?_eq_some_iff.1 hbk).1
    have hbk2 : (st2 ++ [(⟨cx, e, 0⟩ : Blk)])[i]? = some ⟨cs, e, 0⟩ := by rw [List.getElem?_append_left (by omega)]; exact hext _ _ hbk
    have hrl := hr.len (hl st)
    have hap := appendA_to (c := c) he hs hb hz hzl hn (by omega) hbk2 hrl hbd hbn
    have hK := SliceO.lt (E := E st) (e := e) (st := st) (xs := xs) (s := .slice (some ⟨i, 0, none⟩) xs.length c) (L := i :: K) (fun x cx Lx h => hlt st x cx Lx h) (.inr ⟨i, c, cs, K, rfl, hbk, hr, rfl⟩)
    have hiK : i ∉ K := (List.nodup_cons.1 hf.1).1
    have hst' : ((st2 ++ [(⟨cx, e, 0⟩ : Blk)]).set i ⟨cs, e, 2⟩ ++ [(⟨cs ++ cx, e, 0⟩ : Blk)]).length = st2.length + 2 := by simp
    have get : ∀ j, j ≠ i → j < st2.length → ((st2 ++ [(⟨cx, e, 0⟩ : Blk)]).set i ⟨cs, e, 2⟩ ++ [(⟨cs ++ cx, e, 0⟩ : Blk)])[j]? = st2[j]? := by
      intro j hj hlt
      rw [List.getElem?_append_left (by simp; omega), List.getElem?_set, if_neg (Ne.symm hj), List.getElem?_append_left hlt]
    refine ⟨_, _, (st2.length + 1) :: (K ++ Lx), hap, .inr ⟨st2.length + 1, xs.length + 1, cs ++ cx, K ++ Lx, by simp, ?_, ?_, rfl⟩, ⟨List.nodup_cons.2 ⟨fun hm => ?_, List.nodup_append.2 ⟨(List.nodup_cons.1 hf.1).2, hfx.1, fun a ha b hb' e' => ?_⟩⟩, fun j hj => ?_⟩, by simp; omega, fun j hj => ?_⟩
    · have : ((st2 ++ [(⟨cx, e, 0⟩ : Blk)]).set i ⟨cs, e, 2⟩).length = st2.length + 1 := by simp
      rw [← this]; simp
    · refine (hr.mono fun y hy cy Ly hL he' => ?_).app (RowO.one (hE st2 _ x cx Lx (fun j hj => ?_) hx))
      · refine hE st _ y cy Ly (fun j hj => ?_) he'
        have hjK := hL j hj
        have hjl := hK j (by simp [hjK])
        have hji : j ≠ i := fun e' => hiK (e' ▸ hjK)
        rw [get j hji (by omega)]
        have h1 : st[j]? = some st[j] := List.getElem?_eq_getElem hjl
        rw [h1, hext _ _ h1]
      · have h1 := hxlt j hj
        have h2 := hfx.2 j hj
        exact get j (by omega) h1
    · rcases List.mem_append.1 hm with hm | hm
      · have := hK _ (List.mem_cons_of_mem _ hm); omega
      · have := hxlt _ hm; omega
    · subst e'
      have h1 := hK a (by simp [ha])
      have h2 := hfx.2 a hb'
      omega
    · cases hj with
      | head => omega
      | tail _ hj =>
        rcases List.mem_append.1 hj with hj | hj
        · exact hf.2 j (by simp [hj])
        · have := hfx.2 j hj; omega
    · have h1 := hf.2 i (by simp)
      exact get j (by omega) (by omega)

end Go.Proofs.Ytldnihpkiacgfaa.AM


/- Rows that are made at their full length and then filled. -/
namespace Go.Proofs.Ytldnihpkiacgfaa.AM
open Go
set_option linter.unusedVariables false
set_option linter.unusedSimpArgs false

def FillO {α : Type} (E : St → α → List Value → List Nat → Prop) (e : TypeId) (sz : Nat) (st : St) (xs : List α) (n o : Nat) (K : List Nat) : Prop :=
  ∃ cs zs, st[o]? = some ⟨cs ++ zs, e, 0⟩ ∧ RowO (E st) xs cs K ∧ zs.length = (n - xs.length) * sz ∧ xs.length ≤ n

theorem Ext.length {st st' : St} (h : Ext st st') : st.length ≤ st'.length := by
  rcases Nat.lt_or_ge st'.length st.length with hlt | hge
  · have h1 : st[st'.length]? = some st[st'.length] := List.getElem?_eq_getElem hlt
    have := (List.getElem?_eq_some_iff.1 (h _ _ h1)).1
    omega
  · exact hge
theorem Ext.get {st st' : St} (h : Ext st st') {i : Nat} (hi : i < st.length) : st'[i]? = st[i]? := by
  have h1 : st[i]? = some st[i] := List.getElem?_eq_getElem hi
  rw [h1]; exact h _ _ h1
theorem Ext.of_get {st st' : St} (h : ∀ i, i < st.length → st'[i]? = st[i]?) : Ext st st' := fun i b hb => (h i (List.getElem?_eq_some_iff.1 hb).1).trans hb

theorem FillO.lt {α : Type} {E : St → α → List Value → List Nat → Prop} (hlt : ∀ (st : St) x cx Lx, E st x cx Lx → ∀ i ∈ Lx, i < st.length) {e : TypeId} {sz n o : Nat} {st : St} {xs : List α} {K : List Nat} (h : FillO E e sz st xs n o K) : ∀ i ∈ K, i < st.length := by
  obtain ⟨cs, zs, hb, hr, hz, hle⟩ := h
  clear hb hz hle
  induction hr with
  | nil => intro i hi; cases hi
  | cons x xs cx cs Lx L h hs ih =>
    intro j hj
    rcases List.mem_append.1 hj with hj | hj
    · exact hlt st x cx Lx h j hj
    · exact ih j hj

theorem FillO.step {α : Type} {E : St → α → List Value → List Nat → Prop} (hE : ∀ (st st' : St) x cx Lx, SameOn Lx st st' → E st x cx Lx → E st' x cx Lx) (hlt : ∀ (st : St) x cx Lx, E st x cx Lx → ∀ i ∈ Lx, i < st.length)
    {P : Program} {e : TypeId} {sz n0 n o : Nat} (hl : ∀ st x cx Lx, E st x cx Lx → cx.length = sz) {st st2 : St} {xs : List α} {K : List Nat} {x : α} {cx : List Value} {Lx : List Nat} {v : Value} {loc : Nat → Nat × List Value}
    (hs : szA P e = some sz) (h : FillO E e sz st xs n o K) (hf : Fresh n0 (o :: K)) (hext : Ext st st2) (hx : E st2 x cx Lx) (hfx : Fresh st.length Lx) (hv : v.cells.toList = cx) (hok : okv v = true) (hn : xs.length < n) :
    ∃ st', storeA P e (.pointer (some ⟨o, 0 + xs.length * sz, none⟩)) v loc st2 = some (loc, st') ∧ FillO E e sz st' (xs ++ [x]) n o (K ++ Lx) ∧ Fresh n0 (o :: (K ++ Lx)) ∧ st'.length = st2.length ∧ (∀ i, i ≠ o → st'[i]? = st2[i]?) := by
  have hK := h.lt hlt
  obtain ⟨cs, zs, hb, hr, hz, hle⟩ := h
  have ho : o < st.length := (List.getElem?_eq_some_iff.1 hb).1
  have hb2 := hext _ _ hb
  have hcl := hr.len (hl st)
  have hcx : cx.length = sz := hl _ _ _ _ hx
  have hvs : v.cells.size = sz := by rw [← hcx, ← hv]; simp
  have hxlt := hlt _ _ _ _ hx
  have hnd := List.nodup_cons.1 hf.1
  have hzge : sz ≤ zs.length := by rw [hz]; exact Nat.le_mul_of_pos_left _ (by omega)
  have hsp : splice (cs ++ zs) (0 + xs.length * sz) cx = cs ++ cx ++ zs.drop sz := by
    unfold AM.splice
    rw [Nat.zero_add, ← hcl, hcx, List.take_left, List.drop_append]
    simp
  have get : ∀ i, i ≠ o → (st2.set o ⟨cs ++ cx ++ zs.drop sz, e, 0⟩)[i]? = st2[i]? := fun i hi => by rw [List.getElem?_set, if_neg (Ne.symm hi)]
  refine ⟨st2.set o ⟨cs ++ cx ++ zs.drop sz, e, 0⟩, ?_, ⟨cs ++ cx, zs.drop sz, ?_, ?_, ?_, by simp; omega⟩, ⟨List.nodup_cons.2 ⟨fun hm => ?_, List.nodup_append.2 ⟨hnd.2, hfx.1, fun a ha b hb' e' => ?_⟩⟩, fun j hj => ?_⟩, by simp, get⟩
  · unfold storeA
    simp only [hok, if_true, hs, hb2, hvs, true_and, hv]
    rw [if_pos (by rw [List.length_append, hcl, hz, Nat.zero_add]; have := Nat.mul_le_mul_right sz (show xs.length + 1 ≤ n by omega); rw [Nat.add_mul, Nat.one_mul] at this; rw [Nat.sub_mul]; omega), hsp]
  · rw [List.getElem?_set, if_pos rfl, if_pos (by have := hext.length; omega)]
  · refine (hr.mono fun y hy cy Ly hL he => ?_).app (RowO.one (hE st2 _ x cx Lx (fun j hj => ?_) hx))
    · refine hE st _ y cy Ly (fun j hj => ?_) he
      have hjK := hL j hj
      rw [get j (fun e' => hnd.1 (e' ▸ hjK)), hext.get (hK j hjK)]
    · have := hfx.2 j hj
      exact get j (by omega)
  · rw [List.length_drop, hz, List.length_append, List.length_singleton, ← Nat.sub_sub, Nat.sub_mul (n - xs.length) 1, Nat.one_mul]
  · rcases List.mem_append.1 hm with hm | hm
    · exact hnd.1 hm
    · have := hfx.2 _ hm; omega
  · subst e'
    have h1 := hK a ha
    have h2 := hfx.2 a hb'
    omega
  · cases hj with
    | head => exact hf.2 o (by simp)
    | tail _ hj =>
      rcases List.mem_append.1 hj with hj | hj
      · exact hf.2 j (by simp [hj])
      · have h1 := hfx.2 j hj
        have h2 := hf.2 o (by simp)
        omega

theorem FillO.done {α : Type} {E : St → α → List Value → List Nat → Prop} {e : TypeId} {sz o c : Nat} {st : St} {xs : List α} {K : List Nat} (h : FillO E e sz st xs xs.length o K) : SliceO (E st) e st xs (.slice (some ⟨o, 0, none⟩) xs.length c) (o :: K) := by
  obtain ⟨cs, zs, hb, hr, hz, _⟩ := h
  have : zs = [] := List.eq_nil_of_length_eq_zero (by rw [hz]; simp)
  subst this
  rw [List.append_nil] at hb
  exact .inr ⟨o, c, cs, K, rfl, hb, hr, rfl⟩

/-- Every node has few arguments. -/
inductive Lim (B : Nat) : T → Prop
  | mk (k n : Int) (nm : ByteArray) (args : List T) (h : args.length ≤ B) (hs : ∀ a ∈ args, Lim B a) : Lim B (.mk k n nm args)
theorem Lim.args {B : Nat} {k n : Int} {nm : ByteArray} {args : List T} (h : Lim B (.mk k n nm args)) : args.length ≤ B ∧ ∀ a ∈ args, Lim B a := by cases h; exact ⟨by assumption, by assumption⟩

end Go.Proofs.Ytldnihpkiacgfaa.AM


/- Kinds of data: what rows of each have in common. -/
namespace Go.Proofs.Ytldnihpkiacgfaa.AM
open Go
set_option linter.unusedVariables false
set_option linter.unusedSimpArgs false

/-- A kind of data: its cells, how they read, how they are owned. -/
class Kind (α : Type) where
  sz : Nat
  e : TypeId
  enc : St → α → List Value → Prop
  own : St → α → List Value → List Nat → Prop
  enc_len : ∀ (st : St) (x : α) (cs : List Value), enc st x cs → cs.length = sz
  enc_ext : ∀ (st st' : St) (x : α) (cs : List Value), Ext st st' → enc st x cs → enc st' x cs
  own_len : ∀ (st : St) (x : α) (cs : List Value) (L : List Nat), own st x cs L → cs.length = sz
  own_lt : ∀ (st : St) (x : α) (cs : List Value) (L : List Nat), own st x cs L → ∀ i ∈ L, i < st.length
  own_frame : ∀ (st st' : St) (x : α) (cs : List Value) (L : List Nat), SameOn L st st' → own st x cs L → own st' x cs L
  own_enc : ∀ (st : St) (x : α) (cs : List Value) (L : List Nat), own st x cs L → enc st x cs

theorem Fresh.mono {n m : Nat} {L : List Nat} (h : Fresh n L) (hm : m ≤ n) : Fresh m L := ⟨h.1, fun i hi => Nat.le_trans hm (h.2 i hi)⟩
theorem Fresh.nil (n : Nat) : Fresh n [] := ⟨by simp, by simp⟩
theorem SameOn.ext {L : List Nat} {st st' : St} (hx : Ext st st') (hL : ∀ i ∈ L, i < st.length) : SameOn L st st' := fun i hi => hx.get (hL i hi)

section
variable {α : Type} [Kind α]
abbrev Rw (st : St) (xs : List α) (s : Value) : Prop := Row (Kind.enc st) (Kind.sz α) st xs s
abbrev Sl (st : St) (xs : List α) (s : Value) (L : List Nat) : Prop := SliceO (Kind.own st) (Kind.e α) st xs s L
theorem Rw.ext {st st' : St} {xs : List α} {s : Value} (h : Rw st xs s) (hx : Ext st st') : Rw st' xs s := h.mono hx fun x _ cs he => Kind.enc_ext _ _ x cs hx he
theorem Rw.at {st : St} {xs : List α} {s : Value} (h : Rw st xs s) {j : Nat} {x : α} (hx : xs[j]? = some x) : ∃ i o c cs, s = .slice (some ⟨i, o, none⟩) xs.length c ∧ cs.length = Kind.sz α ∧ Kind.enc st x cs ∧ CellsAt st i (o + j * Kind.sz α) cs := row_at h hx
theorem Rw.nil (st : St) : Rw (α := α) st [] (.slice none 0 0) := .inl ⟨.inl rfl, rfl⟩
theorem Sl.row {st : St} {xs : List α} {s : Value} {L : List Nat} (h : Sl st xs s L) : Rw st xs s := SliceO.row (Kind.own_len st) (fun x _ cs L he => Kind.own_enc st x cs L he) h
theorem Sl.lt {st : St} {xs : List α} {s : Value} {L : List Nat} (h : Sl st xs s L) : ∀ i ∈ L, i < st.length := SliceO.lt (Kind.own_lt st) h
theorem Sl.frame {st st' : St} {xs : List α} {s : Value} {L : List Nat} (h : Sl st xs s L) (hs : SameOn L st st') : Sl st' xs s L := SliceO.frame (E := Kind.own) (fun st st' x cs L => Kind.own_frame st st' x cs L) hs h
theorem Sl.ext {st st' : St} {xs : List α} {s : Value} {L : List Nat} (h : Sl st xs s L) (hx : Ext st st') : Sl st' xs s L := h.frame (.ext hx h.lt)
theorem Sl.apart {st : St} {xs : List α} {s : Value} {L K : List Nat} (h : Sl st xs s L) (hf : Fresh st.length K) : ∀ i ∈ L, i ∉ K := fun i hi hk => by
  have h1 := h.lt i hi
  have h2 := hf.2 i hk
  omega
theorem Sl.nil (st : St) : Sl (α := α) st [] (.slice none 0 0) [] := .inl ⟨rfl, rfl, rfl⟩
theorem own_ext {st st' : St} {x : α} {cs : List Value} {L : List Nat} (h : Kind.own st x cs L) (hx : Ext st st') : Kind.own st' x cs L := Kind.own_frame _ _ _ _ _ (.ext hx (Kind.own_lt _ _ _ _ h)) h
/-- A slice of no elements that is not nil. -/
theorem Sl.empty (st : St) : Sl (α := α) (st ++ [⟨[], Kind.e α, 0⟩]) [] (.slice (some ⟨st.length, 0, none⟩) 0 0) [st.length] := .inr ⟨st.length, 0, [], [], rfl, by simp, .nil, rfl⟩

/-- An element is put behind a row of one's own. -/
theorem Sl.step {P : Program} {t : TypeId} {by_ sz' n0 : Nat} {z : List Value} {st st2 : St} {xs : List α} {s : Value} {L : List Nat} {x : α} {cx : List Value} {Lx : List Nat}
    (hu : P.underlying t = some (.slice (Kind.e α))) (hs : szA P (Kind.e α) = some (sz' + 1)) (hz' : Kind.sz α = sz' + 1) (hb : bytA P (Kind.e α) = some by_) (hz : zeroA P (Kind.e α) = some z) (hzl : z.length = sz' + 1)
    (h : Sl st xs s L) (hf : Fresh n0 L) (hn0 : n0 ≤ st.length) (hext : Ext st st2) (hx : Kind.own st2 x cx Lx) (hfx : Fresh st.length Lx) (hbd : (xs.length + 1) * by_ ≤ 2 ^ 46) (hbn : xs.length + 1 ≤ 2 ^ 46) :
    ∃ s' st' L', appendA P t t s (.slice (some ⟨st2.length, 0, none⟩) 1 1) (st2 ++ [⟨cx, Kind.e α, 0⟩]) = some (s', st') ∧ Sl st' (xs ++ [x]) s' L' ∧ Fresh n0 L' ∧ st2.length ≤ st'.length ∧ (∀ i, i < n0 → st'[i]? = st2[i]?) :=
  SliceO.step (E := Kind.own) (fun st st' x cs L => Kind.own_frame st st' x cs L) (fun st x cs L => Kind.own_lt st x cs L) (sz := sz') (fun st x cs L h => (Kind.own_len st x cs L h).trans hz') hu hs hb hz hzl h hf hn0 hext hx hfx hbd hbn
end

/-! Marks. -/
/-- How the elements of a row of a kind are marked. -/
class Marks (α : Type) extends Kind α where
  mk1 : α → Nat → α × Nat
  mk1_ge : ∀ x k, k ≤ (mk1 x k).2
section
variable {α : Type} [Marks α]
def mkL : List α → Nat → List α × Nat
  | [], k => ([], k)
  | x :: xs, k => ((Marks.mk1 x k).1 :: (mkL xs (Marks.mk1 x k).2).1, (mkL xs (Marks.mk1 x k).2).2)
theorem mkL_len (xs : List α) (k : Nat) : (mkL xs k).1.length = xs.length := by
  induction xs generalizing k with
  | nil => rfl
  | cons x xs ih => simp only [mkL, List.length_cons, ih]
theorem mkL_app (xs ys : List α) (k : Nat) : mkL (xs ++ ys) k = ((mkL xs k).1 ++ (mkL ys (mkL xs k).2).1, (mkL ys (mkL xs k).2).2) := by
  induction xs generalizing k with
  | nil => rfl
  | cons x xs ih => simp only [List.cons_append, mkL, ih]
theorem mkL_ge (l : List α) (k : Nat) : k ≤ (mkL l k).2 := by
  induction l generalizing k with
  | nil => exact Nat.le_refl _
  | cons x xs ih => simp only [mkL]; have h1 := Marks.mk1_ge x k; have h2 := ih (Marks.mk1 x k).2; omega
theorem mkL_snoc {xs : List α} {j : Nat} (hj : j < xs.length) (k : Nat) : mkL (xs.take (j + 1)) k = ((mkL (xs.take j) k).1 ++ [(Marks.mk1 xs[j] (mkL (xs.take j) k).2).1], (Marks.mk1 xs[j] (mkL (xs.take j) k).2).2) := by
  rw [List.take_succ_eq_append_getElem hj, mkL_app]; rfl
/-- A row that is being marked, j of its elements done. -/
structure MarkSt (xs : List α) (k : Nat) (st : St) (s : Value) (L : List Nat) (j : Nat) (st' : St) : Prop where
  sl : Sl st' ((mkL (xs.take j) k).1 ++ xs.drop j) s L
  le : st.length ≤ st'.length
  oth : ∀ i, i < st.length → i ∉ L → st'[i]? = st[i]?

theorem MarkSt.len {xs : List α} {k : Nat} {st st' : St} {s : Value} {L : List Nat} {j : Nat} (h : MarkSt xs k st s L j st') (hj : j ≤ xs.length) {P : Program} {t e : TypeId} (hu : P.underlying t = some (.slice e)) : lenE P t s = some (.int .i64 xs.length) := by
  have := row_len h.sl.row hu
  rw [this]; simp [mkL_len]; omega
/-- The element that comes next, and what stands about it. -/
theorem MarkSt.open {xs : List α} {k : Nat} {st st' : St} {s : Value} {L : List Nat} {j : Nat} (h : MarkSt xs k st s L j st') (hnd : L.Nodup) (hj : j < xs.length) :
    ∃ i c c1 cx c2 L1 Lx L2, s = .slice (some ⟨i, 0, none⟩) xs.length c ∧ L = i :: (L1 ++ Lx ++ L2) ∧ st'[i]? = some ⟨c1 ++ cx ++ c2, Kind.e α, 0⟩ ∧ c1.length = j * Kind.sz α ∧ Kind.own st' xs[j] cx Lx ∧ Lx.Nodup ∧ i ∉ Lx ∧ i < st'.length ∧
      (∀ (st2 : St) (cx' : List Value), st2[i]? = some ⟨c1 ++ cx' ++ c2, Kind.e α, 0⟩ → st'.length ≤ st2.length → Kind.own st2 (Marks.mk1 xs[j] (mkL (xs.take j) k).2).1 cx' Lx → (∀ q, q < st'.length → q ≠ i → q ∉ Lx → st2[q]? = st'[q]?) → MarkSt xs k st s L (j + 1) st2) := by
  have hml : (mkL (xs.take j) k).1.length = j := by rw [mkL_len]; simp; omega
  have hdr : xs.drop j = xs[j] :: xs.drop (j + 1) := List.drop_eq_getElem_cons hj
  have hat : ((mkL (xs.take j) k).1 ++ xs.drop j)[j]? = some xs[j] := by
    rw [List.getElem?_append_right (by omega), hml, Nat.sub_self, hdr]; rfl
  have hl2 : (((mkL (xs.take j) k).1 ++ xs.drop j)).length = xs.length := by simp [hml]; omega
  have hd2 : ((mkL (xs.take j) k).1 ++ xs.drop j).drop (j + 1) = xs.drop (j + 1) := by
    rw [List.drop_append, hml, Nat.add_sub_cancel_left, List.drop_eq_nil_of_le (by omega), hdr]; rfl
  have hsl := h.sl
  have hlt := hsl.lt
  rcases hsl with ⟨rfl, h0, rfl⟩ | ⟨i, c, cs, K, rfl, hb, hr, rfl⟩
  · rw [h0] at hat; simp at hat
  obtain ⟨c1, cx, c2, L1, Lx, L2, h1, h2, h3, rfl, rfl⟩ := hr.split j _ hat
  have hcl := h1.len (Kind.own_len st')
  rw [List.take_left' hml] at h1
  rw [hd2] at h3
  obtain ⟨hi0, hnd1⟩ := List.nodup_cons.1 hnd
  obtain ⟨hnd2, hnd3, hnd4⟩ := List.nodup_append.1 hnd1
  obtain ⟨hnd5, hnd6, hnd7⟩ := List.nodup_append.1 hnd2
  refine ⟨i, c, c1, cx, c2, L1, Lx, L2, by rw [hl2], rfl, hb, by rw [hcl, List.length_take, hl2, Nat.min_eq_left (by omega)], h2, hnd6, fun hh => hi0 (by simp [hh]), (List.getElem?_eq_some_iff.1 hb).1, fun st2 cx' hb2 hle2 hown hot => ⟨?_, Nat.le_trans h.le hle2, fun q h1 h2 => ?_⟩⟩
  · have hs1 : SameOn L1 st' st2 := fun q hq => hot q (hlt q (by simp [hq])) (fun e => hi0 (by simp [← e, hq])) (fun hh => hnd7 q hq q hh rfl)
    have hs2 : SameOn L2 st' st2 := fun q hq => hot q (hlt q (by simp [hq])) (fun e => hi0 (by simp [← e, hq])) (fun hh => hnd4 q (by simp [hh]) q hq rfl)
    have g1 := h1.mono (E' := Kind.own st2) fun x _ cx Lx hL he => Kind.own_frame _ _ x cx Lx (fun q hq => hs1 q (hL q hq)) he
    have g3 := h3.mono (E' := Kind.own st2) fun x _ cx Lx hL he => Kind.own_frame _ _ x cx Lx (fun q hq => hs2 q (hL q hq)) he
    rw [mkL_snoc hj]
    refine .inr ⟨i, c, _, L1 ++ Lx ++ L2, ?_, hb2, ?_, rfl⟩
    · rw [hl2]; simp [hml]; omega
    · exact (g1.app (RowO.one hown)).app g3
  · rw [hot q (by have := h.le; omega) (fun e => h2 (by simp [e])) (fun hh => h2 (by simp [hh])), h.oth q h1 h2]
end
end Go.Proofs.Ytldnihpkiacgfaa.AM


/- Rows put behind rows. -/
namespace Go.Proofs.Ytldnihpkiacgfaa.AM
open Go
set_option linter.unusedVariables false
set_option linter.unusedSimpArgs false

/-- What reads, and is no one's. -/
def Shr {α : Type} (E : α → List Value → Prop) : α → List Value → List Nat → Prop := fun x cx Lx => E x cx ∧ Lx = []
theorem RowO.take {α : Type} {E : α → List Value → List Nat → Prop} {sz : Nat} (hE : ∀ x cx Lx, E x cx Lx → cx.length = sz) {xs : List α} {cs : List Value} {L : List Nat} (h : RowO E xs cs L) : cs.length = xs.length * sz := h.len hE

theorem cellsFrom_app {f : Nat → Option Value} : ∀ {m n o : Nat} {cs ds : List Value}, cellsFrom f o m = some cs → cellsFrom f (o + m) n = some ds → cellsFrom f o (m + n) = some (cs ++ ds) := by
  intro m n o cs ds h1 h2
  refine cellsFrom_of (by rw [List.length_append, cellsFrom_len h1, cellsFrom_len h2]) fun j v hj => ?_
  have hl := cellsFrom_len h1
  by_cases hlt : j < m
  · rw [List.getElem?_append_left (by omega)] at hj
    exact cellsFrom_get h1 j v hj
  · rw [List.getElem?_append_right (by omega), hl] at hj
    have := cellsFrom_get h2 (j - m) v hj
    rwa [show o + m + (j - m) = o + j by omega] at this

/-- The cells of a row. -/
theorem row_cells {α : Type} {E : α → List Value → Prop} {sz : Nat} {st : St} : ∀ {xs : List α} {i o : Nat}, (∀ (j : Nat) x, xs[j]? = some x → ∃ cs, cs.length = sz ∧ E x cs ∧ CellsAt st i (o + j * sz) cs) →
    ∃ cs, cellsFrom (cell st i) o (xs.length * sz) = some cs ∧ RowO (Shr E) xs cs [] := by
  intro xs
  induction xs with
  | nil => intro i o _; exact ⟨[], by simp [cellsFrom], .nil⟩
  | cons x xs ih =>
    intro i o h
    obtain ⟨c0, h1, h2, h3⟩ := h 0 x rfl
    obtain ⟨cs, h4, h5⟩ := ih (i := i) (o := o + sz) fun j y hy => by
      obtain ⟨c, g1, g2, g3⟩ := h (j + 1) y (by simpa using hy)
      exact ⟨c, g1, g2, by rwa [show o + (j + 1) * sz = o + sz + j * sz by rw [Nat.add_mul, Nat.one_mul]; omega] at g3⟩
    refine ⟨c0 ++ cs, ?_, ?_⟩
    · have e : (x :: xs).length * sz = sz + xs.length * sz := by rw [List.length_cons, Nat.add_mul, Nat.one_mul]; omega
      rw [e]
      refine cellsFrom_app (cellsFrom_of h1 fun j v hj => ?_) h4
      rw [Nat.zero_mul, Nat.add_zero] at h3
      exact h3 j v hj
    · have := RowO.cons x xs c0 cs [] [] (E := Shr E) ⟨h2, rfl⟩ h5
      simpa using this
theorem newsA_row {α : Type} {E : α → List Value → Prop} {sz : Nat} {st : St} {xs : List α} {s : Value} (h : Row E sz st xs s) {P : Program} {u e : TypeId} (hu : P.underlying u = some (.slice e)) : ∃ cs, newsA P u sz s st = some (xs.length, cs) ∧ RowO (Shr E) xs cs [] := by
  rcases h with ⟨rfl | rfl, rfl⟩ | ⟨i, o, c, rfl, h⟩
  · exact ⟨[], by unfold newsA; simp only [hu]; rfl, .nil⟩
  · exact ⟨[], by unfold newsA; simp only [hu]; rfl, .nil⟩
  · obtain ⟨cs, h1, h2⟩ := row_cells h
    refine ⟨cs, ?_, h2⟩
    unfold newsA
    simp only [hu]
    rw [h1]
    rfl

theorem RowO.lt {α : Type} {E : α → List Value → List Nat → Prop} {n : Nat} (hE : ∀ x cx Lx, E x cx Lx → ∀ i ∈ Lx, i < n) {xs : List α} {cs : List Value} {L : List Nat} (h : RowO E xs cs L) : ∀ i ∈ L, i < n := by
  induction h with
  | nil => intro i hi; cases hi
  | cons x xs cx cs Lx L h hs ih =>
    intro j hj
    rcases List.mem_append.1 hj with hj | hj
    · exact hE x cx Lx h j hj
    · exact ih j hj

/-- The block in which a slice lies. -/
def topId : Value → Option Nat
  | .slice (some ⟨b, _, none⟩) _ _ => some b
  | _ => none
/-- All that was there is there still, but for one block. -/
def Away (k : Option Nat) (st st' : St) : Prop := st.length ≤ st'.length ∧ ∀ i, i < st.length → k ≠ some i → st'[i]? = st[i]?
/-- A row grew: its old block alone has turned. -/
structure Grow (st : St) (s : Value) (st' : St) (s' : Value) : Prop where
  away : Away (topId s) st st'
  top : topId s' = topId s ∨ ∃ m, st.length ≤ m ∧ topId s' = some m
theorem Grow.refl (st : St) (s : Value) : Grow st s st s := ⟨⟨Nat.le_refl _, fun _ _ _ => rfl⟩, .inl rfl⟩
theorem Away.trans {k k' : Option Nat} {a b c : St} (h : Away k a b) (g : Away k' b c) (hk : k' = k ∨ ∃ m, a.length ≤ m ∧ k' = some m) : Away k a c := ⟨Nat.le_trans h.1 g.1, fun i hi hne => by
  rw [g.2 i (by have := h.1; omega) (fun e => ?_), h.2 i hi hne]
  rcases hk with rfl | ⟨m, hm, rfl⟩
  · exact hne e
  · cases e; omega⟩
theorem Grow.trans {a b c : St} {s s' s'' : Value} (h : Grow a s b s') (g : Grow b s' c s'') : Grow a s c s'' := ⟨h.away.trans g.away h.top, by
  rcases g.top with h1 | ⟨m, h1, h2⟩
  · rw [h1]; exact h.top
  · exact .inr ⟨m, Nat.le_trans h.away.1 h1, h2⟩⟩
theorem Away.of_ext {k : Option Nat} {a b : St} (h : Ext a b) : Away k a b := ⟨h.length, fun i hi _ => h.get hi⟩
theorem Grow.of_ext {a b : St} (h : Ext a b) (s : Value) : Grow a s b s := ⟨.of_ext h, .inl rfl⟩
theorem Away.ext {a b : St} (h : Away none a b) : Ext a b := Ext.of_get fun i hi => h.2 i hi (by simp)
theorem Away.ext_of {k : Option Nat} {a b c : St} (h : Away k b c) (hx : Ext a b) (hk : k = none ∨ ∃ m, a.length ≤ m ∧ k = some m) : Ext a c := Ext.of_get fun i hi => by
  rw [h.2 i (by have := hx.length; omega) (fun e => ?_), hx.get hi]
  rcases hk with rfl | ⟨m, hm, rfl⟩
  · cases e
  · cases e; omega

/-- A row is put behind a row of one's own. -/
theorem SliceO.app {α : Type} {E : St → α → List Value → List Nat → Prop} (hE : ∀ (st st' : St) x cx Lx, SameOn Lx st st' → E st x cx Lx → E st' x cx Lx) (hlt : ∀ (st : St) x cx Lx, E st x cx Lx → ∀ i ∈ Lx, i < st.length)
    {P : Program} {t u e : TypeId} {sz by_ n0 : Nat} (hl : ∀ st x cx Lx, E st x cx Lx → cx.length = sz + 1) {z : List Value} {st st2 : St} {xs ys : List α} {s y : Value} {L : List Nat} {cy : List Value} {K : List Nat}
    (hu : P.underlying t = some (.slice e)) (hs : szA P e = some (sz + 1)) (hb : bytA P e = some by_) (hz : zeroA P e = some z) (hzl : z.length = sz + 1)
    (h : SliceO (E st) e st xs s L) (hf : Fresh n0 L) (hn0 : n0 ≤ st.length) (hext : Ext st st2) (hn : newsA P u (sz + 1) y st2 = some (ys.length, cy)) (hx : RowO (E st2) ys cy K) (hfx : Fresh st.length K) (hbd : (xs.length + ys.length) * by_ ≤ 2 ^ 46) (hbn : xs.length + ys.length ≤ 2 ^ 46) :
    ∃ s' st' L', appendA P t u s y st2 = some (s', st') ∧ SliceO (E st') e st' (xs ++ ys) s' L' ∧ Fresh n0 L' ∧ Grow st2 s st' s' := by
  have he : elemA P t = some e := by unfold elemA; rw [hu]
  have hlen := hext.length
  by_cases h0 : ys = []
  · subst h0
    cases hx
    have hap : appendA P t u s y st2 = some (s, st2) := by
      unfold appendA
      simp only [he, hs, hb, hz, hn, hzl, if_true, List.length_nil]
      rcases h with ⟨rfl, _⟩ | ⟨i, c, cs, K, rfl, _⟩ <;> rfl
    refine ⟨s, st2, L, hap, ?_, hf, .refl _ _⟩
    rw [List.append_nil]
    exact h.frame hE (.ext hext (h.lt (hlt st)))
  have hy0 : ys.length ≠ 0 := fun e => h0 (List.eq_nil_of_length_eq_zero e)
  have hxlt := hx.lt (hlt st2)
  rcases h with ⟨rfl, rfl, rfl⟩ | ⟨i, c, cs, K1, rfl, hbk, hr, rfl⟩
  · refine ⟨_, _, st2.length :: K, appendA_nil he hs hb hz hzl hn hy0 (by simpa using hbd) (by simpa using hbn), .inr ⟨st2.length, ys.length, cy, K, rfl, by simp, ?_, rfl⟩, ⟨List.nodup_cons.2 ⟨fun hm => by have := hxlt _ hm; omega, hfx.1⟩, fun j hj => ?_⟩, ⟨⟨by simp, fun j hj _ => ?_⟩, .inr ⟨_, Nat.le_refl _, rfl⟩⟩⟩
    · exact hx.mono fun x _ cx Lx hL he' => hE st2 _ x cx Lx (fun j hj => by rw [List.getElem?_append_left (hxlt j (hL j hj))]) he'
    · cases hj with
      | head => omega
      | tail _ hj => have := hfx.2 j hj; omega
    · rw [List.getElem?_append_left (by omega)]
  · have hi : i < st.length := (List.getElem?_eq_some_iff.1 hbk).1
    have hbk2 := hext _ _ hbk
    have hrl := hr.len (hl st)
    have hap := appendA_to (c := c) he hs hb hz hzl hn hy0 hbk2 hrl hbd hbn
    have hK := SliceO.lt (E := E st) (e := e) (st := st) (xs := xs) (s := .slice (some ⟨i, 0, none⟩) xs.length c) (L := i :: K1) (fun x cx Lx h => hlt st x cx Lx h) (.inr ⟨i, c, cs, K1, rfl, hbk, hr, rfl⟩)
    have hiK : i ∉ K1 := (List.nodup_cons.1 hf.1).1
    have get : ∀ j, j ≠ i → j < st2.length → (st2.set i ⟨cs, e, 2⟩ ++ [(⟨cs ++ cy, e, 0⟩ : Blk)])[j]? = st2[j]? := by
      intro j hj hlt
      rw [List.getElem?_append_left (by simp; omega), List.getElem?_set, if_neg (Ne.symm hj)]
    have hlast : (st2.set i ⟨cs, e, 2⟩ ++ [(⟨cs ++ cy, e, 0⟩ : Blk)])[st2.length]? = some ⟨cs ++ cy, e, 0⟩ := by
      have : (st2.set i (⟨cs, e, 2⟩ : Blk)).length = st2.length := by simp
      rw [← this]; simp
    refine ⟨_, _, st2.length :: (K1 ++ K), hap, .inr ⟨st2.length, xs.length + ys.length, cs ++ cy, K1 ++ K, by simp, hlast, ?_, rfl⟩, ⟨List.nodup_cons.2 ⟨fun hm => ?_, List.nodup_append.2 ⟨(List.nodup_cons.1 hf.1).2, hfx.1, fun a ha b hb' e' => ?_⟩⟩, fun j hj => ?_⟩, ⟨⟨by simp, fun j hj hjL => ?_⟩, .inr ⟨_, Nat.le_refl _, rfl⟩⟩⟩
    · refine (hr.mono fun y hy cy Ly hL he' => ?_).app (hx.mono fun x _ cx Lx hL he' => ?_)
      · refine hE st _ y cy Ly (fun j hj => ?_) he'
        have hjK := hL j hj
        have hjl := hK j (by simp [hjK])
        rw [get j (fun e' => hiK (e' ▸ hjK)) (by omega), hext.get hjl]
      · refine hE st2 _ x cx Lx (fun j hj => ?_) he'
        have h1 := hxlt j (hL j hj)
        have h2 := hfx.2 j (hL j hj)
        exact get j (by omega) h1
    · rcases List.mem_append.1 hm with hm | hm
      · have := hK _ (List.mem_cons_of_mem _ hm); omega
      · have := hxlt _ hm; omega
    · subst e'
      have h1 := hK a (by simp [ha])
      have h2 := hfx.2 a hb'
      omega
    · cases hj with
      | head => omega
      | tail _ hj =>
        rcases List.mem_append.1 hj with hj | hj
        · exact hf.2 j (by simp [hj])
        · have := hfx.2 j hj; omega
    · exact get j (fun e' => hjL (by rw [e']; rfl)) hj

/-- A row is put behind a new slice of no elements. -/
theorem SliceO.fresh {α : Type} {E : St → α → List Value → List Nat → Prop} (hE : ∀ (st st' : St) x cx Lx, SameOn Lx st st' → E st x cx Lx → E st' x cx Lx) (hlt : ∀ (st : St) x cx Lx, E st x cx Lx → ∀ i ∈ Lx, i < st.length)
    {P : Program} {t u e : TypeId} {sz by_ : Nat} (hl : ∀ st x cx Lx, E st x cx Lx → cx.length = sz + 1) {z : List Value} {st : St} {ys : List α} {y : Value} {cy : List Value}
    (hu : P.underlying t = some (.slice e)) (hs : szA P e = some (sz + 1)) (hb : bytA P e = some by_) (hz : zeroA P e = some z) (hzl : z.length = sz + 1)
    (hn : newsA P u (sz + 1) y (st ++ [⟨[], e, 0⟩]) = some (ys.length, cy)) (hx : RowO (E (st ++ [⟨[], e, 0⟩])) ys cy []) (hbd : ys.length * by_ ≤ 2 ^ 46) (hbn : ys.length ≤ 2 ^ 46) :
    ∃ s' st' L', appendA P t u (.slice (some ⟨st.length, 0, none⟩) 0 0) y (st ++ [⟨[], e, 0⟩]) = some (s', st') ∧ SliceO (E st') e st' ys s' L' ∧ Fresh st.length L' ∧ Ext st st' ∧ st.length + 1 ≤ st'.length := by
  obtain ⟨s', st', L', h1, h2, h3, h4⟩ := SliceO.app (xs := []) (L := [st.length]) (K := []) (n0 := st.length) hE hlt hl hu hs hb hz hzl (.inr ⟨st.length, 0, [], [], rfl, by simp, .nil, rfl⟩) ⟨by simp, by simp⟩ (by simp) (Ext.refl (st ++ [⟨[], e, 0⟩])) hn hx ⟨by simp, by simp⟩ (by simpa using hbd) (by simpa using hbn)
  refine ⟨s', st', L', h1, by simpa using h2, h3, Ext.of_get fun i hi => ?_, by simpa using h4.away.1⟩
  rw [h4.away.2 i (by simp; omega) (fun e => by cases e; omega), List.getElem?_append_left hi]

theorem newsA_1 {P : Program} {u e : TypeId} {sz : Nat} {st : St} {cx : List Value} (hu : P.underlying u = some (.slice e)) (hl : cx.length = sz) : newsA P u sz (.slice (some ⟨st.length, 0, none⟩) 1 1) (st ++ [⟨cx, e, 0⟩]) = some (1, cx) := newsA_one hu (by simp) hl
section
variable {α : Type} [Kind α]
/-- An element is put behind a row of one's own; what else was there stays. -/
theorem Sl.push {P : Program} {t u : TypeId} {by_ sz' n0 : Nat} {z : List Value} {st st2 : St} {xs : List α} {s : Value} {L : List Nat} {x : α} {cx : List Value} {Lx : List Nat}
    (hu : P.underlying t = some (.slice (Kind.e α))) (hu2 : P.underlying u = some (.slice (Kind.e α))) (hs : szA P (Kind.e α) = some (sz' + 1)) (hz' : Kind.sz α = sz' + 1) (hb : bytA P (Kind.e α) = some by_) (hz : zeroA P (Kind.e α) = some z) (hzl : z.length = sz' + 1)
    (h : Sl st xs s L) (hf : Fresh n0 L) (hn0 : n0 ≤ st.length) (hext : Ext st st2) (hx : Kind.own st2 x cx Lx) (hfx : Fresh st.length Lx) (hbd : (xs.length + 1) * by_ ≤ 2 ^ 46) (hbn : xs.length + 1 ≤ 2 ^ 46) :
    ∃ s' st' L', appendA P t u s (.slice (some ⟨st2.length, 0, none⟩) 1 1) (st2 ++ [⟨cx, Kind.e α, 0⟩]) = some (s', st') ∧ Sl st' (xs ++ [x]) s' L' ∧ Fresh n0 L' ∧ Grow st s st' s' := by
  have hx' : Kind.own (st2 ++ [⟨cx, Kind.e α, 0⟩]) x cx Lx := own_ext hx (Ext.app _ _)
  obtain ⟨s', st', L', h1, h2, h3, h4⟩ := SliceO.app (E := Kind.own) (fun st st' x cs L => Kind.own_frame st st' x cs L) (fun st x cs L => Kind.own_lt st x cs L) (sz := sz') (fun st x cs L h => (Kind.own_len st x cs L h).trans hz') (ys := [x]) (u := u) hu hs hb hz hzl h hf hn0 (hext.trans (Ext.app _ [⟨cx, Kind.e α, 0⟩])) (newsA_1 hu2 ((Kind.own_len _ _ _ _ hx).trans hz')) (RowO.one hx') hfx hbd hbn
  exact ⟨s', st', L', h1, h2, h3, (Grow.of_ext (hext.trans (Ext.app _ _)) s).trans h4⟩
end
theorem SliceO.top {α : Type} {E : α → List Value → List Nat → Prop} {e : TypeId} {st : St} {xs : List α} {s : Value} {L : List Nat} {n : Nat} (h : SliceO E e st xs s L) (hf : Fresh n L) : topId s = none ∨ ∃ m, n ≤ m ∧ topId s = some m := by
  rcases h with ⟨rfl, _, _⟩ | ⟨i, c, cs, K, rfl, _, _, rfl⟩
  · exact .inl rfl
  · exact .inr ⟨i, hf.2 i (by simp), rfl⟩
theorem eq_nil {P : Program} {t e : TypeId} (h : P.underlying t = some (.slice e)) : pureRun P (Op.equal t (.slice none 0 0) (.slice none 0 0)) = some true := by
  show pureRun P (Op.equalIn (9999 + 1) t (.slice none 0 0) (.slice none 0 0)) = _
  rw [Op.equalIn, pureRun_bind, pureRun_und h]
  rfl
theorem row_nil {α : Type} {E : α → List Value → Prop} {sz : Nat} {st : St} {xs : List α} {s : Value} (h : Row E sz st xs s) {P : Program} {t e : TypeId} (hu : P.underlying t = some (.slice e)) :
    ∃ b, (∀ x y, binE P .eql t x y s (.slice none 0 0) = some (.bool b)) ∧ (b = true → xs = [] ∧ s = .slice none 0 0) := by
  have he : elemA P t = some e := by unfold elemA; rw [hu]
  have hno : ∀ a n c x y, binE P .eql t x y (.slice (some a) n c) (.slice none 0 0) = some (.bool false) := fun a n c x y => by
    show (match elemA P t with | some _ => eqNil .eql (.slice (some a) n c) (.slice none 0 0) | none => eqNilI P t .eql (.slice (some a) n c) (.slice none 0 0)) = _
    rw [he]; rfl
  rcases h with ⟨rfl | rfl, rfl⟩ | ⟨i, o, c, rfl, h⟩
  · refine ⟨true, fun x y => ?_, fun _ => ⟨rfl, rfl⟩⟩
    have : binE P .eql t x y (.slice none 0 0) (.slice none 0 0) = flatRun P (do pure (.bool (← Op.equal t (.slice none 0 0) (.slice none 0 0)))) := rfl
    rw [this, flatRun, pureRun_bind, eq_nil hu]; rfl
  · exact ⟨false, fun x y => hno _ _ _ x y, fun e => by cases e⟩
  · exact ⟨false, fun x y => hno _ _ _ x y, fun e => by cases e⟩

section
variable {α : Type} [Kind α]
/-- An element of a row of one's own is put. -/
theorem Sl.set {P : Program} {n0 j : Nat} {st st2 : St} {xs : List α} {s v : Value} {L : List Nat} {x : α} {cx : List Value} {Lx : List Nat} (hs : szA P (Kind.e α) = some (Kind.sz α))
    (h : Sl st xs s L) (hf : Fresh n0 L) (hn0 : n0 ≤ st.length) (hext : Ext st st2) (hx : Kind.own st2 x cx Lx) (hfx : Fresh st.length Lx) (hj : j < xs.length) (hv : v.cells.toList = cx) (hok : okv v = true) :
    ∃ b c st' L', s = .slice (some ⟨b, 0, none⟩) xs.length c ∧ (∀ loc, storeA P (Kind.e α) (.pointer (some ⟨b, j * Kind.sz α, none⟩)) v loc st2 = some (loc, st')) ∧ Sl st' (xs.set j x) s L' ∧ Fresh n0 L' ∧ st'.length = st2.length ∧ n0 ≤ b ∧ ∀ i, i ≠ b → st'[i]? = st2[i]? := by
  have hlt := h.lt
  rcases h with ⟨_, h0, _⟩ | ⟨b, c, cs, K, rfl, hb, hr, rfl⟩
  · rw [h0] at hj; simp at hj
  obtain ⟨c1, c0, c2, L1, L0, L2, g1, g2, g3, rfl, rfl⟩ := hr.split j _ (List.getElem?_eq_getElem hj)
  have hcl := g1.len (Kind.own_len st)
  have hc0 := Kind.own_len _ _ _ _ g2
  have hcx := Kind.own_len _ _ _ _ hx
  have hl1 : c1.length = j * Kind.sz α := by rw [hcl, List.length_take, Nat.min_eq_left (by omega)]
  have hxlt := Kind.own_lt _ _ _ _ hx
  obtain ⟨hi0, hnd1⟩ := List.nodup_cons.1 hf.1
  obtain ⟨hnd2, hnd3, hnd4⟩ := List.nodup_append.1 hnd1
  obtain ⟨hnd5, hnd6, hnd7⟩ := List.nodup_append.1 hnd2
  have hb2 := hext _ _ hb
  have hbl : b < st.length := (List.getElem?_eq_some_iff.1 hb).1
  have hel := hext.length
  have hbb : (st2.set b ⟨c1 ++ cx ++ c2, Kind.e α, 0⟩)[b]? = some ⟨c1 ++ cx ++ c2, Kind.e α, 0⟩ := by rw [List.getElem?_set]; simp; omega
  have get : ∀ i, i ≠ b → (st2.set b ⟨c1 ++ cx ++ c2, Kind.e α, 0⟩)[i]? = st2[i]? := fun i hi => by rw [List.getElem?_set, if_neg (Ne.symm hi)]
  refine ⟨b, c, st2.set b ⟨c1 ++ cx ++ c2, Kind.e α, 0⟩, b :: (L1 ++ Lx ++ L2), rfl, fun loc => ?_, .inr ⟨b, c, c1 ++ cx ++ c2, L1 ++ Lx ++ L2, by rw [List.length_set], hbb, ?_, rfl⟩, ⟨List.nodup_cons.2 ⟨fun hm => ?_, List.nodup_append.2 ⟨List.nodup_append.2 ⟨hnd5, hfx.1, fun a ha d hd e => ?_⟩, hnd3, fun a ha d hd e => ?_⟩⟩, fun i hi => ?_⟩, by simp, hf.2 b (by simp), get⟩
  · have hvs : v.cells.size = Kind.sz α := by rw [← hcx, ← hv]; simp
    rw [storeA_h]
    have hvc : vc v = v.cells := rfl
    simp only [hok, if_true, hs, hb2, hvc, hvs, hv, true_and]
    rw [if_pos (by simp [hl1, hc0])]
    unfold AM.splice
    have e1 : (c1 ++ c0 ++ c2).take (j * Kind.sz α) = c1 := by rw [← hl1, List.append_assoc, List.take_left]
    have e2 : (c1 ++ c0 ++ c2).drop (j * Kind.sz α + cx.length) = c2 := by rw [← hl1, hcx, ← hc0, ← List.length_append, List.drop_left]
    rw [e1, e2]
  · have e : xs.set j x = xs.take j ++ [x] ++ xs.drop (j + 1) := by rw [List.set_eq_take_append_cons_drop, if_pos hj]; simp
    rw [e]
    refine (RowO.app (g1.mono fun y _ cy Ly hL he => ?_) (RowO.one ?_)).app (g3.mono fun y _ cy Ly hL he => ?_)
    · exact Kind.own_frame _ _ y cy Ly (fun q hq => by
        have hq1 := hL q hq
        rw [get q (fun e => hi0 (by simp [← e, hq1])), hext.get (hlt q (by simp [hq1]))]) he
    · exact Kind.own_frame _ _ x cx Lx (fun q hq => get q (by have := hfx.2 q hq; omega)) hx
    · exact Kind.own_frame _ _ y cy Ly (fun q hq => by
        have hq1 := hL q hq
        rw [get q (fun e => hi0 (by simp [← e, hq1])), hext.get (hlt q (by simp [hq1]))]) he
  · simp only [List.mem_append] at hm
    rcases hm with (hm | hm) | hm
    · exact hi0 (by simp [hm])
    · have := hfx.2 _ hm; omega
    · exact hi0 (by simp [hm])
  · subst e
    have h1 := hlt a (by simp [ha])
    have h2 := hfx.2 a hd
    omega
  · subst e
    rcases List.mem_append.1 ha with ha | ha
    · exact hnd4 a (by simp [ha]) a hd rfl
    · have h1 := hlt a (by simp [hd])
      have h2 := hfx.2 a ha
      omega
  · rcases List.mem_cons.1 hi with rfl | hi
    · exact hf.2 _ (by simp)
    · simp only [List.mem_append] at hi
      rcases hi with (hi | hi) | hi
      · exact hf.2 i (by simp [hi])
      · have := hfx.2 i hi; omega
      · exact hf.2 i (by simp [hi])
end
/-- A kind whose data stand in their cells alone. -/
class Flat (α : Type) extends Kind α where
  flat_own : ∀ (st : St) (x : α) (cs : List Value), enc st x cs → own st x cs []
section
variable {α : Type} [Flat α]
theorem shr_own {st : St} {xs : List α} {cs : List Value} {L : List Nat} (h : RowO (Shr (Kind.enc (α := α) st)) xs cs L) : RowO (Kind.own st) xs cs L := h.mono fun x _ cx Lx _ he => by obtain ⟨h1, rfl⟩ := he; exact Flat.flat_own st x cx h1
/-- A row of flat data is put behind one's own. -/
theorem Sl.appRow {P : Program} {t u : TypeId} {by_ sz' n0 : Nat} {z : List Value} {st st2 : St} {xs ys : List α} {s y : Value} {L : List Nat}
    (hu : P.underlying t = some (.slice (Kind.e α))) (hu2 : P.underlying u = some (.slice (Kind.e α))) (hs : szA P (Kind.e α) = some (sz' + 1)) (hz' : Kind.sz α = sz' + 1) (hb : bytA P (Kind.e α) = some by_) (hz : zeroA P (Kind.e α) = some z) (hzl : z.length = sz' + 1)
    (h : Sl st xs s L) (hf : Fresh n0 L) (hn0 : n0 ≤ st.length) (hext : Ext st st2) (hy : Rw st2 ys y) (hbd : (xs.length + ys.length) * by_ ≤ 2 ^ 46) (hbn : xs.length + ys.length ≤ 2 ^ 46) :
    ∃ s' st' L', appendA P t u s y st2 = some (s', st') ∧ Sl st' (xs ++ ys) s' L' ∧ Fresh n0 L' ∧ Grow st2 s st' s' := by
  obtain ⟨cy, hn, hx⟩ := newsA_row hy hu2
  rw [hz'] at hn
  exact SliceO.app (E := Kind.own) (fun st st' x cs L => Kind.own_frame st st' x cs L) (fun st x cs L => Kind.own_lt st x cs L) (sz := sz') (fun st x cs L h => (Kind.own_len st x cs L h).trans hz') hu hs hb hz hzl h hf hn0 hext hn (shr_own hx) ⟨by simp, by simp⟩ hbd hbn
theorem Sl.freshRow {P : Program} {t u : TypeId} {by_ sz' : Nat} {z : List Value} {st : St} {ys : List α} {y : Value}
    (hu : P.underlying t = some (.slice (Kind.e α))) (hu2 : P.underlying u = some (.slice (Kind.e α))) (hs : szA P (Kind.e α) = some (sz' + 1)) (hz' : Kind.sz α = sz' + 1) (hb : bytA P (Kind.e α) = some by_) (hz : zeroA P (Kind.e α) = some z) (hzl : z.length = sz' + 1)
    (hy : Rw st ys y) (hbd : ys.length * by_ ≤ 2 ^ 46) (hbn : ys.length ≤ 2 ^ 46) :
    ∃ s' st' L', appendA P t u (.slice (some ⟨st.length, 0, none⟩) 0 0) y (st ++ [⟨[], Kind.e α, 0⟩]) = some (s', st') ∧ Sl st' ys s' L' ∧ Fresh st.length L' ∧ Ext st st' ∧ st.length + 1 ≤ st'.length := by
  obtain ⟨cy, hn, hx⟩ := newsA_row (hy.ext (Ext.app st [⟨[], Kind.e α, 0⟩])) hu2
  rw [hz'] at hn
  exact SliceO.fresh (E := Kind.own) (fun st st' x cs L => Kind.own_frame st st' x cs L) (fun st x cs L => Kind.own_lt st x cs L) (sz := sz') (fun st x cs L h => (Kind.own_len st x cs L h).trans hz') hu hs hb hz hzl hn (shr_own hx) hbd hbn
end
end Go.Proofs.Ytldnihpkiacgfaa.AM


namespace Go.Proofs.Ytldnihpkiacgfaa.AM
open Go
attribute [local go_sem] List.map_cons List.map_nil List.all_cons List.all_nil Bool.and_self Option.map_some List.getElem?_toArray Option.bind_some gye_b gye_t gsk_b gsk_t gb1 gb2 gb3 gb4 bne_self_eq_false beq_self_eq_true w_guard w_nil stepV_some step_some step_some' w_move w_assign w_pick w_binOp w_unOp w_load w_fieldAddr w_indexAddr w_len w_max w_index ev_max max_int ev_index w_box w_alloc w_store w_field w_extract w_nilCheck w_convert w_buildSlice w_build ev_buildL fillL_nil fillL_cons bs0 bs1 ev_conv ev_bin ev_un ev_pick ev_load ev_fieldAddr ev_indexAddr ev_len ev_field ev_extract ev_nilCheck fr_tmp fr_int fr_bool fr_str fr_nil fr_func put_some put_none bin_lss bin_leq bin_gtr bin_geq bin_eql bin_neq bin_add bin_sub bin_mul bin_seql bin_sneq un_not pick_ ext_ loadA_p cellAt_l cellAt_h okPtr_l okPtr_h fadA_p allocA_l storeA_l cells_agg cells_int cells_str cells_sl cells_bool flat_i flat_s flat_b flat_sl flat_nil loc_agg loc_int loc_str loc_sl loc_bool loc_fn loc_ptr okv_agg okv_int okv_str okv_sl okv_bool cellsFrom splice upd_eval argEnv_zero argEnv_succ ne_eq Nat.add_one_ne_zero not_false_eq_true List.not_mem_nil and_self decide_true List.getElem?_cons_zero List.getElem?_cons_succ List.size_toArray List.length_cons List.length_nil List.take_succ_cons List.take_zero List.drop_succ_cons List.drop_zero List.cons_append List.nil_append List.drop_nil Bool.not_true Bool.not_false Bool.false_eq_true Nat.zero_add Nat.add_zero wrap_in List.toList_toArray List.mem_cons or_self or_false false_or
attribute [local go_sem] ag22 ag24 ag25 ag27 ag3 ag31 ag5 ag9 bu27 bu31 bu43 by31 by9 el22 el24 el25 of27_0 of27_1 of31_0 of31_1 of31_2 of43_0 of43_1 of43_2 ro31_1 ro31_7 ro9_0 ro9_1 ro9_2 ro9_3 ro9_4 ro9_5 sz22 sz24 sz25 sz27 sz3 sz31 sz5 sz9 ze27 ze31 ze9
section
/- The marks: laws.markText. -/
open Go Go.Proofs
set_option linter.unusedVariables false
set_option linter.unusedSimpArgs false
set_option maxRecDepth 100000

def digitB (k : Nat) : ByteArray := ⟨#[UInt8.ofNat (48 + k % 10)]⟩
def mtF : Nat → Nat → ByteArray → ByteArray
  | 0, _, acc => acc
  | f + 1, k, acc => if k = 0 then acc else mtF f (k / 10) (digitB k ++ acc)
/-- A mark's text. -/
def mtext (k : Nat) : ByteArray := if k = 0 then ⟨#[109, 48]⟩ else (⟨#[109]⟩ : ByteArray) ++ mtF (k + 1) k ⟨#[]⟩


end

section
/- The marks: laws.markTermS, laws.markTerm, laws.heldTermS, laws.heldTerm. -/
open Go Go.Proofs
set_option linter.unusedVariables false
set_option linter.unusedSimpArgs false
set_option maxRecDepth 100000

mutual
def T.mk1 : T → Nat → T × Nat
  | .mk _ _ _ args, k => (.mk k (k + 1 : Nat) (mtext (k + 2)) (T.mkL args (k + 3)).1, (T.mkL args (k + 3)).2)
def T.mkL : List T → Nat → List T × Nat
  | [], k => ([], k)
  | x :: xs, k => ((x.mk1 k).1 :: (T.mkL xs (x.mk1 k).2).1, (T.mkL xs (x.mk1 k).2).2)
end
theorem T.mk1_ge : ∀ (t : T) (k : Nat), k ≤ (t.mk1 k).2 ∧ k + 3 ≤ (t.mk1 k).2 := by
  refine T.ind fun k0 n nm args ih k => ?_
  have : ∀ (l : List T), (∀ a ∈ l, ∀ k, k ≤ (a.mk1 k).2 ∧ k + 3 ≤ (a.mk1 k).2) → ∀ k, k ≤ (T.mkL l k).2 := by
    intro l
    induction l with
    | nil => intro _ k; exact Nat.le_refl _
    | cons x xs ihx =>
      intro h k
      simp only [T.mkL]
      have h1 := (h x (by simp) k).1
      have h2 := ihx (fun a ha => h a (by simp [ha])) (x.mk1 k).2
      omega
  have h := this args ih (k + 3)
  simp only [T.mk1]
  omega
theorem T.mkL_ge (l : List T) (k : Nat) : k ≤ (T.mkL l k).2 := by
  induction l generalizing k with
  | nil => exact Nat.le_refl _
  | cons x xs ih => simp only [T.mkL]; have h1 := (T.mk1_ge x k).1; have h2 := ih (x.mk1 k).2; omega

theorem store_cell {P : Program} {t e : TypeId} {i o : Nat} {c1 c2 : List Value} {x v : Value} {loc : Nat → Nat × List Value} {st : St} (hs : szA P t = some 1) (hb : st[i]? = some ⟨c1 ++ x :: c2, e, 0⟩) (ho : c1.length = o) (hok : okv v = true) (hc : vc v = #[v]) :
    storeA P t (.pointer (some ⟨i, o, none⟩)) v loc st = some (loc, st.set i ⟨c1 ++ v :: c2, e, 0⟩) := by
  subst ho
  rw [storeA_h]
  have h1 : (#[v] : Array Value).toList = [v] := rfl
  simp only [hok, if_true, hs, hb, hc, List.size_toArray, List.length_singleton, true_and, h1]
  rw [if_pos (by simp)]
  unfold AM.splice
  simp

theorem RowO.frame {st st' : St} {e : TypeId} {xs : List T} {cs : List Value} {L : List Nat} (h : RowO (Own e st) xs cs L) (hs : SameOn L st st') : RowO (Own e st') xs cs L :=
  h.mono fun x _ cx Lx hL he => Own.frame x cx Lx (fun j hj => hs j (hL j hj)) he

/-- The place holds another tree, all else of the row is as it was. -/
theorem SliceO.put {st st' : St} {e : TypeId} {xs ys : List T} {i c j : Nat} {c1 c2 : List Value} {s' : Value} {L1 Lx L2 : List Nat} {k n : Int} {nm : ByteArray} {args : List T} (hj : j < xs.length) (hl1 : ys.length = j)
    (h1 : RowO (Own e st) ys c1 L1) (h2 : RowO (Own e st) (xs.drop (j + 1)) c2 L2) (hb : st'[i]? = some ⟨c1 ++ .int .i64 k :: .int .i64 n :: .string nm :: s' :: c2, e, 0⟩) (hx : SliceO (Own e st') e st' args s' Lx)
    (hs1 : SameOn L1 st st') (hs2 : SameOn L2 st st') : SliceO (Own e st') e st' (ys ++ .mk k n nm args :: xs.drop (j + 1)) (.slice (some ⟨i, 0, none⟩) xs.length c) (i :: (L1 ++ Lx ++ L2)) := by
  refine .inr ⟨i, c, _, L1 ++ Lx ++ L2, ?_, hb, ?_, rfl⟩
  · have : (ys ++ T.mk k n nm args :: xs.drop (j + 1)).length = xs.length := by simp; omega
    rw [this]
  · rw [List.append_assoc]
    exact (h1.frame hs1).app (.cons _ _ [_, _, _, _] c2 Lx L2 (Own.close k n nm hx) (h2.frame hs2))

theorem get_set_ne {st : St} {i j : Nat} {b : Blk} (h : j ≠ i) : (st.set i b)[j]? = st[j]? := by rw [List.getElem?_set, if_neg (Ne.symm h)]
theorem get_set_eq {st : St} {i : Nat} {b b0 : Blk} (h : st[i]? = some b0) : (st.set i b)[i]? = some b := by
  have := (List.getElem?_eq_some_iff.1 h).1
  rw [List.getElem?_set]; simp [this]

theorem store_at {P : Program} {t e : TypeId} {i o : Nat} {c1 c2 : List Value} {x : Value} (v : Value) {st : St} (hs : szA P t = some 1) (hb : st[i]? = some ⟨c1 ++ x :: c2, e, 0⟩) (ho : c1.length = o) (hok : okv v = true) (hc : vc v = #[v]) :
    ∃ st1, (∀ loc, storeA P t (.pointer (some ⟨i, o, none⟩)) v loc st = some (loc, st1)) ∧ st1[i]? = some ⟨c1 ++ v :: c2, e, 0⟩ ∧ st1.length = st.length ∧ ∀ j, j ≠ i → st1[j]? = st[j]? :=
  ⟨_, fun _ => store_cell hs hb ho hok hc, get_set_eq hb, by simp, fun j hj => get_set_ne hj⟩


end

section
/- Builders: laws.toTermS, laws.toTerm. -/
open Go Go.Proofs
set_option linter.unusedVariables false
set_option linter.unusedSimpArgs false
set_option maxRecDepth 100000


end

section
/- Readers of terms: laws.eqTermS, laws.eqTerm, laws.szTermS, laws.szTerm. -/
open Go Go.Proofs
set_option linter.unusedVariables false
set_option linter.unusedSimpArgs false
set_option maxRecDepth 100000


end

end Go.Proofs.Ytldnihpkiacgfaa.AM
/- Kinds: numbers, strings, terms, bindings. -/
namespace Go.Proofs.Ytldnihpkiacgfaa.AM
open Go
set_option linter.unusedVariables false
set_option linter.unusedSimpArgs false

instance : Kind Int where
  sz := 1
  e := 3
  enc := fun _ n cs => cs = [.int .i64 n]
  own := fun _ n cs L => cs = [.int .i64 n] ∧ L = []
  enc_len := fun _ _ _ h => by rw [h]; rfl
  enc_ext := fun _ _ _ _ _ h => h
  own_len := fun _ _ _ _ h => by rw [h.1]; rfl
  own_lt := fun _ _ _ _ h => by rw [h.2]; simp
  own_frame := fun _ _ _ _ _ _ h => h
  own_enc := fun _ _ _ _ h => h.1
instance : Marks Int where
  mk1 := fun _ k => (k, k + 1)
  mk1_ge := fun _ k => Nat.le_succ k
instance : Kind ByteArray where
  sz := 1
  e := 9
  enc := fun _ n cs => cs = [.string n]
  own := fun _ n cs L => cs = [.string n] ∧ L = []
  enc_len := fun _ _ _ h => by rw [h]; rfl
  enc_ext := fun _ _ _ _ _ h => h
  own_len := fun _ _ _ _ h => by rw [h.1]; rfl
  own_lt := fun _ _ _ _ h => by rw [h.2]; simp
  own_frame := fun _ _ _ _ _ _ h => h
  own_enc := fun _ _ _ _ h => h.1
instance : Marks ByteArray where
  mk1 := fun _ k => (mtext k, k + 1)
  mk1_ge := fun _ k => Nat.le_succ k
instance : Flat Int where
  flat_own := fun _ _ _ h => And.intro h rfl
instance : Flat ByteArray where
  flat_own := fun _ _ _ h => And.intro h rfl
/-- How much a datum weighs. -/
class Wt (α : Type) where
  wt : α → Nat
def wtL {α : Type} [Wt α] : List α → Nat
  | [] => 0
  | x :: xs => Wt.wt x + wtL xs
instance : Wt ByteArray := ⟨ByteArray.size⟩
end Go.Proofs.Ytldnihpkiacgfaa.AM


namespace Go.Proofs.Ytldnihpkiacgfaa.AM
open Go
attribute [local go_sem] List.map_cons List.map_nil List.all_cons List.all_nil Bool.and_self Option.map_some List.getElem?_toArray Option.bind_some gye_b gye_t gsk_b gsk_t gb1 gb2 gb3 gb4 bne_self_eq_false beq_self_eq_true w_guard w_nil stepV_some step_some step_some' w_move w_assign w_pick w_binOp w_unOp w_load w_fieldAddr w_indexAddr w_len w_max w_index ev_max max_int ev_index w_box w_alloc w_store w_field w_extract w_nilCheck w_convert w_buildSlice w_build ev_buildL fillL_nil fillL_cons bs0 bs1 ev_conv ev_bin ev_un ev_pick ev_load ev_fieldAddr ev_indexAddr ev_len ev_field ev_extract ev_nilCheck fr_tmp fr_int fr_bool fr_str fr_nil fr_func put_some put_none bin_lss bin_leq bin_gtr bin_geq bin_eql bin_neq bin_add bin_sub bin_mul bin_seql bin_sneq un_not pick_ ext_ loadA_p cellAt_l cellAt_h okPtr_l okPtr_h fadA_p allocA_l storeA_l cells_agg cells_int cells_str cells_sl cells_bool flat_i flat_s flat_b flat_sl flat_nil loc_agg loc_int loc_str loc_sl loc_bool loc_fn loc_ptr okv_agg okv_int okv_str okv_sl okv_bool cellsFrom splice upd_eval argEnv_zero argEnv_succ ne_eq Nat.add_one_ne_zero not_false_eq_true List.not_mem_nil and_self decide_true List.getElem?_cons_zero List.getElem?_cons_succ List.size_toArray List.length_cons List.length_nil List.take_succ_cons List.take_zero List.drop_succ_cons List.drop_zero List.cons_append List.nil_append List.drop_nil Bool.not_true Bool.not_false Bool.false_eq_true Nat.zero_add Nat.add_zero wrap_in List.toList_toArray List.mem_cons or_self or_false false_or
attribute [local go_sem] ag22 ag24 ag25 ag27 ag3 ag31 ag5 ag9 bu27 bu31 bu43 by31 by9 el22 el24 el25 of27_0 of27_1 of31_0 of31_1 of31_2 of43_0 of43_1 of43_2 ro31_1 ro31_7 ro9_0 ro9_1 ro9_2 ro9_3 ro9_4 ro9_5 sz22 sz24 sz25 sz27 sz3 sz31 sz5 sz9 ze27 ze31 ze9
section
/- Rows of bytes; the cursor of a draw: spec.l1New, l1Byte, l1Below, l1Once. -/
open Go Go.Proofs
set_option linter.unusedVariables false
set_option linter.unusedSimpArgs false
set_option maxRecDepth 100000
-- AUTO

/-- A byte of a row. -/
structure Byt where
  v : Int
def EncY (st : St) (b : Byt) (cs : List Value) : Prop := cs = [.int .u8 b.v]
abbrev RowY (st : St) (xs : List Byt) (s : Value) : Prop := Row (EncY st) 1 st xs s
theorem RowY.ext {st st' : St} {xs : List Byt} {s : Value} (h : RowY st xs s) (hx : Ext st st') : RowY st' xs s := Row.mono h hx fun _ _ _ he => he
theorem row_atY {st : St} {xs : List Byt} {s : Value} (h : RowY st xs s) {j : Nat} (hj : j < xs.length) : ∃ i o c, s = .slice (some ⟨i, o, none⟩) xs.length c ∧ cell st i (o + j * 1) = some (.int .u8 xs[j].v) := by
  obtain ⟨i, o, c, cs, rfl, _, hE, hc⟩ := row_at h (List.getElem?_eq_getElem hj)
  have : cs = [.int .u8 xs[j].v] := hE
  subst this
  exact ⟨i, o, c, rfl, hc 0 _ rfl⟩

def andI (a b : Int) : Int := IntKind.i64.wrap (BitVec.ofInt IntKind.i64.bits a &&& BitVec.ofInt IntKind.i64.bits b).toNat
def xorI (a b : Int) : Int := IntKind.i64.wrap (BitVec.ofInt IntKind.i64.bits a ^^^ BitVec.ofInt IntKind.i64.bits b).toNat
section
variable {P : Program} {t : TypeId} {x y : Operand}
theorem bin_and {a b : Int} : binE P .and t x y (.int .i64 a) (.int .i64 b) = some (.int .i64 (andI a b)) := rfl
theorem bin_xor {a b : Int} : binE P .xor t x y (.int .i64 a) (.int .i64 b) = some (.int .i64 (xorI a b)) := rfl
theorem bin_shr33 {a : Int} : binE P .shr t x y (.int .i64 a) (.int .u64 33) = some (.int .i64 (a.fdiv (2 ^ 33))) := rfl
theorem bin_shr45 {a : Int} : binE P .shr t x y (.int .i64 a) (.int .u64 45) = some (.int .i64 (a.fdiv (2 ^ 45))) := rfl
end
theorem and255 (a : Int) : 0 ≤ andI a 255 ∧ andI a 255 ≤ 255 := by
  have h : (BitVec.ofInt IntKind.i64.bits a &&& BitVec.ofInt IntKind.i64.bits 255).toNat ≤ 255 := by
    rw [BitVec.toNat_and]
    exact Nat.le_trans Nat.and_le_right (by decide)
  unfold andI
  generalize (BitVec.ofInt IntKind.i64.bits a &&& BitVec.ofInt IntKind.i64.bits 255).toNat = n at h
  rw [wrap_in (by omega) (by omega)]
  omega

/-- The cursor lies in block q; it goes over the row sb. -/
def Cur (st : St) (q : Nat) (xs : List Byt) : Prop := ∃ sb i h, st[q]? = some ⟨[sb, .int .i64 i, .int .i64 h], 43, 0⟩ ∧ RowY st xs sb ∧ (xs = [] ∨ ∃ b, topId sb = some b ∧ b < q) ∧ 0 ≤ i ∧ i ≤ xs.length ∧ xs.length ≤ 4611686018427387904
theorem far {xs : List Byt} {sb : Value} {q k : Nat} (h : xs = [] ∨ ∃ b, topId sb = some b ∧ b < q) (hk : q ≤ k) : xs = [] ∨ topId sb ≠ some k := h.imp id fun ⟨b, h1, h2⟩ e => by
  rw [h1] at e; cases e; omega
/-- What a draw leaves: the cursor alone has turned; what is new is new. -/
structure Drawn (q : Nat) (xs : List Byt) (st st' : St) : Prop where
  cur : Cur st' q xs
  away : Away (some q) st st'
theorem Away.refl (k : Option Nat) (st : St) : Away k st st := ⟨Nat.le_refl _, fun _ _ _ => rfl⟩
theorem Away.same {k : Option Nat} {a b c : St} (h : Away k a b) (g : Away k b c) : Away k a c := h.trans g (.inl rfl)
theorem Drawn.refl {q : Nat} {xs : List Byt} {st : St} (h : Cur st q xs) : Drawn q xs st st := ⟨h, .refl _ _⟩
theorem Drawn.trans {q : Nat} {xs : List Byt} {a b c : St} (h : Drawn q xs a b) (g : Drawn q xs b c) : Drawn q xs a c := ⟨g.cur, h.away.same g.away⟩
theorem row_away {st st' : St} {xs : List Byt} {s : Value} {q : Nat} (h : RowY st xs s) (ha : Away (some q) st st') (hn : xs = [] ∨ topId s ≠ some q) : RowY st' xs s := by
  rcases h with h | ⟨i, o, c, rfl, h⟩
  · exact .inl h
  · refine .inr ⟨i, o, c, rfl, fun j x hx => ?_⟩
    obtain ⟨cs, h1, h2, h3⟩ := h j x hx
    refine ⟨cs, h1, h2, fun k v hv => ?_⟩
    have h4 := h3 k v hv
    rcases hn with rfl | hn
    · simp at hx
    have hi : i < st.length := by
      unfold cell at h4
      rcases Nat.lt_or_ge i st.length with h5 | h5
      · exact h5
      · rw [List.getElem?_eq_none h5] at h4; cases h4
    have h5 := ha.2 i hi (fun e => hn e.symm)
    unfold cell at h4 ⊢
    rw [h5]; exact h4
theorem Cur.ext {st st' : St} {q : Nat} {xs : List Byt} (h : Cur st q xs) (hx : Ext st st') : Cur st' q xs := by
  obtain ⟨sb, i, h, h1, h2, h3⟩ := h
  exact ⟨sb, i, h, hx q _ h1, h2.ext hx, h3⟩
section
variable {st : St} {q : Nat} {a b c : Value}
theorem cur_cell0 {st : St} {q : Nat} {a b c : Value} {t : TypeId} (h : st[q]? = some ⟨[a, b, c], t, 0⟩) : cell st q 0 = some a := by simp [cell, h]
theorem cur_cell1 {st : St} {q : Nat} {a b c : Value} {t : TypeId} (h : st[q]? = some ⟨[a, b, c], t, 0⟩) : cell st q 1 = some b := by simp [cell, h]
theorem cur_cell2 {st : St} {q : Nat} {a b c : Value} {t : TypeId} (h : st[q]? = some ⟨[a, b, c], t, 0⟩) : cell st q 2 = some c := by simp [cell, h]
theorem cur_set1 {st : St} {q : Nat} {a b c : Value} {t : TypeId} (h : st[q]? = some ⟨[a, b, c], t, 0⟩) (loc : Nat → Nat × List Value) (v : Int) : storeA Try.prog 3 (.pointer (some ⟨q, 1, none⟩)) (.int .i64 v) loc st = some (loc, st.set q ⟨[a, .int .i64 v, c], t, 0⟩) := by
  rw [storeA_h, sz3]
  simp [h, okv_int, cells_int, splice]
theorem cur_set2 {st : St} {q : Nat} {a b c : Value} {t : TypeId} (h : st[q]? = some ⟨[a, b, c], t, 0⟩) (loc : Nat → Nat × List Value) (v : Int) : storeA Try.prog 3 (.pointer (some ⟨q, 2, none⟩)) (.int .i64 v) loc st = some (loc, st.set q ⟨[a, b, .int .i64 v], t, 0⟩) := by
  rw [storeA_h, sz3]
  simp [h, okv_int, cells_int, splice]
end
/-- The cursor stays where a block beyond it has turned. -/
theorem Cur.far {st st' : St} {q k : Nat} {xs : List Byt} (h : Cur st q xs) (ha : Away (some k) st st') (hk : q < k) : Cur st' q xs := by
  obtain ⟨sb, i, h, h1, h2, h3, h4⟩ := h
  have hq := (List.getElem?_eq_some_iff.1 h1).1
  exact ⟨sb, i, h, by rw [ha.2 q hq (fun e => by cases e; omega)]; exact h1, row_away h2 ha (AM.far h3 (by omega)), h3, h4⟩
theorem set_at {st : St} {q : Nat} {b b' : Blk} (h : st[q]? = some b) : (st.set q b')[q]? = some b' := List.getElem?_set_self (List.getElem?_eq_some_iff.1 h).1
theorem set_away {st : St} {q : Nat} {b' : Blk} : Away (some q) st (st.set q b') := ⟨by simp, fun i _ hi => List.getElem?_set_ne (fun e => hi (by rw [e]))⟩

theorem Row.cells1 {α : Type} {E : α → List Value → Prop} {sz : Nat} {st : St} {xs : List α} {s : Value} (h : Row E sz st xs s) : vc s = #[s] := by
  rcases h with ⟨h | h, _⟩ | ⟨i, o, c, rfl, _⟩
  · subst h; rfl
  · subst h; rfl
  · rfl
theorem l1New_ok (xs : List Byt) (st : St) (s : Value) (hbig : xs.length ≤ 4611686018427387904) (hr : RowY st xs s) :
    CallS Try.prog 12 [s] st fun r st2 => r = .pointer (some ⟨st.length, 0, none⟩) ∧ Ext st st2 ∧ Cur st2 st.length xs := by
  refine CallS_of_W [31] 32 Try.func12 rfl rfl rfl rfl (by simp) ?_
  have q1 := hr.notLoc.1
  have q2 := hr.notLoc.2
  have q3 := Row.cells1 hr
  have hlen : lenE Try.prog 22 s = some (.int .i64 xs.length) := row_len hr Try.underlying22
  have hcv := fun n => cvI_int (P := Try.prog) (k := .u8) (k' := .i64) (n := n) Try.underlying5 Try.underlying3
  repeat (first | (refine W_reg rfl fun G K hG hK => ?_; simp (disch := omega) only [go_sem, ↓reduceIte, Nat.reduceEqDiff, Nat.reduceAdd, Nat.reduceLeDiff, hG, q1, hlen, hcv, bin_and]; refine hK _ _ ?_; clear hK K hG G) | (refine W_end rfl fun G K hG hK => ?_; simp (disch := omega) only [go_sem, ↓reduceIte, Nat.reduceEqDiff, Nat.reduceAdd, Nat.reduceLeDiff, hG, q1, hlen, hcv, bin_and]; refine hK _ _ ?_; clear hK K hG G; repeat (first | refine thenI ?_ | refine thenE ?_ | refine thenR ?_ | refine inBI ?_ | refine inBR ?_ | refine inBS ?_ | refine inBN (by decide) ?_)) | refine W_seqS ?_ | refine W_seqC ?_ | refine W_seqB ?_ | refine W_block ?_ | (refine W_skip ?_; repeat (first | refine thenI ?_ | refine thenE ?_ | refine thenR ?_ | refine inBI ?_ | refine inBR ?_ | refine inBS ?_ | refine inBN (by decide) ?_)) | (refine W_condT ?hc ?_; (case hc => (simp (disch := omega) only [go_sem, ↓reduceIte, Nat.reduceEqDiff, Nat.reduceAdd, Nat.reduceLeDiff, q1, hlen, hcv, bin_and]; done))) | (refine W_condF ?hc ?_; (case hc => (simp (disch := omega) only [go_sem, ↓reduceIte, Nat.reduceEqDiff, Nat.reduceAdd, Nat.reduceLeDiff, q1, hlen, hcv, bin_and]; done))))
  refine W_loop (fun d fr st' => ∃ (j : Nat) (h : Int), d = xs.length - j ∧ j ≤ xs.length ∧ (st = st') ∧ (fr.env 0 = s) ∧ (fr.env 3 = .int .i64 h) ∧ (fr.env 4 = .int .i64 j)) (xs.length) ?_ ?_
  · exact ⟨0, _, by omega, by omega, rfl, (by (simp (disch := omega) only [go_sem, ↓reduceIte, Nat.reduceEqDiff, Nat.reduceAdd, Nat.reduceLeDiff, q1, hlen, hcv, bin_and]); try rfl), (by (simp (disch := omega) only [go_sem, ↓reduceIte, Nat.reduceEqDiff, Nat.reduceAdd, Nat.reduceLeDiff, q1, hlen, hcv, bin_and]); try rfl), (by (simp (disch := omega) only [go_sem, ↓reduceIte, Nat.reduceEqDiff, Nat.reduceAdd, Nat.reduceLeDiff, q1, hlen, hcv, bin_and]); try rfl)⟩
  rintro d ⟨env, loc⟩ st' ⟨j, h, hd, hj, hst, e0, e3, e4⟩
  simp only at e0 e3 e4
  subst hst
  have hne : xs = [] ∨ ∃ b, topId s = some b ∧ b < st.length := by
    rcases Nat.eq_zero_or_pos xs.length with h0 | h0
    · exact .inl (List.eq_nil_of_length_eq_zero h0)
    · obtain ⟨i, o, c, rfl, hce⟩ := row_atY hr h0
      refine .inr ⟨i, rfl, ?_⟩
      unfold cell at hce
      rcases Nat.lt_or_ge i st.length with h5 | h5
      · exact h5
      · rw [List.getElem?_eq_none h5] at hce; cases hce
  have hal : ∀ (z : List Value) (t : TypeId) (loc : Nat → Nat × List Value) (st : St), allocA [31] 31 z t loc st = (.pointer (some ⟨st.length, 0, none⟩), loc, st ++ [⟨z, t, 0⟩]) := fun _ _ _ _ => rfl
  have hfin : ∀ h : Int, Cur (st ++ [⟨[s, .int .i64 0, .int .i64 h], 43, 0⟩]) st.length xs := fun h => ⟨s, 0, h, by simp, hr.ext (Ext.app _ _), hne, by omega, by omega, hbig⟩
  by_cases hlt : j < xs.length
  · have c1 : decide ((j : Int) < (xs.length : Int)) = true := by simpa using hlt
    have hi := idxOk hlt
    have hx : xs[j]? = some xs[j] := List.getElem?_eq_getElem hlt
    have htk : xs.take (j + 1) = xs.take j ++ [xs[j]] := List.take_succ_eq_append_getElem hlt
    cases hc4 : decide ((j : Int) < 4000) with
    | false =>
      repeat (first | (refine W_reg rfl fun G K hG hK => ?_; simp (disch := omega) only [go_sem, ↓reduceIte, Nat.reduceEqDiff, Nat.reduceAdd, Nat.reduceLeDiff, hG, q1, hlen, hcv, bin_and, e0, e3, e4, hal, q2, q3, c1, hi, idxA, Int.toNat_natCast, hc4]; refine hK _ _ ?_; clear hK K hG G) | (refine W_end rfl fun G K hG hK => ?_; simp (disch := omega) only [go_sem, ↓reduceIte, Nat.reduceEqDiff, Nat.reduceAdd, Nat.reduceLeDiff, hG, q1, hlen, hcv, bin_and, e0, e3, e4, hal, q2, q3, c1, hi, idxA, Int.toNat_natCast, hc4]; refine hK _ _ ?_; clear hK K hG G; repeat (first | refine thenI ?_ | refine thenE ?_ | refine thenR ?_ | refine inBI ?_ | refine inBR ?_ | refine inBS ?_ | refine inBN (by decide) ?_)) | refine W_seqS ?_ | refine W_seqC ?_ | refine W_seqB ?_ | refine W_block ?_ | (refine W_skip ?_; repeat (first | refine thenI ?_ | refine thenE ?_ | refine thenR ?_ | refine inBI ?_ | refine inBR ?_ | refine inBS ?_ | refine inBN (by decide) ?_)) | (refine W_condT ?hc ?_; (case hc => (simp (disch := omega) only [go_sem, ↓reduceIte, Nat.reduceEqDiff, Nat.reduceAdd, Nat.reduceLeDiff, q1, hlen, hcv, bin_and, e0, e3, e4, hal, q2, q3, c1, hi, idxA, Int.toNat_natCast, hc4]; done))) | (refine W_condF ?hc ?_; (case hc => (simp (disch := omega) only [go_sem, ↓reduceIte, Nat.reduceEqDiff, Nat.reduceAdd, Nat.reduceLeDiff, q1, hlen, hcv, bin_and, e0, e3, e4, hal, q2, q3, c1, hi, idxA, Int.toNat_natCast, hc4]; done))))
      refine W_exit ?_; repeat (first | refine thenI ?_ | refine thenE ?_ | refine thenR ?_ | refine inBI ?_ | refine inBR ?_ | refine inBS ?_ | refine inBN (by decide) ?_)
      repeat (first | (refine W_reg rfl fun G K hG hK => ?_; simp (disch := omega) only [go_sem, ↓reduceIte, Nat.reduceEqDiff, Nat.reduceAdd, Nat.reduceLeDiff, hG, q1, hlen, hcv, bin_and, e0, e3, e4, hal, q2, q3, c1, hi, idxA, Int.toNat_natCast]; refine hK _ _ ?_; clear hK K hG G) | (refine W_end rfl fun G K hG hK => ?_; simp (disch := omega) only [go_sem, ↓reduceIte, Nat.reduceEqDiff, Nat.reduceAdd, Nat.reduceLeDiff, hG, q1, hlen, hcv, bin_and, e0, e3, e4, hal, q2, q3, c1, hi, idxA, Int.toNat_natCast]; refine hK _ _ ?_; clear hK K hG G; repeat (first | refine thenI ?_ | refine thenE ?_ | refine thenR ?_ | refine inBI ?_ | refine inBR ?_ | refine inBS ?_ | refine inBN (by decide) ?_)) | refine W_seqS ?_ | refine W_seqC ?_ | refine W_seqB ?_ | refine W_block ?_ | (refine W_skip ?_; repeat (first | refine thenI ?_ | refine thenE ?_ | refine thenR ?_ | refine inBI ?_ | refine inBR ?_ | refine inBS ?_ | refine inBN (by decide) ?_)) | (refine W_condT ?hc ?_; (case hc => (simp (disch := omega) only [go_sem, ↓reduceIte, Nat.reduceEqDiff, Nat.reduceAdd, Nat.reduceLeDiff, q1, hlen, hcv, bin_and, e0, e3, e4, hal, q2, q3, c1, hi, idxA, Int.toNat_natCast]; done))) | (refine W_condF ?hc ?_; (case hc => (simp (disch := omega) only [go_sem, ↓reduceIte, Nat.reduceEqDiff, Nat.reduceAdd, Nat.reduceLeDiff, q1, hlen, hcv, bin_and, e0, e3, e4, hal, q2, q3, c1, hi, idxA, Int.toNat_natCast]; done))))
      refine W_ret ?_; try (repeat (first | refine thenI ?_ | refine thenE ?_ | refine thenR ?_ | refine inBI ?_ | refine inBR ?_ | refine inBS ?_ | refine inBN (by decide) ?_))
      refine fin1 (.inl rfl) (by (simp (disch := omega) only [go_sem, ↓reduceIte, Nat.reduceEqDiff, Nat.reduceAdd, Nat.reduceLeDiff, q1, hlen, hcv, bin_and, e0, e3, e4, hal, q2, q3, c1, hi, idxA, Int.toNat_natCast]); try rfl) rfl ⟨rfl, Ext.app _ _, hfin h⟩
    | true =>
      obtain ⟨i, o, c, rfl, hce⟩ := row_atY hr hlt
      repeat (first | (refine W_reg rfl fun G K hG hK => ?_; simp (disch := omega) only [go_sem, ↓reduceIte, Nat.reduceEqDiff, Nat.reduceAdd, Nat.reduceLeDiff, hG, q1, hlen, hcv, bin_and, e0, e3, e4, hal, q2, q3, c1, hi, idxA, Int.toNat_natCast, hc4, hce]; refine hK _ _ ?_; clear hK K hG G) | (refine W_end rfl fun G K hG hK => ?_; simp (disch := omega) only [go_sem, ↓reduceIte, Nat.reduceEqDiff, Nat.reduceAdd, Nat.reduceLeDiff, hG, q1, hlen, hcv, bin_and, e0, e3, e4, hal, q2, q3, c1, hi, idxA, Int.toNat_natCast, hc4, hce]; refine hK _ _ ?_; clear hK K hG G; repeat (first | refine thenI ?_ | refine thenE ?_ | refine thenR ?_ | refine inBI ?_ | refine inBR ?_ | refine inBS ?_ | refine inBN (by decide) ?_)) | refine W_seqS ?_ | refine W_seqC ?_ | refine W_seqB ?_ | refine W_block ?_ | (refine W_skip ?_; repeat (first | refine thenI ?_ | refine thenE ?_ | refine thenR ?_ | refine inBI ?_ | refine inBR ?_ | refine inBS ?_ | refine inBN (by decide) ?_)) | (refine W_condT ?hc ?_; (case hc => (simp (disch := omega) only [go_sem, ↓reduceIte, Nat.reduceEqDiff, Nat.reduceAdd, Nat.reduceLeDiff, q1, hlen, hcv, bin_and, e0, e3, e4, hal, q2, q3, c1, hi, idxA, Int.toNat_natCast, hc4, hce]; done))) | (refine W_condF ?hc ?_; (case hc => (simp (disch := omega) only [go_sem, ↓reduceIte, Nat.reduceEqDiff, Nat.reduceAdd, Nat.reduceLeDiff, q1, hlen, hcv, bin_and, e0, e3, e4, hal, q2, q3, c1, hi, idxA, Int.toNat_natCast, hc4, hce]; done))))
      refine ⟨xs.length - (j + 1), by omega, j + 1, _, rfl, by omega, rfl, (by (simp (disch := omega) only [go_sem, ↓reduceIte, Nat.reduceEqDiff, Nat.reduceAdd, Nat.reduceLeDiff, q1, hlen, hcv, bin_and, e0, e3, e4, hal, q2, q3, c1, hi, idxA, Int.toNat_natCast]); try rfl), (by (simp (disch := omega) only [go_sem, ↓reduceIte, Nat.reduceEqDiff, Nat.reduceAdd, Nat.reduceLeDiff, q1, hlen, hcv, bin_and, e0, e3, e4, hal, q2, q3, c1, hi, idxA, Int.toNat_natCast]); try rfl), (by (simp (disch := omega) only [go_sem, ↓reduceIte, Nat.reduceEqDiff, Nat.reduceAdd, Nat.reduceLeDiff, q1, hlen, hcv, bin_and, e0, e3, e4, hal, q2, q3, c1, hi, idxA, Int.toNat_natCast]); try rfl)⟩
  · have c1 : decide ((j : Int) < (xs.length : Int)) = false := by simpa using hlt
    have hjn : j = xs.length := by omega
    subst hjn
    repeat (first | (refine W_reg rfl fun G K hG hK => ?_; simp (disch := omega) only [go_sem, ↓reduceIte, Nat.reduceEqDiff, Nat.reduceAdd, Nat.reduceLeDiff, hG, q1, hlen, hcv, bin_and, e0, e3, e4, c1, hal, q2, q3]; refine hK _ _ ?_; clear hK K hG G) | (refine W_end rfl fun G K hG hK => ?_; simp (disch := omega) only [go_sem, ↓reduceIte, Nat.reduceEqDiff, Nat.reduceAdd, Nat.reduceLeDiff, hG, q1, hlen, hcv, bin_and, e0, e3, e4, c1, hal, q2, q3]; refine hK _ _ ?_; clear hK K hG G; repeat (first | refine thenI ?_ | refine thenE ?_ | refine thenR ?_ | refine inBI ?_ | refine inBR ?_ | refine inBS ?_ | refine inBN (by decide) ?_)) | refine W_seqS ?_ | refine W_seqC ?_ | refine W_seqB ?_ | refine W_block ?_ | (refine W_skip ?_; repeat (first | refine thenI ?_ | refine thenE ?_ | refine thenR ?_ | refine inBI ?_ | refine inBR ?_ | refine inBS ?_ | refine inBN (by decide) ?_)) | (refine W_condT ?hc ?_; (case hc => (simp (disch := omega) only [go_sem, ↓reduceIte, Nat.reduceEqDiff, Nat.reduceAdd, Nat.reduceLeDiff, q1, hlen, hcv, bin_and, e0, e3, e4, c1, hal, q2, q3]; done))) | (refine W_condF ?hc ?_; (case hc => (simp (disch := omega) only [go_sem, ↓reduceIte, Nat.reduceEqDiff, Nat.reduceAdd, Nat.reduceLeDiff, q1, hlen, hcv, bin_and, e0, e3, e4, c1, hal, q2, q3]; done))))
    refine W_exit ?_; repeat (first | refine thenI ?_ | refine thenE ?_ | refine thenR ?_ | refine inBI ?_ | refine inBR ?_ | refine inBS ?_ | refine inBN (by decide) ?_)
    repeat (first | (refine W_reg rfl fun G K hG hK => ?_; simp (disch := omega) only [go_sem, ↓reduceIte, Nat.reduceEqDiff, Nat.reduceAdd, Nat.reduceLeDiff, hG, q1, hlen, hcv, bin_and, e0, e3, e4, c1, hal, q2, q3]; refine hK _ _ ?_; clear hK K hG G) | (refine W_end rfl fun G K hG hK => ?_; simp (disch := omega) only [go_sem, ↓reduceIte, Nat.reduceEqDiff, Nat.reduceAdd, Nat.reduceLeDiff, hG, q1, hlen, hcv, bin_and, e0, e3, e4, c1, hal, q2, q3]; refine hK _ _ ?_; clear hK K hG G; repeat (first | refine thenI ?_ | refine thenE ?_ | refine thenR ?_ | refine inBI ?_ | refine inBR ?_ | refine inBS ?_ | refine inBN (by decide) ?_)) | refine W_seqS ?_ | refine W_seqC ?_ | refine W_seqB ?_ | refine W_block ?_ | (refine W_skip ?_; repeat (first | refine thenI ?_ | refine thenE ?_ | refine thenR ?_ | refine inBI ?_ | refine inBR ?_ | refine inBS ?_ | refine inBN (by decide) ?_)) | (refine W_condT ?hc ?_; (case hc => (simp (disch := omega) only [go_sem, ↓reduceIte, Nat.reduceEqDiff, Nat.reduceAdd, Nat.reduceLeDiff, q1, hlen, hcv, bin_and, e0, e3, e4, c1, hal, q2, q3]; done))) | (refine W_condF ?hc ?_; (case hc => (simp (disch := omega) only [go_sem, ↓reduceIte, Nat.reduceEqDiff, Nat.reduceAdd, Nat.reduceLeDiff, q1, hlen, hcv, bin_and, e0, e3, e4, c1, hal, q2, q3]; done))))
    refine W_ret ?_; try (repeat (first | refine thenI ?_ | refine thenE ?_ | refine thenR ?_ | refine inBI ?_ | refine inBR ?_ | refine inBS ?_ | refine inBN (by decide) ?_))
    refine fin1 (.inl rfl) (by (simp (disch := omega) only [go_sem, ↓reduceIte, Nat.reduceEqDiff, Nat.reduceAdd, Nat.reduceLeDiff, q1, hlen, hcv, bin_and, e0, e3, e4, c1, hal, q2, q3]); try rfl) rfl ⟨rfl, Ext.app _ _, hfin h⟩

theorem l1Byte_ok (q : Nat) (xs : List Byt) (st : St) (hq : Cur st q xs) :
    CallS Try.prog 19 [.pointer (some ⟨q, 0, none⟩)] st fun r st2 => (∃ x : Int, r = .int .i64 x ∧ 0 ≤ x ∧ x ≤ 255) ∧ Drawn q xs st st2 ∧ st2.length = st.length := by
  refine CallS_of_W [] 58 Try.func19 rfl rfl rfl rfl (by simp) ?_
  obtain ⟨sb, i, h, h1, hr, hne, hi0, hi1, hbig⟩ := hq
  obtain ⟨n, rfl⟩ : ∃ n : Nat, i = n := ⟨i.toNat, by omega⟩
  have hlen : lenE Try.prog 22 sb = some (.int .i64 xs.length) := row_len hr Try.underlying22
  have q1 := hr.notLoc.1
  have q2 := hr.notLoc.2
  have hcv := fun n => cvI_int (P := Try.prog) (k := .u8) (k' := .i64) (n := n) Try.underlying5 Try.underlying3
  have c2 := cur_cell2 h1
  have s2 := cur_set2 h1
  repeat (first | (refine W_reg rfl fun G K hG hK => ?_; simp (disch := omega) only [go_sem, ↓reduceIte, Nat.reduceEqDiff, Nat.reduceAdd, Nat.reduceLeDiff, hG, q1, q2, hlen, hcv, bin_and, bin_xor, bin_shr33, bin_shr45, nc_h, okPtr_h, cellAt_h, c2, s2]; refine hK _ _ ?_; clear hK K hG G) | (refine W_end rfl fun G K hG hK => ?_; simp (disch := omega) only [go_sem, ↓reduceIte, Nat.reduceEqDiff, Nat.reduceAdd, Nat.reduceLeDiff, hG, q1, q2, hlen, hcv, bin_and, bin_xor, bin_shr33, bin_shr45, nc_h, okPtr_h, cellAt_h, c2, s2]; refine hK _ _ ?_; clear hK K hG G; repeat (first | refine thenI ?_ | refine thenE ?_ | refine thenR ?_ | refine inBI ?_ | refine inBR ?_ | refine inBS ?_ | refine inBN (by decide) ?_)) | refine W_seqS ?_ | refine W_seqC ?_ | refine W_seqB ?_ | refine W_block ?_ | (refine W_skip ?_; repeat (first | refine thenI ?_ | refine thenE ?_ | refine thenR ?_ | refine inBI ?_ | refine inBR ?_ | refine inBS ?_ | refine inBN (by decide) ?_)) | (refine W_condT ?hc ?_; (case hc => (simp (disch := omega) only [go_sem, ↓reduceIte, Nat.reduceEqDiff, Nat.reduceAdd, Nat.reduceLeDiff, q1, q2, hlen, hcv, bin_and, bin_xor, bin_shr33, bin_shr45, nc_h, okPtr_h, cellAt_h, c2, s2]; done))) | (refine W_condF ?hc ?_; (case hc => (simp (disch := omega) only [go_sem, ↓reduceIte, Nat.reduceEqDiff, Nat.reduceAdd, Nat.reduceLeDiff, q1, q2, hlen, hcv, bin_and, bin_xor, bin_shr33, bin_shr45, nc_h, okPtr_h, cellAt_h, c2, s2]; done))))
  obtain ⟨h2, hh2⟩ : ∃ h2, h2 = IntKind.i64.wrap (IntKind.i64.wrap (h * 6364136223846793005) + 1442695040888963407) := ⟨_, rfl⟩
  rw [← hh2]
  have g1 := set_at (b' := ⟨[sb, .int .i64 (n : Int), .int .i64 h2], 43, 0⟩) h1
  have ha := set_away (st := st) (q := q) (b' := ⟨[sb, .int .i64 (n : Int), .int .i64 h2], 43, 0⟩)
  have hl2 : (st.set q ⟨[sb, .int .i64 (n : Int), .int .i64 h2], 43, 0⟩).length = st.length := by simp
  generalize st.set q ⟨[sb, .int .i64 (n : Int), .int .i64 h2], 43, 0⟩ = st1 at g1 ha hl2 ⊢
  have hr1 := row_away hr ha (far hne (Nat.le_refl q))
  have d0 := cur_cell0 g1
  have d1 := cur_cell1 g1
  have d2 := cur_cell2 g1
  (repeat (first | refine W_seqS ?_ | refine W_seqC ?_ | refine W_seqB ?_ | refine W_block ?_)); refine W_regD mixed [] [(0,false),(1,false),(2,false),(3,false),(4,false),(5,false),(6,false),(7,false),(8,false),(9,false),(10,false),(11,false),(12,false)] rfl (by decide +kernel) fun G K hG hK => ?_; simp only [pickOps, List.filterMap_cons, List.filterMap_nil, List.getElem?_cons_zero, List.getElem?_cons_succ, Option.map_some]; simp (disch := omega) only [go_sem, ↓reduceIte, Nat.reduceEqDiff, Nat.reduceAdd, Nat.reduceLeDiff, hG, q1, q2, hlen, hcv, bin_and, bin_xor, bin_shr33, bin_shr45, nc_h, okPtr_h, cellAt_h, d0, d1, d2]
  refine hK _ _ ?_; clear hK K hG G; repeat (first | refine thenI ?_ | refine thenE ?_ | refine thenR ?_ | refine inBI ?_ | refine inBR ?_ | refine inBS ?_ | refine inBN (by decide) ?_)
  by_cases hlt : n < xs.length
  · have c1 : decide ((n : Int) < (xs.length : Int)) = true := by simpa using hlt
    have hi := idxOk hlt
    obtain ⟨ib, ob, cb, rfl, hce⟩ := row_atY hr1 hlt
    have s1 := cur_set1 g1
    (repeat (first | refine W_seqS ?_ | refine W_seqC ?_ | refine W_seqB ?_ | refine W_block ?_)); refine W_regD mixed [] [(0,false),(1,false),(2,false),(3,false),(4,false),(5,false),(6,false),(7,false),(8,false),(9,false)] rfl (by decide +kernel) fun G K hG hK => ?_; simp only [pickOps, List.filterMap_cons, List.filterMap_nil, List.getElem?_cons_zero, List.getElem?_cons_succ, Option.map_some]; simp (disch := omega) only [go_sem, ↓reduceIte, Nat.reduceEqDiff, Nat.reduceAdd, Nat.reduceLeDiff, hG, q1, q2, hlen, hcv, bin_and, bin_xor, bin_shr33, bin_shr45, nc_h, okPtr_h, cellAt_h, d0, d1, d2, c1]
    refine hK _ _ ?_; clear hK K hG G; repeat (first | refine thenI ?_ | refine thenE ?_ | refine thenR ?_ | refine inBI ?_ | refine inBR ?_ | refine inBS ?_ | refine inBN (by decide) ?_)
    repeat (first | (refine W_reg rfl fun G K hG hK => ?_; simp (disch := omega) only [go_sem, ↓reduceIte, Nat.reduceEqDiff, Nat.reduceAdd, Nat.reduceLeDiff, hG, q1, q2, hlen, hcv, bin_and, bin_xor, bin_shr33, bin_shr45, nc_h, okPtr_h, cellAt_h, d0, d1, d2, c1]; refine hK _ _ ?_; clear hK K hG G) | (refine W_end rfl fun G K hG hK => ?_; simp (disch := omega) only [go_sem, ↓reduceIte, Nat.reduceEqDiff, Nat.reduceAdd, Nat.reduceLeDiff, hG, q1, q2, hlen, hcv, bin_and, bin_xor, bin_shr33, bin_shr45, nc_h, okPtr_h, cellAt_h, d0, d1, d2, c1]; refine hK _ _ ?_; clear hK K hG G; repeat (first | refine thenI ?_ | refine thenE ?_ | refine thenR ?_ | refine inBI ?_ | refine inBR ?_ | refine inBS ?_ | refine inBN (by decide) ?_)) | refine W_seqS ?_ | refine W_seqC ?_ | refine W_seqB ?_ | refine W_block ?_ | (refine W_skip ?_; repeat (first | refine thenI ?_ | refine thenE ?_ | refine thenR ?_ | refine inBI ?_ | refine inBR ?_ | refine inBS ?_ | refine inBN (by decide) ?_)) | (refine W_condT ?hc ?_; (case hc => (simp (disch := omega) only [go_sem, ↓reduceIte, Nat.reduceEqDiff, Nat.reduceAdd, Nat.reduceLeDiff, q1, q2, hlen, hcv, bin_and, bin_xor, bin_shr33, bin_shr45, nc_h, okPtr_h, cellAt_h, d0, d1, d2, c1]; done))) | (refine W_condF ?hc ?_; (case hc => (simp (disch := omega) only [go_sem, ↓reduceIte, Nat.reduceEqDiff, Nat.reduceAdd, Nat.reduceLeDiff, q1, q2, hlen, hcv, bin_and, bin_xor, bin_shr33, bin_shr45, nc_h, okPtr_h, cellAt_h, d0, d1, d2, c1]; done))))
    (repeat (first | refine W_seqS ?_ | refine W_seqC ?_ | refine W_seqB ?_ | refine W_block ?_)); refine W_regD mixed [] [(0,false),(1,false),(2,false),(3,false),(4,false),(5,false),(6,false),(7,false),(8,false),(9,false),(10,false),(11,false),(12,false),(13,false),(14,false)] rfl (by decide +kernel) fun G K hG hK => ?_; simp only [pickOps, List.filterMap_cons, List.filterMap_nil, List.getElem?_cons_zero, List.getElem?_cons_succ, Option.map_some]; simp (disch := omega) only [go_sem, ↓reduceIte, Nat.reduceEqDiff, Nat.reduceAdd, Nat.reduceLeDiff, hG, q1, q2, hlen, hcv, bin_and, bin_xor, bin_shr33, bin_shr45, nc_h, okPtr_h, cellAt_h, d0, d1, d2, hi, idxA, Int.toNat_natCast, hce]
    refine hK _ _ ?_; clear hK K hG G; repeat (first | refine thenI ?_ | refine thenE ?_ | refine thenR ?_ | refine inBI ?_ | refine inBR ?_ | refine inBS ?_ | refine inBN (by decide) ?_)
    repeat (first | (refine W_reg rfl fun G K hG hK => ?_; simp (disch := omega) only [go_sem, ↓reduceIte, Nat.reduceEqDiff, Nat.reduceAdd, Nat.reduceLeDiff, hG, q1, q2, hlen, hcv, bin_and, bin_xor, bin_shr33, bin_shr45, nc_h, okPtr_h, cellAt_h, d0, d1, d2, s1]; refine hK _ _ ?_; clear hK K hG G) | (refine W_end rfl fun G K hG hK => ?_; simp (disch := omega) only [go_sem, ↓reduceIte, Nat.reduceEqDiff, Nat.reduceAdd, Nat.reduceLeDiff, hG, q1, q2, hlen, hcv, bin_and, bin_xor, bin_shr33, bin_shr45, nc_h, okPtr_h, cellAt_h, d0, d1, d2, s1]; refine hK _ _ ?_; clear hK K hG G; repeat (first | refine thenI ?_ | refine thenE ?_ | refine thenR ?_ | refine inBI ?_ | refine inBR ?_ | refine inBS ?_ | refine inBN (by decide) ?_)) | refine W_seqS ?_ | refine W_seqC ?_ | refine W_seqB ?_ | refine W_block ?_ | (refine W_skip ?_; repeat (first | refine thenI ?_ | refine thenE ?_ | refine thenR ?_ | refine inBI ?_ | refine inBR ?_ | refine inBS ?_ | refine inBN (by decide) ?_)) | (refine W_condT ?hc ?_; (case hc => (simp (disch := omega) only [go_sem, ↓reduceIte, Nat.reduceEqDiff, Nat.reduceAdd, Nat.reduceLeDiff, q1, q2, hlen, hcv, bin_and, bin_xor, bin_shr33, bin_shr45, nc_h, okPtr_h, cellAt_h, d0, d1, d2, s1]; done))) | (refine W_condF ?hc ?_; (case hc => (simp (disch := omega) only [go_sem, ↓reduceIte, Nat.reduceEqDiff, Nat.reduceAdd, Nat.reduceLeDiff, q1, q2, hlen, hcv, bin_and, bin_xor, bin_shr33, bin_shr45, nc_h, okPtr_h, cellAt_h, d0, d1, d2, s1]; done))))
    refine W_ret ?_; try (repeat (first | refine thenI ?_ | refine thenE ?_ | refine thenR ?_ | refine inBI ?_ | refine inBR ?_ | refine inBS ?_ | refine inBN (by decide) ?_))
    refine fin1 (.inl rfl) (by (simp (disch := omega) only [go_sem, ↓reduceIte, Nat.reduceEqDiff, Nat.reduceAdd, Nat.reduceLeDiff, q1, q2, hlen, hcv, bin_and, bin_xor, bin_shr33, bin_shr45, nc_h, okPtr_h, cellAt_h, d0, d1, d2]); try rfl) rfl ⟨⟨_, rfl, and255 _⟩, ⟨⟨_, (n : Int) + 1, h2, set_at g1, row_away hr1 set_away (far hne (Nat.le_refl q)), hne, by omega, by omega, hbig⟩, ha.same set_away⟩, by rw [List.length_set, hl2]⟩
  · have c1 : decide ((n : Int) < (xs.length : Int)) = false := by simpa using hlt
    (repeat (first | refine W_seqS ?_ | refine W_seqC ?_ | refine W_seqB ?_ | refine W_block ?_)); refine W_regD mixed [] [(0,false),(1,false),(2,false),(3,false),(4,false),(5,false),(6,false),(7,false),(8,false),(9,false)] rfl (by decide +kernel) fun G K hG hK => ?_; simp only [pickOps, List.filterMap_cons, List.filterMap_nil, List.getElem?_cons_zero, List.getElem?_cons_succ, Option.map_some]; simp (disch := omega) only [go_sem, ↓reduceIte, Nat.reduceEqDiff, Nat.reduceAdd, Nat.reduceLeDiff, hG, q1, q2, hlen, hcv, bin_and, bin_xor, bin_shr33, bin_shr45, nc_h, okPtr_h, cellAt_h, d0, d1, d2, c1]
    refine hK _ _ ?_; clear hK K hG G; repeat (first | refine thenI ?_ | refine thenE ?_ | refine thenR ?_ | refine inBI ?_ | refine inBR ?_ | refine inBS ?_ | refine inBN (by decide) ?_)
    repeat (first | (refine W_reg rfl fun G K hG hK => ?_; simp (disch := omega) only [go_sem, ↓reduceIte, Nat.reduceEqDiff, Nat.reduceAdd, Nat.reduceLeDiff, hG, q1, q2, hlen, hcv, bin_and, bin_xor, bin_shr33, bin_shr45, nc_h, okPtr_h, cellAt_h, d0, d1, d2, c1]; refine hK _ _ ?_; clear hK K hG G) | (refine W_end rfl fun G K hG hK => ?_; simp (disch := omega) only [go_sem, ↓reduceIte, Nat.reduceEqDiff, Nat.reduceAdd, Nat.reduceLeDiff, hG, q1, q2, hlen, hcv, bin_and, bin_xor, bin_shr33, bin_shr45, nc_h, okPtr_h, cellAt_h, d0, d1, d2, c1]; refine hK _ _ ?_; clear hK K hG G; repeat (first | refine thenI ?_ | refine thenE ?_ | refine thenR ?_ | refine inBI ?_ | refine inBR ?_ | refine inBS ?_ | refine inBN (by decide) ?_)) | refine W_seqS ?_ | refine W_seqC ?_ | refine W_seqB ?_ | refine W_block ?_ | (refine W_skip ?_; repeat (first | refine thenI ?_ | refine thenE ?_ | refine thenR ?_ | refine inBI ?_ | refine inBR ?_ | refine inBS ?_ | refine inBN (by decide) ?_)) | (refine W_condT ?hc ?_; (case hc => (simp (disch := omega) only [go_sem, ↓reduceIte, Nat.reduceEqDiff, Nat.reduceAdd, Nat.reduceLeDiff, q1, q2, hlen, hcv, bin_and, bin_xor, bin_shr33, bin_shr45, nc_h, okPtr_h, cellAt_h, d0, d1, d2, c1]; done))) | (refine W_condF ?hc ?_; (case hc => (simp (disch := omega) only [go_sem, ↓reduceIte, Nat.reduceEqDiff, Nat.reduceAdd, Nat.reduceLeDiff, q1, q2, hlen, hcv, bin_and, bin_xor, bin_shr33, bin_shr45, nc_h, okPtr_h, cellAt_h, d0, d1, d2, c1]; done))))
    refine W_ret ?_; try (repeat (first | refine thenI ?_ | refine thenE ?_ | refine thenR ?_ | refine inBI ?_ | refine inBR ?_ | refine inBS ?_ | refine inBN (by decide) ?_))
    refine fin1 (.inl rfl) (by (simp (disch := omega) only [go_sem, ↓reduceIte, Nat.reduceEqDiff, Nat.reduceAdd, Nat.reduceLeDiff, q1, q2, hlen, hcv, bin_and, bin_xor, bin_shr33, bin_shr45, nc_h, okPtr_h, cellAt_h, d0, d1, d2]); try rfl) rfl ⟨⟨_, rfl, and255 _⟩, ⟨⟨_, (n : Int), h2, g1, hr1, hne, by omega, by omega, hbig⟩, ha⟩, hl2⟩
/-- A number drawn below n. -/
theorem l1Below_ok (q : Nat) (xs : List Byt) (st : St) (n : Int) (hn0 : 0 < n) (hn1 : n ≤ 256) (hq : Cur st q xs) :
    CallS Try.prog 17 [.pointer (some ⟨q, 0, none⟩), .int .i64 n] st fun r st2 => (∃ x : Int, r = .int .i64 x ∧ 0 ≤ x ∧ x < n) ∧ Drawn q xs st st2 ∧ st2.length = st.length := by
  refine CallS_of_W [] 37 Try.func17 rfl rfl rfl rfl (by simp) ?_
  have c1 : decide (n ≤ 0) = false := by simp; omega
  have c2 : decide (n ≤ 256) = true := by simp; omega
  have hrem : ∀ (t : TypeId) (x y : Operand) (a : Int), binE Try.prog .rem t x y (.int .i64 a) (.int .i64 n) = some (.int .i64 (a.tmod n)) := fun t x y a => bin_rem (by omega)
  repeat (first | (refine W_reg rfl fun G K hG hK => ?_; simp (disch := omega) only [go_sem, ↓reduceIte, Nat.reduceEqDiff, Nat.reduceAdd, Nat.reduceLeDiff, hG, c1, c2]; refine hK _ _ ?_; clear hK K hG G) | (refine W_end rfl fun G K hG hK => ?_; simp (disch := omega) only [go_sem, ↓reduceIte, Nat.reduceEqDiff, Nat.reduceAdd, Nat.reduceLeDiff, hG, c1, c2]; refine hK _ _ ?_; clear hK K hG G; repeat (first | refine thenI ?_ | refine thenE ?_ | refine thenR ?_ | refine inBI ?_ | refine inBR ?_ | refine inBS ?_ | refine inBN (by decide) ?_)) | refine W_seqS ?_ | refine W_seqC ?_ | refine W_seqB ?_ | refine W_block ?_ | (refine W_skip ?_; repeat (first | refine thenI ?_ | refine thenE ?_ | refine thenR ?_ | refine inBI ?_ | refine inBR ?_ | refine inBS ?_ | refine inBN (by decide) ?_)) | (refine W_condT ?hc ?_; (case hc => (simp (disch := omega) only [go_sem, ↓reduceIte, Nat.reduceEqDiff, Nat.reduceAdd, Nat.reduceLeDiff, c1, c2]; done))) | (refine W_condF ?hc ?_; (case hc => (simp (disch := omega) only [go_sem, ↓reduceIte, Nat.reduceEqDiff, Nat.reduceAdd, Nat.reduceLeDiff, c1, c2]; done))))
  (repeat (first | refine W_seqS ?_ | refine W_seqC ?_ | refine W_seqB ?_ | refine W_block ?_)); refine W_reg rfl fun G K hG hK => ?_; simp (disch := omega) only [go_sem, ↓reduceIte, Nat.reduceEqDiff, Nat.reduceAdd, Nat.reduceLeDiff, hG]
  refine w_call (l1Byte_ok q xs st hq) (by simp (disch := omega) only [go_sem, ↓reduceIte, Nat.reduceEqDiff]) ?hl ?_
  case hl => first | rfl | (simp only [go_sem, List.all_cons, List.all_nil, Bool.not_false, Bool.and_self]; done)
  rintro r_ sa ⟨⟨x, rfl, hx0, hx1⟩, hd, hl⟩; refine ⟨fun e => (by cases e), ?_⟩
  simp (disch := omega) only [go_sem, ↓reduceIte, Nat.reduceEqDiff, Nat.reduceAdd, Nat.reduceLeDiff, hG, hrem]; refine hK _ _ ?_; clear hK K hG G; repeat (first | refine thenI ?_ | refine thenE ?_ | refine thenR ?_ | refine inBI ?_ | refine inBR ?_ | refine inBS ?_ | refine inBN (by decide) ?_)
  repeat (first | (refine W_reg rfl fun G K hG hK => ?_; simp (disch := omega) only [go_sem, ↓reduceIte, Nat.reduceEqDiff, Nat.reduceAdd, Nat.reduceLeDiff, hG]; refine hK _ _ ?_; clear hK K hG G) | (refine W_end rfl fun G K hG hK => ?_; simp (disch := omega) only [go_sem, ↓reduceIte, Nat.reduceEqDiff, Nat.reduceAdd, Nat.reduceLeDiff, hG]; refine hK _ _ ?_; clear hK K hG G; repeat (first | refine thenI ?_ | refine thenE ?_ | refine thenR ?_ | refine inBI ?_ | refine inBR ?_ | refine inBS ?_ | refine inBN (by decide) ?_)) | refine W_seqS ?_ | refine W_seqC ?_ | refine W_seqB ?_ | refine W_block ?_ | (refine W_skip ?_; repeat (first | refine thenI ?_ | refine thenE ?_ | refine thenR ?_ | refine inBI ?_ | refine inBR ?_ | refine inBS ?_ | refine inBN (by decide) ?_)) | (refine W_condT ?hc ?_; (case hc => (simp (disch := omega) only [go_sem, ↓reduceIte, Nat.reduceEqDiff, Nat.reduceAdd, Nat.reduceLeDiff]; done))) | (refine W_condF ?hc ?_; (case hc => (simp (disch := omega) only [go_sem, ↓reduceIte, Nat.reduceEqDiff, Nat.reduceAdd, Nat.reduceLeDiff]; done))))
  refine W_ret ?_; try (repeat (first | refine thenI ?_ | refine thenE ?_ | refine thenR ?_ | refine inBI ?_ | refine inBR ?_ | refine inBS ?_ | refine inBN (by decide) ?_))
  refine fin1 (.inl rfl) (by (simp (disch := omega) only [go_sem, ↓reduceIte, Nat.reduceEqDiff, Nat.reduceAdd, Nat.reduceLeDiff]); try rfl) rfl ⟨⟨_, rfl, Int.tmod_nonneg _ hx0, Int.tmod_lt_of_pos _ hn0⟩, hd, hl⟩

end

section
/- A tree behind a row of one's own. -/
open Go Go.Proofs
set_option linter.unusedVariables false
set_option linter.unusedSimpArgs false
set_option maxRecDepth 100000

/-- Every name is short. -/
inductive LimN (B : Nat) : T → Prop
  | mk (k n : Int) (nm : ByteArray) (args : List T) (h : nm.size ≤ B) (hs : ∀ a ∈ args, LimN B a) : LimN B (.mk k n nm args)
theorem LimN.args {B : Nat} {k n : Int} {nm : ByteArray} {args : List T} (h : LimN B (.mk k n nm args)) : nm.size ≤ B ∧ ∀ a ∈ args, LimN B a := by cases h; exact ⟨by assumption, by assumption⟩


end

section
/- Copies of trees: impl.copyTerm, spec.l3Copy. -/
open Go Go.Proofs
set_option linter.unusedVariables false
set_option linter.unusedSimpArgs false
set_option maxRecDepth 100000


end

end Go.Proofs.Ytldnihpkiacgfaa.AM
/- Kinds: bindings. -/
namespace Go.Proofs.Ytldnihpkiacgfaa.AM
open Go
set_option linter.unusedVariables false
set_option linter.unusedSimpArgs false

/-- A binding. -/
structure Bnd where
  nm : ByteArray
  tm : T
end Go.Proofs.Ytldnihpkiacgfaa.AM


namespace Go.Proofs.Ytldnihpkiacgfaa.AM
open Go
attribute [local go_sem] List.map_cons List.map_nil List.all_cons List.all_nil Bool.and_self Option.map_some List.getElem?_toArray Option.bind_some gye_b gye_t gsk_b gsk_t gb1 gb2 gb3 gb4 bne_self_eq_false beq_self_eq_true w_guard w_nil stepV_some step_some step_some' w_move w_assign w_pick w_binOp w_unOp w_load w_fieldAddr w_indexAddr w_len w_max w_index ev_max max_int ev_index w_box w_alloc w_store w_field w_extract w_nilCheck w_convert w_buildSlice w_build ev_buildL fillL_nil fillL_cons bs0 bs1 ev_conv ev_bin ev_un ev_pick ev_load ev_fieldAddr ev_indexAddr ev_len ev_field ev_extract ev_nilCheck fr_tmp fr_int fr_bool fr_str fr_nil fr_func put_some put_none bin_lss bin_leq bin_gtr bin_geq bin_eql bin_neq bin_add bin_sub bin_mul bin_seql bin_sneq un_not pick_ ext_ loadA_p cellAt_l cellAt_h okPtr_l okPtr_h fadA_p allocA_l storeA_l cells_agg cells_int cells_str cells_sl cells_bool flat_i flat_s flat_b flat_sl flat_nil loc_agg loc_int loc_str loc_sl loc_bool loc_fn loc_ptr okv_agg okv_int okv_str okv_sl okv_bool cellsFrom splice upd_eval argEnv_zero argEnv_succ ne_eq Nat.add_one_ne_zero not_false_eq_true List.not_mem_nil and_self decide_true List.getElem?_cons_zero List.getElem?_cons_succ List.size_toArray List.length_cons List.length_nil List.take_succ_cons List.take_zero List.drop_succ_cons List.drop_zero List.cons_append List.nil_append List.drop_nil Bool.not_true Bool.not_false Bool.false_eq_true Nat.zero_add Nat.add_zero wrap_in List.toList_toArray List.mem_cons or_self or_false false_or
attribute [local go_sem] ag22 ag24 ag25 ag27 ag3 ag31 ag5 ag9 bu27 bu31 bu43 by31 by9 el22 el24 el25 of27_0 of27_1 of31_0 of31_1 of31_2 of43_0 of43_1 of43_2 ro31_1 ro31_7 ro9_0 ro9_1 ro9_2 ro9_3 ro9_4 ro9_5 sz22 sz24 sz25 sz27 sz3 sz31 sz5 sz9 ze27 ze31 ze9
section
/- Rows of bindings: laws.szBind, szBindS, toBind, toBindS, eqBind, eqBindS, markBindS, heldBindS. -/
open Go Go.Proofs
set_option linter.unusedVariables false
set_option linter.unusedSimpArgs false
set_option maxRecDepth 100000
-- AUTO


end

section
/- Bindings are found and applied: impl.bound, impl.FindBind, spec.l7At, spec.FindBind, impl.ApplySubst, spec.ApplySubst. -/
open Go Go.Proofs
set_option linter.unusedVariables false
set_option linter.unusedSimpArgs false
set_option maxRecDepth 100000
-- AUTO

def T.zero' : T := .mk 0 0 ⟨#[]⟩ []
theorem Lim.zero' {B : Nat} : Lim B T.zero' := .mk _ _ _ _ (by simp) (by simp)
/-- The term of the first binding of a name. -/
def findB (nm : ByteArray) : List Bnd → Option T
  | [] => none
  | b :: bs => if (b.nm.toList == nm.toList) = true then some b.tm else findB nm bs
theorem findB_mem {nm : ByteArray} {bs : List Bnd} {t : T} (h : findB nm bs = some t) : ∃ b ∈ bs, b.tm = t := by
  induction bs with
  | nil => cases h
  | cons b bs ih =>
    simp only [findB] at h
    split at h
    · exact ⟨b, by simp, Option.some.inj h⟩
    · obtain ⟨b', h1, h2⟩ := ih h; exact ⟨b', by simp [h1], h2⟩
abbrev findD (nm : ByteArray) (bs : List Bnd) : T := (findB nm bs).getD T.zero'
theorem Lim.findD {B : Nat} {nm : ByteArray} {bs : List Bnd} (h : ∀ b ∈ bs, Lim B b.tm) : Lim B (findD nm bs) := by
  unfold AM.findD
  cases hf : findB nm bs with
  | none => exact .zero'
  | some t => obtain ⟨b, h1, rfl⟩ := findB_mem hf; exact h b h1


end

section
/- Substitutions are applied: impl.ApplySubst, spec.ApplySubst. -/
open Go Go.Proofs
set_option linter.unusedVariables false
set_option linter.unusedSimpArgs false
set_option maxRecDepth 100000
-- AUTO

mutual
def T.sub (bs : List Bnd) : T → T
  | .mk k n nm args => if ((k == 1) && (findB nm bs).isSome) = true then findD nm bs else .mk k n nm (T.subL bs args)
def T.subL (bs : List Bnd) : List T → List T
  | [] => []
  | x :: xs => x.sub bs :: T.subL bs xs
end
theorem T.subL_map (bs : List Bnd) (xs : List T) : T.subL bs xs = xs.map (T.sub bs) := by
  induction xs with
  | nil => rfl
  | cons x xs ih => simp only [T.subL, List.map_cons, ih]
theorem Lim.sub {B : Nat} {bs : List Bnd} (hb : ∀ b ∈ bs, Lim B b.tm) : ∀ t : T, Lim B t → Lim B (t.sub bs) := by
  refine T.ind fun k n nm args ih h => ?_
  by_cases h1 : ((k == 1) && (findB nm bs).isSome) = true
  · simp only [T.sub, h1, if_true]; exact Lim.findD hb
  · simp only [T.sub, if_neg h1, T.subL_map]
    refine .mk _ _ _ _ (by simpa using h.args.1) fun a ha => ?_
    obtain ⟨x, hx, rfl⟩ := List.mem_map.1 ha
    exact ih x hx (h.args.2 x hx)


end

section
/- Substitutions are composed: impl.copyBind, impl.ComposeSubst, spec.ComposeSubst. -/
open Go Go.Proofs
set_option linter.unusedVariables false
set_option linter.unusedSimpArgs false
set_option maxRecDepth 100000
-- AUTO


end

section
/- Terms are compared: impl.EqualTerm, spec.EqualTerm. -/
open Go Go.Proofs
set_option linter.unusedVariables false
set_option linter.unusedSimpArgs false
set_option maxRecDepth 100000
-- AUTO

mutual
def T.eqv : T → T → Bool
  | .mk k n nm xs, .mk k' n' nm' bs => (k == k') && ((n == n') && ((nm.toList == nm'.toList) && T.eqvL xs bs))
def T.eqvL : List T → List T → Bool
  | [], [] => true
  | a :: xs, b :: bs => T.eqv a b && T.eqvL xs bs
  | _, _ => false
end

end

section
/- Terms are matched: impl.match, spec.l8Match. -/
open Go Go.Proofs
set_option linter.unusedVariables false
set_option linter.unusedSimpArgs false
set_option maxRecDepth 100000
-- AUTO


end

end Go.Proofs.Ytldnihpkiacgfaa.AM
/- Sorted lists of names, each once. -/
namespace Go.Proofs.Ytldnihpkiacgfaa.AM
open Go
set_option linter.unusedVariables false
set_option linter.unusedSimpArgs false

end Go.Proofs.Ytldnihpkiacgfaa.AM


namespace Go.Proofs.Ytldnihpkiacgfaa.AM
open Go
attribute [local go_sem] List.map_cons List.map_nil List.all_cons List.all_nil Bool.and_self Option.map_some List.getElem?_toArray Option.bind_some gye_b gye_t gsk_b gsk_t gb1 gb2 gb3 gb4 bne_self_eq_false beq_self_eq_true w_guard w_nil stepV_some step_some step_some' w_move w_assign w_pick w_binOp w_unOp w_load w_fieldAddr w_indexAddr w_len w_max w_index ev_max max_int ev_index w_box w_alloc w_store w_field w_extract w_nilCheck w_convert w_buildSlice w_build ev_buildL fillL_nil fillL_cons bs0 bs1 ev_conv ev_bin ev_un ev_pick ev_load ev_fieldAddr ev_indexAddr ev_len ev_field ev_extract ev_nilCheck fr_tmp fr_int fr_bool fr_str fr_nil fr_func put_some put_none bin_lss bin_leq bin_gtr bin_geq bin_eql bin_neq bin_add bin_sub bin_mul bin_seql bin_sneq un_not pick_ ext_ loadA_p cellAt_l cellAt_h okPtr_l okPtr_h fadA_p allocA_l storeA_l cells_agg cells_int cells_str cells_sl cells_bool flat_i flat_s flat_b flat_sl flat_nil loc_agg loc_int loc_str loc_sl loc_bool loc_fn loc_ptr okv_agg okv_int okv_str okv_sl okv_bool cellsFrom splice upd_eval argEnv_zero argEnv_succ ne_eq Nat.add_one_ne_zero not_false_eq_true List.not_mem_nil and_self decide_true List.getElem?_cons_zero List.getElem?_cons_succ List.size_toArray List.length_cons List.length_nil List.take_succ_cons List.take_zero List.drop_succ_cons List.drop_zero List.cons_append List.nil_append List.drop_nil Bool.not_true Bool.not_false Bool.false_eq_true Nat.zero_add Nat.add_zero wrap_in List.toList_toArray List.mem_cons or_self or_false false_or
attribute [local go_sem] ag22 ag24 ag25 ag27 ag3 ag31 ag5 ag9 bu27 bu31 bu43 by31 by9 el22 el24 el25 of27_0 of27_1 of31_0 of31_1 of31_2 of43_0 of43_1 of43_2 ro31_1 ro31_7 ro9_0 ro9_1 ro9_2 ro9_3 ro9_4 ro9_5 sz22 sz24 sz25 sz27 sz3 sz31 sz5 sz9 ze27 ze31 ze9
section
/- Rows of strings: laws.toStringS, laws.szStringS, laws.eqStringS, laws.markStringS, laws.heldStringS. -/
open Go Go.Proofs
set_option linter.unusedVariables false
set_option linter.unusedSimpArgs false
set_option maxRecDepth 100000
-- AUTO

theorem row_atS {st : St} {xs : List ByteArray} {s : Value} (h : Rw st xs s) {j : Nat} {x : ByteArray} (hx : xs[j]? = some x) {n : Nat} (hn : xs.length = n := by rfl) : ∃ i o c, s = .slice (some ⟨i, o, none⟩) n c ∧ cell st i (o + j * 1) = some (.string x) := by
  subst hn
  obtain ⟨i, o, c, cs, rfl, _, rfl, hc⟩ := row_at h hx
  exact ⟨i, o, c, rfl, hc 0 _ rfl⟩


end

section
/- Names are sorted: spec.SortNames. -/
open Go Go.Proofs
set_option linter.unusedVariables false
set_option linter.unusedSimpArgs false
set_option maxRecDepth 100000
-- AUTO

/-- A string is put behind a row of one's own. -/
theorem OwnS.step {n0 : Nat} {st st2 : St} {xs : List ByteArray} {s : Value} {L : List Nat} {x : ByteArray} (h : Sl st xs s L) (hf : Fresh n0 L) (hn0 : n0 ≤ st.length) (hext : Ext st st2) (hbd : xs.length + 1 ≤ 274877906944) :
    ∃ s' st' L', appendA Try.prog 24 24 s (.slice (some ⟨st2.length, 0, none⟩) 1 1) (st2 ++ [⟨[.string x], 9, 0⟩]) = some (s', st') ∧ Sl st' (xs ++ [x]) s' L' ∧ Fresh n0 L' ∧ Grow st s st' s' :=
  Sl.push (α := ByteArray) Try.underlying24 Try.underlying24 sz9 rfl by9 ze9 rfl h hf hn0 hext ⟨rfl, rfl⟩ (.nil _) (by omega) (by omega)

end

section
/- What a pattern's variables take: spec.l3Vars, spec.VarsOfTerm, spec.RestrictSubst, spec.MatchTerm, IsInstance and IsVariant on both sides. -/
open Go Go.Proofs
set_option linter.unusedVariables false
set_option linter.unusedSimpArgs false
set_option maxRecDepth 100000
-- AUTO

/-- A row stays where another block alone has turned. -/
theorem Sl.away {α : Type} [Kind α] {a b : St} {xs : List α} {s : Value} {L : List Nat} {k : Option Nat} {n m : Nat} (h : Sl a xs s L) (hw : Away k a b) (hL : ∀ i ∈ L, n ≤ i ∧ i < m) (hk : ∀ q, k = some q → q < n ∨ m ≤ q) : Sl b xs s L :=
  h.frame fun i hi => hw.2 i (h.lt i hi) fun e => by
    have h1 := hL i hi
    have h2 := hk i e
    omega

end

end Go.Proofs.Ytldnihpkiacgfaa.AM
/- The whole world as an abstract store: what a law begins with. -/
namespace Go.Proofs.Ytldnihpkiacgfaa.AM
open Go Go.RowKit
set_option linter.unusedVariables false
set_option linter.unusedSimpArgs false

def jv : Value := .pointer (some ⟨0, 0, some 0⟩)
/-- A world's value, if it can be told of. -/
def absV (n : Nat) (v : Value) : Value := match v with
  | .slice (some a) l c => if a.spot = none ∧ a.block < n ∧ l ≤ c then v else if l = 0 ∧ c = 0 then .slice (some ⟨0, 0, some 0⟩) 0 0 else jv
  | v => if flat1 v then v else jv
def absB (W : World) (i : Nat) : Blk := match W.heap[i]? with
  | some (.cells c t _) => ⟨c.toList.map (absV W.heap.size), t, 1⟩
  | _ => ⟨[], 0, 1⟩
def size0 (W : World) (i : Nat) : Nat := match W.heap[i]? with
  | some (.cells c _ _) => c.size
  | _ => 0
def absS (W : World) : St := (List.range W.heap.size).map (absB W)
def absM (W : World) : List ME := (List.range W.heap.size).map fun i => ⟨i, size0 W i, 0, false⟩

theorem absS_get {W : World} {i : Nat} {b : Blk} (h : (absS W)[i]? = some b) : i < W.heap.size ∧ b = absB W i := by
  unfold absS at h
  rw [List.getElem?_map] at h
  by_cases hi : i < W.heap.size
  · rw [List.getElem?_range hi] at h
    exact ⟨hi, (Option.some.inj h).symm⟩
  · rw [List.getElem?_eq_none (by simp; omega)] at h; cases h
theorem absS_of {W : World} {i : Nat} (hi : i < W.heap.size) : (absS W)[i]? = some (absB W i) := by
  unfold absS
  rw [List.getElem?_map, List.getElem?_range hi]; rfl
theorem absM_get {W : World} {i : Nat} {m : ME} (h : (absM W)[i]? = some m) : i < W.heap.size ∧ m = ⟨i, size0 W i, 0, false⟩ := by
  unfold absM at h
  rw [List.getElem?_map] at h
  by_cases hi : i < W.heap.size
  · rw [List.getElem?_range hi] at h
    exact ⟨hi, (Option.some.inj h).symm⟩
  · rw [List.getElem?_eq_none (by simp; omega)] at h; cases h
theorem absM_of {W : World} {i : Nat} (hi : i < W.heap.size) : (absM W)[i]? = some ⟨i, size0 W i, 0, false⟩ := by
  unfold absM
  rw [List.getElem?_map, List.getElem?_range hi]; rfl
theorem absB_stat (W : World) (i : Nat) : (absB W i).stat = 1 := by unfold absB; split <;> rfl

theorem absV_vr {W : World} {v : Value} (h : isJ (absV W.heap.size v) = false) : one (absV W.heap.size v) = true ∧ VR (absM W) (absV W.heap.size v) v := by
  unfold absV at h ⊢
  split
  · rename_i a l c
    split
    · rename_i hc
      obtain ⟨b, o, sp⟩ := a
      obtain ⟨hsp, hb, hl⟩ := hc
      simp only at hsp
      subst hsp
      exact ⟨rfl, .sl _ _ _ _ _ _ _ (absM_of hb) hl (.inl ⟨rfl, fun _ e => by cases e⟩)⟩
    · rename_i hc
      simp only [if_neg hc] at h
      split
      · rename_i h0
        obtain ⟨rfl, rfl⟩ := h0
        exact ⟨rfl, .emp a⟩
      · rename_i h0
        rw [if_neg h0] at h
        cases h
  · rename_i hx
    split
    · rename_i hf
      exact ⟨flat1_one hf, .fl _ hf⟩
    · rename_i hf
      split at h
      · rename_i a l c
        exact absurd rfl (hx a l c)
      · rw [if_neg hf] at h; cases h

theorem Tab.lt {P : Program} {w : World} (h : Tab P w) : ∀ nm ∈ tabNm, ∀ g, P.globalNamed nm = some g → g < w.heap.size := by
  have key : ∀ nm g cs, P.globalNamed nm = some g → w.var? P nm = some cs → g < w.heap.size := fun nm g cs hg hv => by
    unfold World.var? at hv
    simp only [hg, Option.bind_some] at hv
    rcases Nat.lt_or_ge g w.heap.size with h' | h'
    · exact h'
    · rw [Array.getElem?_eq_none h'] at hv; cases hv
  intro nm hn g hg
  simp only [tabNm, List.mem_cons, List.not_mem_nil, or_false] at hn
  have hne : P.globalNamed nm ≠ none := by rw [hg]; simp
  rcases hn with rfl | hn
  · exact key _ g _ hg (h.pow hne)
  · obtain ⟨tp, p, hv⟩ := h.err nm hn hne
    exact key _ g _ hg hv
theorem abs_cov {P : Program} {W : World} (h : Tab P W) : Cov P (absM W) (absS W) := fun nm hn g hg => by
  have hlt := h.lt nm hn g hg
  exact ⟨g, _, _, absM_of hlt, rfl, absS_of hlt, absB_stat W g⟩
theorem abs_hr (P : Program) (W : World) (hT : Tab P W) : HR P ⟨W, absM W, absS W⟩ (absM W) (absS W) W := by
  refine ⟨by simp [absM, absS], fun _ _ h => h, fun i b m hb hm h2 hfar => ?_, fun i j b b' m m' hb hb' _ _ hm hm' e => ?_, fun i m hm => ?_, fun i m hm _ => ⟨i, m, hm, rfl⟩, fun i b m hb _ hm => ⟨hb, rfl⟩, rfl, rfl, rfl, Nat.le_refl _, fun _ _ _ => rfl, hT, abs_cov hT⟩
  · obtain ⟨hi, rfl⟩ := absS_get hb
    obtain ⟨_, rfl⟩ := absM_get hm
    cases hh : W.heap[i]? with
    | none => exact absurd ⟨absB_stat W i, by simp [absB, hh]⟩ hfar
    | some o =>
      cases o with
      | cells c t q =>
        have e1 : absB W i = ⟨c.toList.map (absV W.heap.size), t, 1⟩ := by unfold absB; rw [hh]
        have e2 : size0 W i = c.size := by unfold size0; rw [hh]
        rw [e1, e2]
        refine ⟨c, ⟨q, hh, fun e => by cases e⟩, rfl, by simp, fun j x hx => ?_, fun e => by cases e⟩
        simp only [List.getElem?_map, Option.map_eq_some_iff] at hx
        obtain ⟨y, hy, rfl⟩ := hx
        cases hj : isJ (absV W.heap.size y) with
        | true => exact .inl ⟨rfl, rfl⟩
        | false =>
          obtain ⟨h2, h3⟩ := absV_vr hj
          exact .inr ⟨h2, y, by simpa using hy, h3⟩
      | _ => exact absurd ⟨absB_stat W i, by simp [absB, hh]⟩ hfar
  · obtain ⟨_, rfl⟩ := absM_get hm
    obtain ⟨_, rfl⟩ := absM_get hm'
    exact e
  · obtain ⟨hi, rfl⟩ := absM_get hm
    exact hi

/-- An argument, and what the store says of it. -/
def ArgS (W : World) (x v : Value) : Prop := (isJ (absV W.heap.size v) = false ∧ x = absV W.heap.size v) ∨ ∃ cs : List Value, v = .agg cs.toArray ∧ x = .agg (cs.map (absV W.heap.size)).toArray ∧ ∀ c ∈ cs, isJ (absV W.heap.size c) = false

/-- What holds of a call that begins at the whole world. -/
theorem CallS.enter {P : Program} {f : FuncId} {args : List Value} {vals : Array Value} {W : World} {Q : Value → St → Prop} (hT : Tab P W) (h : CallS P f args (absS W) Q) (hl : args.length = vals.size) (hv : ∀ (i : Nat) x v, args[i]? = some x → vals[i]? = some v → ArgS W x v) :
    Calls P f vals W fun e w' => ∃ r v st' M', e = .returned v ∧ Q r st' ∧ VR M' r v ∧ Below W.heap.size W w' := by
  refine (h.2 (absM W) W vals (abs_hr P W hT) ⟨hl, fun i x y hx hy => ?_⟩).mono fun e w' ⟨r, v, st', M', he, hq, hvr, hr⟩ => ⟨r, v, st', M', he, hq, hvr, hr.os, hr.tape, hr.output, hr.size, fun k hk => ?_⟩
  · rcases hv i x y hx hy with ⟨h1, rfl⟩ | ⟨cs, rfl, rfl, hcs⟩
    · exact (absV_vr h1).2
    · refine .agg _ _ (by simp) (fun i c hc => ?_) fun i c d hc hd => ?_
      · simp only [List.getElem?_toArray, List.getElem?_map, Option.map_eq_some_iff] at hc
        obtain ⟨d, hd, rfl⟩ := hc
        exact (absV_vr (hcs d (List.mem_of_getElem? hd))).1
      · simp only [List.getElem?_toArray, List.getElem?_map] at hc hd
        rw [hd] at hc
        obtain rfl := Option.some.inj hc
        exact (absV_vr (hcs d (List.mem_of_getElem? hd))).2
  · exact (hr.ro k _ _ (absS_of hk) (absB_stat W k) (absM_of hk)).2

inductive ArgsS (W : World) : List Value → List Value → Prop
  | nil : ArgsS W [] []
  | cons (x v : Value) (xs vs : List Value) (h : ArgS W x v) (hs : ArgsS W xs vs) : ArgsS W (x :: xs) (v :: vs)
theorem ArgsS.get {W : World} {xs vs : List Value} (h : ArgsS W xs vs) : xs.length = vs.length ∧ ∀ (i : Nat) x v, xs[i]? = some x → vs[i]? = some v → ArgS W x v := by
  induction h with
  | nil => exact ⟨rfl, fun i x v hx => by simp at hx⟩
  | cons x v xs vs h hs ih =>
    refine ⟨by simp [ih.1], fun i y u hy hu => ?_⟩
    cases i with
    | zero =>
      simp only [List.getElem?_cons_zero, Option.some.injEq] at hy hu
      subst hy; subst hu; exact h
    | succ i => exact ih.2 i y u (by simpa using hy) (by simpa using hu)
/-- A program that has none of these variables. -/
theorem noTab {P : Program} {W : World} (h1 : P.globalNamed "internal/strconv.uint64pow10" = none) (h2 : P.globalNamed "strconv.ErrSyntax" = none) (h3 : P.globalNamed "strconv.ErrRange" = none) : Tab P W :=
  ⟨fun h => absurd h1 h, fun nm hn h => by
    rcases hn with rfl | rfl
    · exact absurd h2 h
    · exact absurd h3 h⟩
theorem CallS.enters {P : Program} {f : FuncId} {args : List Value} {vals : List Value} {W : World} {b : Bool} (hT : Tab P W) (h : CallS P f args (absS W) fun r _ => r = .bool b) (hv : ArgsS W args vals) :
    Calls P f vals.toArray W fun e w' => e = .returned (.bool b) ∧ Below W.heap.size W w' :=
  (h.enter hT (by simpa using hv.get.1) fun i x v hx hv' => hv.get.2 i x v hx (by simpa using hv')).mono fun e w' ⟨r, v, st', M', he, hq, hvr, bel⟩ => by
    subst he; subst hq
    obtain rfl := hvr.flat_eq rfl
    exact ⟨rfl, bel⟩
theorem ArgS.int (W : World) (k : IntKind) (i : Int) : ArgS W (.int k i) (.int k i) := .inl ⟨rfl, rfl⟩
theorem ArgS.agg {W : World} {cs : Array Value} (h : ∀ c ∈ (Value.agg cs).cells.toList, isJ (absV W.heap.size c) = false) : ArgS W (.agg ((Value.agg cs).cells.toList.map (absV W.heap.size)).toArray) (.agg cs) := .inr ⟨cs.toList, rfl, rfl, h⟩

/-- A world's cell, read in the store. -/
theorem abs_cell {W : World} {b o : Nat} {v : Value} (h : W.cell? ⟨b, o, none⟩ = some v) (hj : isJ (absV W.heap.size v) = false) : cell (absS W) b o = some (absV W.heap.size v) := by
  unfold World.cell? at h
  simp only at h
  split at h
  · rename_i c t q hb
    have hi : b < W.heap.size := (Array.getElem?_eq_some_iff.1 hb).1
    simp only [Option.isSome_none, Bool.false_eq_true, if_false] at h
    have e1 : absB W b = ⟨c.toList.map (absV W.heap.size), t, 1⟩ := by unfold absB; rw [hb]
    unfold cell
    rw [absS_of hi, e1]
    have e3 : (c.toList.map (absV W.heap.size))[o]? = some (absV W.heap.size v) := by
      rw [List.getElem?_map, Array.getElem?_toList, h]; rfl
    simp only [e3]
    simp [hj]
  · cases h

/-- What a cell that was read holds can be told of. -/
def Told (W : World) (v : Value) : Prop := isJ (absV W.heap.size v) = false

theorem spot_of {w : World} {a : Addr} {n b : Nat} {cs : List Value} (h : w.cells? b a n = some cs) (hn : 0 < n) : a.spot = none := by
  obtain ⟨_, hl, hc⟩ := World.cells?_some h
  have h1 := hc 0 hn
  rw [List.getElem?_eq_getElem (by omega)] at h1
  obtain ⟨b, o, sp⟩ := a
  cases sp with
  | none => rfl
  | some s =>
    unfold World.cell? Addr.add at h1
    simp only at h1
    split at h1
    · split at h1 <;> simp_all
    · cases h1
theorem spot_add {a : Addr} {k : Nat} (hk : k = 0) (h : (a.add k).spot = none) : a.spot = none := by
  subst hk
  exact h

/-- A slice that was read: its elements, one by one. -/
theorem open_rowA {H : Type} {enc : TypeId × Value → H} {P : Program} {w : World} {α : Type} {E : α → List Value → Prop} {G : α → Prop} {t e : TypeId} {sz : Nat} (ht : P.underlying t = some (.slice e)) (hc : P.cellsOf e = sz) (hsz : 0 < sz) {fuel : Nat} {cs : List Value} {x : DataW H × List MemPlace}
    (h : DataW.trod enc P w 0 (fun _ => true) true fuel t cs = some x) (hel : ∀ n cs y, n < fuel → DataW.trod enc P w 0 (fun _ => true) true n e cs = some y → ∃ z, E z (cs.map (absV w.heap.size)) ∧ G z ∧ ∀ c ∈ cs, Told w c) :
    ∃ s, ∃ xs : List α, cs = [s] ∧ Told w s ∧ Row E sz (absS w) xs (absV w.heap.size s) ∧ xs.length ≤ maxLen ∧ ∀ z ∈ xs, G z := by
  have hlt := DataW.trod_lt _ _ _ _ h
  rcases DataW.trod_slice ht h with ⟨rfl, _⟩ | ⟨a, len, cap, elems, rest, n, rfl, rfl, rfl, _, hl, hm, hlen, hel2, hrest, _⟩
  · exact ⟨_, [], rfl, rfl, .inl ⟨.inl rfl, rfl⟩, Nat.zero_le _, by simp⟩
  · simp only [hc] at hel2 hlt hrest
    by_cases h0 : cap = 0
    · subst h0
      obtain rfl : len = 0 := by omega
      by_cases hq : a.spot = none ∧ a.block < w.heap.size ∧ 0 ≤ 0
      · obtain ⟨b, o, sp⟩ := a
        obtain ⟨hsp, hb, _⟩ := hq
        simp only at hsp hb
        subst hsp
        have e1 : absV w.heap.size (.slice (some ⟨b, o, none⟩) 0 0) = .slice (some ⟨b, o, none⟩) 0 0 := by unfold absV; simp only; rw [if_pos (by exact ⟨trivial, hb, Nat.le_refl _⟩)]
        refine ⟨_, [], rfl, by unfold Told; rw [e1]; rfl, ?_, Nat.zero_le _, by simp⟩
        rw [e1]
        exact .inr ⟨b, o, 0, rfl, by simp⟩
      · have e1 : absV w.heap.size (.slice (some a) 0 0) = .slice (some ⟨0, 0, some 0⟩) 0 0 := by unfold absV; simp only; rw [if_neg hq]; simp
        refine ⟨_, [], rfl, by unfold Told; rw [e1]; rfl, ?_, Nat.zero_le _, by simp⟩
        rw [e1]
        exact .inl ⟨.inr rfl, rfl⟩
    · have hrl := (hrest trivial).1
      have hb : a.block < w.heap.size := hlt (.cell a.block (a.off + 0)) (by
        refine List.mem_append_left _ ?_
        unfold MemPlace.row
        refine List.mem_map.2 ⟨0, List.mem_range.2 (Nat.mul_pos (by omega) hsz), rfl⟩)
      have hsp : a.spot = none := by
        by_cases hl0 : 0 < len
        · have h1 := hel2 0 hl0
          rw [List.getElem?_eq_getElem (by omega), Option.bind_eq_some_iff] at h1
          obtain ⟨c, hcs, _⟩ := h1
          exact spot_add (by first | (simp; done) | (rw [show len = 0 by omega]; simp)) (spot_of hcs hsz)
        · have h1 := (hrest trivial).2 0 (by omega)
          rw [List.getElem?_eq_getElem (by omega), Option.bind_eq_some_iff] at h1
          obtain ⟨c, hcs, _⟩ := h1
          exact spot_add (by first | (simp; done) | (rw [show len = 0 by omega]; simp)) (spot_of hcs hsz)
      obtain ⟨b, o, sp⟩ := a
      simp only at hsp hb
      subst hsp
      have e1 : absV w.heap.size (.slice (some ⟨b, o, none⟩) len cap) = .slice (some ⟨b, o, none⟩) len cap := by unfold absV; simp only; rw [if_pos (by exact ⟨trivial, hb, hl⟩)]
      have each : ∀ i : _root_.Fin len, ∃ z, G z ∧ ∃ c : List Value, c.length = sz ∧ E z c ∧ CellsAt (absS w) b (o + i.1 * sz) c := by
        intro i
        have hi := hel2 i.1 i.2
        rw [List.getElem?_eq_getElem (by rw [hlen]; exact i.2), Option.bind_eq_some_iff] at hi
        obtain ⟨c, hcs, hy⟩ := hi
        obtain ⟨z, hz, hG, htold⟩ := hel n c _ (Nat.lt_succ_self n) hy
        obtain ⟨_, hcl, hcc⟩ := World.cells?_some hcs
        refine ⟨z, hG, _, by simpa using hcl, hz, fun q v hv => ?_⟩
        simp only [List.getElem?_map, Option.map_eq_some_iff] at hv
        obtain ⟨u, hu, rfl⟩ := hv
        have hq : q < sz := by have := (List.getElem?_eq_some_iff.1 hu).1; omega
        have h2 := hcc q hq
        rw [addr_add, addr_add, hu] at h2
        exact abs_cell h2 (htold u (List.mem_of_getElem? hu))
      have hlen3 : (List.ofFn fun i : _root_.Fin len => Classical.choose (each i)).length = len := List.length_ofFn
      refine ⟨_, List.ofFn fun i : _root_.Fin len => Classical.choose (each i), rfl, by unfold Told; rw [e1]; rfl, ?_, by rw [hlen3]; omega, ?_⟩
      · rw [e1]
        refine .inr ⟨b, o, cap, by rw [hlen3], fun j x hj => ?_⟩
        have hjl : j < len := by have := (List.getElem?_eq_some_iff.1 hj).1; rwa [hlen3] at this
        obtain ⟨_, c, h1, h2, h3⟩ := Classical.choose_spec (each ⟨j, hjl⟩)
        have hp : Classical.choose (each ⟨j, hjl⟩) = x := by
          have := (List.getElem?_eq_some_iff.1 hj).2
          rw [List.getElem_ofFn] at this
          exact this
        rw [hp] at h2
        exact ⟨c, h1, h2, h3⟩
      · intro z hz
        rw [List.mem_ofFn] at hz
        obtain ⟨i, rfl⟩ := hz
        exact (Classical.choose_spec (each i)).1
end Go.Proofs.Ytldnihpkiacgfaa.AM


/- What a law's arguments read as. -/
namespace Go.Proofs.Ytldnihpkiacgfaa.AM
open Go Go.Proofs
set_option linter.unusedVariables false
set_option linter.unusedSimpArgs false

theorem toldA_int {H : Type} {enc : TypeId × Value → H} {P : Program} {w : World} {t : TypeId} {k : IntKind} (ht : P.underlying t = some (.int k)) {fuel : Nat} {cs : List Value} {x : DataW H × List MemPlace} (h : DataW.trod enc P w 0 (fun _ => true) true fuel t cs = some x) :
    ∃ z, cs = [.int k z] ∧ (Lit.int k z).wf = true := by
  obtain ⟨n, rfl, _, hw⟩ := DataW.trod_int ht h
  exact ⟨n, rfl, hw⟩
end Go.Proofs.Ytldnihpkiacgfaa.AM


namespace Go.Proofs.Ytldnihpkiacgfaa.AM
open Go
attribute [local go_sem] List.map_cons List.map_nil List.all_cons List.all_nil Bool.and_self Option.map_some List.getElem?_toArray Option.bind_some gye_b gye_t gsk_b gsk_t gb1 gb2 gb3 gb4 bne_self_eq_false beq_self_eq_true w_guard w_nil stepV_some step_some step_some' w_move w_assign w_pick w_binOp w_unOp w_load w_fieldAddr w_indexAddr w_len w_max w_index ev_max max_int ev_index w_box w_alloc w_store w_field w_extract w_nilCheck w_convert w_buildSlice w_build ev_buildL fillL_nil fillL_cons bs0 bs1 ev_conv ev_bin ev_un ev_pick ev_load ev_fieldAddr ev_indexAddr ev_len ev_field ev_extract ev_nilCheck fr_tmp fr_int fr_bool fr_str fr_nil fr_func put_some put_none bin_lss bin_leq bin_gtr bin_geq bin_eql bin_neq bin_add bin_sub bin_mul bin_seql bin_sneq un_not pick_ ext_ loadA_p cellAt_l cellAt_h okPtr_l okPtr_h fadA_p allocA_l storeA_l cells_agg cells_int cells_str cells_sl cells_bool flat_i flat_s flat_b flat_sl flat_nil loc_agg loc_int loc_str loc_sl loc_bool loc_fn loc_ptr okv_agg okv_int okv_str okv_sl okv_bool cellsFrom splice upd_eval argEnv_zero argEnv_succ ne_eq Nat.add_one_ne_zero not_false_eq_true List.not_mem_nil and_self decide_true List.getElem?_cons_zero List.getElem?_cons_succ List.size_toArray List.length_cons List.length_nil List.take_succ_cons List.take_zero List.drop_succ_cons List.drop_zero List.cons_append List.nil_append List.drop_nil Bool.not_true Bool.not_false Bool.false_eq_true Nat.zero_add Nat.add_zero wrap_in List.toList_toArray List.mem_cons or_self or_false false_or
attribute [local go_sem] ag22 ag24 ag25 ag27 ag3 ag31 ag5 ag9 bu27 bu31 bu43 by31 by9 el22 el24 el25 of27_0 of27_1 of31_0 of31_1 of31_2 of43_0 of43_1 of43_2 ro31_1 ro31_7 ro9_0 ro9_1 ro9_2 ro9_3 ro9_4 ro9_5 sz22 sz24 sz25 sz27 sz3 sz31 sz5 sz9 ze27 ze31 ze9
section
/- What the laws of terms share. -/
open Go Go.Proofs
set_option linter.unusedVariables false
set_option linter.unusedSimpArgs false
set_option maxRecDepth 100000

theorem Own.ext {e : TypeId} {st st' : St} {t : T} {cs : List Value} {L : List Nat} (h : Own e st t cs L) (hx : Ext st st') : Own e st' t cs L := Own.frame _ _ _ (fun i hi => hx.get (Own.lt _ _ _ h i hi)) h
theorem Own.apart {e : TypeId} {st : St} {t : T} {cs : List Value} {L K : List Nat} (h : Own e st t cs L) (hf : Fresh st.length K) : ∀ i ∈ L, i ∉ K := fun i hi hk => by
  have h1 := Own.lt _ _ _ h i hi
  have h2 := hf.2 i hk
  omega

end

section
/- Two substitutions do the same: SameSubst on both sides. -/
open Go Go.Proofs
set_option linter.unusedVariables false
set_option linter.unusedSimpArgs false
set_option maxRecDepth 100000
-- AUTO

def T.var (nm : ByteArray) : T := .mk 1 0 nm []
def sameAt (xs ys : List Bnd) (b : Bnd) : Bool := T.eqv (T.sub xs (T.var b.nm)) (T.sub ys (T.var b.nm))
def same (xs ys : List Bnd) : Bool := (xs ++ ys).all (sameAt xs ys)

end

section
/- List literals; l1Pick, l1PickInt, l3App. -/
open Go Go.Proofs
set_option linter.unusedVariables false
set_option linter.unusedSimpArgs false
set_option maxRecDepth 100000
-- AUTO

/-- The parts of a list literal are laid in. -/
def fillK (sz : Nat) : List Value → List (Nat × Value) → Option (List Value)
  | z, [] => some z
  | z, (i, v) :: rest => if (vc v).size = sz ∧ i * sz + sz ≤ z.length then fillK sz (splice z (i * sz) (vc v).toList) rest else none
theorem fillK_nil {sz : Nat} {z : List Value} : fillK sz z [] = some z := rfl
theorem fillK_cons {sz i : Nat} {z : List Value} {v : Value} {rest : List (Nat × Value)} : fillK sz z ((i, v) :: rest) = if (vc v).size = sz ∧ i * sz + sz ≤ z.length then fillK sz (splice z (i * sz) (vc v).toList) rest else none := rfl
theorem fill_K (sz : Nat) : ∀ (ps : List (Nat × Value)) (z : List Value), Instr.fill (fun i => some (i * sz, sz)) z.toArray ps = (fillK sz z ps).map List.toArray := by
  intro ps
  induction ps with
  | nil => intro z; rfl
  | cons p ps ih =>
    intro z
    obtain ⟨i, v⟩ := p
    unfold Instr.fill fillK
    simp only
    unfold vc
    by_cases h : v.cells.size = sz ∧ i * sz + sz ≤ z.length
    · rw [if_pos h, if_neg (by simp; omega)]
      rw [← ih]
      congr 1
      have := fold_splice v.cells.toList z.toArray (i * sz) 0 (by simp; omega)
      rw [← Array.foldl_toList]
      simpa [Array.toList_zipIdx] using this
    · rw [if_neg h, if_pos (by simp; omega)]
      rfl
theorem bsL {P : Program} {H : List Tmp} {ρ : Operand → Value} {loc : Nat → Nat × List Value} {st : St} {t : TypeId} {n : Nat} {ps : Array (Nat × Operand)} {d : Option Tmp} {ty : TypeId} {p : String} {af : Array Edge} {g : Option (Nat × Bool)} : evalEff P H ⟨d, .buildSlice t n ps, ty, p, af, g⟩ ρ loc st = (match elemA P t with
    | some e => (match rowA P e n, szA P e with
      | some row, some sz => if ps.toList.all (fun p => okv (ρ p.2)) then (fillK sz row (ps.toList.map fun p => (p.1, ρ p.2))).map (fun l => (Value.slice (some ⟨st.length, 0, none⟩) n n, loc, st ++ [⟨l, e, 0⟩])) else none
      | _, _ => none)
    | none => none) := by
  simp only [evalEff]
  cases elemA P t with
  | none => rfl
  | some e =>
    simp only
    cases rowA P e n with
    | none => rfl
    | some row =>
      cases szA P e with
      | none => rfl
      | some sz =>
        simp only
        have h1 : (ps.all fun p => okv (ρ p.2)) = ps.toList.all (fun p => okv (ρ p.2)) := by rw [Array.all_toList]
        have h2 : (ps.map fun (i, x) => (i, ρ x)).toList = ps.toList.map fun p => (p.1, ρ p.2) := by simp
        rw [h1, h2, fill_K, Option.map_map]
        split
        · cases fillK sz row (ps.toList.map fun p => (p.1, ρ p.2)) <;> rfl
        · rfl
/-- A row stays where another block alone has turned. -/
theorem rw_away {st st' : St} {xs : List ByteArray} {s : Value} {q : Nat} (h : Rw st xs s) (ha : Away (some q) st st') (hn : topId s ≠ some q) : Rw st' xs s := by
  rcases h with h | ⟨i, o, c, rfl, h⟩
  · exact .inl h
  · refine .inr ⟨i, o, c, rfl, fun j x hx => ?_⟩
    obtain ⟨cs, h1, h2, h3⟩ := h j x hx
    refine ⟨cs, h1, h2, fun k v hv => ?_⟩
    have h4 := h3 k v hv
    have hi : i < st.length := by
      unfold cell at h4
      rcases Nat.lt_or_ge i st.length with h5 | h5
      · exact h5
      · rw [List.getElem?_eq_none h5] at h4; cases h4
    have h5 := ha.2 i hi (fun e => hn e.symm)
    unfold cell at h4 ⊢
    rw [h5]; exact h4
theorem l1Pick_ok (q : Nat) (xs : List Byt) (st : St) (ns : List ByteArray) (s : Value) (hn0 : 0 < ns.length) (hn1 : ns.length ≤ 256) (hq : Cur st q xs) (hr : Rw st ns s) (hne : topId s ≠ some q) :
    CallS Try.prog 14 [.pointer (some ⟨q, 0, none⟩), s] st fun r st2 => (∃ w, r = .string w ∧ w ∈ ns) ∧ Drawn q xs st st2 ∧ st2.length = st.length := by
  refine CallS_of_W [] 12 Try.func14 rfl rfl rfl rfl (by simp) ?_
  have q1 := hr.notLoc.1
  have hlen : lenE Try.prog 24 s = some (.int .i64 ns.length) := row_len hr Try.underlying24
  repeat (first | (refine W_reg rfl fun G K hG hK => ?_; simp (disch := omega) only [go_sem, ↓reduceIte, Nat.reduceEqDiff, Nat.reduceAdd, Nat.reduceLeDiff, hG, q1, hlen]; refine hK _ _ ?_; clear hK K hG G) | (refine W_end rfl fun G K hG hK => ?_; simp (disch := omega) only [go_sem, ↓reduceIte, Nat.reduceEqDiff, Nat.reduceAdd, Nat.reduceLeDiff, hG, q1, hlen]; refine hK _ _ ?_; clear hK K hG G; repeat (first | refine thenI ?_ | refine thenE ?_ | refine thenR ?_ | refine inBI ?_ | refine inBR ?_ | refine inBS ?_ | refine inBN (by decide) ?_)) | refine W_seqS ?_ | refine W_seqC ?_ | refine W_seqB ?_ | refine W_block ?_ | (refine W_skip ?_; repeat (first | refine thenI ?_ | refine thenE ?_ | refine thenR ?_ | refine inBI ?_ | refine inBR ?_ | refine inBS ?_ | refine inBN (by decide) ?_)) | (refine W_condT ?hc ?_; (case hc => (simp (disch := omega) only [go_sem, ↓reduceIte, Nat.reduceEqDiff, Nat.reduceAdd, Nat.reduceLeDiff, q1, hlen]; done))) | (refine W_condF ?hc ?_; (case hc => (simp (disch := omega) only [go_sem, ↓reduceIte, Nat.reduceEqDiff, Nat.reduceAdd, Nat.reduceLeDiff, q1, hlen]; done))))
  (repeat (first | refine W_seqS ?_ | refine W_seqC ?_ | refine W_seqB ?_ | refine W_block ?_)); refine W_reg rfl fun G K hG hK => ?_; simp (disch := omega) only [go_sem, ↓reduceIte, Nat.reduceEqDiff, Nat.reduceAdd, Nat.reduceLeDiff, hG, q1, hlen]
  refine w_call (l1Below_ok q xs st (ns.length : Int) (by omega) (by omega) hq) (by simp (disch := omega) only [go_sem, ↓reduceIte, Nat.reduceEqDiff, q1, hlen]) ?hl ?_
  case hl => first | rfl | (simp only [go_sem, List.all_cons, List.all_nil, Bool.not_false, Bool.and_self, q1, hlen]; done)
  rintro r_ sa ⟨⟨x, rfl, hx0, hx1⟩, hd, hl⟩; refine ⟨fun e => (by cases e), ?_⟩
  obtain ⟨n, rfl⟩ : ∃ n : Nat, x = n := ⟨x.toNat, by omega⟩
  have hlt : n < ns.length := by omega
  obtain ⟨i, o, c, rfl, hce⟩ := row_atS (rw_away hr hd.away hne) (List.getElem?_eq_getElem hlt)
  have hi := idxOk hlt
  simp (disch := omega) only [go_sem, ↓reduceIte, Nat.reduceEqDiff, Nat.reduceAdd, Nat.reduceLeDiff, hG, q1, hlen, hi, idxA, Int.toNat_natCast, hce]; refine hK _ _ ?_; clear hK K hG G; repeat (first | refine thenI ?_ | refine thenE ?_ | refine thenR ?_ | refine inBI ?_ | refine inBR ?_ | refine inBS ?_ | refine inBN (by decide) ?_)
  refine W_ret ?_; try (repeat (first | refine thenI ?_ | refine thenE ?_ | refine thenR ?_ | refine inBI ?_ | refine inBR ?_ | refine inBS ?_ | refine inBN (by decide) ?_))
  refine fin1 (.inl rfl) (by (simp (disch := omega) only [go_sem, ↓reduceIte, Nat.reduceEqDiff, Nat.reduceAdd, Nat.reduceLeDiff, q1, hlen]); try rfl) rfl ⟨⟨_, rfl, List.getElem_mem hlt⟩, hd, hl⟩

end

section
/- Names drawn: l1Pick out of a list literal, l2Any, l2List, DrawSortNames. -/
open Go Go.Proofs
set_option linter.unusedVariables false
set_option linter.unusedSimpArgs false
set_option maxRecDepth 100000
-- AUTO

def isStrB : Value → Bool
  | .string _ => true
  | _ => false
def strB : Value → ByteArray
  | .string s => s
  | _ => ⟨#[]⟩
theorem strs_map {cs : List Value} (h : cs.all isStrB = true) : cs = (cs.map strB).map Value.string := by
  rw [List.map_map]
  refine ((List.map_congr_left fun v hv => ?_).trans (List.map_id cs)).symm
  have := List.all_eq_true.1 h v hv
  cases v <;> first | rfl | cases this
theorem row_last (st : St) (ns : List ByteArray) (t : TypeId) (n : Nat) : Rw (st ++ [⟨ns.map Value.string, t, 0⟩]) ns (.slice (some ⟨st.length, 0, none⟩) ns.length n) := .inr ⟨st.length, 0, n, rfl, fun j x hx => ⟨[.string x], rfl, rfl, fun k v hv => by
  have hk : k = 0 := by have := (List.getElem?_eq_some_iff.1 hv).1; simp at this; omega
  subst hk
  have hj := List.getElem?_eq_some_iff.1 hx
  obtain ⟨hj1, hj2⟩ := hj
  have : v = .string x := by simpa using hv.symm
  subst this
  simp [cell, hx, show Kind.sz ByteArray = 1 from rfl]⟩⟩
theorem l1Pick_lit (q : Nat) (xs : List Byt) (sa : St) (cs : List Value) (t : TypeId) (n : Nat) (hq : Cur sa q xs) (hs : cs.all isStrB = true) (h0 : 0 < cs.length) (h1 : cs.length ≤ 256) :
    CallS Try.prog 14 [.pointer (some ⟨q, 0, none⟩), .slice (some ⟨sa.length, 0, none⟩) cs.length n] (sa ++ [⟨cs, t, 0⟩]) fun r st2 => (∃ w, r = .string w ∧ .string w ∈ cs) ∧ Drawn q xs (sa ++ [⟨cs, t, 0⟩]) st2 ∧ st2.length = sa.length + 1 := by
  have hcs := strs_map hs
  have hlq : q < sa.length := by obtain ⟨_, _, _, h, _⟩ := hq; exact (List.getElem?_eq_some_iff.1 h).1
  have hr := row_last sa (cs.map strB) t n
  rw [← hcs, List.length_map] at hr
  refine (l1Pick_ok q xs _ (cs.map strB) _ (by simpa using h0) (by simpa using h1) (hq.ext (Ext.app _ _)) hr (fun e => by simp only [topId, Option.some.injEq] at e; omega)).mono fun r st2 ⟨⟨w, hw, hm⟩, hd, hl⟩ => ⟨⟨w, hw, ?_⟩, hd, by simpa using hl⟩
  rw [hcs]
  exact List.mem_map.2 ⟨w, hm, rfl⟩
/-- What new data a draw adds: the cursor's turn, and new blocks. -/
theorem Drawn.pre {q : Nat} {xs : List Byt} {a b c : St} (hx : Ext a b) (h : Drawn q xs b c) : Drawn q xs a c := ⟨h.cur, (Away.of_ext hx).trans h.away (by first | exact .inl rfl)⟩
/-- Own data stay over a draw. -/
theorem Drawn.sl {α : Type} [Kind α] {q : Nat} {bs : List Byt} {n0 : Nat} {a b : St} {xs : List α} {s : Value} {L : List Nat} (h : Drawn q bs a b) (ho : Sl a xs s L) (hf : Fresh n0 L) (hq : q < n0) : Sl b xs s L :=
  ho.frame fun i hi => h.away.2 i (ho.lt i hi) fun e => by
    have := hf.2 i hi
    cases e; omega
theorem Drawn.grow {q : Nat} {bs : List Byt} {n0 : Nat} {a b c : St} {s s' : Value} (h : Drawn q bs a b) (hg : Grow b s c s') (hs : topId s = none ∨ ∃ m, n0 ≤ m ∧ topId s = some m) (hq : q < n0) (ha : n0 = a.length) : Drawn q bs a c := by
  subst ha
  have hl := h.away.1
  rcases hs with hs | ⟨m, hm, hs⟩
  · have hx := hg.away
    rw [hs] at hx
    exact ⟨h.cur.ext hx.ext, ⟨Nat.le_trans hl hx.1, fun i hi hne => by rw [hx.2 i (by omega) (by simp), h.away.2 i hi hne]⟩⟩
  · have hx := hg.away
    rw [hs] at hx
    exact ⟨h.cur.far hx (by omega), ⟨Nat.le_trans hl hx.1, fun i hi hne => by rw [hx.2 i (by omega) (fun e => by cases e; omega), h.away.2 i hi hne]⟩⟩
theorem big_ok (bs : List Byt) (st : St) (s : Value) (hr : RowY st bs s) : CallS Try.prog 4 [s] st fun r st2 => r = .bool (decide ((bs.length : Int) > 1048576)) ∧ st2 = st := by
  refine CallS_of_W [] 6 Try.func4 rfl rfl rfl rfl (by simp) ?_
  have q1 := hr.notLoc.1
  have hlen : lenE Try.prog 22 s = some (.int .i64 bs.length) := row_len hr Try.underlying22
  repeat (first | (refine W_reg rfl fun G K hG hK => ?_; simp (disch := omega) only [go_sem, ↓reduceIte, Nat.reduceEqDiff, Nat.reduceAdd, Nat.reduceLeDiff, hG, q1, hlen]; refine hK _ _ ?_; clear hK K hG G) | (refine W_end rfl fun G K hG hK => ?_; simp (disch := omega) only [go_sem, ↓reduceIte, Nat.reduceEqDiff, Nat.reduceAdd, Nat.reduceLeDiff, hG, q1, hlen]; refine hK _ _ ?_; clear hK K hG G; repeat (first | refine thenI ?_ | refine thenE ?_ | refine thenR ?_ | refine inBI ?_ | refine inBR ?_ | refine inBS ?_ | refine inBN (by decide) ?_)) | refine W_seqS ?_ | refine W_seqC ?_ | refine W_seqB ?_ | refine W_block ?_ | (refine W_skip ?_; repeat (first | refine thenI ?_ | refine thenE ?_ | refine thenR ?_ | refine inBI ?_ | refine inBR ?_ | refine inBS ?_ | refine inBN (by decide) ?_)) | (refine W_condT ?hc ?_; (case hc => (simp (disch := omega) only [go_sem, ↓reduceIte, Nat.reduceEqDiff, Nat.reduceAdd, Nat.reduceLeDiff, q1, hlen]; done))) | (refine W_condF ?hc ?_; (case hc => (simp (disch := omega) only [go_sem, ↓reduceIte, Nat.reduceEqDiff, Nat.reduceAdd, Nat.reduceLeDiff, q1, hlen]; done))))
  refine W_ret ?_; try (repeat (first | refine thenI ?_ | refine thenE ?_ | refine thenR ?_ | refine inBI ?_ | refine inBR ?_ | refine inBS ?_ | refine inBN (by decide) ?_))
  refine fin1 (.inl rfl) (by (simp (disch := omega) only [go_sem, ↓reduceIte, Nat.reduceEqDiff, Nat.reduceAdd, Nat.reduceLeDiff]); try rfl) rfl ⟨rfl, rfl⟩

end

end Go.Proofs.Ytldnihpkiacgfaa.AM
/- Regions that draw their order, walked in several orders; some pairs change places by what is known where they stand. -/
namespace Go.Proofs.Ytldnihpkiacgfaa.AM
open Go
set_option linter.unusedVariables false
set_option linter.unusedSimpArgs false

/-- What is known goes on over an operation. -/
def Keeps (P : Program) (A H : List Tmp) (G : Nat → Option Tmp) (I : Fr → St → Prop) (a : Oper × Bool) : Prop := ∀ (R : List (Oper × Bool)) (K : Fr → St → Prop) (fr : Fr) (st : St), I fr st → WOps P A H G (a :: R) K fr st → WOps P A H G [a] (fun fr st => I fr st ∧ WOps P A H G R K fr st) fr st
/-- Two operations change places, by what is known. -/
def SwI (P : Program) (A H : List Tmp) (G : Nat → Option Tmp) (I : Fr → St → Prop) (a x : Oper × Bool) : Prop := ∀ (R : List (Oper × Bool)) (K : Fr → St → Prop) (fr : Fr) (st : St), I fr st → WOps P A H G (a :: x :: R) K fr st → WOps P A H G (x :: a :: R) K fr st
theorem WOps_unhead {P : Program} {A H : List Tmp} {G : Nat → Option Tmp} {ox : Oper × Bool} {R : List (Oper × Bool)} {K : Fr → St → Prop} {fr : Fr} {st : St} (h : WOps P A H G [ox] (fun fr st => WOps P A H G R K fr st) fr st) : WOps P A H G (ox :: R) K fr st := by
  obtain ⟨o, x⟩ := ox
  unfold WOps at h ⊢
  exact h
theorem hopI {P : Program} {A H : List Tmp} {G : Nat → Option Tmp} {I : Fr → St → Prop} {x : Oper × Bool} {rest : List (Oper × Bool)} {K : Fr → St → Prop} : ∀ (As : List (Oper × Bool)), (∀ a ∈ As, SwI P A H G I a x ∧ Keeps P A H G I a) → ∀ fr st, I fr st → WOps P A H G (As ++ x :: rest) K fr st → WOps P A H G (x :: (As ++ rest)) K fr st := by
  intro As
  induction As with
  | nil => intro _ fr st _ h; exact h
  | cons a As ih =>
    intro hs fr st hI h
    refine (hs a (by simp)).1 _ _ _ _ hI (WOps_unhead ?_)
    exact ((hs a (by simp)).2 _ _ _ _ hI h).mono fun fr st ⟨h1, h2⟩ => ih (fun b hb => hs b (by simp [hb])) fr st h1 h2
def swapOkL (SP : List (Nat × Nat)) (A H : List Tmp) (l : List Oper) (p q : Nat × Bool) : Bool := swapOk A H l p q || SP.contains (p.1, q.1)
/-- Pairs of operations whose order counts. -/
def exmL (SP : List (Nat × Nat)) (A H : List Tmp) (l : List Oper) (T : List (List Nat)) : List (Nat × Bool) → List (Nat × Nat)
  | [] => []
  | p :: rest => ((rest.filter fun q => !((T.getD q.1 []).contains p.1 || swapOkL SP A H l p q)).map fun q => (p.1, q.1)) ++ exmL SP A H l T rest
def keepOL (SP : List (Nat × Nat)) (A H : List Tmp) (l : List Oper) (done : List Nat) (x : Nat) (π : List (Nat × Bool)) : Bool := (exmL SP A H l (ancT l) π).all fun pq => pq.2 != x || done.contains pq.1
/-- Whatever is drawn, one of the orders goes with it. -/
def gameL (SP : List (Nat × Nat)) (A H : List Tmp) (l : List Oper) (E : List Nat) : Nat → List (List (Nat × Bool)) → List Nat → Bool
  | 0, act, done => !act.isEmpty && E.all fun e => done.contains e
  | k + 1, act, done => !act.isEmpty && E.all fun e => done.contains e || !(((ancT l).getD e []).filter E.contains).all (done.contains ·) || gameL SP A H l E k (goOn l e (act.filter (keepOL SP A H l done e))) (e :: done)
def inEL (SP : List (Nat × Nat)) (A H : List Tmp) (l : List Oper) (E : List Nat) (π : List (Nat × Bool)) : Bool := (exmL SP A H l (ancT l) π).all fun pq => E.contains pq.1 && E.contains pq.2
def chkML (SP : List (Nat × Nat)) (A H : List Tmp) (l : List Oper) (E : List Nat) (PS : List (List (Nat × Bool))) : Bool :=
  tabOk l (ancT l) && (List.range l.length).all (fun i => E.contains i || !((l[i]?).bind fun o => callOf o.op).isSome) && PS.all (fun π => chk1 l π && inEL SP A H l E π) && gameL SP A H l E E.length PS []

theorem exm_specL {SP : List (Nat × Nat)} {A H : List Tmp} {l : List Oper} {T : List (List Nat)} : ∀ {π : List (Nat × Bool)} (X : List (Nat × Bool)) (q : Nat × Bool) (Y : List (Nat × Bool)), π = X ++ q :: Y → ∀ p ∈ X, p.1 ∈ T.getD q.1 [] ∨ swapOkL SP A H l p q = true ∨ (p.1, q.1) ∈ exmL SP A H l T π := by
  intro π
  induction π with
  | nil => intro X q Y e; cases X <;> cases e
  | cons r π ih =>
    intro X q Y e p hp
    cases X with
    | nil => cases hp
    | cons r' X =>
      injection e with e1 e2
      subst e1
      cases hp with
      | head =>
        cases hb : ((T.getD q.1 []).contains r.1 || swapOkL SP A H l r q) with
        | true =>
          rcases Bool.or_eq_true_iff.1 hb with h | h
          · exact .inl (by simpa using h)
          · exact .inr (.inl h)
        | false =>
          refine .inr (.inr ?_)
          simp only [exmL]
          refine List.mem_append_left _ (List.mem_map.2 ⟨q, List.mem_filter.2 ⟨by rw [e2]; simp, by rw [hb]; rfl⟩, rfl⟩)
      | tail _ hp =>
        rcases ih X q Y e2 p hp with h | h | h
        · exact .inl h
        · exact .inr (.inl h)
        · exact .inr (.inr (by simp only [exmL]; exact List.mem_append_right _ h))

section
variable {P : Program} {A H : List Tmp} {G : Nat → Option Tmp}
theorem wpAny_soundML {I : Fr → St → Prop} {SP : List (Nat × Nat)} {n : Nat} {B : Base} {l : List Oper} {E : List Nat} (hKeep : ∀ o ∈ l, ∀ x, Keeps P A H G I (o, x)) (hSP : ∀ p q a x, (p, q) ∈ SP → l[p]? = some a → l[q]? = some x → ∀ fp fq, SwI P A H G I (a, fp) (x, fq)) (ctab : tabOk l (ancT l) = true) (ccall : ∀ i o, l[i]? = some o → i ∉ E → callOf o.op = none) (hd : ∀ o ∈ l, ∀ t, o.dst = some t → t < n)
    (hG : ∀ j, G j = (l.toArray[j]?).bind (·.dst)) {K : Fr → St → Prop} {Q : Exit → Act → World → Prop}
    (hQ : ∀ fr' st' M' L' a' w', K fr' st' → Rel P B M' L' n fr' st' a' w' → Q .normal a' w') :
    ∀ (fuel k : Nat) (act : List (List (Nat × Bool))) (done : List Nat) (listed : Array Bool) (fr : Fr) (st : St) (M : List ME) (L : Nat → Nat) (a : Act) (w : World), (∀ π ∈ act, chk1 l π = true ∧ inEL SP A H l E π = true) → gameL SP A H l E k act done = true → (∀ e ∈ E, e ∈ done ↔ listed.getD e false = true) →
      listed.size = l.length → (∀ π ∈ act, (rem π listed).length = fuel) → (∀ i, i < l.length → listed.getD i false = true → ∀ d ∈ deps l i, listed.getD d false = true) →
      Rel P B M L n fr st a w → I fr st → (∀ π ∈ act, WOps P A H G (pickOps l (rem π listed)) K fr st) → wpAny P .any l.toArray Q fuel listed a w := by
  intro fuel
  induction fuel with
  | zero =>
    intro k act done listed fr st M L a w hchk hgame hdone hsz hlen hcl R hI h
    obtain ⟨π, hπ⟩ : ∃ π, π ∈ act := by
      cases act with
      | nil => cases k <;> simp [gameL] at hgame
      | cons π _ => exact ⟨π, by simp⟩
    have hc := (hchk π hπ).1
    unfold chk1 at hc
    simp only [Bool.and_eq_true] at hc
    obtain ⟨⟨⟨c1, c2⟩, c3⟩, c5⟩ := hc
    have cover : ∀ i, i < l.length → ∃ p ∈ π, p.1 = i := by
      intro i hi
      have := List.all_eq_true.1 c2 i (by simpa using hi)
      simpa using this
    have hrem : rem π listed = [] := List.eq_nil_of_length_eq_zero (hlen π hπ)
    refine ⟨?_, ?_⟩
    · apply List.eq_nil_iff_forall_not_mem.2
      intro i hi
      obtain ⟨h1, h2, h3⟩ := mem_ready.1 hi
      obtain ⟨p, hp, rfl⟩ := cover i h1
      have : p ∈ rem π listed := mem_rem.2 ⟨hp, h2⟩
      rw [hrem] at this
      cases this
    · have := h π hπ
      rw [hrem] at this
      exact hQ _ _ _ _ _ _ this R
  | succ fuel ih =>
    intro k act done listed fr st M L a w hchk hgame hdone hsz hlen hcl R hI h
    refine ⟨fun hr => ?_, fun i hi => ?_⟩
    · -- something is ready
      exfalso
      obtain ⟨π, hπ⟩ : ∃ π, π ∈ act := by
        cases act with
        | nil => cases k <;> simp [gameL] at hgame
        | cons π _ => exact ⟨π, by simp⟩
      have hc := (hchk π hπ).1
      unfold chk1 at hc
      simp only [Bool.and_eq_true] at hc
      obtain ⟨⟨⟨c1, c2⟩, c3⟩, c5⟩ := hc
      have inl : ∀ p ∈ π, p.1 < l.length := fun p hp => by have := List.all_eq_true.1 c3 p hp; simpa using this
      have hlen := hlen π hπ
      have hex := rem_split (π := π) (listed := listed) (by intro e; rw [e] at hlen; cases hlen)
      obtain ⟨X, q, Y, e, h1, h2⟩ := hex
      have hq : q.1 < l.length := inl q (by rw [e]; simp)
      have : q.1 ∈ Region.ready .any l.toArray listed := by
        refine mem_ready.2 ⟨hq, h2, fun d hd => ?_⟩
        rcases topoOk_spec c5 X q Y e d hd with hd | ⟨p, hp, rfl⟩
        · cases hd
        · have h3 := h1 p hp
          have hp' : p.1 < listed.size := by rw [hsz]; exact inl p (by rw [e]; simp [hp])
          rw [getD_lt hp' false true]; exact h3
      rw [hr] at this
      cases this
    · obtain ⟨h1, h2, h3⟩ := mem_ready.1 hi
      obtain ⟨o, ho⟩ : ∃ o, l[i]? = some o := ⟨_, List.getElem?_eq_getElem h1⟩
      have hq' : i < listed.size := by rw [hsz]; exact h1
      -- the orders that go on, and the gameL that goes on
      obtain ⟨k', act', done', hact, hgame', hone, hdone', hkeep⟩ : ∃ k' act' done', (∀ π ∈ act', π ∈ act) ∧ gameL SP A H l E k' act' done' = true ∧ (callOf o.op = none ∨ ∃ π, act' = [π]) ∧ (∀ e ∈ E, e ∈ done' ↔ (e = i ∨ listed.getD e false = true)) ∧ ∀ π ∈ act', ∀ p, (p, i) ∈ exmL SP A H l (ancT l) π → listed.getD p false = true := by
        by_cases hE : i ∈ E
        · have hnd : i ∉ done := fun hh => by
            have := (hdone i hE).1 hh
            rw [getD_lt hq' false true] at this
            rw [h2] at this; cases this
          cases k with
          | zero =>
            exfalso
            simp only [gameL, Bool.and_eq_true] at hgame
            have := List.all_eq_true.1 hgame.2 i hE
            exact hnd (by simpa using this)
          | succ k =>
            simp only [gameL, Bool.and_eq_true] at hgame
            have h4 := List.all_eq_true.1 hgame.2 i hE
            simp only [Bool.or_eq_true, Bool.not_eq_true'] at h4
            have h5 : gameL SP A H l E k (goOn l i (act.filter (keepOL SP A H l done i))) (i :: done) = true := by
              rcases h4 with (h4 | h4) | h4
              · exact absurd (by simpa using h4) hnd
              · exfalso
                have h6 : (((ancT l).getD i []).filter E.contains).all (done.contains ·) = true := by
                  refine List.all_eq_true.2 fun d hdm => ?_
                  obtain ⟨hd1, hd2⟩ := List.mem_filter.1 hdm
                  have hl2 := tab_closed ctab (fun j => listed.getD j false = true) hcl i h1 h3 d hd1
                  have := (hdone d (by simpa using hd2)).2 hl2
                  simpa using this
                rw [h6] at h4
                cases h4
              · exact h4
            refine ⟨k, _, _, fun π hπ => (List.mem_filter.1 (goOn_sub π hπ)).1, h5, ?_, fun e he => ?_, fun π hπ p hp => ?_⟩
            · cases hcl2 : callOf o.op with
              | none => exact .inl rfl
              | some c =>
                refine .inr ?_
                have hgo : goOn l i (act.filter (keepOL SP A H l done i)) = (act.filter (keepOL SP A H l done i)).take 1 := by unfold goOn; rw [ho]; simp [hcl2]
                rw [hgo]
                rw [hgo] at h5
                cases hf : act.filter (keepOL SP A H l done i) with
                | nil => rw [hf] at h5; cases k <;> simp [gameL] at h5
                | cons π _ => exact ⟨π, rfl⟩
            · rw [List.mem_cons, hdone e he]
            · have hπ := goOn_sub π hπ
              have h6 := (List.mem_filter.1 hπ).2
              unfold keepOL at h6
              have h7 := List.all_eq_true.1 h6 _ hp
              simp only [bne_self_eq_false, Bool.false_or] at h7
              have hpE : p ∈ E := by
                have := (hchk π (List.mem_filter.1 hπ).1).2
                unfold inEL at this
                have := List.all_eq_true.1 this _ hp
                simp only [Bool.and_eq_true] at this
                simpa using this.1
              exact (hdone p hpE).1 (by simpa using h7)
        · refine ⟨k, act, done, fun _ h => h, hgame, .inl (ccall i o ho hE), fun e he => ⟨fun hh => .inr ((hdone e he).1 hh), fun hh => ?_⟩, fun π hπ p hp => ?_⟩
          · rcases hh with rfl | hh
            · exact absurd he hE
            · exact (hdone e he).2 hh
          · exfalso
            have := (hchk π hπ).2
            unfold inEL at this
            have := List.all_eq_true.1 this _ hp
            simp only [Bool.and_eq_true] at this
            exact hE (by simpa using this.2)
      have hgetD : ∀ (j : Nat) (b : Bool), j < listed.size → (listed.setIfInBounds i true).getD j b = if j = i then true else listed.getD j b := by
        intro j b hj
        simp only [Array.getD_eq_getD_getElem?, Array.getElem?_setIfInBounds]
        by_cases e : j = i
        · subst e; simp [hj]
        · simp [e, Ne.symm e]
      -- one step, for each order
      have hall : ∀ π ∈ act', ∃ x R', rem π (listed.setIfInBounds i true) = R' ∧ R'.length = fuel ∧ WOps P A H G ((o, x) :: pickOps l R') K fr st := by
        intro π hπ'
        have hπ := hact π hπ'
        have hc := (hchk π hπ).1
        unfold chk1 at hc
        simp only [Bool.and_eq_true] at hc
        obtain ⟨⟨⟨c1, c2⟩, c3⟩, c5⟩ := hc
        have cover : ∀ i, i < l.length → ∃ p ∈ π, p.1 = i := by
          intro i hi
          have := List.all_eq_true.1 c2 i (by simpa using hi)
          simpa using this
        have inl : ∀ p ∈ π, p.1 < l.length := fun p hp => by have := List.all_eq_true.1 c3 p hp; simpa using this
        have hlen := hlen π hπ
        have h := h π hπ
        have hex : ∃ X q Y, rem π listed = X ++ q :: Y ∧ q.1 = i ∧ ∃ X' Y', π = X' ++ q :: Y' ∧ (∀ p ∈ X, p ∈ X') := by
          obtain ⟨q, hq, rfl⟩ := cover i h1
          obtain ⟨X', Y', e⟩ := List.append_of_mem hq
          refine ⟨rem X' listed, q, rem Y' listed, ?_, rfl, X', Y', e, fun p hp => (List.mem_filter.1 hp).1⟩
          rw [e]
          unfold rem
          rw [List.filter_append, List.filter_cons, h2]
          rfl
        obtain ⟨X, q, Y, e, rfl, X', Y', e', hX⟩ := hex
        have hop' := hopI (P := P) (A := A) (H := H) (G := G) (I := I) (K := K) (x := (o, q.2)) (rest := pickOps l Y) (pickOps l X) (fun ax hax => by
          obtain ⟨p, hp, hpo, hpx⟩ := mem_pickOps hax
          have hno : listed.getD p.1 false ≠ true := fun hl2 => by
            have hmem : p ∈ rem π listed := by rw [e]; simp [hp]
            have := (mem_rem.1 hmem).2
            have hp' : p.1 < listed.size := by rw [hsz]; exact (List.getElem?_eq_some_iff.1 hpo).1
            rw [getD_lt hp' true false] at this
            exact absurd (hl2.symm.trans this) (by simp)
          have hsw : swapOkL SP A H l p q = true := by
            rcases exm_specL (SP := SP) (A := A) (H := H) (l := l) (T := ancT l) X' q Y' e' p (hX p hp) with ht | hs | hx
            · exact absurd (tab_closed ctab (fun i => listed.getD i false = true) hcl q.1 h1 h3 p.1 ht) hno
            · exact hs
            · exact absurd (hkeep π hπ' p.1 hx) hno
          obtain ⟨a1, a2⟩ := ax
          simp only at hpx hpo
          refine ⟨?_, hKeep a1 (List.mem_of_getElem? hpo) a2⟩
          unfold swapOkL at hsw
          rcases Bool.or_eq_true_iff.1 hsw with hs | hs
          · have := swapOk_spec hpo ho hs
            rw [hpx] at this
            exact fun R K fr st _ h => hop (ops := l.toArray) (x := (o, q.2)) (rest := R) hG [(a1, a2)] (fun c hc => by rw [List.mem_singleton.1 hc]; exact this) fr st h
          · exact hSP p.1 q.1 a1 o (by simpa using hs) hpo ho a2 q.2) fr st hI (by rw [e, pickOps_app, pickOps_cons ho] at h; exact h)
        have hrem' : ∀ Z : List (Nat × Bool), (∀ p ∈ Z, p.1 < l.length) → rem Z (listed.setIfInBounds q.1 true) = (rem Z listed).filter fun p => p.1 != q.1 := by
          intro Z hZ
          unfold rem
          rw [List.filter_filter]
          apply List.filter_congr
          intro p hp
          rw [hgetD p.1 true (by rw [hsz]; exact hZ p hp)]
          by_cases e : p.1 = q.1
          · simp [e]
          · simp [e]
        have hnd : (π.map (·.1)).Nodup := nodupB_spec c1.2
        have hXY : rem π (listed.setIfInBounds q.1 true) = X ++ Y := by
          rw [hrem' π inl, e]
          have hnd2 : ((X ++ q :: Y).map (·.1)).Nodup := by
            rw [← e]
            exact hnd.sublist (List.Sublist.map _ List.filter_sublist)
          rw [List.map_append, List.map_cons] at hnd2
          have hni := List.nodup_append.1 hnd2
          rw [List.filter_append, List.filter_cons]
          simp only [bne_self_eq_false, Bool.false_eq_true, if_false]
          congr 1
          · apply List.filter_eq_self.2
            intro p hp
            have : p.1 ≠ q.1 := fun e => hni.2.2 p.1 (List.mem_map.2 ⟨p, hp, rfl⟩) q.1 (by simp) e
            simpa using this
          · apply List.filter_eq_self.2
            intro p hp
            have : p.1 ≠ q.1 := fun e => (List.nodup_cons.1 hni.2.1).1 (e ▸ List.mem_map.2 ⟨p, hp, rfl⟩)
            simpa using this
        refine ⟨q.2, X ++ Y, hXY, ?_, by rw [pickOps_app]; exact hop'⟩
        rw [e] at hlen
        simp only [List.length_append, List.length_cons] at hlen ⊢
        omega
      obtain ⟨π0, hπ0⟩ : ∃ π, π ∈ act' := by
        cases act' with
        | nil => cases k' <;> simp [gameL] at hgame'
        | cons π _ => exact ⟨π, by simp⟩
      have hone2 : ∃ x, WOps P A H G [(o, x)] (fun fr st => ∀ π ∈ act', WOps P A H G (pickOps l (rem π (listed.setIfInBounds i true))) K fr st) fr st := by
        rcases hone with hn | ⟨π, rfl⟩
        · refine ⟨false, WOps_conj hn ⟨π0, hπ0⟩ fun π hπ => ?_⟩
          obtain ⟨x, R', h4, _, h5⟩ := hall π hπ
          exact ⟨x, by rw [h4]; exact WOps_head h5⟩
        · obtain ⟨x, R', h4, _, h5⟩ := hall π (by simp)
          refine ⟨x, (WOps_head h5).mono fun fr st hq π' hπ' => ?_⟩
          obtain rfl := List.mem_singleton.1 hπ'
          rw [h4]; exact hq
      obtain ⟨x, hw1⟩ := hone2
      have hw2 := hKeep o (List.mem_of_getElem? ho) x [] _ fr st hI hw1
      have hstep := step_sound (Q := Q) R hG (hd o (List.mem_of_getElem? ho)) hw2 (K' := wpAny P .any l.toArray Q fuel (listed.setIfInBounds i true)) fun fr' st' M' L' a' w' h' R' => by
        obtain ⟨hI', h'⟩ := h'
        rw [w_nil] at h'
        refine ih k' act' done' (listed.setIfInBounds i true) fr' st' M' L' a' w' (fun π hπ => hchk π (hact π hπ)) hgame' (fun e he => ?_) (by simpa using hsz) (fun π hπ => ?_) ?_ R' hI' h'
        · rw [hdone' e he]
          by_cases hel : e < listed.size
          · rw [hgetD e false hel]
            by_cases ee : e = i
            · simp [ee]
            · simp [ee]
          · have h6 : e ≠ i := by omega
            simp [h6, Array.getD, hel]
        · obtain ⟨x, R', h4, h5, _⟩ := hall π hπ
          rw [h4]; exact h5
        · intro j hj hjl d hdj
          have hdl : d < listed.size ∨ listed.size ≤ d := by omega
          have base : listed.getD d false = true := by
            rw [hgetD j false (by rw [hsz]; exact hj)] at hjl
            split at hjl
            · rename_i ej; subst ej; exact h3 d hdj
            · exact hcl j hj hjl d hdj
          rcases hdl with hdl | hdl
          · rw [hgetD d false hdl]
            by_cases ed : d = i
            · rw [if_pos ed]
            · rw [if_neg ed]; exact base
          · simp [Array.getD, Nat.not_lt.2 hdl] at base
      unfold wpOp
      have ho' : l.toArray[i]? = some o := by simpa using ho
      rw [ho']
      simp only
      split at hstep
      · rename_i hw; rw [if_pos hw]; exact .inl hstep
      · rename_i hw; rw [if_neg hw]; exact hstep

/-- A region that draws its order, walked in several orders. -/
theorem W_regionML {I : Fr → St → Prop} {n id : Nat} {Q : Ex → Fr → St → Prop} {fr : Fr} {st : St} (hm : P.follows .mixedOrders = true) {l : List Oper} (SP : List (Nat × Nat)) (A : List Tmp) (E : List Nat) (PS : List (List (Nat × Bool))) (hd : dstsLt n l = true) (hc : chkML SP A H l E PS = true) (hI : I fr st)
    (hKeep : ∀ G, (∀ j, G j = (l[j]?).bind (·.dst)) → ∀ o ∈ l, ∀ x, Keeps P A H G I (o, x)) (hSP : ∀ G, (∀ j, G j = (l[j]?).bind (·.dst)) → ∀ p q a x, (p, q) ∈ SP → l[p]? = some a → l[q]? = some x → ∀ fp fq, SwI P A H G I (a, fp) (x, fq))
    (h : ∀ G : Nat → Option Tmp, (∀ j, G j = (l[j]?).bind (·.dst)) → ∀ π ∈ PS, WOps P A H G (pickOps l π) (Q .normal) fr st) : W P H n (.region id l.toArray true) Q fr st := by
  intro B M L a w R
  refine wp_region_any hm ?_
  unfold chkML at hc
  simp only [Bool.and_eq_true] at hc
  obtain ⟨⟨⟨h1, h2⟩, h3⟩, h4⟩ := hc
  have hchk : ∀ π ∈ PS, chk1 l π = true ∧ inEL SP A H l E π = true := fun π hπ => by have := List.all_eq_true.1 h3 π hπ; simpa using this
  have hrem : ∀ π ∈ PS, rem π (Array.replicate l.length false) = π ∧ π.length = l.length := by
    intro π hπ
    have hc1 := (hchk π hπ).1
    unfold chk1 at hc1
    simp only [Bool.and_eq_true] at hc1
    refine ⟨List.filter_eq_self.2 fun p hp => ?_, by simpa using hc1.1.1.1.1⟩
    have := List.all_eq_true.1 hc1.1.2 p hp
    have hp' : p.1 < l.length := by simpa using this
    simp [Array.getD, hp']
  refine wpAny_soundML (I := I) (SP := SP) (G := fun j => (l[j]?).bind (·.dst)) (E := E) (hKeep _ fun _ => rfl) (hSP _ fun _ => rfl) h1 (fun i o ho hE => ?_) (dstsLt_of hd) (fun j => by simp) (Q := fun e a' w' => ∃ x fr' st' M' L', e = Ex.to x ∧ Q x fr' st' ∧ Rel P B M' L' n fr' st' a' w')
    (fun fr' st' M' L' a' w' hK R' => ⟨.normal, fr', st', M', L', rfl, hK, R'⟩) l.toArray.size E.length PS [] (Array.replicate l.toArray.size false) fr st M L a _ hchk h4 (fun e he => ?_) (by simp) (fun π hπ => ?_) ?_ R.drewAt hI (fun π hπ => ?_)
  · have := List.all_eq_true.1 h2 i (by simpa using (List.getElem?_eq_some_iff.1 ho).1)
    simp only [ho, Option.bind_some, Bool.or_eq_true, Bool.not_eq_true'] at this
    rcases this with h | h
    · exact absurd (by simpa using h) hE
    · simpa using h
  · constructor
    · intro hh; cases hh
    · intro hh
      have : (Array.replicate l.toArray.size false).getD e false = false := by
        simp only [Array.getD_eq_getD_getElem?, Array.getElem?_replicate]
        split <;> rfl
      rw [this] at hh; cases hh
  · simp only [List.size_toArray]; rw [(hrem π hπ).1, (hrem π hπ).2]
  · intro i hi hli
    simp [Array.getD, hi] at hli
  · simp only [List.size_toArray]; rw [(hrem π hπ).1]; exact h _ (fun _ => rfl) π hπ

end

section
variable {P : Program} {A H : List Tmp} {G : Nat → Option Tmp}
/-! Loads of local boxes. -/
/-- No pointer into the store. -/
def nonH : Value → Bool
  | .pointer (some ⟨_, _, none⟩) => false
  | _ => true
def ldL (Ls : List Tmp) : Op → Bool
  | .load _ (.tmp t) => Ls.contains t
  | .fieldAddr _ (.tmp t) _ => Ls.contains t
  | _ => false
def faL (Ls : List Tmp) : Op → Bool
  | .fieldAddr _ (.tmp t) _ => Ls.contains t
  | _ => false
def isApp : Op → Bool
  | .call { callee := .builtin .append, .. } => true
  | _ => false
/-- These slots point to local boxes. -/
def InvL (Ls : List Tmp) (fr : Fr) (_ : St) : Prop := ∀ t ∈ Ls, nonH (fr.env t) = true
def okL (Ls : List Tmp) (l : List Oper) (p q : Nat) : Bool := match l[p]?, l[q]? with
  | some a, some x => (ldL Ls a.op && (a.guard.isNone && x.guard.isNone)) && ((((callOf x.op).isSome || isApp x.op)) && a.apart l.toArray x)
  | _, _ => false
def spL (Ls : List Tmp) (l : List Oper) : List (Nat × Nat) := (List.range l.length).flatMap fun p => ((List.range l.length).filter fun q => okL Ls l p q).map fun q => (p, q)
def dstL (Ls : List Tmp) (o : Oper) : Bool := match o.dst with
  | some d => !Ls.contains d || (faL Ls o.op && o.guard.isNone)
  | none => true
def chkLL (Ls A H : List Tmp) (l : List Oper) (E : List Nat) (PS : List (List (Nat × Bool))) : Bool :=
  l.all (dstL Ls) && chkML (spL Ls l) A H l E PS
theorem spL_mem {Ls : List Tmp} {l : List Oper} {p q : Nat} (h : (p, q) ∈ spL Ls l) : okL Ls l p q = true := by
  unfold spL at h
  obtain ⟨p', _, h2⟩ := List.mem_flatMap.1 h
  obtain ⟨q', h3, h4⟩ := List.mem_map.1 h2
  cases h4
  exact (List.mem_filter.1 h3).2
theorem InvL.put {Ls : List Tmp} {fr : Fr} {st st' : St} (h : InvL Ls fr st) {d : Option Tmp} {v : Value} (hd : ∀ t, d = some t → t ∉ Ls ∨ nonH v = true) (l : Nat → Nat × List Value) : InvL Ls ⟨AM.put fr.env d v, l⟩ st' := fun t ht => by
  cases d with
  | none => exact h t ht
  | some d =>
    show nonH (upd fr.env d v t) = true
    by_cases e : t = d
    · subst e
      rw [upd_same]
      exact (hd _ rfl).resolve_left fun h => h ht
    · rw [upd_ne _ _ _ _ e]
      exact h t ht
theorem keepsL {Ls : List Tmp} {o : Oper} (hd : dstL Ls o = true) (x : Bool) : Keeps P A H G (InvL Ls) (o, x) := by
  intro R K fr st hI h
  by_cases hn : ∀ t, o.dst = some t → t ∉ Ls
  · have hput : ∀ v (l : Nat → Nat × List Value) s, InvL Ls ⟨AM.put fr.env o.dst v, l⟩ s := fun v l s => hI.put (fun t ht => .inl (hn t ht)) l
    unfold WOps at h ⊢
    split at h
    · exact h.elim
    · exact ⟨hput _ _ _, h⟩
    · split at h
      · obtain ⟨g, h1, h2, h3⟩ := h
        exact ⟨g, h1, h2, h3.mono fun r st' ⟨q1, q2⟩ => ⟨q1, hput _ _ _, q2⟩⟩
      · split at h
        · exact ⟨hput _ _ _, h⟩
        · exact h.elim
  · have hex : ∃ d, o.dst = some d ∧ d ∈ Ls := Classical.byContradiction fun h2 => hn fun t ht hL => h2 ⟨t, ht, hL⟩
    obtain ⟨d, hdd, hdL⟩ := hex
    unfold dstL at hd
    rw [hdd] at hd
    simp only [Bool.or_eq_true, Bool.and_eq_true, Bool.not_eq_true'] at hd
    have hfa : faL Ls o.op = true ∧ o.guard.isNone = true := by
      rcases hd with hd | hd
      · have : Ls.contains d = true := by simpa using hdL
        rw [this] at hd; cases hd
      · exact hd
    obtain ⟨hf, hg⟩ := hfa
    unfold faL at hf
    split at hf
    · rename_i ty t f hop
      have htL : t ∈ Ls := by simpa using hf
      have hcn : callOf o.op = none := by rw [hop]; rfl
      have ht := hI t htL
      rw [WOps_cons hg, hcn] at h ⊢
      simp only at h ⊢
      split at h
      · rename_i v l s hs
        obtain ⟨q1, q2, q3⟩ := stepVal_pure (.inr (by rw [hop]; rfl)) hs
        replace q2 := q2.symm; replace q3 := q3.symm
        subst q2; subst q3
        refine ⟨hI.put (fun t' _ => .inr ?_) _, h⟩
        rw [hop] at q1
        have q1' : (match fr.env t with
          | .pointer (some ⟨b, o, sp⟩) => (match offA P ty f with
            | some d => if okPtr A fr.loc b sp then some (Value.pointer (some ⟨b, o + d, sp⟩)) else none
            | none => none)
          | _ => none) = some v := q1
        split at q1'
        · rename_i b o' sp he
          rw [he] at ht
          split at q1'
          · split at q1'
            · cases q1'
              cases sp with
              | none => cases ht
              | some _ => rfl
            · cases q1'
          · cases q1'
        · cases q1'
      · exact h.elim
    · cases hf
theorem loadA_loc {t : TypeId} {p : Value} (h : nonH p = true) (loc : Nat → Nat × List Value) (st st' : St) : loadA P A t p loc st' = loadA P A t p loc st := by
  cases p with
  | pointer a =>
    cases a with
    | none => rfl
    | some ad =>
      obtain ⟨b, o, w⟩ := ad
      cases w with
      | none => cases h
      | some w => rw [loadA_p, loadA_p]; rfl
  | _ => rfl
theorem app_loc {o : Oper} (h : isApp o.op = true) {fr : Fr} {st : St} {v : Value} {l : Nat → Nat × List Value} {s : St} (hs : stepVal P A H o fr st = some (v, l, s)) : l = fr.loc := by
  unfold isApp at h
  split at h
  · rename_i c1 c2 hop
    unfold stepVal at hs
    rw [hop] at hs
    have e : ∀ ρ loc st, evalVal P A (.call { callee := .builtin .append, args := c1, argTypes := c2 }) ρ loc st = none := fun _ _ _ => rfl
    rw [e] at hs
    simp only at hs
    unfold evalEff at hs
    rw [hop] at hs
    simp only at hs
    split at hs
    · simp only [Option.map_eq_some_iff] at hs
      obtain ⟨r, _, hr⟩ := hs
      cases hr; rfl
    · cases hs
  · cases h
theorem swL {ops : Array Oper} {Ls : List Tmp} {a x : Oper} (hld : ldL Ls a.op = true) (hga : a.guard.isNone = true) (hgx : x.guard.isNone = true) (hx : (callOf x.op).isSome = true ∨ isApp x.op = true) (hap : a.apart ops x = true) (fa fx : Bool) : SwI P A H G (InvL Ls) (a, fa) (x, fx) := by
  intro R K fr st hI h
  obtain ⟨env, loc⟩ := fr
  have sp := Oper.apart_spec hap
  have hrd : isPure a.op = true ∨ isRd a.op = true := .inr (by
    unfold ldL at hld
    split at hld
    · rename_i e; rw [e]; rfl
    · rename_i e; rw [e]; rfl
    · cases hld)
  have hcn : callOf a.op = none := by
    unfold ldL at hld
    split at hld
    · rename_i e; rw [e]; rfl
    · rename_i e; rw [e]; rfl
    · cases hld
  have hev : ∀ (l : Nat → Nat × List Value) (s s' : St), evalVal P A a.op (Fr.ev ⟨env, loc⟩) l s' = evalVal P A a.op (Fr.ev ⟨env, loc⟩) l s := by
    intro l s s'
    unfold ldL at hld
    split at hld
    · rename_i ty t e
      rw [e]
      exact loadA_loc (hI t (by simpa using hld)) l s s'
    · rename_i e; rw [e]; rfl
    · cases hld
  have hxa : ∀ (v : Value) (l l' : Nat → Nat × List Value) (y : Operand), y ∈ x.op.operands → Fr.ev ⟨put env a.dst v, l⟩ y = Fr.ev ⟨env, l'⟩ y := fun v l l' y hy => ev_put fun d hd e => by
    subst e; exact sp.1 d hd (mem_looks hy)
  rw [WOps_cons hga, hcn] at h
  simp only at h
  split at h
  rotate_left
  · exact h.elim
  rename_i va l s hs
  obtain ⟨q1, q2, q3⟩ := stepVal_pure hrd hs
  replace q2 := q2.symm; replace q3 := q3.symm
  subst q2; subst q3
  simp only at h q1
  have back : ∀ (v : Value) (s' : St), WOps P A H G R K ⟨put (put env a.dst va) x.dst v, loc⟩ s' → WOps P A H G ((a, fa) :: R) K ⟨put env x.dst v, loc⟩ s' := by
    intro v s' hh
    rw [WOps_cons hga, hcn]
    simp only
    have e : evalVal P A a.op (Fr.ev ⟨put env x.dst v, loc⟩) loc s' = some va := by
      rw [evalVal_apart hap]
      exact (hev loc _ _).trans q1
    rw [stepVal_of e]
    rw [put_comm _ _ _ sp.2.1] at hh
    exact hh
  rw [WOps_cons hgx] at h ⊢
  cases hc : callOf x.op with
  | some fa' =>
    obtain ⟨f, args⟩ := fa'
    rw [hc] at h
    simp only at h ⊢
    obtain ⟨o1, o2⟩ := callOf_operands hc
    obtain ⟨g, h1, h2, h3⟩ := h
    refine ⟨g, ?_, ?_, ?_⟩
    · rw [← hxa va loc loc f o2]; exact h1
    · rw [← Array.all_toList] at h2 ⊢
      rw [List.all_eq_true] at h2 ⊢
      intro y hy
      have := h2 y hy
      rw [hxa va loc loc y (o1 y (by simpa using hy))] at this
      exact this
    · have e3 : args.toList.map (Fr.ev ⟨put env a.dst va, loc⟩) = args.toList.map (Fr.ev ⟨env, loc⟩) := List.map_congr_left fun y hy => hxa va loc loc y (o1 y (by simpa using hy))
      rw [e3] at h3
      exact h3.mono fun r st' ⟨p1, p2⟩ => ⟨p1, back r st' p2⟩
  | none =>
    rw [hc] at h
    simp only at h ⊢
    have hxapp : isApp x.op = true := by
      rcases hx with hx | hx
      · rw [hc] at hx; cases hx
      · exact hx
    split at h
    · rename_i v l s' hs'
      have e := stepVal_congr (P := P) (A := A) (H := H) (o := x) (fr := ⟨put env a.dst va, loc⟩) (fr' := ⟨env, loc⟩) (st := st) rfl fun y hy => (hxa va _ _ y hy).symm
      rw [e, hs']
      have := app_loc hxapp hs'
      simp only at this
      subst this
      exact back v s' h
    · exact h.elim
end
theorem W_endL {P : Program} {H : List Tmp} {n : Nat} {Q : Ex → Fr → St → Prop} {fr : Fr} {st : St} {id : Nat} {l : List Oper} (hm : P.follows .mixedOrders = true) (Ls A : List Tmp) (E : List Nat) (PS : List (List (Nat × Bool))) (hd : dstsLt n l = true) (hc : chkLL Ls A H l E PS = true) (hI : ∀ t ∈ Ls, nonH (fr.env t) = true)
    (h : ∀ (G : Nat → Option Tmp) (K : Fr → St → Prop), (∀ j, G j = (l[j]?).bind (·.dst)) → (∀ fr st, Q .normal fr st → K fr st) → ∀ π ∈ PS, WOps P A H G (pickOps l π) K fr st) : W P H n (.region id l.toArray true) Q fr st := by
  unfold chkLL at hc
  obtain ⟨h1, h2⟩ := Bool.and_eq_true_iff.1 hc
  refine W_regionML (I := InvL Ls) hm _ A E PS hd h2 hI (fun G hG o ho x => keepsL (List.all_eq_true.1 h1 o ho) x) (fun G hG p q a x hpq ha hx fp fq => ?_) fun G hG => h G _ hG fun _ _ h => h
  have := spL_mem hpq
  unfold okL at this
  rw [ha, hx] at this
  simp only [Bool.and_eq_true, Bool.or_eq_true] at this
  obtain ⟨⟨g1, g2, g3⟩, g4, g5⟩ := this
  exact swL g1 g2 g3 g4 g5 fp fq
theorem fm_nil {α : Type} {P : α → Prop} : ∀ x ∈ ([] : List α), P x := fun x hx => by cases hx
theorem fm_cons {α : Type} {P : α → Prop} {a : α} {l : List α} (h1 : P a) (h2 : ∀ x ∈ l, P x) : ∀ x ∈ a :: l, P x := fun x hx => by
  rcases List.mem_cons.1 hx with rfl | hx
  · exact h1
  · exact h2 x hx
end Go.Proofs.Ytldnihpkiacgfaa.AM


namespace Go.Proofs.Ytldnihpkiacgfaa.AM
open Go
attribute [local go_sem] List.map_cons List.map_nil List.all_cons List.all_nil Bool.and_self Option.map_some List.getElem?_toArray Option.bind_some gye_b gye_t gsk_b gsk_t gb1 gb2 gb3 gb4 bne_self_eq_false beq_self_eq_true w_guard w_nil stepV_some step_some step_some' w_move w_assign w_pick w_binOp w_unOp w_load w_fieldAddr w_indexAddr w_len w_max w_index ev_max max_int ev_index w_box w_alloc w_store w_field w_extract w_nilCheck w_convert w_buildSlice w_build ev_buildL fillL_nil fillL_cons bs0 bs1 ev_conv ev_bin ev_un ev_pick ev_load ev_fieldAddr ev_indexAddr ev_len ev_field ev_extract ev_nilCheck fr_tmp fr_int fr_bool fr_str fr_nil fr_func put_some put_none bin_lss bin_leq bin_gtr bin_geq bin_eql bin_neq bin_add bin_sub bin_mul bin_seql bin_sneq un_not pick_ ext_ loadA_p cellAt_l cellAt_h okPtr_l okPtr_h fadA_p allocA_l storeA_l cells_agg cells_int cells_str cells_sl cells_bool flat_i flat_s flat_b flat_sl flat_nil loc_agg loc_int loc_str loc_sl loc_bool loc_fn loc_ptr okv_agg okv_int okv_str okv_sl okv_bool cellsFrom splice upd_eval argEnv_zero argEnv_succ ne_eq Nat.add_one_ne_zero not_false_eq_true List.not_mem_nil and_self decide_true List.getElem?_cons_zero List.getElem?_cons_succ List.size_toArray List.length_cons List.length_nil List.take_succ_cons List.take_zero List.drop_succ_cons List.drop_zero List.cons_append List.nil_append List.drop_nil Bool.not_true Bool.not_false Bool.false_eq_true Nat.zero_add Nat.add_zero wrap_in List.toList_toArray List.mem_cons or_self or_false false_or
attribute [local go_sem] ag22 ag24 ag25 ag27 ag3 ag31 ag5 ag9 bu27 bu31 bu43 by31 by9 el22 el24 el25 of27_0 of27_1 of31_0 of31_1 of31_2 of43_0 of43_1 of43_2 ro31_1 ro31_7 ro9_0 ro9_1 ro9_2 ro9_3 ro9_4 ro9_5 sz22 sz24 sz25 sz27 sz3 sz31 sz5 sz9 ze27 ze31 ze9
section
/- Words: spec.l1In, the built-in operators, the tests for words, their operations. -/
open Go Go.Proofs
set_option linter.unusedVariables false
set_option linter.unusedSimpArgs false
set_option maxRecDepth 100000

def plusB : ByteArray := ⟨#[112, 108, 117, 115]⟩
def minusB : ByteArray := ⟨#[109, 105, 110, 117, 115]⟩
def timesB : ByteArray := ⟨#[116, 105, 109, 101, 115]⟩
def isB (s : ByteArray) : Bool := s.toList == plusB.toList || (s.toList == minusB.toList || s.toList == timesB.toList)
theorem specIsB_ok (s : ByteArray) (st : St) : CallS Try.prog 11 [.string s] st fun r st' => r = .bool (isB s) ∧ st' = st := by
  refine CallS_of_W [] 13 Try.func11 rfl rfl rfl rfl (by simp) ?_
  unfold isB plusB minusB timesB
  cases h1 : (s.toList == (⟨#[112, 108, 117, 115]⟩ : ByteArray).toList) with
  | true =>
    repeat (first | (refine W_reg rfl fun G K hG hK => ?_; simp (disch := omega) only [go_sem, ↓reduceIte, Nat.reduceEqDiff, Nat.reduceAdd, Nat.reduceLeDiff, hG, h1]; refine hK _ _ ?_; clear hK K hG G) | (refine W_end rfl fun G K hG hK => ?_; simp (disch := omega) only [go_sem, ↓reduceIte, Nat.reduceEqDiff, Nat.reduceAdd, Nat.reduceLeDiff, hG, h1]; refine hK _ _ ?_; clear hK K hG G; repeat (first | refine thenI ?_ | refine thenE ?_ | refine thenR ?_ | refine inBI ?_ | refine inBR ?_ | refine inBS ?_ | refine inBN (by decide) ?_)) | refine W_seqS ?_ | refine W_seqC ?_ | refine W_seqB ?_ | refine W_block ?_ | (refine W_skip ?_; repeat (first | refine thenI ?_ | refine thenE ?_ | refine thenR ?_ | refine inBI ?_ | refine inBR ?_ | refine inBS ?_ | refine inBN (by decide) ?_)) | (refine W_condT ?hc ?_; (case hc => (simp (disch := omega) only [go_sem, ↓reduceIte, Nat.reduceEqDiff, Nat.reduceAdd, Nat.reduceLeDiff, h1]; done))) | (refine W_condF ?hc ?_; (case hc => (simp (disch := omega) only [go_sem, ↓reduceIte, Nat.reduceEqDiff, Nat.reduceAdd, Nat.reduceLeDiff, h1]; done))))
    refine W_ret ?_; try (repeat (first | refine thenI ?_ | refine thenE ?_ | refine thenR ?_ | refine inBI ?_ | refine inBR ?_ | refine inBS ?_ | refine inBN (by decide) ?_))
    refine fin1 (.inl rfl) (by (simp (disch := omega) only [go_sem, ↓reduceIte, Nat.reduceEqDiff, Nat.reduceAdd, Nat.reduceLeDiff]); try rfl) rfl ⟨rfl, rfl⟩
  | false =>
    cases h2 : (s.toList == (⟨#[109, 105, 110, 117, 115]⟩ : ByteArray).toList) with
    | true =>
      repeat (first | (refine W_reg rfl fun G K hG hK => ?_; simp (disch := omega) only [go_sem, ↓reduceIte, Nat.reduceEqDiff, Nat.reduceAdd, Nat.reduceLeDiff, hG, h1, h2]; refine hK _ _ ?_; clear hK K hG G) | (refine W_end rfl fun G K hG hK => ?_; simp (disch := omega) only [go_sem, ↓reduceIte, Nat.reduceEqDiff, Nat.reduceAdd, Nat.reduceLeDiff, hG, h1, h2]; refine hK _ _ ?_; clear hK K hG G; repeat (first | refine thenI ?_ | refine thenE ?_ | refine thenR ?_ | refine inBI ?_ | refine inBR ?_ | refine inBS ?_ | refine inBN (by decide) ?_)) | refine W_seqS ?_ | refine W_seqC ?_ | refine W_seqB ?_ | refine W_block ?_ | (refine W_skip ?_; repeat (first | refine thenI ?_ | refine thenE ?_ | refine thenR ?_ | refine inBI ?_ | refine inBR ?_ | refine inBS ?_ | refine inBN (by decide) ?_)) | (refine W_condT ?hc ?_; (case hc => (simp (disch := omega) only [go_sem, ↓reduceIte, Nat.reduceEqDiff, Nat.reduceAdd, Nat.reduceLeDiff, h1, h2]; done))) | (refine W_condF ?hc ?_; (case hc => (simp (disch := omega) only [go_sem, ↓reduceIte, Nat.reduceEqDiff, Nat.reduceAdd, Nat.reduceLeDiff, h1, h2]; done))))
      refine W_ret ?_; try (repeat (first | refine thenI ?_ | refine thenE ?_ | refine thenR ?_ | refine inBI ?_ | refine inBR ?_ | refine inBS ?_ | refine inBN (by decide) ?_))
      refine fin1 (.inl rfl) (by (simp (disch := omega) only [go_sem, ↓reduceIte, Nat.reduceEqDiff, Nat.reduceAdd, Nat.reduceLeDiff]); try rfl) rfl ⟨rfl, rfl⟩
    | false =>
      repeat (first | (refine W_reg rfl fun G K hG hK => ?_; simp (disch := omega) only [go_sem, ↓reduceIte, Nat.reduceEqDiff, Nat.reduceAdd, Nat.reduceLeDiff, hG, h1, h2]; refine hK _ _ ?_; clear hK K hG G) | (refine W_end rfl fun G K hG hK => ?_; simp (disch := omega) only [go_sem, ↓reduceIte, Nat.reduceEqDiff, Nat.reduceAdd, Nat.reduceLeDiff, hG, h1, h2]; refine hK _ _ ?_; clear hK K hG G; repeat (first | refine thenI ?_ | refine thenE ?_ | refine thenR ?_ | refine inBI ?_ | refine inBR ?_ | refine inBS ?_ | refine inBN (by decide) ?_)) | refine W_seqS ?_ | refine W_seqC ?_ | refine W_seqB ?_ | refine W_block ?_ | (refine W_skip ?_; repeat (first | refine thenI ?_ | refine thenE ?_ | refine thenR ?_ | refine inBI ?_ | refine inBR ?_ | refine inBS ?_ | refine inBN (by decide) ?_)) | (refine W_condT ?hc ?_; (case hc => (simp (disch := omega) only [go_sem, ↓reduceIte, Nat.reduceEqDiff, Nat.reduceAdd, Nat.reduceLeDiff, h1, h2]; done))) | (refine W_condF ?hc ?_; (case hc => (simp (disch := omega) only [go_sem, ↓reduceIte, Nat.reduceEqDiff, Nat.reduceAdd, Nat.reduceLeDiff, h1, h2]; done))))
      refine W_ret ?_; try (repeat (first | refine thenI ?_ | refine thenE ?_ | refine thenR ?_ | refine inBI ?_ | refine inBR ?_ | refine inBS ?_ | refine inBN (by decide) ?_))
      refine fin1 (.inl rfl) (by (simp (disch := omega) only [go_sem, ↓reduceIte, Nat.reduceEqDiff, Nat.reduceAdd, Nat.reduceLeDiff]); try rfl) rfl ⟨rfl, rfl⟩
theorem implIsB_ok (s : ByteArray) (st : St) : CallS Try.prog 10 [.string s] st fun r st' => r = .bool (isB s) ∧ st' = st := by
  refine CallS_of_W [] 13 Try.func10 rfl rfl rfl rfl (by simp) ?_
  unfold isB plusB minusB timesB
  cases h1 : (s.toList == (⟨#[112, 108, 117, 115]⟩ : ByteArray).toList) with
  | true =>
    repeat (first | (refine W_reg rfl fun G K hG hK => ?_; simp (disch := omega) only [go_sem, ↓reduceIte, Nat.reduceEqDiff, Nat.reduceAdd, Nat.reduceLeDiff, hG, h1]; refine hK _ _ ?_; clear hK K hG G) | (refine W_end rfl fun G K hG hK => ?_; simp (disch := omega) only [go_sem, ↓reduceIte, Nat.reduceEqDiff, Nat.reduceAdd, Nat.reduceLeDiff, hG, h1]; refine hK _ _ ?_; clear hK K hG G; repeat (first | refine thenI ?_ | refine thenE ?_ | refine thenR ?_ | refine inBI ?_ | refine inBR ?_ | refine inBS ?_ | refine inBN (by decide) ?_)) | refine W_seqS ?_ | refine W_seqC ?_ | refine W_seqB ?_ | refine W_block ?_ | (refine W_skip ?_; repeat (first | refine thenI ?_ | refine thenE ?_ | refine thenR ?_ | refine inBI ?_ | refine inBR ?_ | refine inBS ?_ | refine inBN (by decide) ?_)) | (refine W_condT ?hc ?_; (case hc => (simp (disch := omega) only [go_sem, ↓reduceIte, Nat.reduceEqDiff, Nat.reduceAdd, Nat.reduceLeDiff, h1]; done))) | (refine W_condF ?hc ?_; (case hc => (simp (disch := omega) only [go_sem, ↓reduceIte, Nat.reduceEqDiff, Nat.reduceAdd, Nat.reduceLeDiff, h1]; done))))
    refine W_ret ?_; try (repeat (first | refine thenI ?_ | refine thenE ?_ | refine thenR ?_ | refine inBI ?_ | refine inBR ?_ | refine inBS ?_ | refine inBN (by decide) ?_))
    refine fin1 (.inl rfl) (by (simp (disch := omega) only [go_sem, ↓reduceIte, Nat.reduceEqDiff, Nat.reduceAdd, Nat.reduceLeDiff]); try rfl) rfl ⟨rfl, rfl⟩
  | false =>
    cases h2 : (s.toList == (⟨#[109, 105, 110, 117, 115]⟩ : ByteArray).toList) with
    | true =>
      repeat (first | (refine W_reg rfl fun G K hG hK => ?_; simp (disch := omega) only [go_sem, ↓reduceIte, Nat.reduceEqDiff, Nat.reduceAdd, Nat.reduceLeDiff, hG, h1, h2]; refine hK _ _ ?_; clear hK K hG G) | (refine W_end rfl fun G K hG hK => ?_; simp (disch := omega) only [go_sem, ↓reduceIte, Nat.reduceEqDiff, Nat.reduceAdd, Nat.reduceLeDiff, hG, h1, h2]; refine hK _ _ ?_; clear hK K hG G; repeat (first | refine thenI ?_ | refine thenE ?_ | refine thenR ?_ | refine inBI ?_ | refine inBR ?_ | refine inBS ?_ | refine inBN (by decide) ?_)) | refine W_seqS ?_ | refine W_seqC ?_ | refine W_seqB ?_ | refine W_block ?_ | (refine W_skip ?_; repeat (first | refine thenI ?_ | refine thenE ?_ | refine thenR ?_ | refine inBI ?_ | refine inBR ?_ | refine inBS ?_ | refine inBN (by decide) ?_)) | (refine W_condT ?hc ?_; (case hc => (simp (disch := omega) only [go_sem, ↓reduceIte, Nat.reduceEqDiff, Nat.reduceAdd, Nat.reduceLeDiff, h1, h2]; done))) | (refine W_condF ?hc ?_; (case hc => (simp (disch := omega) only [go_sem, ↓reduceIte, Nat.reduceEqDiff, Nat.reduceAdd, Nat.reduceLeDiff, h1, h2]; done))))
      refine W_ret ?_; try (repeat (first | refine thenI ?_ | refine thenE ?_ | refine thenR ?_ | refine inBI ?_ | refine inBR ?_ | refine inBS ?_ | refine inBN (by decide) ?_))
      refine fin1 (.inl rfl) (by (simp (disch := omega) only [go_sem, ↓reduceIte, Nat.reduceEqDiff, Nat.reduceAdd, Nat.reduceLeDiff]); try rfl) rfl ⟨rfl, rfl⟩
    | false =>
      repeat (first | (refine W_reg rfl fun G K hG hK => ?_; simp (disch := omega) only [go_sem, ↓reduceIte, Nat.reduceEqDiff, Nat.reduceAdd, Nat.reduceLeDiff, hG, h1, h2]; refine hK _ _ ?_; clear hK K hG G) | (refine W_end rfl fun G K hG hK => ?_; simp (disch := omega) only [go_sem, ↓reduceIte, Nat.reduceEqDiff, Nat.reduceAdd, Nat.reduceLeDiff, hG, h1, h2]; refine hK _ _ ?_; clear hK K hG G; repeat (first | refine thenI ?_ | refine thenE ?_ | refine thenR ?_ | refine inBI ?_ | refine inBR ?_ | refine inBS ?_ | refine inBN (by decide) ?_)) | refine W_seqS ?_ | refine W_seqC ?_ | refine W_seqB ?_ | refine W_block ?_ | (refine W_skip ?_; repeat (first | refine thenI ?_ | refine thenE ?_ | refine thenR ?_ | refine inBI ?_ | refine inBR ?_ | refine inBS ?_ | refine inBN (by decide) ?_)) | (refine W_condT ?hc ?_; (case hc => (simp (disch := omega) only [go_sem, ↓reduceIte, Nat.reduceEqDiff, Nat.reduceAdd, Nat.reduceLeDiff, h1, h2]; done))) | (refine W_condF ?hc ?_; (case hc => (simp (disch := omega) only [go_sem, ↓reduceIte, Nat.reduceEqDiff, Nat.reduceAdd, Nat.reduceLeDiff, h1, h2]; done))))
      refine W_ret ?_; try (repeat (first | refine thenI ?_ | refine thenE ?_ | refine thenR ?_ | refine inBI ?_ | refine inBR ?_ | refine inBS ?_ | refine inBN (by decide) ?_))
      refine fin1 (.inl rfl) (by (simp (disch := omega) only [go_sem, ↓reduceIte, Nat.reduceEqDiff, Nat.reduceAdd, Nat.reduceLeDiff]); try rfl) rfl ⟨rfl, rfl⟩


end

section
/- ReduceWords. -/
open Go Go.Proofs
set_option linter.unusedVariables false
set_option linter.unusedSimpArgs false
set_option maxRecDepth 100000


end

section
/- Builders: spec.RenameVars, impl.RenameVars. -/
open Go Go.Proofs
set_option linter.unusedVariables false
set_option linter.unusedSimpArgs false
set_option maxRecDepth 100000


end

end Go.Proofs.Ytldnihpkiacgfaa.AM
/- A renamed term is a variant, where variables have no arguments. -/
namespace Go.Proofs.Ytldnihpkiacgfaa.AM
open Go Go.Proofs
set_option linter.unusedVariables false
set_option linter.unusedSimpArgs false

/-- Variables are plain, but perhaps at the root. -/
inductive Plain : T → Prop
  | mk (k n : Int) (nm : ByteArray) (args : List T) (hv : k = 1 → n = 0 ∧ args = []) (h : ∀ a ∈ args, Plain a) : Plain (.mk k n nm args)
def PlainB : T → Prop
  | .mk k n nm args => k = 1 ∨ ∀ a ∈ args, Plain a
theorem Plain.b {t : T} (h : Plain t) : PlainB t := by
  cases h with
  | mk k n nm args hv h => exact .inr h
end Go.Proofs.Ytldnihpkiacgfaa.AM


namespace Go.Proofs.Ytldnihpkiacgfaa.AM
open Go
attribute [local go_sem] List.map_cons List.map_nil List.all_cons List.all_nil Bool.and_self Option.map_some List.getElem?_toArray Option.bind_some gye_b gye_t gsk_b gsk_t gb1 gb2 gb3 gb4 bne_self_eq_false beq_self_eq_true w_guard w_nil stepV_some step_some step_some' w_move w_assign w_pick w_binOp w_unOp w_load w_fieldAddr w_indexAddr w_len w_max w_index ev_max max_int ev_index w_box w_alloc w_store w_field w_extract w_nilCheck w_convert w_buildSlice w_build ev_buildL fillL_nil fillL_cons bs0 bs1 ev_conv ev_bin ev_un ev_pick ev_load ev_fieldAddr ev_indexAddr ev_len ev_field ev_extract ev_nilCheck fr_tmp fr_int fr_bool fr_str fr_nil fr_func put_some put_none bin_lss bin_leq bin_gtr bin_geq bin_eql bin_neq bin_add bin_sub bin_mul bin_seql bin_sneq un_not pick_ ext_ loadA_p cellAt_l cellAt_h okPtr_l okPtr_h fadA_p allocA_l storeA_l cells_agg cells_int cells_str cells_sl cells_bool flat_i flat_s flat_b flat_sl flat_nil loc_agg loc_int loc_str loc_sl loc_bool loc_fn loc_ptr okv_agg okv_int okv_str okv_sl okv_bool cellsFrom splice upd_eval argEnv_zero argEnv_succ ne_eq Nat.add_one_ne_zero not_false_eq_true List.not_mem_nil and_self decide_true List.getElem?_cons_zero List.getElem?_cons_succ List.size_toArray List.length_cons List.length_nil List.take_succ_cons List.take_zero List.drop_succ_cons List.drop_zero List.cons_append List.nil_append List.drop_nil Bool.not_true Bool.not_false Bool.false_eq_true Nat.zero_add Nat.add_zero wrap_in List.toList_toArray List.mem_cons or_self or_false false_or
attribute [local go_sem] ag22 ag24 ag25 ag27 ag3 ag31 ag5 ag9 bu27 bu31 bu43 by31 by9 el22 el24 el25 of27_0 of27_1 of31_0 of31_1 of31_2 of43_0 of43_1 of43_2 ro31_1 ro31_7 ro9_0 ro9_1 ro9_2 ro9_3 ro9_4 ro9_5 sz22 sz24 sz25 sz27 sz3 sz31 sz5 sz9 ze27 ze31 ze9
section
/- Terms drawn: spec.l3Draw. -/
open Go Go.Proofs
set_option linter.unusedVariables false
set_option linter.unusedSimpArgs false
set_option maxRecDepth 100000
-- AUTO

theorem Drawn.ext2 {q : Nat} {xs : List Byt} {a b c : St} (h : Drawn q xs a b) (hx : Ext b c) : Drawn q xs a c := ⟨h.cur.ext hx, h.away.same (Away.of_ext hx)⟩
theorem Cur.lt {st : St} {q : Nat} {xs : List Byt} (h : Cur st q xs) : q < st.length := by obtain ⟨_, _, _, h, _⟩ := h; exact (List.getElem?_eq_some_iff.1 h).1
theorem Fresh.one {n k : Nat} (h : n ≤ k) : Fresh n [k] := ⟨by simp, fun i hi => by cases List.mem_singleton.1 hi; exact h⟩
theorem Fresh.cons {n k : Nat} {L : List Nat} (h : Fresh n L) (hlt : ∀ i ∈ L, i < k) (hk : n ≤ k) : Fresh n (k :: L) := ⟨List.nodup_cons.2 ⟨fun hm => by have := hlt k hm; omega, h.1⟩, fun i hi => by
  rcases List.mem_cons.1 hi with rfl | hi
  · exact hk
  · exact h.2 i hi⟩
theorem Fresh.app {n m : Nat} {L K : List Nat} (h : Fresh n L) (g : Fresh m K) (hlt : ∀ i ∈ L, i < m) (hn : n ≤ m) : Fresh n (L ++ K) := ⟨List.nodup_append.2 ⟨h.1, g.1, fun a ha b hb e => by
  subst e
  have h1 := hlt a ha
  have h2 := g.2 a hb
  omega⟩, fun i hi => by
  rcases List.mem_append.1 hi with hi | hi
  · exact h.2 i hi
  · have := g.2 i hi; omega⟩

end

end Go.Proofs.Ytldnihpkiacgfaa.AM
/- Kinds: operations, signatures. -/
namespace Go.Proofs.Ytldnihpkiacgfaa.AM
open Go
set_option linter.unusedVariables false
set_option linter.unusedSimpArgs false

/-- An operation of a signature. -/
structure Opr where
  nm : ByteArray
  args : List ByteArray
  res : ByteArray
def EncO (st : St) (o : Opr) (cs : List Value) : Prop := ∃ s, cs = [.string o.nm, s, .string o.res] ∧ Rw st o.args s
def OwnO (st : St) (o : Opr) (cs : List Value) (L : List Nat) : Prop := ∃ s, cs = [.string o.nm, s, .string o.res] ∧ Sl st o.args s L
instance : Kind Opr where
  sz := 3
  e := 31
  enc := EncO
  own := OwnO
  enc_len := fun _ _ _ h => by obtain ⟨s, rfl, _⟩ := h; rfl
  enc_ext := fun _ _ _ _ hx h => by obtain ⟨s, rfl, h⟩ := h; exact ⟨s, rfl, h.ext hx⟩
  own_len := fun _ _ _ _ h => by obtain ⟨s, rfl, _⟩ := h; rfl
  own_lt := fun _ _ _ _ h => by obtain ⟨s, rfl, h⟩ := h; exact h.lt
  own_frame := fun _ _ _ _ _ hs h => by obtain ⟨s, rfl, h⟩ := h; exact ⟨s, rfl, h.frame hs⟩
  own_enc := fun _ _ _ _ h => by obtain ⟨s, rfl, h⟩ := h; exact ⟨s, rfl, h.row⟩
instance : Marks Opr where
  mk1 := fun o k => (⟨mtext k, (mkL o.args (k + 1)).1, mtext (mkL o.args (k + 1)).2⟩, (mkL o.args (k + 1)).2 + 1)
  mk1_ge := fun o k => by have := mkL_ge o.args (k + 1); simp only; omega
instance : Wt Opr := ⟨fun o => o.nm.size + (o.args.length + wtL o.args) + o.res.size⟩
theorem row_atO {st : St} {xs : List Opr} {s : Value} (h : Rw st xs s) {j : Nat} {x : Opr} (hx : xs[j]? = some x) {n : Nat} (hn : xs.length = n := by rfl) : ∃ i o c sx, s = .slice (some ⟨i, o, none⟩) n c ∧ Rw st x.args sx ∧ CellsAt st i (o + j * 3) [.string x.nm, sx, .string x.res] := by
  subst hn
  obtain ⟨i, o, c, cs, rfl, _, ⟨sx, rfl, hE⟩, hc⟩ := row_at h hx
  exact ⟨i, o, c, sx, rfl, hE, hc⟩
/-- A signature. -/
structure Sgn where
  sorts : List ByteArray
  ops : List Opr
def EncS (st : St) (g : Sgn) (cs : List Value) : Prop := ∃ s u, cs = [s, u] ∧ Rw st g.sorts s ∧ Rw st g.ops u
def OwnS (st : St) (g : Sgn) (cs : List Value) (L : List Nat) : Prop := ∃ s u L1 L2, cs = [s, u] ∧ Sl st g.sorts s L1 ∧ Sl st g.ops u L2 ∧ L = L1 ++ L2
def LimS (B : Nat) (g : Sgn) : Prop := g.sorts.length ≤ B ∧ g.ops.length ≤ B ∧ ∀ o ∈ g.ops, o.args.length ≤ B
instance : Wt Sgn := ⟨fun g => (g.sorts.length + wtL g.sorts) + (g.ops.length + wtL g.ops)⟩
theorem EncO.ext {st st' : St} {g : Opr} {cs : List Value} (h : EncO st g cs) (hx : Ext st st') : EncO st' g cs := by
  obtain ⟨s, rfl, h⟩ := h; exact ⟨s, rfl, h.ext hx⟩
theorem OwnO.enc {st : St} {g : Opr} {cs : List Value} {L : List Nat} (h : OwnO st g cs L) : EncO st g cs := by
  obtain ⟨s, rfl, h⟩ := h; exact ⟨s, rfl, h.row⟩
theorem OwnO.ext {st st' : St} {g : Opr} {cs : List Value} {L : List Nat} (h : OwnO st g cs L) (hx : Ext st st') : OwnO st' g cs L := by
  obtain ⟨s, rfl, h⟩ := h; exact ⟨s, rfl, h.ext hx⟩
theorem OwnO.lt {st : St} {g : Opr} {cs : List Value} {L : List Nat} (h : OwnO st g cs L) : ∀ i ∈ L, i < st.length := by
  obtain ⟨s, rfl, h⟩ := h; exact h.lt
theorem OwnO.args_cells {st : St} {g : Opr} {cs : List Value} {L : List Nat} (h : OwnO st g cs L) : ∃ n s m, cs = [.string n, s, .string m] ∧ okv s = true ∧ isLoc s = false ∧ vc s = #[s] := by
  obtain ⟨s, rfl, h⟩ := h; exact ⟨_, s, _, rfl, h.okv, h.loc, h.cells⟩
theorem EncS.ext {st st' : St} {g : Sgn} {cs : List Value} (h : EncS st g cs) (hx : Ext st st') : EncS st' g cs := by
  obtain ⟨s, u, rfl, h1, h2⟩ := h; exact ⟨s, u, rfl, h1.ext hx, h2.ext hx⟩
theorem OwnS.enc {st : St} {g : Sgn} {cs : List Value} {L : List Nat} (h : OwnS st g cs L) : EncS st g cs := by
  obtain ⟨s, u, L1, L2, rfl, h1, h2, rfl⟩ := h; exact ⟨s, u, rfl, h1.row, h2.row⟩
theorem OwnS.ext {st st' : St} {g : Sgn} {cs : List Value} {L : List Nat} (h : OwnS st g cs L) (hx : Ext st st') : OwnS st' g cs L := by
  obtain ⟨s, u, L1, L2, rfl, h1, h2, rfl⟩ := h; exact ⟨s, u, L1, L2, rfl, h1.ext hx, h2.ext hx, rfl⟩
theorem OwnS.lt {st : St} {g : Sgn} {cs : List Value} {L : List Nat} (h : OwnS st g cs L) : ∀ i ∈ L, i < st.length := by
  obtain ⟨s, u, L1, L2, rfl, h1, h2, rfl⟩ := h
  intro i hi
  rcases List.mem_append.1 hi with hi | hi
  · exact h1.lt i hi
  · exact h2.lt i hi
theorem EncS.arg_cells {st : St} {g : Sgn} {cs : List Value} (h : EncS st g cs) : ∃ s u, cs = [s, u] ∧ isLoc s = false ∧ okv s = true ∧ isLoc u = false ∧ okv u = true := by
  obtain ⟨s, u, rfl, h1, h2⟩ := h; exact ⟨s, u, rfl, h1.notLoc.1, h1.notLoc.2, h2.notLoc.1, h2.notLoc.2⟩
theorem OwnS.args_cells {st : St} {g : Sgn} {cs : List Value} {L : List Nat} (h : OwnS st g cs L) : ∃ s u, cs = [s, u] ∧ okv s = true ∧ isLoc s = false ∧ vc s = #[s] ∧ okv u = true ∧ isLoc u = false ∧ vc u = #[u] := by
  obtain ⟨s, u, L1, L2, rfl, h1, h2, rfl⟩ := h; exact ⟨s, u, rfl, h1.okv, h1.loc, h1.cells, h2.okv, h2.loc, h2.cells⟩
end Go.Proofs.Ytldnihpkiacgfaa.AM


/- Regions that draw their order, walked as a tree: what commutes goes first, the rest is tried in each order. -/
namespace Go.Proofs.Ytldnihpkiacgfaa.AM
open Go
set_option linter.unusedVariables false
set_option linter.unusedSimpArgs false

/-- What may come next. -/
def Rdy (l : List Oper) (D : Nat → Bool) (i : Nat) : Prop := i < l.length ∧ D i = false ∧ ∀ d ∈ deps l i, D d = true
/-- Whatever is drawn next, and so on. -/
def WAny (P : Program) (A H : List Tmp) (G : Nat → Option Tmp) (l : List Oper) (K : Fr → St → Prop) : Nat → (Nat → Bool) → Fr → St → Prop
  | 0, D, fr, st => (∀ i, ¬ Rdy l D i) ∧ K fr st
  | n + 1, D, fr, st => (∃ i, Rdy l D i) ∧ ∀ i o, Rdy l D i → l[i]? = some o → WOps P A H G [(o, false)] (fun fr st => WAny P A H G l K n (fun j => j == i || D j) fr st) fr st
section
variable {P : Program} {A H : List Tmp} {G : Nat → Option Tmp}
theorem wpAny_of {n : Nat} {B : Base} {l : List Oper} (hd : ∀ o ∈ l, ∀ t, o.dst = some t → t < n)
    (hG : ∀ j, G j = (l.toArray[j]?).bind (·.dst)) {K : Fr → St → Prop} {Q : Exit → Act → World → Prop}
    (hQ : ∀ fr' st' M' L' a' w', K fr' st' → Rel P B M' L' n fr' st' a' w' → Q .normal a' w') :
    ∀ (fuel : Nat) (D : Nat → Bool) (listed : Array Bool) (fr : Fr) (st : St) (M : List ME) (L : Nat → Nat) (a : Act) (w : World), listed.size = l.length → (∀ j, listed.getD j false = D j) →
      Rel P B M L n fr st a w → WAny P A H G l K fuel D fr st → wpAny P .any l.toArray Q fuel listed a w := by
  intro fuel
  induction fuel with
  | zero =>
    intro D listed fr st M L a w hsz hD R h
    refine ⟨?_, hQ _ _ _ _ _ _ h.2 R⟩
    apply List.eq_nil_iff_forall_not_mem.2
    intro i hi
    obtain ⟨h1, h2, h3⟩ := mem_ready.1 hi
    have hl : i < listed.size := by rw [hsz]; exact h1
    refine h.1 i ⟨h1, ?_, fun d hdd => ?_⟩
    · rw [← hD i, getD_lt hl false true]; exact h2
    · rw [← hD d]; exact h3 d hdd
  | succ fuel ih =>
    intro D listed fr st M L a w hsz hD R h
    obtain ⟨⟨i0, r1, r2, r3⟩, h⟩ := h
    refine ⟨fun hr => ?_, fun i hi => ?_⟩
    · exfalso
      have hl : i0 < listed.size := by rw [hsz]; exact r1
      have : i0 ∈ Region.ready .any l.toArray listed := mem_ready.2 ⟨r1, by rw [getD_lt hl true false, hD]; exact r2, fun d hdd => by rw [hD]; exact r3 d hdd⟩
      rw [hr] at this
      cases this
    · obtain ⟨h1, h2, h3⟩ := mem_ready.1 hi
      have hl : i < listed.size := by rw [hsz]; exact h1
      obtain ⟨o, ho⟩ : ∃ o, l[i]? = some o := ⟨_, List.getElem?_eq_getElem h1⟩
      have hw := h i o ⟨h1, by rw [← hD i, getD_lt hl false true]; exact h2, fun d hdd => by rw [← hD d]; exact h3 d hdd⟩ ho
      have hstep := step_sound (Q := Q) R hG (hd o (List.mem_of_getElem? ho)) hw (K' := wpAny P .any l.toArray Q fuel (listed.setIfInBounds i true)) fun fr' st' M' L' a' w' h' R' => by
        rw [w_nil] at h'
        refine ih (fun j => j == i || D j) (listed.setIfInBounds i true) fr' st' M' L' a' w' (by simpa using hsz) (fun j => ?_) R' h'
        rw [← hD j]
        simp only [Array.getD_eq_getD_getElem?, Array.getElem?_setIfInBounds]
        by_cases e : j = i
        · subst e; simp [hl]
        · simp [e, Ne.symm e]
      unfold wpOp
      have ho' : l.toArray[i]? = some o := by simpa using ho
      rw [ho']
      simp only
      split at hstep
      · rename_i hw; rw [if_pos hw]; exact .inl hstep
      · rename_i hw; rw [if_neg hw]; exact hstep
theorem WOps_no {o : Oper} (hc : callOf o.op = none) {x : Bool} {fr : Fr} {st : St} {K : Fr → St → Prop} (hK : ∀ fr st, ¬ K fr st) (h : WOps P A H G [(o, x)] K fr st) : False := by
  unfold WOps at h
  rw [hc] at h
  split at h
  · exact h
  · exact hK _ _ h
  · simp only at h
    split at h
    · exact hK _ _ h
    · exact h
/-- What commutes with all that may come before it can go first. -/
theorem any_first {I : Fr → St → Prop} {l : List Oper} {K : Fr → St → Prop} {p : Nat} {a : Oper} (ha : l[p]? = some a) (hca : callOf a.op = none) (ctab : tabOk l (ancT l) = true)
    (hsw : ∀ i o, l[i]? = some o → i ≠ p → p ∈ (ancT l).getD i [] ∨ i ∈ (ancT l).getD p [] ∨ SwI P A H G I (a, false) (o, false)) (hk : ∀ o ∈ l, Keeps P A H G I (o, false)) :
    ∀ (n : Nat) (D : Nat → Bool) (fr : Fr) (st : St), (∀ i, i < l.length → D i = true → ∀ d ∈ deps l i, D d = true) → Rdy l D p → I fr st → WOps P A H G [(a, false)] (fun fr st => WAny P A H G l K n (fun j => j == p || D j) fr st) fr st → WAny P A H G l K (n + 1) D fr st := by
  intro n
  induction n with
  | zero =>
    intro D fr st hcl hr hI h
    refine ⟨⟨p, hr⟩, fun i o hi ho => ?_⟩
    by_cases e : i = p
    · subst e
      rw [ha] at ho; cases ho
      exact h
    · refine (WOps_no hca (fun fr st hh => hh.1 i ⟨hi.1, ?_, fun d hd => ?_⟩) h).elim
      · simp only [Bool.or_eq_false_iff, beq_eq_false_iff_ne]; exact ⟨e, hi.2.1⟩
      · simp only [hi.2.2 d hd, Bool.or_true]
  | succ n ih =>
    intro D fr st hcl hr hI h
    refine ⟨⟨p, hr⟩, fun i o hi ho => ?_⟩
    by_cases e : i = p
    · subst e
      rw [ha] at ho; cases ho
      exact h
    · have hsw' : SwI P A H G I (a, false) (o, false) := by
        rcases hsw i o ho e with h1 | h1 | h1
        · have := tab_closed ctab (fun j => D j = true) hcl i hi.1 hi.2.2 p h1
          rw [hr.2.1] at this; cases this
        · have := tab_closed ctab (fun j => D j = true) hcl p hr.1 hr.2.2 i h1
          rw [hi.2.1] at this; cases this
        · exact h1
      have h1 : WOps P A H G [(a, false), (o, false)] (fun fr st => WAny P A H G l K n (fun j => j == i || (j == p || D j)) fr st) fr st := by
        refine WOps_unhead (h.mono fun fr st hh => ?_)
        refine hh.2 i o ⟨hi.1, ?_, fun d hd => ?_⟩ ho
        · simp only [Bool.or_eq_false_iff, beq_eq_false_iff_ne]; exact ⟨e, hi.2.1⟩
        · simp only [hi.2.2 d hd, Bool.or_true]
      have h2 := hsw' _ _ _ _ hI h1
      have h3 := hk o (List.mem_of_getElem? ho) _ _ _ _ hI h2
      refine h3.mono fun fr st ⟨hI2, h4⟩ => ?_
      refine ih (fun j => j == i || D j) fr st (fun x hx hxd d hd => ?_) ⟨hr.1, ?_, fun d hd => ?_⟩ hI2 ?_
      · by_cases ex : x = i
        · subst ex; simp only [hi.2.2 d hd, Bool.or_true]
        · have : D x = true := by simpa [ex] using hxd
          simp only [hcl x hx this d hd, Bool.or_true]
      · simp only [Bool.or_eq_false_iff, beq_eq_false_iff_ne]; exact ⟨fun h => e h.symm, hr.2.1⟩
      · simp only [hr.2.2 d hd, Bool.or_true]
      · have hf : (fun j => j == p || (j == i || D j)) = (fun j => j == i || (j == p || D j)) := funext fun j => by rw [Bool.or_left_comm]
        simp only [hf]
        exact h4
end
def rdyB (l : List Oper) (done : List Nat) (i : Nat) : Bool := !done.contains i && (deps l i).all done.contains
def movB (Ls A H : List Tmp) (l : List Oper) (p : Nat) : Bool := (match l[p]? with | some o => (callOf o.op).isNone | none => false) && (List.range l.length).all fun i => i == p || ((ancT l).getD i []).contains p || ((ancT l).getD p []).contains i || swapOkL (spL Ls l) A H l (p, false) (i, false)
def stB (l : List Oper) (done : List Nat) : Bool := nodupB done && done.all (fun i => decide (i < l.length) && (deps l i).all done.contains)
def nextB (Ls A H : List Tmp) (l : List Oper) (done is : List Nat) : Bool := (stB l done && decide (done.length < l.length)) && ((!is.isEmpty && is == (List.range l.length).filter (rdyB l done)) || (match is with | [p] => decide (p < l.length) && (rdyB l done p && movB Ls A H l p) | _ => false))
def endB (l : List Oper) (done : List Nat) : Bool := (List.range l.length).all (fun i => done.contains i) && done.length == l.length
theorem W_endT {P : Program} {H : List Tmp} {n : Nat} {Q : Ex → Fr → St → Prop} {fr : Fr} {st : St} {id : Nat} {l : List Oper} (hm : P.follows .mixedOrders = true) (Ls A : List Tmp) (hd : dstsLt n l = true) (hc : (l.all (dstL Ls) && tabOk l (ancT l)) = true) (hI : ∀ t ∈ Ls, nonH (fr.env t) = true)
    (h : ∀ (G : Nat → Option Tmp) (K : Fr → St → Prop) (F : List Nat → Fr → St → Prop), (∀ j, G j = (l[j]?).bind (·.dst)) → (∀ fr st, Q .normal fr st → K fr st) →
      (∀ done is fr st, nextB Ls A H l done is = true → (∀ i ∈ is, WOps P A H G (pickOps l [(i, false)]) (fun fr st => F (i :: done) fr st) fr st) → F done fr st) →
      (∀ done fr st, endB l done = true → K fr st → F done fr st) → F [] fr st) : W P H n (.region id l.toArray true) Q fr st := by
  obtain ⟨hc1, hc2⟩ := Bool.and_eq_true_iff.1 hc
  intro B M L a w R
  refine wp_region_any hm ?_
  let G : Nat → Option Tmp := fun j => (l[j]?).bind (·.dst)
  have hG : ∀ j, G j = (l[j]?).bind (·.dst) := fun _ => rfl
  have hkeep : ∀ o ∈ l, Keeps P A H G (InvL Ls) (o, false) := fun o ho => keepsL (List.all_eq_true.1 hc1 o ho) false
  have key := h G (Q .normal) (fun done fr st => InvL Ls fr st → WAny P A H G l (Q .normal) (l.length - done.length) (fun j => done.contains j) fr st) hG (fun _ _ h => h)
    (fun done is fr st hn hs hI => ?_) (fun done fr st he hK hI => ?_) hI
  · refine wpAny_of (G := G) (A := A) (H := H) (dstsLt_of hd) (fun j => by simp [G]) (Q := fun e a' w' => ∃ x fr' st' M' L', e = Ex.to x ∧ Q x fr' st' ∧ Rel P B M' L' n fr' st' a' w')
      (fun fr' st' M' L' a' w' hK R' => ⟨.normal, fr', st', M', L', rfl, hK, R'⟩) l.toArray.size (fun _ => false) (Array.replicate l.toArray.size false) fr st M L a _ (by simp) (fun j => ?_) R.drewAt ?_
    · simp only [Array.getD_eq_getD_getElem?, Array.getElem?_replicate]
      split <;> rfl
    · have : l.toArray.size = l.length - ([] : List Nat).length := by simp
      rw [this]
      exact key
  · unfold nextB at hn
    simp only [Bool.and_eq_true, decide_eq_true_eq] at hn
    obtain ⟨⟨hst, hlen⟩, hn⟩ := hn
    obtain ⟨m, hm2⟩ : ∃ m, l.length - done.length = m + 1 := ⟨l.length - done.length - 1, by omega⟩
    have hm3 : ∀ i : Nat, l.length - (i :: done).length = m := fun i => by rw [List.length_cons]; omega
    have hcon : ∀ i : Nat, (fun j => (i :: done).contains j) = (fun j => j == i || done.contains j) := fun i => funext fun j => by rw [List.contains_cons]
    rw [hm2]
    have hcl : ∀ i, i < l.length → done.contains i = true → ∀ d ∈ deps l i, done.contains d = true := fun i hi hdi d hdd => by
      unfold stB at hst
      have := List.all_eq_true.1 (Bool.and_eq_true_iff.1 hst).2 i (by simpa using hdi)
      simp only [Bool.and_eq_true] at this
      exact List.all_eq_true.1 this.2 d hdd
    have hrd : ∀ i, i < l.length → (rdyB l done i = true ↔ Rdy l (fun j => done.contains j) i) := fun i hi => by
      unfold rdyB Rdy
      simp only [Bool.and_eq_true, Bool.not_eq_true', List.all_eq_true]
      exact ⟨fun ⟨h1, h2⟩ => ⟨hi, h1, h2⟩, fun ⟨_, h1, h2⟩ => ⟨h1, h2⟩⟩
    have hone : ∀ i o, i ∈ is → l[i]? = some o → WOps P A H G [(o, false)] (fun fr st => WAny P A H G l (Q .normal) m (fun j => j == i || done.contains j) fr st) fr st := fun i o hi ho => by
      have h1 := hs i hi
      have hp : pickOps l [(i, false)] = [(o, false)] := by simp [pickOps, ho]
      rw [hp] at h1
      have h2 := hkeep o (List.mem_of_getElem? ho) [] _ _ _ hI h1
      refine h2.mono fun fr st ⟨hI2, h3⟩ => ?_
      have h4 := h3 hI2
      rw [hm3 i, hcon i] at h4
      exact h4
    rcases Bool.or_eq_true_iff.1 hn with hn | hn
    · obtain ⟨hn1, hn2⟩ := Bool.and_eq_true_iff.1 hn
      have hn2 : is = (List.range l.length).filter (rdyB l done) := by simpa using hn2
      refine ⟨?_, fun i o hi ho => hone i o (by rw [hn2]; exact List.mem_filter.2 ⟨List.mem_range.2 hi.1, (hrd i hi.1).2 hi⟩) ho⟩
      cases is with
      | nil => simp at hn1
      | cons i is =>
        have := List.mem_filter.1 (hn2 ▸ (List.mem_cons_self : i ∈ i :: is))
        exact ⟨i, (hrd i (List.mem_range.1 this.1)).1 this.2⟩
    · obtain ⟨p, rfl⟩ : ∃ p, is = [p] := by
        split at hn
        · exact ⟨_, rfl⟩
        · cases hn
      simp only [Bool.and_eq_true, decide_eq_true_eq] at hn
      obtain ⟨hpl, hpr, hpm⟩ := hn
      unfold movB at hpm
      obtain ⟨ho, hmv⟩ := Bool.and_eq_true_iff.1 hpm
      obtain ⟨a, hlp⟩ : ∃ a, l[p]? = some a := ⟨_, List.getElem?_eq_getElem hpl⟩
      rw [hlp] at ho
      refine any_first (I := InvL Ls) hlp (by simpa using ho) hc2 (fun i o hio hip => ?_) hkeep m (fun j => done.contains j) fr st hcl ((hrd p hpl).1 hpr) hI (hone p a (by simp) hlp)
      have := List.all_eq_true.1 hmv i (List.mem_range.2 (List.getElem?_eq_some_iff.1 hio).1)
      simp only [Bool.or_eq_true] at this
      rcases this with ((h1 | h1) | h1) | h1
      · exact absurd (by simpa using h1) hip
      · exact .inl (by simpa using h1)
      · exact .inr (.inl (by simpa using h1))
      · refine .inr (.inr ?_)
        unfold swapOkL at h1
        rcases Bool.or_eq_true_iff.1 h1 with hs2 | hs2
        · have hsp := swapOk_spec hlp hio hs2
          exact fun R K fr st _ h => hop (ops := l.toArray) (x := (o, false)) (rest := R) (fun j => by simp [G]) [(a, false)] (fun c hc => by rw [List.mem_singleton.1 hc]; exact hsp) fr st h
        · have := spL_mem (by simpa using hs2 : (p, i) ∈ spL Ls l)
          unfold okL at this
          rw [hlp, hio] at this
          simp only [Bool.and_eq_true, Bool.or_eq_true] at this
          obtain ⟨⟨g1, g2, g3⟩, g4, g5⟩ := this
          exact swL g1 g2 g3 g4 g5 false false
  · unfold endB at he
    obtain ⟨h1, h2⟩ := Bool.and_eq_true_iff.1 he
    have h2 : done.length = l.length := by simpa using h2
    have hall : ∀ i, i < l.length → done.contains i = true := fun i hi => List.all_eq_true.1 h1 i (List.mem_range.2 hi)
    have h0 : l.length - done.length = 0 := by omega
    rw [h0]
    refine ⟨fun i hi => ?_, hK⟩
    have h4 : done.contains i = false := hi.2.1
    rw [hall i hi.1] at h4
    cases h4
end Go.Proofs.Ytldnihpkiacgfaa.AM


namespace Go.Proofs.Ytldnihpkiacgfaa.AM
open Go
attribute [local go_sem] List.map_cons List.map_nil List.all_cons List.all_nil Bool.and_self Option.map_some List.getElem?_toArray Option.bind_some gye_b gye_t gsk_b gsk_t gb1 gb2 gb3 gb4 bne_self_eq_false beq_self_eq_true w_guard w_nil stepV_some step_some step_some' w_move w_assign w_pick w_binOp w_unOp w_load w_fieldAddr w_indexAddr w_len w_max w_index ev_max max_int ev_index w_box w_alloc w_store w_field w_extract w_nilCheck w_convert w_buildSlice w_build ev_buildL fillL_nil fillL_cons bs0 bs1 ev_conv ev_bin ev_un ev_pick ev_load ev_fieldAddr ev_indexAddr ev_len ev_field ev_extract ev_nilCheck fr_tmp fr_int fr_bool fr_str fr_nil fr_func put_some put_none bin_lss bin_leq bin_gtr bin_geq bin_eql bin_neq bin_add bin_sub bin_mul bin_seql bin_sneq un_not pick_ ext_ loadA_p cellAt_l cellAt_h okPtr_l okPtr_h fadA_p allocA_l storeA_l cells_agg cells_int cells_str cells_sl cells_bool flat_i flat_s flat_b flat_sl flat_nil loc_agg loc_int loc_str loc_sl loc_bool loc_fn loc_ptr okv_agg okv_int okv_str okv_sl okv_bool cellsFrom splice upd_eval argEnv_zero argEnv_succ ne_eq Nat.add_one_ne_zero not_false_eq_true List.not_mem_nil and_self decide_true List.getElem?_cons_zero List.getElem?_cons_succ List.size_toArray List.length_cons List.length_nil List.take_succ_cons List.take_zero List.drop_succ_cons List.drop_zero List.cons_append List.nil_append List.drop_nil Bool.not_true Bool.not_false Bool.false_eq_true Nat.zero_add Nat.add_zero wrap_in List.toList_toArray List.mem_cons or_self or_false false_or
attribute [local go_sem] ag22 ag24 ag25 ag27 ag3 ag31 ag5 ag9 bu27 bu31 bu43 by31 by9 el22 el24 el25 of27_0 of27_1 of31_0 of31_1 of31_2 of43_0 of43_1 of43_2 ro31_1 ro31_7 ro9_0 ro9_1 ro9_2 ro9_3 ro9_4 ro9_5 sz22 sz24 sz25 sz27 sz3 sz31 sz5 sz9 ze27 ze31 ze9
section
/- Signatures drawn: l6Base, l6Bent; DrawFindOp, DrawIsBuiltin. -/
open Go Go.Proofs
set_option linter.unusedVariables false
set_option linter.unusedSimpArgs false
set_option maxRecDepth 100000
-- AUTO

theorem rowO_strs (st : St) : ∀ ns : List ByteArray, RowO (Kind.own st) ns (ns.map Value.string) []
  | [] => .nil
  | n :: ns => RowO.cons n ns [.string n] (ns.map Value.string) [] [] ⟨rfl, rfl⟩ (rowO_strs st ns)
theorem sl_at {st : St} {i c : Nat} (ns : List ByteArray) (h : st[i]? = some ⟨ns.map Value.string, 9, 0⟩) : Sl st ns (.slice (some ⟨i, 0, none⟩) ns.length c) [i] := .inr ⟨i, c, ns.map Value.string, [], rfl, h, rowO_strs st ns, rfl⟩
def bE : ByteArray := ⟨#[101]⟩
def bW : ByteArray := ⟨#[119, 111, 114, 100]⟩
def baseOps : List Opr := [⟨⟨#[97]⟩, [], bE⟩, ⟨⟨#[98]⟩, [], bE⟩, ⟨⟨#[103]⟩, [bE], bE⟩, ⟨⟨#[102]⟩, [bE, bE], bE⟩, ⟨⟨#[104]⟩, [bE, bW], bE⟩, ⟨⟨#[110, 117, 109]⟩, [bW], bE⟩, ⟨⟨#[116, 111, 112]⟩, [bE], ⟨#[107]⟩⟩]
theorem opr_cons {st : St} {nm res : ByteArray} {args : List ByteArray} {s : Value} {L K : List Nat} {os : List Opr} {cs : List Value} (h : Sl st args s L) (hs : RowO (Kind.own st) os cs K) : RowO (Kind.own st) (⟨nm, args, res⟩ :: os) (.string nm :: s :: .string res :: cs) (L ++ K) := RowO.cons _ _ [_, _, _] _ _ _ ⟨s, rfl, h⟩ hs
def bsl (i n : Nat) : Value := .slice (some ⟨i, 0, none⟩) n n
def baseCells (n : Nat) : List Value := [.string ⟨#[97]⟩, .slice none 0 0, .string bE, .string ⟨#[98]⟩, .slice none 0 0, .string bE, .string ⟨#[103]⟩, bsl (n + 1) 1, .string bE, .string ⟨#[102]⟩, bsl (n + 2) 2, .string bE, .string ⟨#[104]⟩, bsl (n + 3) 2, .string bE, .string ⟨#[110, 117, 109]⟩, bsl (n + 4) 1, .string bE, .string ⟨#[116, 111, 112]⟩, bsl (n + 5) 1, .string ⟨#[107]⟩]
def baseK (n : Nat) : List Nat := [] ++ ([] ++ ([n + 1] ++ ([n + 2] ++ ([n + 3] ++ ([n + 4] ++ ([n + 5] ++ []))))))
theorem l6Base_ok (st : St) : CallS Try.prog 16 [] st fun r st2 => Ext st st2 ∧ ∃ s u L1 L2, r = .agg #[s, u] ∧ Sl st2 [bE, ⟨#[107]⟩] s L1 ∧ Sl st2 baseOps u L2 ∧ Fresh st.length (L1 ++ L2) := by
  refine CallS_of_W [] 16 Try.func16 rfl rfl rfl rfl (by simp) ?_
  repeat (first | (refine W_reg rfl fun G K hG hK => ?_; simp (disch := omega) only [go_sem, ↓reduceIte, Nat.reduceEqDiff, Nat.reduceAdd, Nat.reduceLeDiff, hG]; refine hK _ _ ?_; clear hK K hG G) | (refine W_end rfl fun G K hG hK => ?_; simp (disch := omega) only [go_sem, ↓reduceIte, Nat.reduceEqDiff, Nat.reduceAdd, Nat.reduceLeDiff, hG]; refine hK _ _ ?_; clear hK K hG G; repeat (first | refine thenI ?_ | refine thenE ?_ | refine thenR ?_ | refine inBI ?_ | refine inBR ?_ | refine inBS ?_ | refine inBN (by decide) ?_)) | refine W_seqS ?_ | refine W_seqC ?_ | refine W_seqB ?_ | refine W_block ?_ | (refine W_skip ?_; repeat (first | refine thenI ?_ | refine thenE ?_ | refine thenR ?_ | refine inBI ?_ | refine inBR ?_ | refine inBS ?_ | refine inBN (by decide) ?_)) | (refine W_condT ?hc ?_; (case hc => (simp (disch := omega) only [go_sem, ↓reduceIte, Nat.reduceEqDiff, Nat.reduceAdd, Nat.reduceLeDiff]; done))) | (refine W_condF ?hc ?_; (case hc => (simp (disch := omega) only [go_sem, ↓reduceIte, Nat.reduceEqDiff, Nat.reduceAdd, Nat.reduceLeDiff]; done))))
  (repeat (first | refine W_seqS ?_ | refine W_seqC ?_ | refine W_seqB ?_ | refine W_block ?_)); refine W_reg rfl fun G K hG hK => ?_; simp (disch := omega) only [go_sem, ↓reduceIte, Nat.reduceEqDiff, Nat.reduceAdd, Nat.reduceLeDiff, hG, bsL, fillK_cons, fillK_nil, Nat.reduceMul]
  refine hK _ _ ?_; clear hK K hG G; repeat (first | refine thenI ?_ | refine thenE ?_ | refine thenR ?_ | refine inBI ?_ | refine inBR ?_ | refine inBS ?_ | refine inBN (by decide) ?_)
  refine W_ret ?_; try (repeat (first | refine thenI ?_ | refine thenE ?_ | refine thenR ?_ | refine inBI ?_ | refine inBR ?_ | refine inBS ?_ | refine inBN (by decide) ?_))
  refine finC (.inl rfl) (by (simp (disch := omega) only [go_sem, ↓reduceIte, Nat.reduceEqDiff, Nat.reduceAdd, Nat.reduceLeDiff]); try rfl) ⟨((((((Ext.app _ _).trans (Ext.app _ _)).trans (Ext.app _ _)).trans (Ext.app _ _)).trans (Ext.app _ _)).trans (Ext.app _ _)).trans (Ext.app _ _), .slice (some ⟨st.length, 0, none⟩) 2 2, .slice (some ⟨st.length + 6, 0, none⟩) 7 7, [st.length], (st.length + 6) :: baseK st.length, by simp, sl_at [bE, ⟨#[107]⟩] (by simp [List.getElem?_append, bE]), .inr ⟨st.length + 6, 7, baseCells st.length, baseK st.length, rfl, ?_, ?_, rfl⟩, ?_⟩
  · simp [List.getElem?_append, baseCells, bsl, bE]
    rfl
  · exact opr_cons (.inl ⟨rfl, rfl, rfl⟩) (opr_cons (.inl ⟨rfl, rfl, rfl⟩) (opr_cons (sl_at (c := 1) [bE] (by simp [List.getElem?_append, bE])) (opr_cons (sl_at (c := 2) [bE, bE] (by simp [List.getElem?_append, bE])) (opr_cons (sl_at (c := 2) [bE, bW] (by simp [List.getElem?_append, bE, bW])) (opr_cons (sl_at (c := 1) [bW] (by simp [List.getElem?_append, bW])) (opr_cons (sl_at (c := 1) [bE] (by simp [List.getElem?_append, bE])) .nil))))))
  · refine ⟨by simp [baseK], fun i hi => ?_⟩
    simp [baseK] at hi
    omega

end

end Go.Proofs.Ytldnihpkiacgfaa.AM
/- A store without one block: blank stores (as in C30), for rows of strings and operations. -/
namespace Go.Proofs.Ytldnihpkiacgfaa.AM
open Go Go.Proofs
set_option linter.unusedVariables false
set_option linter.unusedSimpArgs false

/-! A store without the block q. -/
def bl (q : Nat) (st : St) : St := st.set q ⟨[], 0, 2⟩
theorem bl_get {q i : Nat} {st : St} (h : i ≠ q) : (bl q st)[i]? = st[i]? := List.getElem?_set_ne (Ne.symm h)
theorem bl_len {q : Nat} {st : St} : (bl q st).length = st.length := by simp [bl]
theorem bl_cell {q : Nat} {st : St} {i j : Nat} {v : Value} (h : cell (bl q st) i j = some v) : cell st i j = some v := by
  by_cases hq : i = q
  · subst hq
    unfold cell bl at h
    by_cases hl : i < st.length
    · rw [List.getElem?_set_self hl] at h
      simp at h
    · rw [List.getElem?_eq_none (by rw [List.length_set]; omega)] at h
      cases h
  · unfold cell at h ⊢
    rw [bl_get hq] at h
    exact h
theorem bl_away {q : Nat} {a b : St} (h : Away (some q) a b) : Ext (bl q a) (bl q b) := Ext.of_get fun i hi => by
  rw [bl_len] at hi
  by_cases hq : i = q
  · subst hq
    unfold bl
    rw [List.getElem?_set_self hi, List.getElem?_set_self (Nat.lt_of_lt_of_le hi h.1)]
  · rw [bl_get hq, bl_get hq, h.2 i hi (fun e => hq (Option.some.inj e).symm)]
/-- What can be read in one store can be read in another. -/
def CI (s s' : St) : Prop := ∀ (i j : Nat) v, cell s i j = some v → cell s' i j = some v
theorem Row.ci {α : Type} {E E' : α → List Value → Prop} {sz : Nat} {s s' : St} {xs : List α} {v : Value} (h : Row E sz s xs v) (hc : CI s s') (hE : ∀ x ∈ xs, ∀ cs, E x cs → E' x cs) : Row E' sz s' xs v := by
  rcases h with h | ⟨i, o, c, rfl, h⟩
  · exact .inl h
  · refine .inr ⟨i, o, c, rfl, fun j x hx => ?_⟩
    obtain ⟨cs, h1, h2, h3⟩ := h j x hx
    exact ⟨cs, h1, hE x (List.mem_of_getElem? hx) cs h2, fun q w hw => hc _ _ _ (h3 q w hw)⟩
theorem ci_bl {q : Nat} {st : St} : CI (bl q st) st := fun _ _ _ h => bl_cell h
theorem sl_bl {α : Type} [Kind α] {q n0 : Nat} {st : St} {xs : List α} {v : Value} {L : List Nat} (h : Sl st xs v L) (hf : Fresh n0 L) (hq : q < n0) : Sl (bl q st) xs v L :=
  h.frame fun i hi => bl_get (fun e => by have := hf.2 i hi; omega)
theorem row_bl {α : Type} {E : α → List Value → Prop} {sz q : Nat} {st : St} {xs : List α} {v : Value} (h : Row E sz st xs v) (hq : topId v ≠ some q) : Row E sz (bl q st) xs v := by
  rcases h with h | ⟨i, o, c, rfl, h⟩
  · exact .inl h
  · refine .inr ⟨i, o, c, rfl, fun j x hx => ?_⟩
    obtain ⟨cs, h1, h2, h3⟩ := h j x hx
    refine ⟨cs, h1, h2, fun k w hw => ?_⟩
    have h4 := h3 k w hw
    unfold cell at h4 ⊢
    rw [bl_get (fun e => hq (by rw [← e]; rfl))]
    exact h4
theorem rwS_ci {s s' : St} (hc : CI s s') {xs : List ByteArray} {v : Value} (h : Rw s xs v) : Rw s' xs v := Row.ci h hc fun _ _ _ he => he
theorem rwO_ci {s s' : St} (hc : CI s s') {xs : List Opr} {v : Value} (h : Rw s xs v) : Rw s' xs v := Row.ci h hc fun x _ cs he => by
  obtain ⟨z, rfl, hz⟩ := he
  exact ⟨z, rfl, rwS_ci hc hz⟩
theorem bl_awayk {q i : Nat} {a b : St} (h : Away (some i) a b) : Away (some i) (bl q a) (bl q b) := ⟨by rw [bl_len, bl_len]; exact h.1, fun j hj hne => by
  rw [bl_len] at hj
  by_cases hq : j = q
  · subst hq
    unfold bl
    rw [List.getElem?_set_self hj, List.getElem?_set_self (Nat.lt_of_lt_of_le hj h.1)]
  · rw [bl_get hq, bl_get hq]
    exact h.2 j hj hne⟩
theorem ops_blank {S X : St} {os : List Opr} {cs : List Value} {K : List Nat} (h : RowO (Kind.own S) os cs K) : (∀ j ∈ K, X[j]? = S[j]?) → RowO (fun (o : Opr) cs L => EncO X o cs ∧ L = []) os cs [] := by
  induction h with
  | nil => intro _; exact .nil
  | cons x xs cx cs Lx L h hs ih =>
    intro hX
    obtain ⟨s, rfl, hs2⟩ := h
    exact RowO.cons _ _ _ _ [] [] ⟨⟨s, rfl, (hs2.frame fun j hj => hX j (List.mem_append_left _ hj)).row⟩, rfl⟩ (ih fun j hj => hX j (List.mem_append_right _ hj))
theorem row_take2 {α : Type} {E : α → List Value → Prop} {sz : Nat} {st : St} {xs : List α} {i o c : Nat} (h : Row E (sz + 1) st xs (.slice (some ⟨i, o, none⟩) xs.length c)) {P : Program} {t e : TypeId} (hu : P.underlying t = some (.slice e)) (hs : szA P e = some (sz + 1)) {k : Nat} (hk : k ≤ xs.length) :
    sliceA P t (.slice (some ⟨i, o, none⟩) xs.length c) none (some (.int .i64 k)) = some (.slice (some ⟨i, o, none⟩) k k) ∧ Row E (sz + 1) st (xs.take k) (.slice (some ⟨i, o, none⟩) k k) := by
  have he : elemA P t = some e := by unfold elemA; rw [hu]
  refine ⟨?_, ?_⟩
  · unfold sliceA
    simp only [he, hs, Int.toNat_natCast]
    rw [if_pos (by omega)]
    simp
  · rcases h with ⟨hem, rfl⟩ | ⟨i', o', c', hv, h⟩
    · have hk0 : k = 0 := by simpa using hk
      subst hk0
      exact .inr ⟨i, o, 0, rfl, fun j x hx => by simp at hx⟩
    · cases hv
      refine .inr ⟨i, o, k, by rw [List.length_take, Nat.min_eq_left hk], fun j x hx => ?_⟩
      rw [List.getElem?_take] at hx
      split at hx
      · exact h j x hx
      · cases hx
/-- A row of operations whose strings stand elsewhere: one is put behind. -/
theorem ops_push {q i c : Nat} {S : St} {ops : List Opr} {cs : List Value} {K : List Nat} {o : Opr} {sx : Value} (hb : S[i]? = some ⟨cs, 31, 0⟩) (hr : RowO (Kind.own S) ops cs K) (hi : i ∉ K) (hqi : q < i) (hqK : ∀ j ∈ K, j ≠ q) (hx : Rw (bl q S) o.args sx) (hne : topId sx ≠ some i) (hn : ops.length ≤ 1000) :
    ∃ v' st3, appendA Try.prog 25 25 (.slice (some ⟨i, 0, none⟩) ops.length c) (.slice (some ⟨S.length, 0, none⟩) 1 1) (S ++ [(⟨[.string o.nm, sx, .string o.res], 31, 0⟩ : Blk)]) = some (v', st3) ∧ Rw (bl q st3) (ops ++ [o]) v' ∧ isLoc v' = false ∧ Grow S (.slice (some ⟨i, 0, none⟩) ops.length c) st3 v' := by
  have hil : i < S.length := (List.getElem?_eq_some_iff.1 hb).1
  have hE : EncO (bl i (bl q S)) o [.string o.nm, sx, .string o.res] := ⟨sx, rfl, row_bl hx hne⟩
  have hr' := ops_blank (X := bl i (bl q S)) hr fun j hj => by rw [bl_get (q := i) (i := j) (fun e => hi (by rw [← e]; exact hj)), bl_get (q := q) (i := j) (hqK j hj)]
  obtain ⟨v', st3, L', h1, h2, h3, h4⟩ := SliceO.app (E := fun (_ : St) (p : Opr) cs Lx => EncO (bl i (bl q S)) p cs ∧ Lx = []) (n0 := q + 1) (fun _ _ _ _ _ _ h => h) (fun _ _ _ _ h => by rw [h.2]; simp) (sz := 2) (fun _ _ _ _ h => by obtain ⟨⟨z, rfl, _⟩, _⟩ := h; rfl) (xs := ops) (ys := [o]) (L := [i]) (u := 25) Try.underlying25 sz31 by31 ze31 rfl (.inr ⟨i, c, cs, [], rfl, hb, hr', rfl⟩) ⟨by simp, fun j hj => by cases List.mem_singleton.1 hj; omega⟩ (by omega) (Ext.app S [(⟨[.string o.nm, sx, .string o.res], 31, 0⟩ : Blk)]) (newsA_1 Try.underlying25 rfl) (RowO.one ⟨hE, rfl⟩) ⟨by simp, by simp⟩ (by simp only [List.length_cons, List.length_nil]; omega) (by simp only [List.length_cons, List.length_nil]; omega)
  have hg := (Grow.of_ext (Ext.app S [(⟨[.string o.nm, sx, .string o.res], 31, 0⟩ : Blk)]) (.slice (some ⟨i, 0, none⟩) ops.length c)).trans h4
  refine ⟨v', st3, h1, ?_, h2.loc, hg⟩
  have hrow : Row (EncO (bl i (bl q S))) 3 st3 (ops ++ [o]) v' := SliceO.row (fun x cx Lx h => by obtain ⟨⟨z, rfl, _⟩, _⟩ := h; rfl) (fun x _ cx Lx h => h.1) h2
  have hrb : Row (EncO (bl i (bl q S))) 3 (bl q st3) (ops ++ [o]) v' := row_bl hrow fun e => by
    rcases h2.top h3 with h | ⟨m, hm, h⟩ <;> rw [h] at e
    · cases e
    · cases e; omega
  have hx2 : Ext (bl i (bl q S)) (bl i (bl q st3)) := bl_away (bl_awayk hg.away)
  exact Row.mono hrb (Ext.refl _) fun x _ cx he => by
    obtain ⟨z, rfl, hz⟩ := EncO.ext he hx2
    exact ⟨z, rfl, rwS_ci ci_bl hz⟩
end Go.Proofs.Ytldnihpkiacgfaa.AM

