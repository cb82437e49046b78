/- My texts for the law, laid together (part 1): D1 D2 D3 M1 M2 B1 R1 C0 C6 D6 D7 DT DB. -/
import Derived.Test.YtoeibmfdafilcaaA18
import Derived.Test.YtoeibmfdafilcaaAF
/- Data in the abstract store: rows, terms. -/
namespace Go.Proofs.Ytoeibmfdafilcaa.AM
open Go
set_option linter.unusedVariables false
set_option linter.unusedSimpArgs false

/-- Cells that stand in a row. -/
def CellsAt (st : St) (i o : Nat) (cs : List Value) : Prop := ∀ (q : Nat) v, cs[q]? = some v → cell st i (o + q) = some v

theorem cell_ext {st st' : St} (h : Ext st st') {i j : Nat} {v : Value} (hc : cell st i j = some v) : cell st' i j = some v := by
  unfold cell at hc ⊢
  split at hc
  · rename_i b hb; rw [h i b hb]; exact hc
  · cases hc
theorem CellsAt.ext {st st' : St} (h : Ext st st') {i o : Nat} {cs : List Value} (hc : CellsAt st i o cs) : CellsAt st' i o cs := fun q v hq => cell_ext h (hc q v hq)

/-- A slice of no elements: nil, or one of which nothing is known. -/
def emptyS (s : Value) : Prop := s = .slice none 0 0 ∨ s = .slice (some ⟨0, 0, some 0⟩) 0 0
/-- A slice whose elements read as the members of a list. -/
def Row {α : Type} (E : α → List Value → Prop) (sz : Nat) (st : St) (xs : List α) (s : Value) : Prop :=
  (emptyS s ∧ xs = []) ∨ ∃ i o c, s = .slice (some ⟨i, o, none⟩) xs.length c ∧ ∀ (j : Nat) x, xs[j]? = some x → ∃ cs, cs.length = sz ∧ E x cs ∧ CellsAt st i (o + j * sz) cs

theorem Row.mono {α : Type} {E E' : α → List Value → Prop} {sz : Nat} {st st' : St} {xs : List α} {s : Value} (h : Row E sz st xs s) (hs : Ext st st') (hE : ∀ x ∈ xs, ∀ cs, E x cs → E' x cs) : Row E' sz st' xs s := by
  rcases h with h | ⟨i, o, c, rfl, h⟩
  · exact .inl h
  · refine .inr ⟨i, o, c, rfl, fun j x hx => ?_⟩
    obtain ⟨cs, h1, h2, h3⟩ := h j x hx
    exact ⟨cs, h1, hE x (List.mem_of_getElem? hx) cs h2, h3.ext hs⟩

inductive T where
  | mk (k n : Int) (nm : ByteArray) (args : List T)

mutual
def T.wt : T → Nat
  | .mk _ _ nm args => nm.size + args.length + T.wtL args
def T.wtL : List T → Nat
  | [] => 0
  | x :: xs => x.wt + T.wtL xs
end

theorem T.ind {P : T → Prop} (h : ∀ k n nm args, (∀ a ∈ args, P a) → P (.mk k n nm args)) : ∀ t, P t := by
  intro t
  refine T.rec (motive_1 := P) (motive_2 := fun l => ∀ a ∈ l, P a) (fun k n nm args ih => h k n nm args ih) (fun a ha => by cases ha) (fun x xs hx hxs a ha => ?_) t
  cases ha with
  | head => exact hx
  | tail _ ha => exact hxs a ha

inductive Enc (st : St) : T → List Value → Prop
  | nil (k n : Int) (nm : ByteArray) (s : Value) (h : emptyS s) : Enc st (.mk k n nm []) [.int .i64 k, .int .i64 n, .string nm, s]
  | sl (k n : Int) (nm : ByteArray) (args : List T) (i o c : Nat) (f : Nat → List Value) (hl : ∀ (j : Nat) x, args[j]? = some x → (f j).length = 4) (he : ∀ (j : Nat) x, args[j]? = some x → Enc st x (f j))
      (hc : ∀ (j : Nat) x, args[j]? = some x → CellsAt st i (o + j * 4) (f j)) : Enc st (.mk k n nm args) [.int .i64 k, .int .i64 n, .string nm, .slice (some ⟨i, o, none⟩) args.length c]

theorem Enc.open {st : St} {k n : Int} {nm : ByteArray} {args : List T} {cs : List Value} (h : Enc st (.mk k n nm args) cs) : ∃ s, cs = [.int .i64 k, .int .i64 n, .string nm, s] ∧ Row (Enc st) 4 st args s := by
  cases h with
  | nil _ _ _ s h => exact ⟨_, rfl, .inl ⟨h, rfl⟩⟩
  | sl _ _ _ _ i o c f hl he hc => exact ⟨_, rfl, .inr ⟨i, o, c, rfl, fun j x hx => ⟨f j, hl j x hx, he j x hx, hc j x hx⟩⟩⟩
theorem Enc.close {st : St} (k n : Int) (nm : ByteArray) {args : List T} {s : Value} (h : Row (Enc st) 4 st args s) : Enc st (.mk k n nm args) [.int .i64 k, .int .i64 n, .string nm, s] := by
  rcases h with ⟨hs, rfl⟩ | ⟨i, o, c, rfl, h⟩
  · exact .nil k n nm s hs
  · have hex : ∀ j, ∃ cs : List Value, ∀ x, args[j]? = some x → cs.length = 4 ∧ Enc st x cs ∧ CellsAt st i (o + j * 4) cs := by
      intro j
      cases hj : args[j]? with
      | none => exact ⟨[], fun x hx => by cases hx⟩
      | some x =>
        obtain ⟨cs, h1⟩ := h j x hj
        exact ⟨cs, fun y hy => by obtain rfl := Option.some.inj hy; exact h1⟩
    exact .sl k n nm args i o c (fun j => Classical.choose (hex j)) (fun j x hx => (Classical.choose_spec (hex j) x hx).1) (fun j x hx => (Classical.choose_spec (hex j) x hx).2.1) (fun j x hx => (Classical.choose_spec (hex j) x hx).2.2)
theorem Enc.ext {st st' : St} (hs : Ext st st') : ∀ (t : T) (cs : List Value), Enc st t cs → Enc st' t cs := by
  refine T.ind fun k n nm args ih cs h => ?_
  obtain ⟨s, rfl, hr⟩ := h.open
  exact Enc.close k n nm (hr.mono hs fun x hx cs he => ih x hx cs he)

section
variable {P : Program} {A : List Tmp} {loc : Nat → Nat × List Value} {st : St} {t : TypeId}
/-- An element is read whole. -/
theorem load_row {i o n : Nat} {cs : List Value} (ha : aggA P t = some true) (hs : szA P t = some n) (hl : cs.length = n) (hc : CellsAt st i o cs) : loadA P A t (.pointer (some ⟨i, o, none⟩)) loc st = some (.agg cs.toArray) :=
  load_hn ha hs hl hc
end

section
variable {P : Program} {A H : List Tmp} {loc : Nat → Nat × List Value} {st : St} {t : TypeId} {b o : Nat}
theorem loadA_p {sp : Option Nat} : loadA P A t (.pointer (some ⟨b, o, sp⟩)) loc st = (match aggA P t with
    | some false => cellAt A loc st b sp o
    | some true => (match szA P t with
      | some n => (match cellsFrom (cellAt A loc st b sp) o n with
        | some cs => if okPtr A loc b sp then some (.agg cs.toArray) else none
        | none => none)
      | none => none)
    | none => none) := by
  unfold loadA
  cases aggA P t with
  | none => rfl
  | some b => cases b <;> cases szA P t <;> rfl
theorem cellAt_l {w j : Nat} : cellAt A loc st b (some w) j = if w ≠ 0 ∧ (loc b).1 = w ∧ b ∉ A then (loc b).2[j]? else none := rfl
theorem cellAt_h {j : Nat} : cellAt A loc st b none j = cell st b j := rfl
theorem okPtr_l {w : Nat} : okPtr A loc b (some w) = decide (w ≠ 0 ∧ (loc b).1 = w ∧ b ∉ A) := rfl
theorem okPtr_h : okPtr A loc b none = true := rfl
theorem fadA_p {sp : Option Nat} {f : Nat} : fadA P A t (.pointer (some ⟨b, o, sp⟩)) f loc = (match offA P t f with
    | some d => if okPtr A loc b sp then some (.pointer (some ⟨b, o + d, sp⟩)) else none
    | none => none) := rfl
theorem allocA_l {d : Tmp} {z : List Value} {t : TypeId} : allocA [] d z t loc st = (.pointer (some ⟨d, 0, some ((loc d).1 + 1)⟩), upd loc d ((loc d).1 + 1, z), st) := rfl
theorem storeA_l {w : Nat} {v : Value} : storeA P t (.pointer (some ⟨b, o, some w⟩)) v loc st = (if okv v then (match szA P t with
    | some sz => if w ≠ 0 ∧ (loc b).1 = w ∧ (vc v).size = sz ∧ o + sz ≤ (loc b).2.length then some (upd loc b (w, splice (loc b).2 o (vc v).toList), st) else none
    | none => none) else none) := by
  unfold storeA
  cases szA P t <;> rfl
theorem storeA_h {v : Value} : storeA P t (.pointer (some ⟨b, o, none⟩)) v loc st = (if okv v then (match szA P t with
    | some sz => (match st[b]? with
      | some blk => if blk.stat = 0 ∧ (vc v).size = sz ∧ o + sz ≤ blk.cells.length then some (loc, st.set b { blk with cells := splice blk.cells o (vc v).toList }) else none
      | none => none)
    | none => none) else none) := by
  unfold storeA
  cases szA P t <;> rfl
theorem cells_agg {cs : Array Value} : vc (Value.agg cs) = cs := rfl
theorem cells_int {k : IntKind} {i : Int} : vc (Value.int k i) = #[.int k i] := rfl
theorem cells_str {s : ByteArray} : vc (Value.string s) = #[.string s] := rfl
theorem cells_sl {a : Option Addr} {n c : Nat} : vc (Value.slice a n c) = #[.slice a n c] := rfl
theorem cells_bool {b : Bool} : vc (Value.bool b) = #[.bool b] := rfl
theorem flat_i {k : IntKind} {i : Int} : flat (.int k i) = true := rfl
theorem flat_s {s : ByteArray} : flat (.string s) = true := rfl
theorem flat_b {b : Bool} : flat (.bool b) = true := rfl
theorem flat_sl {a : Addr} {n c : Nat} : flat (.slice (some a) n c) = false := rfl
theorem flat_nil : flat (.slice none 0 0) = true := rfl
theorem loc_agg {cs : Array Value} : isLoc (.agg cs) = false := rfl
theorem loc_int {k : IntKind} {i : Int} : isLoc (.int k i) = false := rfl
theorem loc_str {s : ByteArray} : isLoc (.string s) = false := rfl
theorem loc_sl {a : Option Addr} {n c : Nat} : isLoc (.slice a n c) = false := rfl
theorem loc_bool {b : Bool} : isLoc (.bool b) = false := rfl
theorem loc_fn {f : Fn} {a b : Array Value} : isLoc (.func f a b) = false := rfl
theorem loc_ptr : isLoc (.pointer (some ⟨b, o, none⟩)) = false := rfl
theorem okv_agg {cs : Array Value} : okv (.agg cs) = true := rfl
theorem okv_int {k : IntKind} {i : Int} : okv (.int k i) = true := rfl
theorem okv_str {s : ByteArray} : okv (.string s) = true := rfl
theorem okv_sl {a : Option Addr} {n c : Nat} : okv (.slice a n c) = true := rfl
theorem okv_bool {b : Bool} : okv (.bool b) = true := rfl
end

theorem wrap_in {x : Int} (h0 : -9223372036854775808 ≤ x) (h1 : x ≤ 9223372036854775807) : IntKind.i64.wrap x = x := IntWalk.i64_in _ ⟨h0, h1⟩

theorem upd_eval {α : Type} (f : Nat → α) (i : Nat) (v : α) (j : Nat) : upd f i v j = if j = i then v else f j := rfl
theorem argEnv_zero (v : Value) (l : List Value) : argEnv (v :: l) 0 = v := rfl
theorem argEnv_succ (v : Value) (l : List Value) (n : Nat) : argEnv (v :: l) (n + 1) = argEnv l n := rfl
theorem row_len {α : Type} {E : α → List Value → Prop} {sz : Nat} {st : St} {xs : List α} {s : Value} (h : Row E sz st xs s) {P : Program} {t e : TypeId} (hu : P.underlying t = some (.slice e)) : lenE P t s = some (.int .i64 xs.length) := by
  rcases h with ⟨rfl | rfl, rfl⟩ | ⟨i, o, c, rfl, _⟩
  · exact len_sl hu
  · exact len_sl hu
  · exact len_sl hu
theorem row_at {α : Type} {E : α → List Value → Prop} {sz : Nat} {st : St} {xs : List α} {s : Value} (h : Row E sz st xs s) {j : Nat} {x : α} (hx : xs[j]? = some x) : ∃ i o c cs, s = .slice (some ⟨i, o, none⟩) xs.length c ∧ cs.length = sz ∧ E x cs ∧ CellsAt st i (o + j * sz) cs := by
  rcases h with ⟨_, rfl⟩ | ⟨i, o, c, rfl, h⟩
  · simp at hx
  · obtain ⟨cs, h1, h2, h3⟩ := h j x hx
    exact ⟨i, o, c, cs, rfl, h1, h2, h3⟩
theorem idxOk {j n : Nat} (h : j < n) : (0 ≤ (j : Int) ∧ (j : Int) < (n : Int)) = True := by simp; omega
theorem Row.notLoc {α : Type} {E : α → List Value → Prop} {sz : Nat} {st : St} {xs : List α} {s : Value} (h : Row E sz st xs s) : isLoc s = false ∧ okv s = true := by
  rcases h with ⟨rfl | rfl, rfl⟩ | ⟨i, o, c, rfl, _⟩ <;> exact ⟨rfl, rfl⟩

end Go.Proofs.Ytoeibmfdafilcaa.AM


/- Data that is one's own: rows of blocks that no one else holds; how they are built. -/
namespace Go.Proofs.Ytoeibmfdafilcaa.AM
open Go
set_option linter.unusedVariables false
set_option linter.unusedSimpArgs false

inductive RowO {α : Type} (E : α → List Value → List Nat → Prop) : List α → List Value → List Nat → Prop
  | nil : RowO E [] [] []
  | cons (x : α) (xs : List α) (cx cs : List Value) (Lx L : List Nat) (h : E x cx Lx) (hs : RowO E xs cs L) : RowO E (x :: xs) (cx ++ cs) (Lx ++ L)

theorem RowO.app {α : Type} {E : α → List Value → List Nat → Prop} {xs ys : List α} {cs ds : List Value} {L K : List Nat} (h : RowO E xs cs L) (k : RowO E ys ds K) : RowO E (xs ++ ys) (cs ++ ds) (L ++ K) := by
  induction h with
  | nil => exact k
  | cons x xs cx cs Lx L h hs ih => rw [List.append_assoc, List.append_assoc]; exact .cons x _ cx _ Lx _ h ih
theorem RowO.one {α : Type} {E : α → List Value → List Nat → Prop} {x : α} {cx : List Value} {Lx : List Nat} (h : E x cx Lx) : RowO E [x] cx Lx := by
  have := RowO.cons x [] cx [] Lx [] h .nil
  simpa using this
theorem RowO.len {α : Type} {E : α → List Value → List Nat → Prop} {sz : Nat} (hE : ∀ x cx Lx, E x cx Lx → cx.length = sz) {xs : List α} {cs : List Value} {L : List Nat} (h : RowO E xs cs L) : cs.length = xs.length * sz := by
  induction h with
  | nil => simp
  | cons x xs cx cs Lx L h hs ih => rw [List.length_append, hE _ _ _ h, ih, List.length_cons, Nat.add_mul]; omega
theorem RowO.mono {α : Type} {E E' : α → List Value → List Nat → Prop} {xs : List α} {cs : List Value} {L : List Nat} (h : RowO E xs cs L) (hE : ∀ x ∈ xs, ∀ cx Lx, (∀ i ∈ Lx, i ∈ L) → E x cx Lx → E' x cx Lx) : RowO E' xs cs L := by
  induction h with
  | nil => exact .nil
  | cons x xs cx cs Lx L h hs ih =>
    exact .cons x xs cx cs Lx L (hE x (by simp) cx Lx (fun i hi => by simp [hi]) h) (ih fun y hy cy Ly hL he => hE y (by simp [hy]) cy Ly (fun i hi => by simp [hL i hi]) he)
theorem RowO.get {α : Type} {E : α → List Value → List Nat → Prop} {sz : Nat} (hE : ∀ x cx Lx, E x cx Lx → cx.length = sz) {xs : List α} {cs : List Value} {L : List Nat} (h : RowO E xs cs L) :
    ∀ (j : Nat) x, xs[j]? = some x → ∃ cx Lx, E x cx Lx ∧ (∀ i ∈ Lx, i ∈ L) ∧ ∀ (q : Nat) v, cx[q]? = some v → cs[j * sz + q]? = some v := by
  induction h with
  | nil => intro j x hx; simp at hx
  | cons y xs cy cs Ly L h hs ih =>
    intro j x hx
    have hl := hE _ _ _ h
    cases j with
    | zero =>
      simp only [List.getElem?_cons_zero, Option.some.injEq] at hx
      subst hx
      refine ⟨cy, Ly, h, fun i hi => by simp [hi], fun q v hq => ?_⟩
      have : q < cy.length := (List.getElem?_eq_some_iff.1 hq).1
      rw [Nat.zero_mul, Nat.zero_add, List.getElem?_append_left this]; exact hq
    | succ j =>
      obtain ⟨cx, Lx, h1, h2, h3⟩ := ih j x (by simpa using hx)
      refine ⟨cx, Lx, h1, fun i hi => by simp [h2 i hi], fun q v hq => ?_⟩
      rw [List.getElem?_append_right (by rw [hl, Nat.succ_mul]; omega)]
      have e : (j + 1) * sz + q - cy.length = j * sz + q := by rw [hl, Nat.succ_mul]; omega
      rw [e]; exact h3 q v hq
/-- What stands before, at and behind a place. -/
theorem RowO.split {α : Type} {E : α → List Value → List Nat → Prop} {xs : List α} {cs : List Value} {L : List Nat} (h : RowO E xs cs L) : ∀ (j : Nat) x, xs[j]? = some x →
    ∃ c1 cx c2 L1 Lx L2, RowO E (xs.take j) c1 L1 ∧ E x cx Lx ∧ RowO E (xs.drop (j + 1)) c2 L2 ∧ cs = c1 ++ cx ++ c2 ∧ L = L1 ++ Lx ++ L2 := by
  induction h with
  | nil => intro j x hx; simp at hx
  | cons y xs cy cs Ly L h hs ih =>
    intro j x hx
    cases j with
    | zero =>
      simp only [List.getElem?_cons_zero, Option.some.injEq] at hx
      subst hx
      exact ⟨[], cy, cs, [], Ly, L, .nil, h, by simpa using hs, by simp, by simp⟩
    | succ j =>
      obtain ⟨c1, cx, c2, L1, Lx, L2, h1, h2, h3, h4, h5⟩ := ih j x (by simpa using hx)
      refine ⟨cy ++ c1, cx, c2, Ly ++ L1, Lx, L2, ?_, h2, by simpa using h3, by rw [h4]; simp, by rw [h5]; simp⟩
      rw [List.take_succ_cons]
      exact .cons y _ cy c1 Ly L1 h h1

/-- A slice that lies in a block of its own. -/
def SliceO {α : Type} (E : α → List Value → List Nat → Prop) (e : TypeId) (st : St) (xs : List α) (s : Value) (L : List Nat) : Prop :=
  (s = .slice none 0 0 ∧ xs = [] ∧ L = []) ∨ ∃ i c cs K, s = .slice (some ⟨i, 0, none⟩) xs.length c ∧ st[i]? = some ⟨cs, e, 0⟩ ∧ RowO E xs cs K ∧ L = i :: K

theorem SliceO.okv {α : Type} {E : α → List Value → List Nat → Prop} {e : TypeId} {st : St} {xs : List α} {s : Value} {L : List Nat} (h : SliceO E e st xs s L) : AM.okv s = true := by
  rcases h with ⟨rfl, _⟩ | ⟨i, c, cs, K, rfl, _⟩ <;> rfl
theorem SliceO.loc {α : Type} {E : α → List Value → List Nat → Prop} {e : TypeId} {st : St} {xs : List α} {s : Value} {L : List Nat} (h : SliceO E e st xs s L) : isLoc s = false := by
  rcases h with ⟨rfl, _⟩ | ⟨i, c, cs, K, rfl, _⟩ <;> rfl
theorem SliceO.cells {α : Type} {E : α → List Value → List Nat → Prop} {e : TypeId} {st : St} {xs : List α} {s : Value} {L : List Nat} (h : SliceO E e st xs s L) : vc s = #[s] := by
  rcases h with ⟨rfl, _⟩ | ⟨i, c, cs, K, rfl, _⟩ <;> rfl

inductive Own (e : TypeId) (st : St) : T → List Value → List Nat → Prop
  | nil (k n : Int) (nm : ByteArray) : Own e st (.mk k n nm []) [.int .i64 k, .int .i64 n, .string nm, .slice none 0 0] []
  | sl (k n : Int) (nm : ByteArray) (args : List T) (i c : Nat) (cs : List Value) (K : List Nat) (hb : st[i]? = some ⟨cs, e, 0⟩) (h : RowO (Own e st) args cs K) :
      Own e st (.mk k n nm args) [.int .i64 k, .int .i64 n, .string nm, .slice (some ⟨i, 0, none⟩) args.length c] (i :: K)

theorem Own.open {e : TypeId} {st : St} {k n : Int} {nm : ByteArray} {args : List T} {cs : List Value} {L : List Nat} (h : Own e st (.mk k n nm args) cs L) : ∃ s, cs = [.int .i64 k, .int .i64 n, .string nm, s] ∧ SliceO (Own e st) e st args s L := by
  cases h with
  | nil => exact ⟨_, rfl, .inl ⟨rfl, rfl, rfl⟩⟩
  | sl _ _ _ _ i c cs K hb h => exact ⟨_, rfl, .inr ⟨i, c, cs, K, rfl, hb, h, rfl⟩⟩
theorem Own.close {e : TypeId} {st : St} (k n : Int) (nm : ByteArray) {args : List T} {s : Value} {L : List Nat} (h : SliceO (Own e st) e st args s L) : Own e st (.mk k n nm args) [.int .i64 k, .int .i64 n, .string nm, s] L := by
  rcases h with ⟨rfl, rfl, rfl⟩ | ⟨i, c, cs, K, rfl, hb, h, rfl⟩
  · exact .nil k n nm
  · exact .sl k n nm args i c cs K hb h
theorem Own.len {e : TypeId} {st : St} : ∀ x cx Lx, Own e st x cx Lx → cx.length = 4 := by
  intro x cx Lx h
  cases h <;> rfl

/-- What happens elsewhere. -/
def SameOn (L : List Nat) (st st' : St) : Prop := ∀ i ∈ L, st'[i]? = st[i]?
theorem Own.frame {e : TypeId} {st st' : St} : ∀ (t : T) (cs : List Value) (L : List Nat), SameOn L st st' → Own e st t cs L → Own e st' t cs L := by
  refine T.ind fun k n nm args ih cs L hs h => ?_
  obtain ⟨s, rfl, hr⟩ := h.open
  refine Own.close k n nm ?_
  rcases hr with hr | ⟨i, c, cs, K, rfl, hb, hr, rfl⟩
  · exact .inl hr
  · exact .inr ⟨i, c, cs, K, rfl, (hs i (by simp)).trans hb, hr.mono fun x hx cx Lx hL he => ih x hx cx Lx (fun j hj => hs j (by simp [hL j hj])) he, rfl⟩
theorem SliceO.frame {α : Type} {E : St → α → List Value → List Nat → Prop} (hE : ∀ (st st' : St) x cx Lx, SameOn Lx st st' → E st x cx Lx → E st' x cx Lx) {e : TypeId} {st st' : St} {xs : List α} {s : Value} {L : List Nat} (hs : SameOn L st st') (h : SliceO (E st) e st xs s L) : SliceO (E st') e st' xs s L := by
  rcases h with h | ⟨i, c, cs, K, rfl, hb, hr, rfl⟩
  · exact .inl h
  · exact .inr ⟨i, c, cs, K, rfl, (hs i (by simp)).trans hb, hr.mono fun x hx cx Lx hL he => hE _ _ x cx Lx (fun j hj => hs j (by simp [hL j hj])) he, rfl⟩
theorem SliceO.lt {α : Type} {E : α → List Value → List Nat → Prop} {e : TypeId} {st : St} {xs : List α} {s : Value} {L : List Nat} (hE : ∀ x cx Lx, E x cx Lx → ∀ i ∈ Lx, i < st.length) (h : SliceO E e st xs s L) : ∀ i ∈ L, i < st.length := by
  rcases h with ⟨_, _, rfl⟩ | ⟨i, c, cs, K, rfl, hb, hr, rfl⟩
  · intro i hi; cases hi
  · intro j hj
    cases hj with
    | head => exact (List.getElem?_eq_some_iff.1 hb).1
    | tail _ hj =>
      clear hb
      induction hr with
      | nil => cases hj
      | cons x xs cx cs Lx L h hs ih =>
        rcases List.mem_append.1 hj with hj | hj
        · exact hE x cx Lx h j hj
        · exact ih hj
theorem Own.lt {e : TypeId} {st : St} : ∀ (t : T) (cs : List Value) (L : List Nat), Own e st t cs L → ∀ i ∈ L, i < st.length := by
  refine T.ind fun k n nm args ih cs L h => ?_
  obtain ⟨s, rfl, hr⟩ := h.open
  rcases hr with ⟨_, _, rfl⟩ | ⟨i, c, cs, K, rfl, hb, hr, rfl⟩
  · intro i hi; cases hi
  · intro j hj
    cases hj with
    | head => exact (List.getElem?_eq_some_iff.1 hb).1
    | tail _ hj =>
      clear hb h
      induction hr with
      | nil => cases hj
      | cons x xs cx cs Lx L h hs ih2 =>
        rcases List.mem_append.1 hj with hj | hj
        · exact ih x (by simp) cx Lx h j hj
        · exact ih2 (fun y hy => ih y (by simp [hy])) hj

theorem cell_of {st : St} {i : Nat} {cs : List Value} {e : TypeId} {q : Nat} (hb : st[i]? = some ⟨cs, e, 0⟩) : cell st i q = cs[q]? := by
  unfold cell; rw [hb]; rfl
theorem SliceO.row {α : Type} {E : α → List Value → List Nat → Prop} {E' : α → List Value → Prop} {sz : Nat} {e : TypeId} {st : St} {xs : List α} {s : Value} {L : List Nat} (hl : ∀ x cx Lx, E x cx Lx → cx.length = sz) (hE : ∀ x ∈ xs, ∀ cx Lx, E x cx Lx → E' x cx) (h : SliceO E e st xs s L) : Row E' sz st xs s := by
  rcases h with ⟨rfl, rfl, _⟩ | ⟨i, c, cs, K, rfl, hb, hr, rfl⟩
  · exact .inl ⟨.inl rfl, rfl⟩
  · refine .inr ⟨i, 0, c, rfl, fun j x hx => ?_⟩
    obtain ⟨cx, Lx, h1, _, h3⟩ := hr.get hl j x hx
    exact ⟨cx, hl _ _ _ h1, hE x (List.mem_of_getElem? hx) cx Lx h1, fun q v hq => by rw [cell_of hb, Nat.zero_add]; exact h3 q v hq⟩
theorem Own.enc {e : TypeId} {st : St} : ∀ (t : T) (cs : List Value) (L : List Nat), Own e st t cs L → Enc st t cs := by
  refine T.ind fun k n nm args ih cs L h => ?_
  obtain ⟨s, rfl, hr⟩ := h.open
  exact Enc.close k n nm (hr.row Own.len fun x hx cx Lx he => ih x hx cx Lx he)

/-- New since n. -/
def Fresh (n : Nat) (L : List Nat) : Prop := L.Nodup ∧ ∀ i ∈ L, n ≤ i

theorem appendA_nil {P : Program} {t e : TypeId} {sz by_ n : Nat} {z cs : List Value} {x : Value} {st : St} (he : elemA P t = some e) (hs : szA P e = some (sz + 1)) (hb : bytA P e = some by_) (hz : zeroA P e = some z) (hzl : z.length = sz + 1)
    {u : TypeId} (hn : newsA P u (sz + 1) x st = some (n, cs)) (h0 : n ≠ 0) (hbd : n * by_ ≤ 2 ^ 46) (hbn : n ≤ 2 ^ 46) : appendA P t u (.slice none 0 0) x st = some (.slice (some ⟨st.length, 0, none⟩) n n, st ++ [⟨cs, e, 0⟩]) := by
  unfold appendA
  simp only [he, hs, hb, hz, hn, hzl, if_true, h0, if_false, hbd, hbn, and_self]
theorem appendA_to {P : Program} {t e : TypeId} {sz by_ n i len c : Nat} {z cs ds : List Value} {x : Value} {st : St} (he : elemA P t = some e) (hs : szA P e = some (sz + 1)) (hb : bytA P e = some by_) (hz : zeroA P e = some z) (hzl : z.length = sz + 1)
    {u : TypeId} (hn : newsA P u (sz + 1) x st = some (n, cs)) (h0 : n ≠ 0) (hi : st[i]? = some ⟨ds, e, 0⟩) (hl : ds.length = len * (sz + 1)) (hbd : (len + n) * by_ ≤ 2 ^ 46) (hbn : len + n ≤ 2 ^ 46) :
    appendA P t u (.slice (some ⟨i, 0, none⟩) len c) x st = some (.slice (some ⟨st.length, 0, none⟩) (len + n) (len + n), st.set i ⟨ds, e, 2⟩ ++ [⟨ds ++ cs, e, 0⟩]) := by
  unfold appendA
  have ht : ds.take (len * (sz + 1)) = ds := List.take_of_length_le (by omega)
  simp only [he, hs, hb, hz, hn, hzl, if_true, h0, if_false, hi, hl, hbd, hbn, Nat.le_refl, and_self, ht]
theorem newsA_one {P : Program} {u e : TypeId} {sz i c : Nat} {cs : List Value} {st : St} (hu : P.underlying u = some (.slice e)) (hi : st[i]? = some ⟨cs, e, 0⟩) (hl : cs.length = sz) : newsA P u sz (.slice (some ⟨i, 0, none⟩) 1 c) st = some (1, cs) := by
  unfold newsA
  simp only [hu, Nat.one_mul]
  rw [cellsFrom_of (f := cell st i) hl fun j v hj => by rw [cell_of hi, Nat.zero_add]; exact hj]
  rfl

/-- An element is put behind a row of one's own. -/
theorem SliceO.step {α : Type} {E : St → α → List Value → List Nat → Prop} (hE : ∀ (st st' : St) x cx Lx, SameOn Lx st st' → E st x cx Lx → E st' x cx Lx) (hlt : ∀ (st : St) x cx Lx, E st x cx Lx → ∀ i ∈ Lx, i < st.length)
    {P : Program} {t e : TypeId} {sz by_ n0 : Nat} (hl : ∀ st x cx Lx, E st x cx Lx → cx.length = sz + 1) {z : List Value} {st st2 : St} {xs : List α} {s : Value} {L : List Nat} {x : α} {cx : List Value} {Lx : List Nat}
    (hu : P.underlying t = some (.slice e)) (hs : szA P e = some (sz + 1)) (hb : bytA P e = some by_) (hz : zeroA P e = some z) (hzl : z.length = sz + 1)
    (h : SliceO (E st) e st xs s L) (hf : Fresh n0 L) (hn0 : n0 ≤ st.length) (hext : Ext st st2) (hx : E st2 x cx Lx) (hfx : Fresh st.length Lx) (hbd : (xs.length + 1) * by_ ≤ 2 ^ 46) (hbn : xs.length + 1 ≤ 2 ^ 46) :
    ∃ s' st' L', appendA P t t s (.slice (some ⟨st2.length, 0, none⟩) 1 1) (st2 ++ [⟨cx, e, 0⟩]) = some (s', st') ∧ SliceO (E st') e st' (xs ++ [x]) s' L' ∧ Fresh n0 L' ∧ st2.length ≤ st'.length ∧ (∀ i, i < n0 → st'[i]? = st2[i]?) := by
  have he : elemA P t = some e := by unfold elemA; rw [hu]
  have hlen : st.length ≤ st2.length := by
    rcases Nat.lt_or_ge st2.length st.length with h | h
    · have h1 : st[st2.length]? = some st[st2.length] := List.getElem?_eq_getElem h
      have h2 := hext _ _ h1
      have := (List.getElem?_eq_some_iff.1 h2).1
      omega
    · exact h
  have hnew : (st2 ++ [(⟨cx, e, 0⟩ : Blk)])[st2.length]? = some ⟨cx, e, 0⟩ := by simp
  have hn := newsA_one (P := P) (u := t) (sz := sz + 1) (c := 1) hu hnew (hl _ _ _ _ hx)
  have hxlt := hlt _ _ _ _ hx
  rcases h with ⟨rfl, rfl, rfl⟩ | ⟨i, c, cs, K, rfl, hbk, hr, rfl⟩
  · refine ⟨_, _, (st2.length + 1) :: Lx, appendA_nil he hs hb hz hzl hn (by omega) (by simpa using hbd) (by omega), .inr ⟨st2.length + 1, 1, cx, Lx, by simp, by simp, ?_, rfl⟩, ⟨List.nodup_cons.2 ⟨fun hm => by have := hxlt _ hm; omega, hfx.1⟩, fun j hj => ?_⟩, by simp, fun j hj => ?_⟩
    · refine RowO.one (hE st2 _ x cx Lx (fun j hj => ?_) hx)
      have := hxlt j hj
      rw [List.getElem?_append_left (by simp; omega), List.getElem?_append_left this]
    · cases hj with
      | head => omega
      | tail _ hj => have := hfx.2 j hj; omega
    · rw [List.getElem?_append_left (by simp; omega), List.getElem?_append_left (by omega)]
  · have hi : i < st.length := (List.getElem?_eq_some_iff.1 hbk).1
    have hbk2 : (st2 ++ [(⟨cx, e, 0⟩ : Blk)])[i]? = some ⟨cs, e, 0⟩ := by rw [List.getElem?_append_left (by omega)]; exact hext _ _ hbk
    have hrl := hr.len (hl st)
    have hap := appendA_to (c := c) he hs hb hz hzl hn (by omega) hbk2 hrl hbd hbn
    have hK := SliceO.lt (E := E st) (e := e) (st := st) (xs := xs) (s := .slice (some ⟨i, 0, none⟩) xs.length c) (L := i :: K) (fun x cx Lx h => hlt st x cx Lx h) (.inr ⟨i, c, cs, K, rfl, hbk, hr, rfl⟩)
    have hiK : i ∉ K := (List.nodup_cons.1 hf.1).1
    have hst' : ((st2 ++ [(⟨cx, e, 0⟩ : Blk)]).set i ⟨cs, e, 2⟩ ++ [(⟨cs ++ cx, e, 0⟩ : Blk)]).length = st2.length + 2 := by simp
    have get : ∀ j, j ≠ i → j < st2.length → ((st2 ++ [(⟨cx, e, 0⟩ : Blk)]).set i ⟨cs, e, 2⟩ ++ [(⟨cs ++ cx, e, 0⟩ : Blk)])[j]? = st2[j]? := by
      intro j hj hlt
      rw [List.getElem?_append_left (by simp; omega), List.getElem?_set, if_neg (Ne.symm hj), List.getElem?_append_left hlt]
    refine ⟨_, _, (st2.length + 1) :: (K ++ Lx), hap, .inr ⟨st2.length + 1, xs.length + 1, cs ++ cx, K ++ Lx, by simp, ?_, ?_, rfl⟩, ⟨List.nodup_cons.2 ⟨fun hm => ?_, List.nodup_append.2 ⟨(List.nodup_cons.1 hf.1).2, hfx.1, fun a ha b hb' e' => ?_⟩⟩, fun j hj => ?_⟩, by simp; omega, fun j hj => ?_⟩
    · have : ((st2 ++ [(⟨cx, e, 0⟩ : Blk)]).set i ⟨cs, e, 2⟩).length = st2.length + 1 := by simp
      rw [← this]; simp
    · refine (hr.mono fun y hy cy Ly hL he' => ?_).app (RowO.one (hE st2 _ x cx Lx (fun j hj => ?_) hx))
      · refine hE st _ y cy Ly (fun j hj => ?_) he'
        have hjK := hL j hj
        have hjl := hK j (by simp [hjK])
        have hji : j ≠ i := fun e' => hiK (e' ▸ hjK)
        rw [get j hji (by omega)]
        have h1 : st[j]? = some st[j] := List.getElem?_eq_getElem hjl
        rw [h1, hext _ _ h1]
      · have h1 := hxlt j hj
        have h2 := hfx.2 j hj
        exact get j (by omega) h1
    · rcases List.mem_append.1 hm with hm | hm
      · have := hK _ (List.mem_cons_of_mem _ hm); omega
      · have := hxlt _ hm; omega
    · subst e'
      have h1 := hK a (by simp [ha])
      have h2 := hfx.2 a hb'
      omega
    · cases hj with
      | head => omega
      | tail _ hj =>
        rcases List.mem_append.1 hj with hj | hj
        · exact hf.2 j (by simp [hj])
        · have := hfx.2 j hj; omega
    · have h1 := hf.2 i (by simp)
      exact get j (by omega) (by omega)

end Go.Proofs.Ytoeibmfdafilcaa.AM


/- Rows that are made at their full length and then filled. -/
namespace Go.Proofs.Ytoeibmfdafilcaa.AM
open Go
set_option linter.unusedVariables false
set_option linter.unusedSimpArgs false

def FillO {α : Type} (E : St → α → List Value → List Nat → Prop) (e : TypeId) (sz : Nat) (st : St) (xs : List α) (n o : Nat) (K : List Nat) : Prop :=
  ∃ cs zs, st[o]? = some ⟨cs ++ zs, e, 0⟩ ∧ RowO (E st) xs cs K ∧ zs.length = (n - xs.length) * sz ∧ xs.length ≤ n

theorem FillO.start {α : Type} {E : St → α → List Value → List Nat → Prop} {e : TypeId} {sz n : Nat} {st : St} {zs : List Value} (hz : zs.length = n * sz) : FillO E e sz (st ++ [⟨zs, e, 0⟩]) [] n st.length [] :=
  ⟨[], zs, by simp, .nil, by simpa using hz, by simp⟩

theorem Ext.length {st st' : St} (h : Ext st st') : st.length ≤ st'.length := by
  rcases Nat.lt_or_ge st'.length st.length with hlt | hge
  · have h1 : st[st'.length]? = some st[st'.length] := List.getElem?_eq_getElem hlt
    have := (List.getElem?_eq_some_iff.1 (h _ _ h1)).1
    omega
  · exact hge
theorem Ext.get {st st' : St} (h : Ext st st') {i : Nat} (hi : i < st.length) : st'[i]? = st[i]? := by
  have h1 : st[i]? = some st[i] := List.getElem?_eq_getElem hi
  rw [h1]; exact h _ _ h1
theorem Ext.of_get {st st' : St} (h : ∀ i, i < st.length → st'[i]? = st[i]?) : Ext st st' := fun i b hb => (h i (List.getElem?_eq_some_iff.1 hb).1).trans hb

theorem FillO.lt {α : Type} {E : St → α → List Value → List Nat → Prop} (hlt : ∀ (st : St) x cx Lx, E st x cx Lx → ∀ i ∈ Lx, i < st.length) {e : TypeId} {sz n o : Nat} {st : St} {xs : List α} {K : List Nat} (h : FillO E e sz st xs n o K) : ∀ i ∈ K, i < st.length := by
  obtain ⟨cs, zs, hb, hr, hz, hle⟩ := h
  clear hb hz hle
  induction hr with
  | nil => intro i hi; cases hi
  | cons x xs cx cs Lx L h hs ih =>
    intro j hj
    rcases List.mem_append.1 hj with hj | hj
    · exact hlt st x cx Lx h j hj
    · exact ih j hj

theorem FillO.step {α : Type} {E : St → α → List Value → List Nat → Prop} (hE : ∀ (st st' : St) x cx Lx, SameOn Lx st st' → E st x cx Lx → E st' x cx Lx) (hlt : ∀ (st : St) x cx Lx, E st x cx Lx → ∀ i ∈ Lx, i < st.length)
    {P : Program} {e : TypeId} {sz n0 n o : Nat} (hl : ∀ st x cx Lx, E st x cx Lx → cx.length = sz) {st st2 : St} {xs : List α} {K : List Nat} {x : α} {cx : List Value} {Lx : List Nat} {v : Value} {loc : Nat → Nat × List Value}
    (hs : szA P e = some sz) (h : FillO E e sz st xs n o K) (hf : Fresh n0 (o :: K)) (hext : Ext st st2) (hx : E st2 x cx Lx) (hfx : Fresh st.length Lx) (hv : v.cells.toList = cx) (hok : okv v = true) (hn : xs.length < n) :
    ∃ st', storeA P e (.pointer (some ⟨o, 0 + xs.length * sz, none⟩)) v loc st2 = some (loc, st') ∧ FillO E e sz st' (xs ++ [x]) n o (K ++ Lx) ∧ Fresh n0 (o :: (K ++ Lx)) ∧ st'.length = st2.length ∧ (∀ i, i ≠ o → st'[i]? = st2[i]?) := by
  have hK := h.lt hlt
  obtain ⟨cs, zs, hb, hr, hz, hle⟩ := h
  have ho : o < st.length := (List.getElem?_eq_some_iff.1 hb).1
  have hb2 := hext _ _ hb
  have hcl := hr.len (hl st)
  have hcx : cx.length = sz := hl _ _ _ _ hx
  have hvs : v.cells.size = sz := by rw [← hcx, ← hv]; simp
  have hxlt := hlt _ _ _ _ hx
  have hnd := List.nodup_cons.1 hf.1
  have hzge : sz ≤ zs.length := by rw [hz]; exact Nat.le_mul_of_pos_left _ (by omega)
  have hsp : splice (cs ++ zs) (0 + xs.length * sz) cx = cs ++ cx ++ zs.drop sz := by
    unfold AM.splice
    rw [Nat.zero_add, ← hcl, hcx, List.take_left, List.drop_append]
    simp
  have get : ∀ i, i ≠ o → (st2.set o ⟨cs ++ cx ++ zs.drop sz, e, 0⟩)[i]? = st2[i]? := fun i hi => by rw [List.getElem?_set, if_neg (Ne.symm hi)]
  refine ⟨st2.set o ⟨cs ++ cx ++ zs.drop sz, e, 0⟩, ?_, ⟨cs ++ cx, zs.drop sz, ?_, ?_, ?_, by simp; omega⟩, ⟨List.nodup_cons.2 ⟨fun hm => ?_, List.nodup_append.2 ⟨hnd.2, hfx.1, fun a ha b hb' e' => ?_⟩⟩, fun j hj => ?_⟩, by simp, get⟩
  · unfold storeA
    simp only [hok, if_true, hs, hb2, hvs, true_and, hv]
    rw [if_pos (by rw [List.length_append, hcl, hz, Nat.zero_add]; have := Nat.mul_le_mul_right sz (show xs.length + 1 ≤ n by omega); rw [Nat.add_mul, Nat.one_mul] at this; rw [Nat.sub_mul]; omega), hsp]
  · rw [List.getElem?_set, if_pos rfl, if_pos (by have := hext.length; omega)]
  · refine (hr.mono fun y hy cy Ly hL he => ?_).app (RowO.one (hE st2 _ x cx Lx (fun j hj => ?_) hx))
    · refine hE st _ y cy Ly (fun j hj => ?_) he
      have hjK := hL j hj
      rw [get j (fun e' => hnd.1 (e' ▸ hjK)), hext.get (hK j hjK)]
    · have := hfx.2 j hj
      exact get j (by omega)
  · rw [List.length_drop, hz, List.length_append, List.length_singleton, ← Nat.sub_sub, Nat.sub_mul (n - xs.length) 1, Nat.one_mul]
  · rcases List.mem_append.1 hm with hm | hm
    · exact hnd.1 hm
    · have := hfx.2 _ hm; omega
  · subst e'
    have h1 := hK a ha
    have h2 := hfx.2 a hb'
    omega
  · cases hj with
    | head => exact hf.2 o (by simp)
    | tail _ hj =>
      rcases List.mem_append.1 hj with hj | hj
      · exact hf.2 j (by simp [hj])
      · have h1 := hfx.2 j hj
        have h2 := hf.2 o (by simp)
        omega

theorem FillO.done {α : Type} {E : St → α → List Value → List Nat → Prop} {e : TypeId} {sz o c : Nat} {st : St} {xs : List α} {K : List Nat} (h : FillO E e sz st xs xs.length o K) : SliceO (E st) e st xs (.slice (some ⟨o, 0, none⟩) xs.length c) (o :: K) := by
  obtain ⟨cs, zs, hb, hr, hz, _⟩ := h
  have : zs = [] := List.eq_nil_of_length_eq_zero (by rw [hz]; simp)
  subst this
  rw [List.append_nil] at hb
  exact .inr ⟨o, c, cs, K, rfl, hb, hr, rfl⟩

/-- Every node has few arguments. -/
inductive Lim (B : Nat) : T → Prop
  | mk (k n : Int) (nm : ByteArray) (args : List T) (h : args.length ≤ B) (hs : ∀ a ∈ args, Lim B a) : Lim B (.mk k n nm args)
theorem T.wt_mem {xs : List T} {x : T} (h : x ∈ xs) : x.wt ≤ T.wtL xs := by
  induction xs with
  | nil => cases h
  | cons y ys ih =>
    simp only [T.wtL]
    cases h with
    | head => omega
    | tail _ h => have := ih h; omega
theorem Lim.of_wt {B : Nat} : ∀ t : T, t.wt ≤ B → Lim B t := by
  refine T.ind fun k n nm args ih h => ?_
  simp only [T.wt] at h
  exact .mk k n nm args (by omega) fun a ha => ih a ha (by have := T.wt_mem ha; omega)
theorem Lim.args {B : Nat} {k n : Int} {nm : ByteArray} {args : List T} (h : Lim B (.mk k n nm args)) : args.length ≤ B ∧ ∀ a ∈ args, Lim B a := by cases h; exact ⟨by assumption, by assumption⟩

end Go.Proofs.Ytoeibmfdafilcaa.AM


namespace Go.Proofs.Ytoeibmfdafilcaa.AM
open Go
attribute [local go_sem] List.map_cons List.map_nil List.all_cons List.all_nil Bool.and_self Option.map_some List.getElem?_toArray Option.bind_some gye_b gye_t gsk_b gsk_t gb1 gb2 gb3 gb4 bne_self_eq_false beq_self_eq_true w_guard w_nil stepV_some step_some step_some' w_move w_assign w_pick w_binOp w_unOp w_load w_fieldAddr w_indexAddr w_len w_max w_index ev_max max_int ev_index w_box w_alloc w_store w_field w_extract w_nilCheck w_convert w_buildSlice w_build ev_buildL fillL_nil fillL_cons bs0 bs1 ev_conv ev_bin ev_un ev_pick ev_load ev_fieldAddr ev_indexAddr ev_len ev_field ev_extract ev_nilCheck fr_tmp fr_int fr_bool fr_str fr_nil fr_func put_some put_none bin_lss bin_leq bin_gtr bin_geq bin_eql bin_neq bin_add bin_sub bin_mul bin_seql bin_sneq un_not pick_ ext_ loadA_p cellAt_l cellAt_h okPtr_l okPtr_h fadA_p allocA_l storeA_l cells_agg cells_int cells_str cells_sl cells_bool flat_i flat_s flat_b flat_sl flat_nil loc_agg loc_int loc_str loc_sl loc_bool loc_fn loc_ptr okv_agg okv_int okv_str okv_sl okv_bool cellsFrom splice upd_eval argEnv_zero argEnv_succ ne_eq Nat.add_one_ne_zero not_false_eq_true List.not_mem_nil and_self decide_true List.getElem?_cons_zero List.getElem?_cons_succ List.size_toArray List.length_cons List.length_nil List.take_succ_cons List.take_zero List.drop_succ_cons List.drop_zero List.cons_append List.nil_append List.drop_nil Bool.not_true Bool.not_false Bool.false_eq_true Nat.zero_add Nat.add_zero wrap_in List.toList_toArray List.mem_cons or_self or_false false_or
attribute [local go_sem] ag22 ag24 ag26 ag29 ag3 ag31 ag49 ag54 ag9 ag91 bu31 bu41 bu49 bu54 by31 by49 by54 by9 el22 el26 el29 el45 el50 el68 of24_0 of24_1 of24_2 of24_3 of31_0 of31_1 of31_2 of31_3 of41_0 of41_1 of41_2 of49_0 of49_1 of54_0 of54_1 ro31_0 ro31_1 ro49_1 ro5_1 ro54_0 ro54_1 ro9_0 ro9_1 sz22 sz24 sz26 sz29 sz3 sz31 sz49 sz5 sz54 sz9 sz91 ze3 ze31 ze49 ze54 ze9 ze91
section
/- The marks: laws.markText. -/
open Go Go.Proofs
set_option linter.unusedVariables false
set_option linter.unusedSimpArgs false
set_option maxRecDepth 100000

def digitB (k : Nat) : ByteArray := ⟨#[UInt8.ofNat (48 + k % 10)]⟩
def mtF : Nat → Nat → ByteArray → ByteArray
  | 0, _, acc => acc
  | f + 1, k, acc => if k = 0 then acc else mtF f (k / 10) (digitB k ++ acc)
/-- A mark's text. -/
def mtext (k : Nat) : ByteArray := if k = 0 then ⟨#[109, 48]⟩ else (⟨#[109]⟩ : ByteArray) ++ mtF (k + 1) k ⟨#[]⟩

theorem digit_cell (k : Nat) : Value.int .u8 (IntKind.u8.wrap (48 + (k : Int).tmod 10)) = .int .u8 ((UInt8.ofNat (48 + k % 10)).toNat : Int) := by
  have h1 : (k : Int).tmod 10 = ((k % 10 : Nat) : Int) := by rw [Int.tmod_eq_emod_of_nonneg (by omega)]; omega
  rw [h1]
  have h2 : IntKind.u8.wrap (48 + ((k % 10 : Nat) : Int)) = ((48 + k % 10 : Nat) : Int) := by
    unfold IntKind.wrap
    have hb : IntKind.u8.bits = 8 := rfl
    have hs : IntKind.u8.signed = false := rfl
    simp only [hb, hs, Bool.false_and, Bool.false_eq_true, if_false]
    omega
  rw [h2]
  congr 1
  have : (UInt8.ofNat (48 + k % 10)).toNat = 48 + k % 10 := by
    rw [UInt8.toNat_ofNat']; omega
  rw [this]
theorem app_size (a b : ByteArray) : (a ++ b).size = a.size + b.size := by simp
theorem ne_rem {k : IntKind} {P : Program} {t : TypeId} {x y : Operand} {a : Int} : binE P .rem t x y (.int k a) (.int k 10) = some (.int k (a.tmod 10)) := bin_rem (by decide)
theorem ne_quo {k : IntKind} {P : Program} {t : TypeId} {x y : Operand} {a : Int} : binE P .quo t x y (.int k a) (.int k 10) = some (.int k (k.wrap (a.tdiv 10))) := bin_quo (by decide)

theorem markText_ok (k : Nat) (st : St) (hk : k ≤ 4611686018427380000) : CallS Try.prog 26 [.int .i64 k] st fun r st2 => Ext st st2 ∧ r = .string (mtext k) := by
  refine CallS_of_W [] 20 Try.func26 rfl rfl rfl rfl (by simp) ?_
  by_cases h0 : k = 0
  · have c1 : decide ((k : Int) ≤ 0) = true := by simp; omega
    repeat (first | ((first | refine W_reg rfl fun G K hG hK => ?_ | refine W_end rfl fun G K hG hK => ?_); simp (disch := omega) only [go_sem, ↓reduceIte, Nat.reduceEqDiff, Nat.reduceAdd, Nat.reduceLeDiff, hG, c1]; refine hK _ _ ?_; clear hK K hG G) | refine W_seqS ?_ | refine W_seqC ?_ | refine W_seqB ?_ | refine W_block ?_ | refine W_skip ?_ | (refine W_condT ?hc ?_; (case hc => (simp (disch := omega) only [go_sem, ↓reduceIte, Nat.reduceEqDiff, Nat.reduceAdd, Nat.reduceLeDiff, c1]; done))) | (refine W_condF ?hc ?_; (case hc => (simp (disch := omega) only [go_sem, ↓reduceIte, Nat.reduceEqDiff, Nat.reduceAdd, Nat.reduceLeDiff, c1]; done))) | refine thenI ?_ | refine thenE ?_ | refine thenR ?_ | refine inBI ?_ | refine inBR ?_ | refine inBS ?_ | refine inBN (by decide) ?_)
    refine W_ret ?_; try (repeat (first | refine thenI ?_ | refine thenE ?_ | refine thenR ?_ | refine inBI ?_ | refine inBR ?_ | refine inBS ?_ | refine inBN (by decide) ?_))
    refine fin1 (.inl rfl) (by (simp (disch := omega) only [go_sem, ↓reduceIte, Nat.reduceEqDiff, Nat.reduceAdd, Nat.reduceLeDiff]); try rfl) rfl ⟨Ext.refl _, by unfold mtext; rw [if_pos h0]⟩
  have c1 : decide ((k : Int) ≤ 0) = false := by simp; omega
  repeat (first | ((first | refine W_reg rfl fun G K hG hK => ?_ | refine W_end rfl fun G K hG hK => ?_); simp (disch := omega) only [go_sem, ↓reduceIte, Nat.reduceEqDiff, Nat.reduceAdd, Nat.reduceLeDiff, hG, c1]; refine hK _ _ ?_; clear hK K hG G) | refine W_seqS ?_ | refine W_seqC ?_ | refine W_seqB ?_ | refine W_block ?_ | refine W_skip ?_ | (refine W_condT ?hc ?_; (case hc => (simp (disch := omega) only [go_sem, ↓reduceIte, Nat.reduceEqDiff, Nat.reduceAdd, Nat.reduceLeDiff, c1]; done))) | (refine W_condF ?hc ?_; (case hc => (simp (disch := omega) only [go_sem, ↓reduceIte, Nat.reduceEqDiff, Nat.reduceAdd, Nat.reduceLeDiff, c1]; done))) | refine thenI ?_ | refine thenE ?_ | refine thenR ?_ | refine inBI ?_ | refine inBR ?_ | refine inBS ?_ | refine inBN (by decide) ?_)
  refine W_loop (fun d fr st' => ∃ (j f : Nat) (acc : ByteArray), d = j ∧ j ≤ 4611686018427380000 ∧ j < f ∧ acc.size + j ≤ k ∧ mtF f j acc = mtF (k + 1) k ⟨#[]⟩ ∧ Ext st st' ∧ fr.env 0 = .int .i64 j ∧ fr.env 3 = .string acc) k ?_ ?_
  · exact ⟨k, k + 1, ⟨#[]⟩, rfl, hk, by omega, by simp [ByteArray.size], rfl, Ext.refl _, (by (simp (disch := omega) only [go_sem, ↓reduceIte, Nat.reduceEqDiff, Nat.reduceAdd, Nat.reduceLeDiff]); try rfl), (by (simp (disch := omega) only [go_sem, ↓reduceIte, Nat.reduceEqDiff, Nat.reduceAdd, Nat.reduceLeDiff]); try rfl)⟩
  rintro d ⟨env, loc⟩ st' ⟨j, f, acc, rfl, hj, hf, hsz, hm, hext, e0, e3⟩
  simp only at e0 e3
  by_cases hlt : 0 < d
  · have c2 : decide ((d : Int) > 0) = true := by simp; omega
    obtain ⟨f, rfl⟩ : ∃ g, f = g + 1 := ⟨f - 1, by omega⟩
    have hq : (d : Int).tdiv 10 = ((d / 10 : Nat) : Int) := by rw [Int.tdiv_eq_ediv_of_nonneg (by omega)]; omega
    have hr1 : (d : Int).tmod 10 ≤ 9 ∧ 0 ≤ (d : Int).tmod 10 := by rw [Int.tmod_eq_emod_of_nonneg (by omega)]; omega
    have hci : ∀ n : Int, cvI Try.prog 3 5 (.int .i64 n) = some (.int .u8 (IntKind.u8.wrap n)) := fun n => cvI_int Try.underlying3 Try.underlying5
    have hfl : ∀ (i o n c : Nat), flat (.slice (some ⟨i, o, none⟩) n c) = false := fun _ _ _ _ => rfl
    have hfi : ∀ (k : IntKind) (n : Int), flat (.int k n) = true := fun _ _ => rfl
    have hcb : cvB Try.prog [] 68 9 (.slice (some ⟨st'.length, 0, none⟩) 1 1) loc (st' ++ [⟨[.int .u8 (IntKind.u8.wrap (48 + (d : Int).tmod 10))], 5, 0⟩]) = some (.string (digitB d)) := by
      rw [digit_cell]
      have := cvB_str (A := []) (loc := loc) (st := st' ++ [⟨[.int .u8 ((UInt8.ofNat (48 + d % 10)).toNat : Int)], 5, 0⟩]) (q := digitB d) (b := st'.length) (o := 0) (c := 1) Try.underlying68 Try.underlying5 Try.underlying9 (fun j v hv => by
        unfold cell; simp; simpa [strCells, digitB] using hv)
      exact this
    have hadd : ∀ (t : TypeId) (x y : Operand), binE Try.prog .add t x y (.string (digitB d)) (.string acc) = some (.string (digitB d ++ acc)) := fun t x y => bin_sadd (by have : (digitB d).size = 1 := rfl; omega)
    repeat (first | ((first | refine W_reg rfl fun G K hG hK => ?_ | refine W_end rfl fun G K hG hK => ?_); simp (disch := omega) only [go_sem, ↓reduceIte, Nat.reduceEqDiff, Nat.reduceAdd, Nat.reduceLeDiff, hG, e0, e3, c2, ne_rem, ne_quo, hci, hcb, hadd, hq, List.toList_toArray]; refine hK _ _ ?_; clear hK K hG G) | refine W_seqS ?_ | refine W_seqC ?_ | refine W_seqB ?_ | refine W_block ?_ | refine W_skip ?_ | (refine W_condT ?hc ?_; (case hc => (simp (disch := omega) only [go_sem, ↓reduceIte, Nat.reduceEqDiff, Nat.reduceAdd, Nat.reduceLeDiff, e0, e3, c2, ne_rem, ne_quo, hci, hcb, hadd, hq, List.toList_toArray]; done))) | (refine W_condF ?hc ?_; (case hc => (simp (disch := omega) only [go_sem, ↓reduceIte, Nat.reduceEqDiff, Nat.reduceAdd, Nat.reduceLeDiff, e0, e3, c2, ne_rem, ne_quo, hci, hcb, hadd, hq, List.toList_toArray]; done))) | refine thenI ?_ | refine thenE ?_ | refine thenR ?_ | refine inBI ?_ | refine inBR ?_ | refine inBS ?_ | refine inBN (by decide) ?_)
    have hdz : d ≠ 0 := by omega
    refine ⟨d / 10, by omega, d / 10, f, digitB d ++ acc, rfl, by omega, by omega, ?_, ?_, ?_, (by (simp (disch := omega) only [go_sem, ↓reduceIte, Nat.reduceEqDiff, Nat.reduceAdd, Nat.reduceLeDiff]); try rfl), (by (simp (disch := omega) only [go_sem, ↓reduceIte, Nat.reduceEqDiff, Nat.reduceAdd, Nat.reduceLeDiff]); try rfl)⟩
    · rw [app_size]
      have : (digitB d).size = 1 := rfl
      omega
    · rw [← hm]; simp only [mtF]; rw [if_neg hdz]
    · exact hext.trans (Ext.app _ _)
  · have hd0 : d = 0 := by omega
    subst hd0
    obtain ⟨f, rfl⟩ : ∃ g, f = g + 1 := ⟨f - 1, by omega⟩
    have c2 : decide (((0 : Nat) : Int) > 0) = false := by simp
    have hm' : acc = mtF (k + 1) k ⟨#[]⟩ := by rw [← hm]; simp only [mtF, if_true]
    have hadd : ∀ (t : TypeId) (x y : Operand), binE Try.prog .add t x y (.string ⟨#[109]⟩) (.string acc) = some (.string (⟨#[109]⟩ ++ acc)) := fun t x y => bin_sadd (by have : (⟨#[109]⟩ : ByteArray).size = 1 := rfl; omega)
    repeat (first | ((first | refine W_reg rfl fun G K hG hK => ?_ | refine W_end rfl fun G K hG hK => ?_); simp (disch := omega) only [go_sem, ↓reduceIte, Nat.reduceEqDiff, Nat.reduceAdd, Nat.reduceLeDiff, hG, e0, e3, c2]; refine hK _ _ ?_; clear hK K hG G) | refine W_seqS ?_ | refine W_seqC ?_ | refine W_seqB ?_ | refine W_block ?_ | refine W_skip ?_ | (refine W_condT ?hc ?_; (case hc => (simp (disch := omega) only [go_sem, ↓reduceIte, Nat.reduceEqDiff, Nat.reduceAdd, Nat.reduceLeDiff, e0, e3, c2]; done))) | (refine W_condF ?hc ?_; (case hc => (simp (disch := omega) only [go_sem, ↓reduceIte, Nat.reduceEqDiff, Nat.reduceAdd, Nat.reduceLeDiff, e0, e3, c2]; done))) | refine thenI ?_ | refine thenE ?_ | refine thenR ?_ | refine inBI ?_ | refine inBR ?_ | refine inBS ?_ | refine inBN (by decide) ?_)
    refine W_exit ?_; repeat (first | refine thenI ?_ | refine thenE ?_ | refine thenR ?_ | refine inBI ?_ | refine inBR ?_ | refine inBS ?_ | refine inBN (by decide) ?_)
    repeat (first | ((first | refine W_reg rfl fun G K hG hK => ?_ | refine W_end rfl fun G K hG hK => ?_); simp (disch := omega) only [go_sem, ↓reduceIte, Nat.reduceEqDiff, Nat.reduceAdd, Nat.reduceLeDiff, hG, e3, hadd]; refine hK _ _ ?_; clear hK K hG G) | refine W_seqS ?_ | refine W_seqC ?_ | refine W_seqB ?_ | refine W_block ?_ | refine W_skip ?_ | (refine W_condT ?hc ?_; (case hc => (simp (disch := omega) only [go_sem, ↓reduceIte, Nat.reduceEqDiff, Nat.reduceAdd, Nat.reduceLeDiff, e3, hadd]; done))) | (refine W_condF ?hc ?_; (case hc => (simp (disch := omega) only [go_sem, ↓reduceIte, Nat.reduceEqDiff, Nat.reduceAdd, Nat.reduceLeDiff, e3, hadd]; done))) | refine thenI ?_ | refine thenE ?_ | refine thenR ?_ | refine inBI ?_ | refine inBR ?_ | refine inBS ?_ | refine inBN (by decide) ?_)
    refine W_ret ?_; try (repeat (first | refine thenI ?_ | refine thenE ?_ | refine thenR ?_ | refine inBI ?_ | refine inBR ?_ | refine inBS ?_ | refine inBN (by decide) ?_))
    refine fin1 (.inl rfl) (by (simp (disch := omega) only [go_sem, ↓reduceIte, Nat.reduceEqDiff, Nat.reduceAdd, Nat.reduceLeDiff]); try rfl) rfl ⟨hext, by unfold mtext; rw [if_neg h0, ← hm']⟩

end

section
/- The marks: laws.markTermS, laws.markTerm, laws.heldTermS, laws.heldTerm. -/
open Go Go.Proofs
set_option linter.unusedVariables false
set_option linter.unusedSimpArgs false
set_option maxRecDepth 100000

mutual
def T.mk1 : T → Nat → T × Nat
  | .mk _ _ _ args, k => (.mk k (k + 1 : Nat) (mtext (k + 2)) (T.mkL args (k + 3)).1, (T.mkL args (k + 3)).2)
def T.mkL : List T → Nat → List T × Nat
  | [], k => ([], k)
  | x :: xs, k => ((x.mk1 k).1 :: (T.mkL xs (x.mk1 k).2).1, (T.mkL xs (x.mk1 k).2).2)
end
theorem T.mkL_len (xs : List T) (k : Nat) : (T.mkL xs k).1.length = xs.length := by
  induction xs generalizing k with
  | nil => rfl
  | cons x xs ih => simp only [T.mkL, List.length_cons, ih]
theorem T.mkL_app (xs ys : List T) (k : Nat) : T.mkL (xs ++ ys) k = ((T.mkL xs k).1 ++ (T.mkL ys (T.mkL xs k).2).1, (T.mkL ys (T.mkL xs k).2).2) := by
  induction xs generalizing k with
  | nil => rfl
  | cons x xs ih => simp only [List.cons_append, T.mkL, ih]
theorem T.mk1_ge : ∀ (t : T) (k : Nat), k ≤ (t.mk1 k).2 ∧ k + 3 ≤ (t.mk1 k).2 := by
  refine T.ind fun k0 n nm args ih k => ?_
  have : ∀ (l : List T), (∀ a ∈ l, ∀ k, k ≤ (a.mk1 k).2 ∧ k + 3 ≤ (a.mk1 k).2) → ∀ k, k ≤ (T.mkL l k).2 := by
    intro l
    induction l with
    | nil => intro _ k; exact Nat.le_refl _
    | cons x xs ihx =>
      intro h k
      simp only [T.mkL]
      have h1 := (h x (by simp) k).1
      have h2 := ihx (fun a ha => h a (by simp [ha])) (x.mk1 k).2
      omega
  have h := this args ih (k + 3)
  simp only [T.mk1]
  omega
theorem T.mkL_ge (l : List T) (k : Nat) : k ≤ (T.mkL l k).2 := by
  induction l generalizing k with
  | nil => exact Nat.le_refl _
  | cons x xs ih => simp only [T.mkL]; have h1 := (T.mk1_ge x k).1; have h2 := ih (x.mk1 k).2; omega

theorem store_cell {P : Program} {t e : TypeId} {i o : Nat} {c1 c2 : List Value} {x v : Value} {loc : Nat → Nat × List Value} {st : St} (hs : szA P t = some 1) (hb : st[i]? = some ⟨c1 ++ x :: c2, e, 0⟩) (ho : c1.length = o) (hok : okv v = true) (hc : vc v = #[v]) :
    storeA P t (.pointer (some ⟨i, o, none⟩)) v loc st = some (loc, st.set i ⟨c1 ++ v :: c2, e, 0⟩) := by
  subst ho
  rw [storeA_h]
  have h1 : (#[v] : Array Value).toList = [v] := rfl
  simp only [hok, if_true, hs, hb, hc, List.size_toArray, List.length_singleton, true_and, h1]
  rw [if_pos (by simp)]
  unfold AM.splice
  simp

theorem cell_mid {st : St} {i o : Nat} {c1 c2 : List Value} {x : Value} {e : TypeId} (hb : st[i]? = some ⟨c1 ++ x :: c2, e, 0⟩) (ho : c1.length = o) : cell st i o = some x := by
  subst ho
  rw [cell_of hb]; simp

theorem SliceO.at_ {st : St} {e : TypeId} {xs : List T} {s : Value} {L : List Nat} (h : SliceO (Own e st) e st xs s L) {j : Nat} {k n : Int} {nm : ByteArray} {args : List T} (hx : xs[j]? = some (.mk k n nm args)) :
    ∃ i c c1 c2 s' L1 Lx L2, s = .slice (some ⟨i, 0, none⟩) xs.length c ∧ st[i]? = some ⟨c1 ++ .int .i64 k :: .int .i64 n :: .string nm :: s' :: c2, e, 0⟩ ∧ c1.length = j * 4 ∧ RowO (Own e st) (xs.take j) c1 L1 ∧ SliceO (Own e st) e st args s' Lx ∧ RowO (Own e st) (xs.drop (j + 1)) c2 L2 ∧ L = i :: (L1 ++ Lx ++ L2) := by
  rcases h with ⟨rfl, rfl, rfl⟩ | ⟨i, c, cs, K, rfl, hb, hr, rfl⟩
  · simp at hx
  · obtain ⟨c1, cx, c2, L1, Lx, L2, h1, h2, h3, rfl, rfl⟩ := hr.split j _ hx
    obtain ⟨s', rfl, hs'⟩ := h2.open
    have hl := h1.len Own.len
    have hj : j < xs.length := (List.getElem?_eq_some_iff.1 hx).1
    refine ⟨i, c, c1, c2, s', L1, Lx, L2, rfl, by simpa using hb, by rw [hl, List.length_take, Nat.min_eq_left (by omega)], h1, hs', h3, rfl⟩

theorem RowO.frame {st st' : St} {e : TypeId} {xs : List T} {cs : List Value} {L : List Nat} (h : RowO (Own e st) xs cs L) (hs : SameOn L st st') : RowO (Own e st') xs cs L :=
  h.mono fun x _ cx Lx hL he => Own.frame x cx Lx (fun j hj => hs j (hL j hj)) he

/-- The place holds another tree, all else of the row is as it was. -/
theorem SliceO.put {st st' : St} {e : TypeId} {xs ys : List T} {i c j : Nat} {c1 c2 : List Value} {s' : Value} {L1 Lx L2 : List Nat} {k n : Int} {nm : ByteArray} {args : List T} (hj : j < xs.length) (hl1 : ys.length = j)
    (h1 : RowO (Own e st) ys c1 L1) (h2 : RowO (Own e st) (xs.drop (j + 1)) c2 L2) (hb : st'[i]? = some ⟨c1 ++ .int .i64 k :: .int .i64 n :: .string nm :: s' :: c2, e, 0⟩) (hx : SliceO (Own e st') e st' args s' Lx)
    (hs1 : SameOn L1 st st') (hs2 : SameOn L2 st st') : SliceO (Own e st') e st' (ys ++ .mk k n nm args :: xs.drop (j + 1)) (.slice (some ⟨i, 0, none⟩) xs.length c) (i :: (L1 ++ Lx ++ L2)) := by
  refine .inr ⟨i, c, _, L1 ++ Lx ++ L2, ?_, hb, ?_, rfl⟩
  · have : (ys ++ T.mk k n nm args :: xs.drop (j + 1)).length = xs.length := by simp; omega
    rw [this]
  · rw [List.append_assoc]
    exact (h1.frame hs1).app (.cons _ _ [_, _, _, _] c2 Lx L2 (Own.close k n nm hx) (h2.frame hs2))

theorem get_set_ne {st : St} {i j : Nat} {b : Blk} (h : j ≠ i) : (st.set i b)[j]? = st[j]? := by rw [List.getElem?_set, if_neg (Ne.symm h)]
theorem get_set_eq {st : St} {i : Nat} {b b0 : Blk} (h : st[i]? = some b0) : (st.set i b)[i]? = some b := by
  have := (List.getElem?_eq_some_iff.1 h).1
  rw [List.getElem?_set]; simp [this]

theorem store_at {P : Program} {t e : TypeId} {i o : Nat} {c1 c2 : List Value} {x : Value} (v : Value) {st : St} (hs : szA P t = some 1) (hb : st[i]? = some ⟨c1 ++ x :: c2, e, 0⟩) (ho : c1.length = o) (hok : okv v = true) (hc : vc v = #[v]) :
    ∃ st1, (∀ loc, storeA P t (.pointer (some ⟨i, o, none⟩)) v loc st = some (loc, st1)) ∧ st1[i]? = some ⟨c1 ++ v :: c2, e, 0⟩ ∧ st1.length = st.length ∧ ∀ j, j ≠ i → st1[j]? = st[j]? :=
  ⟨_, fun _ => store_cell hs hb ho hok hc, get_set_eq hb, by simp, fun j hj => get_set_ne hj⟩

theorem markTermS_of (xs : List T) (st : St) (s : Value) (L : List Nat) (k : Nat) (hbig : xs.length ≤ 1073741824) (hk : (T.mkL xs k).2 ≤ 4611686018427380000) (hs : SliceO (Own 31 st) 31 st xs s L) (hnd : L.Nodup)
    (ih : ∀ k0 n0 nm args, T.mk k0 n0 nm args ∈ xs → ∀ (st : St) s L k, (T.mkL args k).2 ≤ 4611686018427380000 → SliceO (Own 31 st) 31 st args s L → L.Nodup →
      CallS Try.prog 25 [s, .int .i64 k] st fun r st2 => r = .int .i64 (T.mkL args k).2 ∧ SliceO (Own 31 st2) 31 st2 (T.mkL args k).1 s L ∧ st.length ≤ st2.length ∧ ∀ i, i < st.length → i ∉ L → st2[i]? = st[i]?) :
    CallS Try.prog 25 [s, .int .i64 k] st fun r st2 => r = .int .i64 (T.mkL xs k).2 ∧ SliceO (Own 31 st2) 31 st2 (T.mkL xs k).1 s L ∧ st.length ≤ st2.length ∧ ∀ i, i < st.length → i ∉ L → st2[i]? = st[i]? := by
  refine CallS_of_W [] 42 Try.func25 rfl rfl rfl rfl (by simp) ?_
  repeat (first | ((first | refine W_reg rfl fun G K hG hK => ?_ | refine W_end rfl fun G K hG hK => ?_); simp (disch := omega) only [go_sem, ↓reduceIte, Nat.reduceEqDiff, Nat.reduceAdd, Nat.reduceLeDiff, hG]; refine hK _ _ ?_; clear hK K hG G) | refine W_seqS ?_ | refine W_seqC ?_ | refine W_seqB ?_ | refine W_block ?_ | refine W_skip ?_ | (refine W_condT ?hc ?_; (case hc => (simp (disch := omega) only [go_sem, ↓reduceIte, Nat.reduceEqDiff, Nat.reduceAdd, Nat.reduceLeDiff]; done))) | (refine W_condF ?hc ?_; (case hc => (simp (disch := omega) only [go_sem, ↓reduceIte, Nat.reduceEqDiff, Nat.reduceAdd, Nat.reduceLeDiff]; done))) | refine thenI ?_ | refine thenE ?_ | refine thenR ?_ | refine inBI ?_ | refine inBR ?_ | refine inBS ?_ | refine inBN (by decide) ?_)
  refine W_loop (fun d fr st' => ∃ (j : Nat), d = xs.length - j ∧ j ≤ xs.length ∧ SliceO (Own 31 st') 31 st' ((T.mkL (xs.take j) k).1 ++ xs.drop j) s L ∧ st.length ≤ st'.length ∧ (∀ i, i < st.length → i ∉ L → st'[i]? = st[i]?)
    ∧ fr.env 5 = .int .i64 j ∧ fr.env 0 = s ∧ fr.env 1 = .int .i64 (T.mkL (xs.take j) k).2) xs.length ?_ ?_
  · exact ⟨0, by omega, by omega, by simpa [T.mkL] using hs, Nat.le_refl _, fun _ _ _ => rfl, (by (simp (disch := omega) only [go_sem, ↓reduceIte, Nat.reduceEqDiff, Nat.reduceAdd, Nat.reduceLeDiff]); try rfl), (by (simp (disch := omega) only [go_sem, ↓reduceIte, Nat.reduceEqDiff, Nat.reduceAdd, Nat.reduceLeDiff]); try rfl), (by (simp (disch := omega) only [go_sem, ↓reduceIte, Nat.reduceEqDiff, Nat.reduceAdd, Nat.reduceLeDiff]); try rfl)⟩
  rintro d ⟨env, loc⟩ st' ⟨j, hd, hj, hsl, hle, hoth, e5, e0, e1⟩
  simp only at e5 e0 e1
  have hml : (T.mkL (xs.take j) k).1.length = j := by rw [T.mkL_len]; simp; omega
  have hlen : lenE Try.prog 29 s = some (.int .i64 xs.length) := by
    have := row_len (hsl.row (E' := fun _ _ => True) Own.len fun _ _ _ _ _ => trivial) Try.underlying29
    rw [this]; simp [hml]; omega
  by_cases hlt : j < xs.length
  · have c1 : decide ((j : Int) < (xs.length : Int)) = true := by simpa using hlt
    have hi := idxOk hlt
    have htk : xs.take (j + 1) = xs.take j ++ [xs[j]] := List.take_succ_eq_append_getElem hlt
    have hdr : xs.drop j = xs[j] :: xs.drop (j + 1) := List.drop_eq_getElem_cons hlt
    generalize hkj : (T.mkL (xs.take j) k).2 = kj at e1
    have hke : (T.mkL xs k).2 = (T.mkL (xs.drop j) kj).2 := by
      conv => lhs; rw [← List.take_append_drop j xs, T.mkL_app]
      rw [hkj]
    have hxm : xs[j] ∈ xs := List.getElem_mem hlt
    revert hxm
    cases hxj : xs[j] with | mk k0 n0 nm args => ?_
    intro hxm
    rw [hxj] at htk hdr
    have hmk : ((T.mk k0 n0 nm args).mk1 kj) = (.mk kj (kj + 1 : Nat) (mtext (kj + 2)) (T.mkL args (kj + 3)).1, (T.mkL args (kj + 3)).2) := rfl
    have hkb : (T.mkL args (kj + 3)).2 ≤ 4611686018427380000 := by
      have h1 := T.mkL_ge (xs.drop (j + 1)) (T.mkL args (kj + 3)).2
      rw [hdr] at hke
      simp only [T.mkL, hmk] at hke
      omega
    have hkg := T.mkL_ge args (kj + 3)
    have hnx : (T.mkL (xs.take (j + 1)) k) = ((T.mkL (xs.take j) k).1 ++ [.mk kj (kj + 1 : Nat) (mtext (kj + 2)) (T.mkL args (kj + 3)).1], (T.mkL args (kj + 3)).2) := by
      rw [htk, T.mkL_app, hkj]; rfl
    have hat : ((T.mkL (xs.take j) k).1 ++ xs.drop j)[j]? = some (.mk k0 n0 nm args) := by
      rw [List.getElem?_append_right (by omega), hml, Nat.sub_self, hdr]; rfl
    obtain ⟨i, c, l1, l2, s', L1, Lx, L2, rfl, hb, hcl, hr1, hsx, hr2, rfl⟩ := hsl.at_ hat
    have hlt2 : (((T.mkL (xs.take j) k).1 ++ xs.drop j)).length = xs.length := by simp [hml]; omega
    rw [List.take_left' hml] at hr1
    have hd2 : ((T.mkL (xs.take j) k).1 ++ xs.drop j).drop (j + 1) = xs.drop (j + 1) := by
      rw [List.drop_append, hml, Nat.add_sub_cancel_left, List.drop_eq_nil_of_le (by omega), hdr]; rfl
    rw [hd2] at hr2
    simp only [hlt2] at hlen e0 hnd hoth hsl ⊢
    have hib : i < st'.length := (List.getElem?_eq_some_iff.1 hb).1
    have w1 : IntKind.i64.wrap ((kj : Int) + 1) = ((kj + 1 : Nat) : Int) := by rw [wrap_in (by omega) (by omega)]; rfl
    have w2 : IntKind.i64.wrap (((kj + 1 : Nat) : Int) + 1) = ((kj + 2 : Nat) : Int) := by rw [wrap_in (by omega) (by omega)]; omega
    have w3 : IntKind.i64.wrap (((kj + 2 : Nat) : Int) + 1) = ((kj + 3 : Nat) : Int) := by rw [wrap_in (by omega) (by omega)]; omega
    obtain ⟨st1, k1, hb1, hn1, hf1⟩ := store_at (.int .i64 kj) sz3 hb hcl rfl rfl
    obtain ⟨st2, k2, hb2, hn2, hf2⟩ := store_at (e := 31) (c1 := l1 ++ [.int .i64 kj]) (c2 := .string nm :: s' :: l2) (.int .i64 (kj + 1 : Nat)) (st := st1) (x := .int .i64 n0) (o := j * 4 + 1) sz3 (by rw [hb1]; simp) (by simp; omega) rfl rfl
    have k2' := k2
    repeat (first | ((first | refine W_reg rfl fun G K hG hK => ?_ | refine W_end rfl fun G K hG hK => ?_); simp (disch := omega) only [go_sem, ↓reduceIte, Nat.reduceEqDiff, Nat.reduceAdd, Nat.reduceLeDiff, hG, e5, e0, e1, hlen, c1, idxA, Int.toNat_natCast, hi, k1, w1, k2, w2]; refine hK _ _ ?_; clear hK K hG G) | refine W_seqS ?_ | refine W_seqC ?_ | refine W_seqB ?_ | refine W_block ?_ | refine W_skip ?_ | (refine W_condT ?hc ?_; (case hc => (simp (disch := omega) only [go_sem, ↓reduceIte, Nat.reduceEqDiff, Nat.reduceAdd, Nat.reduceLeDiff, e5, e0, e1, hlen, c1, idxA, Int.toNat_natCast, hi, k1, w1, k2, w2]; done))) | (refine W_condF ?hc ?_; (case hc => (simp (disch := omega) only [go_sem, ↓reduceIte, Nat.reduceEqDiff, Nat.reduceAdd, Nat.reduceLeDiff, e5, e0, e1, hlen, c1, idxA, Int.toNat_natCast, hi, k1, w1, k2, w2]; done))) | refine thenI ?_ | refine thenE ?_ | refine thenR ?_ | refine inBI ?_ | refine inBR ?_ | refine inBS ?_ | refine inBN (by decide) ?_)
    (repeat (first | refine W_seqS ?_ | refine W_seqC ?_ | refine W_seqB ?_ | refine W_block ?_)); refine W_reg rfl fun G K hG hK => ?_; simp (disch := omega) only [go_sem, ↓reduceIte, Nat.reduceEqDiff, Nat.reduceAdd, Nat.reduceLeDiff, hG, e5, e0, e1, idxA, Int.toNat_natCast, hi]
    refine w_call (markText_ok (kj + 2) st2 (by omega)) (by simp (disch := omega) only [go_sem, ↓reduceIte, Nat.reduceEqDiff]) ?hl ?_
    case hl => first | rfl | (simp only [go_sem, List.all_cons, List.all_nil, Bool.not_false, Bool.and_self]; done)
    rintro r_ s_ ⟨hx, rfl⟩; refine ⟨fun e => (by cases e), ?_⟩
    obtain ⟨st3, k3, hb3, hn3, hf3⟩ := store_at (e := 31) (c1 := l1 ++ [.int .i64 kj, .int .i64 (kj + 1 : Nat)]) (c2 := s' :: l2) (.string (mtext (kj + 2))) (st := s_) (x := .string nm) (o := j * 4 + 2) sz9 (by rw [hx _ _ hb2]; simp) (by simp; omega) rfl rfl
    simp (disch := omega) only [go_sem, ↓reduceIte, Nat.reduceEqDiff, Nat.reduceAdd, Nat.reduceLeDiff, hG, e5, e0, e1, idxA, Int.toNat_natCast, hi, k3]; refine hK _ _ ?_; clear hK K hG G; repeat (first | refine thenI ?_ | refine thenE ?_ | refine thenR ?_ | refine inBI ?_ | refine inBR ?_ | refine inBS ?_ | refine inBN (by decide) ?_)
    repeat (first | ((first | refine W_reg rfl fun G K hG hK => ?_ | refine W_end rfl fun G K hG hK => ?_); simp (disch := omega) only [go_sem, ↓reduceIte, Nat.reduceEqDiff, Nat.reduceAdd, Nat.reduceLeDiff, hG, e1, w3]; refine hK _ _ ?_; clear hK K hG G) | refine W_seqS ?_ | refine W_seqC ?_ | refine W_seqB ?_ | refine W_block ?_ | refine W_skip ?_ | (refine W_condT ?hc ?_; (case hc => (simp (disch := omega) only [go_sem, ↓reduceIte, Nat.reduceEqDiff, Nat.reduceAdd, Nat.reduceLeDiff, e1, w3]; done))) | (refine W_condF ?hc ?_; (case hc => (simp (disch := omega) only [go_sem, ↓reduceIte, Nat.reduceEqDiff, Nat.reduceAdd, Nat.reduceLeDiff, e1, w3]; done))) | refine thenI ?_ | refine thenE ?_ | refine thenR ?_ | refine inBI ?_ | refine inBR ?_ | refine inBS ?_ | refine inBN (by decide) ?_)
    have hc3 : cell st3 i (j * 4 + 3) = some s' := cell_mid (e := 31) (c2 := l2) (c1 := l1 ++ [.int .i64 kj, .int .i64 (kj + 1 : Nat), .string (mtext (kj + 2))]) (by rw [hb3]; simp) (by simp; omega)
    refine W_end rfl fun G K hG hK => ?_; simp (disch := omega) only [go_sem, ↓reduceIte, Nat.reduceEqDiff, Nat.reduceAdd, Nat.reduceLeDiff, hG, e5, e0, e1, w3, idxA, Int.toNat_natCast, hi, hc3, ag29]
    have hxl := hx.length
    have hf3' : ∀ q, q ≠ i → q < st'.length → st3[q]? = st'[q]? := fun q hq hql => by
      rw [hf3 q hq, hx.get (by omega), hf2 q hq, hf1 q hq]
    obtain ⟨hi0, hnd1⟩ := List.nodup_cons.1 hnd
    obtain ⟨hnd2, hnd3, hnd4⟩ := List.nodup_append.1 hnd1
    obtain ⟨hnd5, hnd6, hnd7⟩ := List.nodup_append.1 hnd2
    have hlts := hsl.lt fun x cx Lx h => Own.lt x cx Lx h
    have hsx3 := hsx.frame (E := fun st => Own 31 st) (st' := st3) (fun _ _ => Own.frame) (fun q hq => hf3' q (fun e => hi0 (by simp [← e, hq])) (hlts q (by simp [hq])))
    have hob := hsx.okv
    have hcb := hsx.cells
    have hlb := hsx.loc
    refine w_call (ih k0 n0 nm args hxm st3 s' Lx (kj + 3) hkb hsx3 hnd6) (by simp (disch := omega) only [go_sem, ↓reduceIte, Nat.reduceEqDiff, hlb]) ?hl ?_
    case hl => first | rfl | (simp only [go_sem, List.all_cons, List.all_nil, Bool.not_false, Bool.and_self, hlb]; done)
    rintro r_ s_ ⟨rfl, hsn, hle2, hot2⟩; refine ⟨fun e => (by cases e), ?_⟩
    simp (disch := omega) only [go_sem, ↓reduceIte, Nat.reduceEqDiff, Nat.reduceAdd, Nat.reduceLeDiff, hG]; refine hK _ _ ?_; clear hK K hG G; repeat (first | refine thenI ?_ | refine thenE ?_ | refine thenR ?_ | refine inBI ?_ | refine inBR ?_ | refine inBS ?_ | refine inBN (by decide) ?_)
    repeat (first | ((first | refine W_reg rfl fun G K hG hK => ?_ | refine W_end rfl fun G K hG hK => ?_); simp (disch := omega) only [go_sem, ↓reduceIte, Nat.reduceEqDiff, Nat.reduceAdd, Nat.reduceLeDiff, hG, e5]; refine hK _ _ ?_; clear hK K hG G) | refine W_seqS ?_ | refine W_seqC ?_ | refine W_seqB ?_ | refine W_block ?_ | refine W_skip ?_ | (refine W_condT ?hc ?_; (case hc => (simp (disch := omega) only [go_sem, ↓reduceIte, Nat.reduceEqDiff, Nat.reduceAdd, Nat.reduceLeDiff, e5]; done))) | (refine W_condF ?hc ?_; (case hc => (simp (disch := omega) only [go_sem, ↓reduceIte, Nat.reduceEqDiff, Nat.reduceAdd, Nat.reduceLeDiff, e5]; done))) | refine thenI ?_ | refine thenE ?_ | refine thenR ?_ | refine inBI ?_ | refine inBR ?_ | refine inBS ?_ | refine inBN (by decide) ?_)
    have hib3 : s_[i]? = _ := (hot2 i (by omega) (fun h => hi0 (by simp [h]))).trans hb3
    have hqn : ∀ q, q < st'.length → q ≠ i → q ∉ Lx → s_[q]? = st'[q]? := fun q h1 h2 h3 => by rw [hot2 q (by omega) h3, hf3' q h2 h1]
    have hput := SliceO.put (st := st') (st' := s_) (xs := xs) (c := c) (k := kj) (n := (kj + 1 : Nat)) (nm := mtext (kj + 2)) hlt hml hr1 hr2 (by rw [hib3]; simp) hsn
      (fun q hq => hqn q (hlts q (by simp [hq])) (fun e => hi0 (by simp [← e, hq])) (fun h => hnd7 q hq q h rfl))
      (fun q hq => hqn q (hlts q (by simp [hq])) (fun e => hi0 (by simp [← e, hq])) (fun h => hnd4 q (by simp [h]) q hq rfl))
    refine ⟨xs.length - (j + 1), by omega, j + 1, rfl, by omega, ?_, by omega, fun q h1 h2 => ?_, (by (simp (disch := omega) only [go_sem, ↓reduceIte, Nat.reduceEqDiff, Nat.reduceAdd, Nat.reduceLeDiff]); try rfl), (by (simp (disch := omega) only [go_sem, ↓reduceIte, Nat.reduceEqDiff, Nat.reduceAdd, Nat.reduceLeDiff, e0]); try rfl), ?_⟩
    · rw [hnx]; simpa using hput
    · rw [hqn q (by omega) (fun e => h2 (by simp [e])) (fun h => h2 (by simp [h])), hoth q h1 h2]
    · rw [hnx]; simp (disch := omega) only [go_sem, ↓reduceIte, Nat.reduceEqDiff, Nat.reduceAdd, Nat.reduceLeDiff]
  · have c1 : decide ((j : Int) < (xs.length : Int)) = false := by simpa using hlt
    have hjn : j = xs.length := by omega
    subst hjn
    rw [List.take_length] at e1 hsl
    repeat (first | ((first | refine W_reg rfl fun G K hG hK => ?_ | refine W_end rfl fun G K hG hK => ?_); simp (disch := omega) only [go_sem, ↓reduceIte, Nat.reduceEqDiff, Nat.reduceAdd, Nat.reduceLeDiff, hG, e5, e0, e1, hlen, c1]; refine hK _ _ ?_; clear hK K hG G) | refine W_seqS ?_ | refine W_seqC ?_ | refine W_seqB ?_ | refine W_block ?_ | refine W_skip ?_ | (refine W_condT ?hc ?_; (case hc => (simp (disch := omega) only [go_sem, ↓reduceIte, Nat.reduceEqDiff, Nat.reduceAdd, Nat.reduceLeDiff, e5, e0, e1, hlen, c1]; done))) | (refine W_condF ?hc ?_; (case hc => (simp (disch := omega) only [go_sem, ↓reduceIte, Nat.reduceEqDiff, Nat.reduceAdd, Nat.reduceLeDiff, e5, e0, e1, hlen, c1]; done))) | refine thenI ?_ | refine thenE ?_ | refine thenR ?_ | refine inBI ?_ | refine inBR ?_ | refine inBS ?_ | refine inBN (by decide) ?_)
    refine W_exit ?_; repeat (first | refine thenI ?_ | refine thenE ?_ | refine thenR ?_ | refine inBI ?_ | refine inBR ?_ | refine inBS ?_ | refine inBN (by decide) ?_)
    repeat (first | ((first | refine W_reg rfl fun G K hG hK => ?_ | refine W_end rfl fun G K hG hK => ?_); simp (disch := omega) only [go_sem, ↓reduceIte, Nat.reduceEqDiff, Nat.reduceAdd, Nat.reduceLeDiff, hG, e1]; refine hK _ _ ?_; clear hK K hG G) | refine W_seqS ?_ | refine W_seqC ?_ | refine W_seqB ?_ | refine W_block ?_ | refine W_skip ?_ | (refine W_condT ?hc ?_; (case hc => (simp (disch := omega) only [go_sem, ↓reduceIte, Nat.reduceEqDiff, Nat.reduceAdd, Nat.reduceLeDiff, e1]; done))) | (refine W_condF ?hc ?_; (case hc => (simp (disch := omega) only [go_sem, ↓reduceIte, Nat.reduceEqDiff, Nat.reduceAdd, Nat.reduceLeDiff, e1]; done))) | refine thenI ?_ | refine thenE ?_ | refine thenR ?_ | refine inBI ?_ | refine inBR ?_ | refine inBS ?_ | refine inBN (by decide) ?_)
    refine W_ret ?_; try (repeat (first | refine thenI ?_ | refine thenE ?_ | refine thenR ?_ | refine inBI ?_ | refine inBR ?_ | refine inBS ?_ | refine inBN (by decide) ?_))
    refine fin1 (.inl rfl) (by (simp (disch := omega) only [go_sem, ↓reduceIte, Nat.reduceEqDiff, Nat.reduceAdd, Nat.reduceLeDiff, e1]); try rfl) rfl ⟨rfl, by simpa using hsl, hle, hoth⟩

theorem markTerm_of (k0 n0 : Int) (nm : ByteArray) (args : List T) (st : St) (s : Value) (L : List Nat) (k : Nat) (hs : SliceO (Own 31 st) 31 st args s L)
    (h : CallS Try.prog 25 [s, .int .i64 k] st fun r st2 => r = .int .i64 (T.mkL args k).2 ∧ SliceO (Own 31 st2) 31 st2 (T.mkL args k).1 s L ∧ st.length ≤ st2.length ∧ ∀ i, i < st.length → i ∉ L → st2[i]? = st[i]?) :
    CallS Try.prog 10 [.agg #[.int .i64 k0, .int .i64 n0, .string nm, s], .int .i64 k] st fun r st2 => r = .int .i64 (T.mkL args k).2 ∧ Own 31 st2 (.mk k0 n0 nm (T.mkL args k).1) [.int .i64 k0, .int .i64 n0, .string nm, s] L ∧ st.length ≤ st2.length ∧ ∀ i, i < st.length → i ∉ L → st2[i]? = st[i]? := by
  refine CallS_of_W [] 10 Try.func10 rfl rfl rfl rfl (by simp) ?_
  have n1 := hs.loc
  have ho := hs.okv
  have hc := hs.cells
  repeat (first | ((first | refine W_reg rfl fun G K hG hK => ?_ | refine W_end rfl fun G K hG hK => ?_); simp (disch := omega) only [go_sem, ↓reduceIte, Nat.reduceEqDiff, Nat.reduceAdd, Nat.reduceLeDiff, hG]; refine hK _ _ ?_; clear hK K hG G) | refine W_seqS ?_ | refine W_seqC ?_ | refine W_seqB ?_ | refine W_block ?_ | refine W_skip ?_ | (refine W_condT ?hc ?_; (case hc => (simp (disch := omega) only [go_sem, ↓reduceIte, Nat.reduceEqDiff, Nat.reduceAdd, Nat.reduceLeDiff]; done))) | (refine W_condF ?hc ?_; (case hc => (simp (disch := omega) only [go_sem, ↓reduceIte, Nat.reduceEqDiff, Nat.reduceAdd, Nat.reduceLeDiff]; done))) | refine thenI ?_ | refine thenE ?_ | refine thenR ?_ | refine inBI ?_ | refine inBR ?_ | refine inBS ?_ | refine inBN (by decide) ?_)
  (repeat (first | refine W_seqS ?_ | refine W_seqC ?_ | refine W_seqB ?_ | refine W_block ?_)); refine W_reg rfl fun G K hG hK => ?_; simp (disch := omega) only [go_sem, ↓reduceIte, Nat.reduceEqDiff, Nat.reduceAdd, Nat.reduceLeDiff, hG]
  refine w_call (h) (by simp (disch := omega) only [go_sem, ↓reduceIte, Nat.reduceEqDiff, n1]) ?hl ?_
  case hl => first | rfl | (simp only [go_sem, List.all_cons, List.all_nil, Bool.not_false, Bool.and_self, n1]; done)
  rintro r_ s_ ⟨rfl, hsn, hle, hot⟩; refine ⟨fun e => (by cases e), ?_⟩
  simp (disch := omega) only [go_sem, ↓reduceIte, Nat.reduceEqDiff, Nat.reduceAdd, Nat.reduceLeDiff, hG]; refine hK _ _ ?_; clear hK K hG G; repeat (first | refine thenI ?_ | refine thenE ?_ | refine thenR ?_ | refine inBI ?_ | refine inBR ?_ | refine inBS ?_ | refine inBN (by decide) ?_)
  repeat (first | ((first | refine W_reg rfl fun G K hG hK => ?_ | refine W_end rfl fun G K hG hK => ?_); simp (disch := omega) only [go_sem, ↓reduceIte, Nat.reduceEqDiff, Nat.reduceAdd, Nat.reduceLeDiff, hG]; refine hK _ _ ?_; clear hK K hG G) | refine W_seqS ?_ | refine W_seqC ?_ | refine W_seqB ?_ | refine W_block ?_ | refine W_skip ?_ | (refine W_condT ?hc ?_; (case hc => (simp (disch := omega) only [go_sem, ↓reduceIte, Nat.reduceEqDiff, Nat.reduceAdd, Nat.reduceLeDiff]; done))) | (refine W_condF ?hc ?_; (case hc => (simp (disch := omega) only [go_sem, ↓reduceIte, Nat.reduceEqDiff, Nat.reduceAdd, Nat.reduceLeDiff]; done))) | refine thenI ?_ | refine thenE ?_ | refine thenR ?_ | refine inBI ?_ | refine inBR ?_ | refine inBS ?_ | refine inBN (by decide) ?_)
  refine W_ret ?_; try (repeat (first | refine thenI ?_ | refine thenE ?_ | refine thenR ?_ | refine inBI ?_ | refine inBR ?_ | refine inBS ?_ | refine inBN (by decide) ?_))
  refine fin1 (.inl rfl) (by (simp (disch := omega) only [go_sem, ↓reduceIte, Nat.reduceEqDiff, Nat.reduceAdd, Nat.reduceLeDiff]); try rfl) rfl ⟨rfl, Own.close k0 n0 nm hsn, hle, hot⟩

/-- The tree whose marks stand below its root. -/
def T.mk0 : T → Nat → T × Nat
  | .mk k0 n0 nm args, k => (.mk k0 n0 nm (T.mkL args k).1, (T.mkL args k).2)

theorem markTermS_ok : ∀ (t : T) (k0 n0 : Int) (nm : ByteArray) (xs : List T) (st : St) (s : Value) (L : List Nat) (k : Nat), t = .mk k0 n0 nm xs → Lim 1073741824 t → (T.mkL xs k).2 ≤ 4611686018427380000 → SliceO (Own 31 st) 31 st xs s L → L.Nodup →
      CallS Try.prog 25 [s, .int .i64 k] st fun r st2 => r = .int .i64 (T.mkL xs k).2 ∧ SliceO (Own 31 st2) 31 st2 (T.mkL xs k).1 s L ∧ st.length ≤ st2.length ∧ ∀ i, i < st.length → i ∉ L → st2[i]? = st[i]? := by
  refine T.ind fun k1 n1 nm1 args ih k0 n0 nm xs st s L k he hl hk hs hnd => ?_
  cases he
  exact markTermS_of args st s L k hl.args.1 hk hs hnd fun k2 n2 nm2 args2 hm st' s' L' k' hk' hs' hnd' => ih _ hm k2 n2 nm2 args2 st' s' L' k' rfl (hl.args.2 _ hm) hk' hs' hnd'

theorem markTerm_ok (t : T) (st : St) (cs : List Value) (L : List Nat) (k : Nat) (hl : Lim 1073741824 t) (hk : (t.mk0 k).2 ≤ 4611686018427380000) (hs : Own 31 st t cs L) (hnd : L.Nodup) :
    CallS Try.prog 10 [.agg cs.toArray, .int .i64 k] st fun r st2 => r = .int .i64 (t.mk0 k).2 ∧ Own 31 st2 (t.mk0 k).1 cs L ∧ st.length ≤ st2.length ∧ ∀ i, i < st.length → i ∉ L → st2[i]? = st[i]? := by
  cases t with | mk k0 n0 nm args => ?_
  obtain ⟨s, rfl, hs1⟩ := hs.open
  exact markTerm_of k0 n0 nm args st s L k hs1 (markTermS_ok _ k0 n0 nm args st s L k rfl hl hk hs1 hnd)

theorem heldTermS_of (xs : List T) (st : St) (s : Value) (k : Nat) (hbig : xs.length ≤ 1073741824) (hk : (T.mkL xs k).2 ≤ 4611686018427380000) (hr : Row (Enc st) 4 st (T.mkL xs k).1 s)
    (ih : ∀ k0 n0 nm args, T.mk k0 n0 nm args ∈ xs → ∀ (st : St) s k, (T.mkL args k).2 ≤ 4611686018427380000 → Row (Enc st) 4 st (T.mkL args k).1 s →
      CallS Try.prog 27 [s, .int .i64 k] st fun r st2 => Ext st st2 ∧ r = .int .i64 (T.mkL args k).2) :
    CallS Try.prog 27 [s, .int .i64 k] st fun r st2 => Ext st st2 ∧ r = .int .i64 (T.mkL xs k).2 := by
  refine CallS_of_W [] 50 Try.func27 rfl rfl rfl rfl (by simp) ?_
  have hlen := row_len hr Try.underlying29
  rw [T.mkL_len] at hlen
  repeat (first | ((first | refine W_reg rfl fun G K hG hK => ?_ | refine W_end rfl fun G K hG hK => ?_); simp (disch := omega) only [go_sem, ↓reduceIte, Nat.reduceEqDiff, Nat.reduceAdd, Nat.reduceLeDiff, hG]; refine hK _ _ ?_; clear hK K hG G) | refine W_seqS ?_ | refine W_seqC ?_ | refine W_seqB ?_ | refine W_block ?_ | refine W_skip ?_ | (refine W_condT ?hc ?_; (case hc => (simp (disch := omega) only [go_sem, ↓reduceIte, Nat.reduceEqDiff, Nat.reduceAdd, Nat.reduceLeDiff]; done))) | (refine W_condF ?hc ?_; (case hc => (simp (disch := omega) only [go_sem, ↓reduceIte, Nat.reduceEqDiff, Nat.reduceAdd, Nat.reduceLeDiff]; done))) | refine thenI ?_ | refine thenE ?_ | refine thenR ?_ | refine inBI ?_ | refine inBR ?_ | refine inBS ?_ | refine inBN (by decide) ?_)
  refine W_loop (fun d fr st' => ∃ (j : Nat), d = xs.length - j ∧ j ≤ xs.length ∧ Ext st st' ∧ fr.env 5 = .int .i64 j ∧ fr.env 0 = s ∧ fr.env 1 = .int .i64 (T.mkL (xs.take j) k).2) xs.length ?_ ?_
  · exact ⟨0, by omega, by omega, Ext.refl _, (by (simp (disch := omega) only [go_sem, ↓reduceIte, Nat.reduceEqDiff, Nat.reduceAdd, Nat.reduceLeDiff]); try rfl), (by (simp (disch := omega) only [go_sem, ↓reduceIte, Nat.reduceEqDiff, Nat.reduceAdd, Nat.reduceLeDiff]); try rfl), (by (simp (disch := omega) only [go_sem, ↓reduceIte, Nat.reduceEqDiff, Nat.reduceAdd, Nat.reduceLeDiff]); try rfl)⟩
  rintro d ⟨env, loc⟩ st' ⟨j, hd, hj, hext, e5, e0, e1⟩
  simp only at e5 e0 e1
  have hlen2 : lenE Try.prog 29 s = some (.int .i64 xs.length) := hlen
  by_cases hlt : j < xs.length
  · have c1 : decide ((j : Int) < (xs.length : Int)) = true := by simpa using hlt
    have hi := idxOk hlt
    have htk : xs.take (j + 1) = xs.take j ++ [xs[j]] := List.take_succ_eq_append_getElem hlt
    have hdr : xs.drop j = xs[j] :: xs.drop (j + 1) := List.drop_eq_getElem_cons hlt
    have hml : (T.mkL (xs.take j) k).1.length = j := by rw [T.mkL_len]; simp; omega
    generalize hkj : (T.mkL (xs.take j) k).2 = kj at e1
    have hap := T.mkL_app (xs.take j) (xs.drop j) k
    rw [List.take_append_drop, hkj, hdr] at hap
    have hxm : xs[j] ∈ xs := List.getElem_mem hlt
    revert hxm
    cases hxj : xs[j] with | mk k0 n0 nm args => ?_
    intro hxm
    rw [hxj] at hap htk
    have hmk : ((T.mk k0 n0 nm args).mk1 kj) = (.mk kj (kj + 1 : Nat) (mtext (kj + 2)) (T.mkL args (kj + 3)).1, (T.mkL args (kj + 3)).2) := rfl
    simp only [T.mkL, hmk] at hap
    have hkb : (T.mkL args (kj + 3)).2 ≤ 4611686018427380000 := by
      have h1 := T.mkL_ge (xs.drop (j + 1)) (T.mkL args (kj + 3)).2
      rw [hap] at hk
      omega
    have hkg := T.mkL_ge args (kj + 3)
    have hnx : (T.mkL (xs.take (j + 1)) k).2 = (T.mkL args (kj + 3)).2 := by
      rw [htk, T.mkL_app, hkj]; rfl
    have hat : (T.mkL xs k).1[j]? = some (.mk kj (kj + 1 : Nat) (mtext (kj + 2)) (T.mkL args (kj + 3)).1) := by
      rw [hap, List.getElem?_append_right (by omega), hml, Nat.sub_self]; rfl
    obtain ⟨i, o, c, cs, rfl, hcl, hE, hcs⟩ := row_at hr hat
    obtain ⟨s', rfl, hr'⟩ := hE.open
    rw [T.mkL_len] at hlen2 e0
    have q0 := cell_ext hext (hcs 0 _ rfl)
    have q1 := cell_ext hext (hcs 1 _ rfl)
    have q2 := cell_ext hext (hcs 2 _ rfl)
    have w1 : IntKind.i64.wrap ((kj : Int) + 1) = ((kj + 1 : Nat) : Int) := by rw [wrap_in (by omega) (by omega)]; rfl
    have w2 : IntKind.i64.wrap (((kj + 1 : Nat) : Int) + 1) = ((kj + 2 : Nat) : Int) := by rw [wrap_in (by omega) (by omega)]; omega
    have w3 : IntKind.i64.wrap (((kj + 2 : Nat) : Int) + 1) = ((kj + 3 : Nat) : Int) := by rw [wrap_in (by omega) (by omega)]; omega
    have d1 : ∀ x : Int, decide (x ≠ x) = false := fun x => by simp
    rw [Nat.add_zero] at q0
    repeat (first | ((first | refine W_reg rfl fun G K hG hK => ?_ | refine W_end rfl fun G K hG hK => ?_); simp (disch := omega) only [go_sem, ↓reduceIte, Nat.reduceEqDiff, Nat.reduceAdd, Nat.reduceLeDiff, hG, e5, e0, e1, hlen2, c1, idxA, Int.toNat_natCast, hi, q0, q1, w1, w2, d1, ag3]; refine hK _ _ ?_; clear hK K hG G) | refine W_seqS ?_ | refine W_seqC ?_ | refine W_seqB ?_ | refine W_block ?_ | refine W_skip ?_ | (refine W_condT ?hc ?_; (case hc => (simp (disch := omega) only [go_sem, ↓reduceIte, Nat.reduceEqDiff, Nat.reduceAdd, Nat.reduceLeDiff, e5, e0, e1, hlen2, c1, idxA, Int.toNat_natCast, hi, q0, q1, w1, w2, d1, ag3]; done))) | (refine W_condF ?hc ?_; (case hc => (simp (disch := omega) only [go_sem, ↓reduceIte, Nat.reduceEqDiff, Nat.reduceAdd, Nat.reduceLeDiff, e5, e0, e1, hlen2, c1, idxA, Int.toNat_natCast, hi, q0, q1, w1, w2, d1, ag3]; done))) | refine thenI ?_ | refine thenE ?_ | refine thenR ?_ | refine inBI ?_ | refine inBR ?_ | refine inBS ?_ | refine inBN (by decide) ?_)
    (repeat (first | refine W_seqS ?_ | refine W_seqC ?_ | refine W_seqB ?_ | refine W_block ?_)); refine W_regD mixed [] [(0,false),(1,false),(2,false),(3,false),(4,false),(5,false),(6,true),(7,false)] rfl (by decide +kernel) fun G K hG hK => ?_; simp only [pickOps, List.filterMap_cons, List.filterMap_nil, List.getElem?_cons_zero, List.getElem?_cons_succ, Option.map_some]; simp (disch := omega) only [go_sem, ↓reduceIte, Nat.reduceEqDiff, Nat.reduceAdd, Nat.reduceLeDiff, hG, e5, e0, e1, w1, w2, hi, q2, ag9, idxA, Int.toNat_natCast]
    refine w_call (markText_ok (kj + 2) st' (by omega)) (by simp (disch := omega) only [go_sem, ↓reduceIte, Nat.reduceEqDiff]) ?hl ?_
    case hl => first | rfl | (simp only [go_sem, List.all_cons, List.all_nil, Bool.not_false, Bool.and_self]; done)
    rintro r_ s_ ⟨hx, rfl⟩; refine ⟨fun e => hx, ?_⟩
    have d2 : ∀ x : ByteArray, decide (x ≠ x) = false := fun x => by simp
    simp (disch := omega) only [go_sem, ↓reduceIte, Nat.reduceEqDiff, Nat.reduceAdd, Nat.reduceLeDiff, hG, d2]; refine hK _ _ ?_; clear hK K hG G; repeat (first | refine thenI ?_ | refine thenE ?_ | refine thenR ?_ | refine inBI ?_ | refine inBR ?_ | refine inBS ?_ | refine inBN (by decide) ?_)
    have q3 := cell_ext (hext.trans hx) (hcs 3 _ rfl)
    repeat (first | ((first | refine W_reg rfl fun G K hG hK => ?_ | refine W_end rfl fun G K hG hK => ?_); simp (disch := omega) only [go_sem, ↓reduceIte, Nat.reduceEqDiff, Nat.reduceAdd, Nat.reduceLeDiff, hG, w3, ag9]; refine hK _ _ ?_; clear hK K hG G) | refine W_seqS ?_ | refine W_seqC ?_ | refine W_seqB ?_ | refine W_block ?_ | refine W_skip ?_ | (refine W_condT ?hc ?_; (case hc => (simp (disch := omega) only [go_sem, ↓reduceIte, Nat.reduceEqDiff, Nat.reduceAdd, Nat.reduceLeDiff, w3, ag9]; done))) | (refine W_condF ?hc ?_; (case hc => (simp (disch := omega) only [go_sem, ↓reduceIte, Nat.reduceEqDiff, Nat.reduceAdd, Nat.reduceLeDiff, w3, ag9]; done))) | refine thenI ?_ | refine thenE ?_ | refine thenR ?_ | refine inBI ?_ | refine inBR ?_ | refine inBS ?_ | refine inBN (by decide) ?_)
    (repeat (first | refine W_seqS ?_ | refine W_seqC ?_ | refine W_seqB ?_ | refine W_block ?_)); refine W_reg rfl fun G K hG hK => ?_; simp (disch := omega) only [go_sem, ↓reduceIte, Nat.reduceEqDiff, Nat.reduceAdd, Nat.reduceLeDiff, hG, e5, e0, e1, hi, q3, ag29, idxA, Int.toNat_natCast]
    have hr3 : Row (Enc s_) 4 s_ (T.mkL args (kj + 3)).1 s' := hr'.mono (hext.trans hx) fun x _ cs he => Enc.ext (hext.trans hx) _ _ he
    have n1 := hr3.notLoc.1
    refine w_call (ih k0 n0 nm args hxm s_ s' (kj + 3) hkb hr3) (by simp (disch := omega) only [go_sem, ↓reduceIte, Nat.reduceEqDiff, n1]) ?hl ?_
    case hl => first | rfl | (simp only [go_sem, List.all_cons, List.all_nil, Bool.not_false, Bool.and_self, n1]; done)
    rintro r_ s_ ⟨hx2, rfl⟩; refine ⟨fun e => (by cases e), ?_⟩
    simp (disch := omega) only [go_sem, ↓reduceIte, Nat.reduceEqDiff, Nat.reduceAdd, Nat.reduceLeDiff, hG]; refine hK _ _ ?_; clear hK K hG G; repeat (first | refine thenI ?_ | refine thenE ?_ | refine thenR ?_ | refine inBI ?_ | refine inBR ?_ | refine inBS ?_ | refine inBN (by decide) ?_)
    have d3 : decide (((T.mkL args (kj + 3)).2 : Int) < 0) = false := by simp
    repeat (first | ((first | refine W_reg rfl fun G K hG hK => ?_ | refine W_end rfl fun G K hG hK => ?_); simp (disch := omega) only [go_sem, ↓reduceIte, Nat.reduceEqDiff, Nat.reduceAdd, Nat.reduceLeDiff, hG, d3, e5]; refine hK _ _ ?_; clear hK K hG G) | refine W_seqS ?_ | refine W_seqC ?_ | refine W_seqB ?_ | refine W_block ?_ | refine W_skip ?_ | (refine W_condT ?hc ?_; (case hc => (simp (disch := omega) only [go_sem, ↓reduceIte, Nat.reduceEqDiff, Nat.reduceAdd, Nat.reduceLeDiff, d3, e5]; done))) | (refine W_condF ?hc ?_; (case hc => (simp (disch := omega) only [go_sem, ↓reduceIte, Nat.reduceEqDiff, Nat.reduceAdd, Nat.reduceLeDiff, d3, e5]; done))) | refine thenI ?_ | refine thenE ?_ | refine thenR ?_ | refine inBI ?_ | refine inBR ?_ | refine inBS ?_ | refine inBN (by decide) ?_)
    refine ⟨xs.length - (j + 1), by omega, j + 1, rfl, by omega, (hext.trans hx).trans hx2, (by (simp (disch := omega) only [go_sem, ↓reduceIte, Nat.reduceEqDiff, Nat.reduceAdd, Nat.reduceLeDiff]); try rfl), (by (simp (disch := omega) only [go_sem, ↓reduceIte, Nat.reduceEqDiff, Nat.reduceAdd, Nat.reduceLeDiff, e0, T.mkL_len]); try rfl), ?_⟩
    rw [hnx]; simp (disch := omega) only [go_sem, ↓reduceIte, Nat.reduceEqDiff, Nat.reduceAdd, Nat.reduceLeDiff]
  · have c1 : decide ((j : Int) < (xs.length : Int)) = false := by simpa using hlt
    have hjn : j = xs.length := by omega
    subst hjn
    rw [List.take_length] at e1
    repeat (first | ((first | refine W_reg rfl fun G K hG hK => ?_ | refine W_end rfl fun G K hG hK => ?_); simp (disch := omega) only [go_sem, ↓reduceIte, Nat.reduceEqDiff, Nat.reduceAdd, Nat.reduceLeDiff, hG, e5, e0, e1, hlen2, c1]; refine hK _ _ ?_; clear hK K hG G) | refine W_seqS ?_ | refine W_seqC ?_ | refine W_seqB ?_ | refine W_block ?_ | refine W_skip ?_ | (refine W_condT ?hc ?_; (case hc => (simp (disch := omega) only [go_sem, ↓reduceIte, Nat.reduceEqDiff, Nat.reduceAdd, Nat.reduceLeDiff, e5, e0, e1, hlen2, c1]; done))) | (refine W_condF ?hc ?_; (case hc => (simp (disch := omega) only [go_sem, ↓reduceIte, Nat.reduceEqDiff, Nat.reduceAdd, Nat.reduceLeDiff, e5, e0, e1, hlen2, c1]; done))) | refine thenI ?_ | refine thenE ?_ | refine thenR ?_ | refine inBI ?_ | refine inBR ?_ | refine inBS ?_ | refine inBN (by decide) ?_)
    refine W_exit ?_; repeat (first | refine thenI ?_ | refine thenE ?_ | refine thenR ?_ | refine inBI ?_ | refine inBR ?_ | refine inBS ?_ | refine inBN (by decide) ?_)
    repeat (first | ((first | refine W_reg rfl fun G K hG hK => ?_ | refine W_end rfl fun G K hG hK => ?_); simp (disch := omega) only [go_sem, ↓reduceIte, Nat.reduceEqDiff, Nat.reduceAdd, Nat.reduceLeDiff, hG, e1]; refine hK _ _ ?_; clear hK K hG G) | refine W_seqS ?_ | refine W_seqC ?_ | refine W_seqB ?_ | refine W_block ?_ | refine W_skip ?_ | (refine W_condT ?hc ?_; (case hc => (simp (disch := omega) only [go_sem, ↓reduceIte, Nat.reduceEqDiff, Nat.reduceAdd, Nat.reduceLeDiff, e1]; done))) | (refine W_condF ?hc ?_; (case hc => (simp (disch := omega) only [go_sem, ↓reduceIte, Nat.reduceEqDiff, Nat.reduceAdd, Nat.reduceLeDiff, e1]; done))) | refine thenI ?_ | refine thenE ?_ | refine thenR ?_ | refine inBI ?_ | refine inBR ?_ | refine inBS ?_ | refine inBN (by decide) ?_)
    refine W_ret ?_; try (repeat (first | refine thenI ?_ | refine thenE ?_ | refine thenR ?_ | refine inBI ?_ | refine inBR ?_ | refine inBS ?_ | refine inBN (by decide) ?_))
    refine fin1 (.inl rfl) (by (simp (disch := omega) only [go_sem, ↓reduceIte, Nat.reduceEqDiff, Nat.reduceAdd, Nat.reduceLeDiff, e1]); try rfl) rfl ⟨hext, rfl⟩

theorem heldTermS_ok : ∀ (t : T) (k0 n0 : Int) (nm : ByteArray) (xs : List T) (st : St) (s : Value) (k : Nat), t = .mk k0 n0 nm xs → Lim 1073741824 t → (T.mkL xs k).2 ≤ 4611686018427380000 → Row (Enc st) 4 st (T.mkL xs k).1 s →
      CallS Try.prog 27 [s, .int .i64 k] st fun r st2 => Ext st st2 ∧ r = .int .i64 (T.mkL xs k).2 := by
  refine T.ind fun k1 n1 nm1 args ih k0 n0 nm xs st s k he hl hk hr => ?_
  cases he
  exact heldTermS_of args st s k hl.args.1 hk hr fun k2 n2 nm2 args2 hm st' s' k' hk' hr' => ih _ hm k2 n2 nm2 args2 st' s' k' rfl (hl.args.2 _ hm) hk' hr'


end

section
/- Builders: laws.toTermS, laws.toTerm. -/
open Go Go.Proofs
set_option linter.unusedVariables false
set_option linter.unusedSimpArgs false
set_option maxRecDepth 100000

/-- A term of the program's own, new since n. -/
abbrev OwnT (st : St) (t : T) (cs : List Value) (L : List Nat) : Prop := Own 31 st t cs L

theorem toTermS_of (xs : List T) (st : St) (s : Value) (hbig : xs.length ≤ 1073741824) (hr : Row (Enc st) 4 st xs s)
    (ih : ∀ x ∈ xs, ∀ st' cs, Enc st' x cs → CallS Try.prog 6 [.agg cs.toArray] st' fun r st2 => Ext st' st2 ∧ ∃ ds L, r = .agg ds.toArray ∧ OwnT st2 x ds L ∧ Fresh st'.length L) :
    CallS Try.prog 18 [s] st fun r st2 => Ext st st2 ∧ ∃ L, SliceO (Own 31 st2) 31 st2 xs r L ∧ Fresh st.length L := by
  refine CallS_of_W [] 23 Try.func18 rfl rfl rfl rfl (by simp) ?_
  have hlen := row_len hr Try.underlying22
  have hmk : (0 ≤ (xs.length : Int) ∧ (xs.length : Int) ≤ (xs.length : Int) ∧ (56 : Nat) * (xs.length : Int) ≤ 2 ^ 46 ∧ (xs.length : Int) ≤ 2 ^ 46 ∧ True) = True := by
    simp; omega
  repeat (first | ((first | refine W_reg rfl fun G K hG hK => ?_ | refine W_end rfl fun G K hG hK => ?_); simp (disch := omega) only [go_sem, ↓reduceIte, Nat.reduceEqDiff, Nat.reduceAdd, Nat.reduceLeDiff, hG, hlen]; refine hK _ _ ?_; clear hK K hG G) | refine W_seqS ?_ | refine W_seqC ?_ | refine W_seqB ?_ | refine W_block ?_ | refine W_skip ?_ | (refine W_condT ?hc ?_; (case hc => (simp (disch := omega) only [go_sem, ↓reduceIte, Nat.reduceEqDiff, Nat.reduceAdd, Nat.reduceLeDiff, hlen]; done))) | (refine W_condF ?hc ?_; (case hc => (simp (disch := omega) only [go_sem, ↓reduceIte, Nat.reduceEqDiff, Nat.reduceAdd, Nat.reduceLeDiff, hlen]; done))) | refine thenI ?_ | refine thenE ?_ | refine thenR ?_ | refine inBI ?_ | refine inBR ?_ | refine inBS ?_ | refine inBN (by decide) ?_)
  (repeat (first | refine W_seqS ?_ | refine W_seqC ?_ | refine W_seqB ?_ | refine W_block ?_)); refine W_reg rfl fun G K hG hK => ?_; simp (disch := omega) only [go_sem, ↓reduceIte, Nat.reduceEqDiff, Nat.reduceAdd, Nat.reduceLeDiff, hG, hlen, w_makeSlice, evalEff, hmk, Int.toNat_natCast]
  refine hK _ _ ?_; clear hK K hG G
  repeat (first | ((first | refine W_reg rfl fun G K hG hK => ?_ | refine W_end rfl fun G K hG hK => ?_); simp (disch := omega) only [go_sem, ↓reduceIte, Nat.reduceEqDiff, Nat.reduceAdd, Nat.reduceLeDiff, hG]; refine hK _ _ ?_; clear hK K hG G) | refine W_seqS ?_ | refine W_seqC ?_ | refine W_seqB ?_ | refine W_block ?_ | refine W_skip ?_ | (refine W_condT ?hc ?_; (case hc => (simp (disch := omega) only [go_sem, ↓reduceIte, Nat.reduceEqDiff, Nat.reduceAdd, Nat.reduceLeDiff]; done))) | (refine W_condF ?hc ?_; (case hc => (simp (disch := omega) only [go_sem, ↓reduceIte, Nat.reduceEqDiff, Nat.reduceAdd, Nat.reduceLeDiff]; done))) | refine thenI ?_ | refine thenE ?_ | refine thenR ?_ | refine inBI ?_ | refine inBR ?_ | refine inBS ?_ | refine inBN (by decide) ?_)
  refine W_loop (fun d fr st' => ∃ (j : Nat) (K : List Nat), d = xs.length - j ∧ j ≤ xs.length ∧ Ext st st' ∧ FillO (Own 31) 31 4 st' (xs.take j) xs.length st.length K ∧ Fresh st.length (st.length :: K)
    ∧ fr.env 4 = .int .i64 j ∧ fr.env 0 = s ∧ fr.env 3 = .slice (some ⟨st.length, 0, none⟩) xs.length xs.length) xs.length ?_ ?_
  · exact ⟨0, [], by omega, by omega, Ext.app _ _, FillO.start (by rw [zrow_len]), ⟨by simp, by simp⟩, (by (simp (disch := omega) only [go_sem, ↓reduceIte, Nat.reduceEqDiff, Nat.reduceAdd, Nat.reduceLeDiff]); try rfl), (by (simp (disch := omega) only [go_sem, ↓reduceIte, Nat.reduceEqDiff, Nat.reduceAdd, Nat.reduceLeDiff]); try rfl), (by (simp (disch := omega) only [go_sem, ↓reduceIte, Nat.reduceEqDiff, Nat.reduceAdd, Nat.reduceLeDiff]); try rfl)⟩
  rintro d ⟨env, loc⟩ st' ⟨j, K, hd, hj, hext, hfill, hfr, e4, e0, e3⟩
  simp only at e4 e0 e3
  have hlen2 : lenE Try.prog 22 s = some (.int .i64 xs.length) := hlen
  by_cases hlt : j < xs.length
  · have c1 : decide ((j : Int) < (xs.length : Int)) = true := by simpa using hlt
    have hx : xs[j]? = some xs[j] := List.getElem?_eq_getElem hlt
    obtain ⟨i, o, c, cs, rfl, hcl, hE, hcs⟩ := row_at hr hx
    have hld := load_row (A := []) (loc := loc) ag24 sz24 hcl (hcs.ext hext)
    have hi := idxOk hlt
    have htl : (xs.take j).length = j := by simp; omega
    repeat (first | ((first | refine W_reg rfl fun G K hG hK => ?_ | refine W_end rfl fun G K hG hK => ?_); simp (disch := omega) only [go_sem, ↓reduceIte, Nat.reduceEqDiff, Nat.reduceAdd, Nat.reduceLeDiff, hG, e4, e0, e3, hlen2, c1]; refine hK _ _ ?_; clear hK K hG G) | refine W_seqS ?_ | refine W_seqC ?_ | refine W_seqB ?_ | refine W_block ?_ | refine W_skip ?_ | (refine W_condT ?hc ?_; (case hc => (simp (disch := omega) only [go_sem, ↓reduceIte, Nat.reduceEqDiff, Nat.reduceAdd, Nat.reduceLeDiff, e4, e0, e3, hlen2, c1]; done))) | (refine W_condF ?hc ?_; (case hc => (simp (disch := omega) only [go_sem, ↓reduceIte, Nat.reduceEqDiff, Nat.reduceAdd, Nat.reduceLeDiff, e4, e0, e3, hlen2, c1]; done))) | refine thenI ?_ | refine thenE ?_ | refine thenR ?_ | refine inBI ?_ | refine inBR ?_ | refine inBS ?_ | refine inBN (by decide) ?_)
    refine W_end rfl fun G K hG hK => ?_; simp (disch := omega) only [go_sem, ↓reduceIte, Nat.reduceEqDiff, Nat.reduceAdd, Nat.reduceLeDiff, hG, e4, e0, e3, idxA, Int.toNat_natCast, hi, hld]
    refine w_call (ih xs[j] (List.getElem_mem hlt) st' cs (Enc.ext hext _ _ hE)) (by simp (disch := omega) only [go_sem, ↓reduceIte, Nat.reduceEqDiff]) ?hl ?_
    case hl => first | rfl | (simp only [go_sem, List.all_cons, List.all_nil, Bool.not_false, Bool.and_self]; done)
    rintro r_ s_ ⟨hx1, ds, Lx, rfl, hown, hfx⟩; refine ⟨fun e => (by cases e), ?_⟩
    obtain ⟨st3, hst, hfill', hfr', hl3, hoth⟩ := hfill.step (loc := loc) (v := .agg ds.toArray) (fun _ _ => Own.frame) (fun _ => Own.lt) (fun _ => Own.len) sz31 hfr hx1 hown hfx (by simp [Value.cells]) rfl (by omega)
    rw [htl, Nat.zero_add] at hst
    simp (disch := omega) only [go_sem, ↓reduceIte, Nat.reduceEqDiff, Nat.reduceAdd, Nat.reduceLeDiff, hG, e4, e0, e3, idxA, Int.toNat_natCast, hi, hst]; refine hK _ _ ?_; clear hK K hG G; repeat (first | refine thenI ?_ | refine thenE ?_ | refine thenR ?_ | refine inBI ?_ | refine inBR ?_ | refine inBS ?_ | refine inBN (by decide) ?_)
    repeat (first | ((first | refine W_reg rfl fun G K hG hK => ?_ | refine W_end rfl fun G K hG hK => ?_); simp (disch := omega) only [go_sem, ↓reduceIte, Nat.reduceEqDiff, Nat.reduceAdd, Nat.reduceLeDiff, hG, e4]; refine hK _ _ ?_; clear hK K hG G) | refine W_seqS ?_ | refine W_seqC ?_ | refine W_seqB ?_ | refine W_block ?_ | refine W_skip ?_ | (refine W_condT ?hc ?_; (case hc => (simp (disch := omega) only [go_sem, ↓reduceIte, Nat.reduceEqDiff, Nat.reduceAdd, Nat.reduceLeDiff, e4]; done))) | (refine W_condF ?hc ?_; (case hc => (simp (disch := omega) only [go_sem, ↓reduceIte, Nat.reduceEqDiff, Nat.reduceAdd, Nat.reduceLeDiff, e4]; done))) | refine thenI ?_ | refine thenE ?_ | refine thenR ?_ | refine inBI ?_ | refine inBR ?_ | refine inBS ?_ | refine inBN (by decide) ?_)
    have htk : xs.take (j + 1) = xs.take j ++ [xs[j]] := List.take_succ_eq_append_getElem hlt
    refine ⟨xs.length - (j + 1), by omega, j + 1, K ++ Lx, rfl, by omega, ?_, by rw [htk]; exact hfill', hfr', (by (simp (disch := omega) only [go_sem, ↓reduceIte, Nat.reduceEqDiff, Nat.reduceAdd, Nat.reduceLeDiff]); try rfl), (by (simp (disch := omega) only [go_sem, ↓reduceIte, Nat.reduceEqDiff, Nat.reduceAdd, Nat.reduceLeDiff, e0]); try rfl), (by (simp (disch := omega) only [go_sem, ↓reduceIte, Nat.reduceEqDiff, Nat.reduceAdd, Nat.reduceLeDiff, e3]); try rfl)⟩
    exact Ext.of_get fun i hi => by rw [hoth i (by omega), (hext.trans hx1).get hi]
  · have c1 : decide ((j : Int) < (xs.length : Int)) = false := by simpa using hlt
    have hjn : j = xs.length := by omega
    subst hjn
    rw [List.take_length] at hfill
    repeat (first | ((first | refine W_reg rfl fun G K hG hK => ?_ | refine W_end rfl fun G K hG hK => ?_); simp (disch := omega) only [go_sem, ↓reduceIte, Nat.reduceEqDiff, Nat.reduceAdd, Nat.reduceLeDiff, hG, e4, e0, e3, hlen2, c1]; refine hK _ _ ?_; clear hK K hG G) | refine W_seqS ?_ | refine W_seqC ?_ | refine W_seqB ?_ | refine W_block ?_ | refine W_skip ?_ | (refine W_condT ?hc ?_; (case hc => (simp (disch := omega) only [go_sem, ↓reduceIte, Nat.reduceEqDiff, Nat.reduceAdd, Nat.reduceLeDiff, e4, e0, e3, hlen2, c1]; done))) | (refine W_condF ?hc ?_; (case hc => (simp (disch := omega) only [go_sem, ↓reduceIte, Nat.reduceEqDiff, Nat.reduceAdd, Nat.reduceLeDiff, e4, e0, e3, hlen2, c1]; done))) | refine thenI ?_ | refine thenE ?_ | refine thenR ?_ | refine inBI ?_ | refine inBR ?_ | refine inBS ?_ | refine inBN (by decide) ?_)
    refine W_exit ?_; repeat (first | refine thenI ?_ | refine thenE ?_ | refine thenR ?_ | refine inBI ?_ | refine inBR ?_ | refine inBS ?_ | refine inBN (by decide) ?_)
    repeat (first | ((first | refine W_reg rfl fun G K hG hK => ?_ | refine W_end rfl fun G K hG hK => ?_); simp (disch := omega) only [go_sem, ↓reduceIte, Nat.reduceEqDiff, Nat.reduceAdd, Nat.reduceLeDiff, hG, e3]; refine hK _ _ ?_; clear hK K hG G) | refine W_seqS ?_ | refine W_seqC ?_ | refine W_seqB ?_ | refine W_block ?_ | refine W_skip ?_ | (refine W_condT ?hc ?_; (case hc => (simp (disch := omega) only [go_sem, ↓reduceIte, Nat.reduceEqDiff, Nat.reduceAdd, Nat.reduceLeDiff, e3]; done))) | (refine W_condF ?hc ?_; (case hc => (simp (disch := omega) only [go_sem, ↓reduceIte, Nat.reduceEqDiff, Nat.reduceAdd, Nat.reduceLeDiff, e3]; done))) | refine thenI ?_ | refine thenE ?_ | refine thenR ?_ | refine inBI ?_ | refine inBR ?_ | refine inBS ?_ | refine inBN (by decide) ?_)
    refine W_ret ?_; try (repeat (first | refine thenI ?_ | refine thenE ?_ | refine thenR ?_ | refine inBI ?_ | refine inBR ?_ | refine inBS ?_ | refine inBN (by decide) ?_))
    refine fin1 (.inl rfl) (by (simp (disch := omega) only [go_sem, ↓reduceIte, Nat.reduceEqDiff, Nat.reduceAdd, Nat.reduceLeDiff, e3]); try rfl) rfl ⟨hext, _, hfill.done, hfr⟩

theorem toTerm_of (k n : Int) (nm : ByteArray) (args : List T) (st : St) (s : Value) (hr : Row (Enc st) 4 st args s)
    (h : CallS Try.prog 18 [s] st fun r st2 => Ext st st2 ∧ ∃ L, SliceO (Own 31 st2) 31 st2 args r L ∧ Fresh st.length L) :
    CallS Try.prog 6 [.agg #[.int .i64 k, .int .i64 n, .string nm, s]] st fun r st2 => Ext st st2 ∧ ∃ ds L, r = .agg ds.toArray ∧ OwnT st2 (.mk k n nm args) ds L ∧ Fresh st.length L := by
  refine CallS_of_W [] 18 Try.func6 rfl rfl rfl rfl (by simp) ?_
  have n1 := hr.notLoc.1
  repeat (first | ((first | refine W_reg rfl fun G K hG hK => ?_ | refine W_end rfl fun G K hG hK => ?_); simp (disch := omega) only [go_sem, ↓reduceIte, Nat.reduceEqDiff, Nat.reduceAdd, Nat.reduceLeDiff, hG]; refine hK _ _ ?_; clear hK K hG G) | refine W_seqS ?_ | refine W_seqC ?_ | refine W_seqB ?_ | refine W_block ?_ | refine W_skip ?_ | (refine W_condT ?hc ?_; (case hc => (simp (disch := omega) only [go_sem, ↓reduceIte, Nat.reduceEqDiff, Nat.reduceAdd, Nat.reduceLeDiff]; done))) | (refine W_condF ?hc ?_; (case hc => (simp (disch := omega) only [go_sem, ↓reduceIte, Nat.reduceEqDiff, Nat.reduceAdd, Nat.reduceLeDiff]; done))) | refine thenI ?_ | refine thenE ?_ | refine thenR ?_ | refine inBI ?_ | refine inBR ?_ | refine inBS ?_ | refine inBN (by decide) ?_)
  (repeat (first | refine W_seqS ?_ | refine W_seqC ?_ | refine W_seqB ?_ | refine W_block ?_)); refine W_reg rfl fun G K hG hK => ?_; simp (disch := omega) only [go_sem, ↓reduceIte, Nat.reduceEqDiff, Nat.reduceAdd, Nat.reduceLeDiff, hG]
  refine w_call (h) (by simp (disch := omega) only [go_sem, ↓reduceIte, Nat.reduceEqDiff, n1]) ?hl ?_
  case hl => first | rfl | (simp only [go_sem, List.all_cons, List.all_nil, Bool.not_false, Bool.and_self, n1]; done)
  rintro r_ s_ ⟨hx, L, hs, hf⟩; refine ⟨fun e => (by cases e), ?_⟩
  have ho := hs.okv
  have hc := hs.cells
  simp (disch := omega) only [go_sem, ↓reduceIte, Nat.reduceEqDiff, Nat.reduceAdd, Nat.reduceLeDiff, hG, ho, hc]; refine hK _ _ ?_; clear hK K hG G; repeat (first | refine thenI ?_ | refine thenE ?_ | refine thenR ?_ | refine inBI ?_ | refine inBR ?_ | refine inBS ?_ | refine inBN (by decide) ?_)
  repeat (first | ((first | refine W_reg rfl fun G K hG hK => ?_ | refine W_end rfl fun G K hG hK => ?_); simp (disch := omega) only [go_sem, ↓reduceIte, Nat.reduceEqDiff, Nat.reduceAdd, Nat.reduceLeDiff, hG]; refine hK _ _ ?_; clear hK K hG G) | refine W_seqS ?_ | refine W_seqC ?_ | refine W_seqB ?_ | refine W_block ?_ | refine W_skip ?_ | (refine W_condT ?hc ?_; (case hc => (simp (disch := omega) only [go_sem, ↓reduceIte, Nat.reduceEqDiff, Nat.reduceAdd, Nat.reduceLeDiff]; done))) | (refine W_condF ?hc ?_; (case hc => (simp (disch := omega) only [go_sem, ↓reduceIte, Nat.reduceEqDiff, Nat.reduceAdd, Nat.reduceLeDiff]; done))) | refine thenI ?_ | refine thenE ?_ | refine thenR ?_ | refine inBI ?_ | refine inBR ?_ | refine inBS ?_ | refine inBN (by decide) ?_)
  refine W_ret ?_; try (repeat (first | refine thenI ?_ | refine thenE ?_ | refine thenR ?_ | refine inBI ?_ | refine inBR ?_ | refine inBS ?_ | refine inBN (by decide) ?_))
  refine finC (.inl rfl) (by (simp (disch := omega) only [go_sem, ↓reduceIte, Nat.reduceEqDiff, Nat.reduceAdd, Nat.reduceLeDiff]); try rfl) ⟨hx, _, L, rfl, Own.close k n nm hs, hf⟩

theorem toTerm_ok : ∀ (t : T) (st : St) (cs : List Value), Lim 1073741824 t → Enc st t cs →
    CallS Try.prog 6 [.agg cs.toArray] st fun r st2 => Ext st st2 ∧ ∃ ds L, r = .agg ds.toArray ∧ OwnT st2 t ds L ∧ Fresh st.length L := by
  refine T.ind fun k n nm args ih st cs hl h => ?_
  obtain ⟨s, rfl, hr⟩ := h.open
  exact toTerm_of k n nm args st s hr (toTermS_of args st s hl.args.1 hr fun x hx st' cs he => ih x hx st' cs (hl.args.2 x hx) he)

end

section
/- Readers of terms: laws.eqTermS, laws.eqTerm, laws.szTermS, laws.szTerm. -/
open Go Go.Proofs
set_option linter.unusedVariables false
set_option linter.unusedSimpArgs false
set_option maxRecDepth 100000

theorem eqTerm_of (k n : Int) (nm : ByteArray) (args : List T) (st : St) (s s' : Value) (hr : Row (Enc st) 4 st args s) (hr' : Row (Enc st) 4 st args s')
    (h : CallS Try.prog 24 [s, s'] st fun r st' => r = .bool true ∧ st' = st) :
    CallS Try.prog 9 [.agg #[.int .i64 k, .int .i64 n, .string nm, s], .agg #[.int .i64 k, .int .i64 n, .string nm, s']] st fun r st' => r = .bool true ∧ st' = st := by
  refine CallS_of_W [] 26 Try.func9 rfl rfl rfl rfl (by simp) ?_
  have n1 := hr.notLoc.1
  have n2 := hr'.notLoc.1
  repeat (first | ((first | refine W_reg rfl fun G K hG hK => ?_ | refine W_end rfl fun G K hG hK => ?_); simp (disch := omega) only [go_sem, ↓reduceIte, Nat.reduceEqDiff, Nat.reduceAdd, Nat.reduceLeDiff, hG]; refine hK _ _ ?_; clear hK K hG G) | refine W_seqS ?_ | refine W_seqC ?_ | refine W_seqB ?_ | refine W_block ?_ | refine W_skip ?_ | (refine W_condT ?hc ?_; (case hc => (simp (disch := omega) only [go_sem, ↓reduceIte, Nat.reduceEqDiff, Nat.reduceAdd, Nat.reduceLeDiff]; done))) | (refine W_condF ?hc ?_; (case hc => (simp (disch := omega) only [go_sem, ↓reduceIte, Nat.reduceEqDiff, Nat.reduceAdd, Nat.reduceLeDiff]; done))) | refine thenI ?_ | refine thenE ?_ | refine thenR ?_ | refine inBI ?_ | refine inBR ?_ | refine inBS ?_ | refine inBN (by decide) ?_)
  (repeat (first | refine W_seqS ?_ | refine W_seqC ?_ | refine W_seqB ?_ | refine W_block ?_)); refine W_reg rfl fun G K hG hK => ?_; simp (disch := omega) only [go_sem, ↓reduceIte, Nat.reduceEqDiff, Nat.reduceAdd, Nat.reduceLeDiff, hG]
  refine w_call (h) (by simp (disch := omega) only [go_sem, ↓reduceIte, Nat.reduceEqDiff, n1, n2]) ?hl ?_
  case hl => first | rfl | (simp only [go_sem, List.all_cons, List.all_nil, Bool.not_false, Bool.and_self, n1, n2]; done)
  rintro r_ s_ ⟨rfl, rfl⟩; refine ⟨fun e => (by cases e), ?_⟩
  simp (disch := omega) only [go_sem, ↓reduceIte, Nat.reduceEqDiff, Nat.reduceAdd, Nat.reduceLeDiff, hG]; refine hK _ _ ?_; clear hK K hG G; repeat (first | refine thenI ?_ | refine thenE ?_ | refine thenR ?_ | refine inBI ?_ | refine inBR ?_ | refine inBS ?_ | refine inBN (by decide) ?_)
  repeat (first | ((first | refine W_reg rfl fun G K hG hK => ?_ | refine W_end rfl fun G K hG hK => ?_); simp (disch := omega) only [go_sem, ↓reduceIte, Nat.reduceEqDiff, Nat.reduceAdd, Nat.reduceLeDiff, hG]; refine hK _ _ ?_; clear hK K hG G) | refine W_seqS ?_ | refine W_seqC ?_ | refine W_seqB ?_ | refine W_block ?_ | refine W_skip ?_ | (refine W_condT ?hc ?_; (case hc => (simp (disch := omega) only [go_sem, ↓reduceIte, Nat.reduceEqDiff, Nat.reduceAdd, Nat.reduceLeDiff]; done))) | (refine W_condF ?hc ?_; (case hc => (simp (disch := omega) only [go_sem, ↓reduceIte, Nat.reduceEqDiff, Nat.reduceAdd, Nat.reduceLeDiff]; done))) | refine thenI ?_ | refine thenE ?_ | refine thenR ?_ | refine inBI ?_ | refine inBR ?_ | refine inBS ?_ | refine inBN (by decide) ?_)
  refine W_ret ?_; try (repeat (first | refine thenI ?_ | refine thenE ?_ | refine thenR ?_ | refine inBI ?_ | refine inBR ?_ | refine inBS ?_ | refine inBN (by decide) ?_))
  refine fin1 (.inl rfl) (by (simp (disch := omega) only [go_sem, ↓reduceIte, Nat.reduceEqDiff, Nat.reduceAdd, Nat.reduceLeDiff]); try rfl) rfl ⟨rfl, rfl⟩

theorem eqTermS_of (xs : List T) (st : St) (s s' : Value) (hbig : xs.length ≤ 4611686018427387904) (hr : Row (Enc st) 4 st xs s) (hr' : Row (Enc st) 4 st xs s')
    (ih : ∀ x ∈ xs, ∀ cs ds, Enc st x cs → Enc st x ds → CallS Try.prog 9 [.agg cs.toArray, .agg ds.toArray] st fun r st' => r = .bool true ∧ st' = st) :
    CallS Try.prog 24 [s, s'] st fun r st' => r = .bool true ∧ st' = st := by
  refine CallS_of_W [] 27 Try.func24 rfl rfl rfl rfl (by simp) ?_
  have hlen := row_len hr Try.underlying29
  have hlen' := row_len hr' Try.underlying29
  repeat (first | ((first | refine W_reg rfl fun G K hG hK => ?_ | refine W_end rfl fun G K hG hK => ?_); simp (disch := omega) only [go_sem, ↓reduceIte, Nat.reduceEqDiff, Nat.reduceAdd, Nat.reduceLeDiff, hG, hlen, hlen']; refine hK _ _ ?_; clear hK K hG G) | refine W_seqS ?_ | refine W_seqC ?_ | refine W_seqB ?_ | refine W_block ?_ | refine W_skip ?_ | (refine W_condT ?hc ?_; (case hc => (simp (disch := omega) only [go_sem, ↓reduceIte, Nat.reduceEqDiff, Nat.reduceAdd, Nat.reduceLeDiff, hlen, hlen']; done))) | (refine W_condF ?hc ?_; (case hc => (simp (disch := omega) only [go_sem, ↓reduceIte, Nat.reduceEqDiff, Nat.reduceAdd, Nat.reduceLeDiff, hlen, hlen']; done))) | refine thenI ?_ | refine thenE ?_ | refine thenR ?_ | refine inBI ?_ | refine inBR ?_ | refine inBS ?_ | refine inBN (by decide) ?_)
  refine W_loop (fun d fr st' => ∃ (j : Nat), d = xs.length - j ∧ j ≤ xs.length ∧ st' = st ∧ fr.env 5 = .int .i64 j ∧ fr.env 0 = s ∧ fr.env 1 = s') xs.length ?_ ?_
  · exact ⟨0, by omega, by omega, rfl, (by (simp (disch := omega) only [go_sem, ↓reduceIte, Nat.reduceEqDiff, Nat.reduceAdd, Nat.reduceLeDiff]); try rfl), (by (simp (disch := omega) only [go_sem, ↓reduceIte, Nat.reduceEqDiff, Nat.reduceAdd, Nat.reduceLeDiff]); try rfl), (by (simp (disch := omega) only [go_sem, ↓reduceIte, Nat.reduceEqDiff, Nat.reduceAdd, Nat.reduceLeDiff]); try rfl)⟩
  rintro d ⟨env, loc⟩ st' ⟨j, hd, hj, rfl, e5, e0, e1⟩
  simp only at e5 e0 e1
  by_cases hlt : j < xs.length
  · have c1 : decide ((j : Int) < (xs.length : Int)) = true := by simpa using hlt
    have hx : xs[j]? = some xs[j] := List.getElem?_eq_getElem hlt
    obtain ⟨i, o, c, cs, rfl, hcl, hE, hcs⟩ := row_at hr hx
    obtain ⟨i', o', c', cs', rfl, hcl', hE', hcs'⟩ := row_at hr' hx
    have hld := load_row (A := []) (loc := loc) ag31 sz31 hcl hcs
    have hld' := load_row (A := []) (loc := loc) ag31 sz31 hcl' hcs'
    have hi := idxOk hlt
    repeat (first | ((first | refine W_reg rfl fun G K hG hK => ?_ | refine W_end rfl fun G K hG hK => ?_); simp (disch := omega) only [go_sem, ↓reduceIte, Nat.reduceEqDiff, Nat.reduceAdd, Nat.reduceLeDiff, hG, e5, e0, e1, hlen, c1]; refine hK _ _ ?_; clear hK K hG G) | refine W_seqS ?_ | refine W_seqC ?_ | refine W_seqB ?_ | refine W_block ?_ | refine W_skip ?_ | (refine W_condT ?hc ?_; (case hc => (simp (disch := omega) only [go_sem, ↓reduceIte, Nat.reduceEqDiff, Nat.reduceAdd, Nat.reduceLeDiff, e5, e0, e1, hlen, c1]; done))) | (refine W_condF ?hc ?_; (case hc => (simp (disch := omega) only [go_sem, ↓reduceIte, Nat.reduceEqDiff, Nat.reduceAdd, Nat.reduceLeDiff, e5, e0, e1, hlen, c1]; done))) | refine thenI ?_ | refine thenE ?_ | refine thenR ?_ | refine inBI ?_ | refine inBR ?_ | refine inBS ?_ | refine inBN (by decide) ?_)
    (repeat (first | refine W_seqS ?_ | refine W_seqC ?_ | refine W_seqB ?_ | refine W_block ?_)); refine W_regD mixed [] [(0,false),(1,false),(2,false),(3,false),(4,false),(5,false),(6,false),(7,false),(8,false),(9,false)] rfl (by decide +kernel) fun G K hG hK => ?_; simp only [pickOps, List.filterMap_cons, List.filterMap_nil, List.getElem?_cons_zero, List.getElem?_cons_succ, Option.map_some]; simp (disch := omega) only [go_sem, ↓reduceIte, Nat.reduceEqDiff, Nat.reduceAdd, Nat.reduceLeDiff, hG, e5, e0, e1, idxA, Int.toNat_natCast, hi, hld, hld']
    refine w_call (ih xs[j] (List.getElem_mem hlt) cs cs' hE hE') (by simp (disch := omega) only [go_sem, ↓reduceIte, Nat.reduceEqDiff]) ?hl ?_
    case hl => first | rfl | (simp only [go_sem, List.all_cons, List.all_nil, Bool.not_false, Bool.and_self]; done)
    rintro r_ s_ ⟨rfl, rfl⟩; refine ⟨fun e => (by cases e), ?_⟩
    simp (disch := omega) only [go_sem, ↓reduceIte, Nat.reduceEqDiff, Nat.reduceAdd, Nat.reduceLeDiff, hG]; refine hK _ _ ?_; clear hK K hG G; repeat (first | refine thenI ?_ | refine thenE ?_ | refine thenR ?_ | refine inBI ?_ | refine inBR ?_ | refine inBS ?_ | refine inBN (by decide) ?_)
    repeat (first | ((first | refine W_reg rfl fun G K hG hK => ?_ | refine W_end rfl fun G K hG hK => ?_); simp (disch := omega) only [go_sem, ↓reduceIte, Nat.reduceEqDiff, Nat.reduceAdd, Nat.reduceLeDiff, hG, e5]; refine hK _ _ ?_; clear hK K hG G) | refine W_seqS ?_ | refine W_seqC ?_ | refine W_seqB ?_ | refine W_block ?_ | refine W_skip ?_ | (refine W_condT ?hc ?_; (case hc => (simp (disch := omega) only [go_sem, ↓reduceIte, Nat.reduceEqDiff, Nat.reduceAdd, Nat.reduceLeDiff, e5]; done))) | (refine W_condF ?hc ?_; (case hc => (simp (disch := omega) only [go_sem, ↓reduceIte, Nat.reduceEqDiff, Nat.reduceAdd, Nat.reduceLeDiff, e5]; done))) | refine thenI ?_ | refine thenE ?_ | refine thenR ?_ | refine inBI ?_ | refine inBR ?_ | refine inBS ?_ | refine inBN (by decide) ?_)
    exact ⟨xs.length - (j + 1), by omega, j + 1, rfl, by omega, rfl, (by (simp (disch := omega) only [go_sem, ↓reduceIte, Nat.reduceEqDiff, Nat.reduceAdd, Nat.reduceLeDiff]); try rfl), (by (simp (disch := omega) only [go_sem, ↓reduceIte, Nat.reduceEqDiff, Nat.reduceAdd, Nat.reduceLeDiff, e0]); try rfl), (by (simp (disch := omega) only [go_sem, ↓reduceIte, Nat.reduceEqDiff, Nat.reduceAdd, Nat.reduceLeDiff, e1]); try rfl)⟩
  · have c1 : decide ((j : Int) < (xs.length : Int)) = false := by simpa using hlt
    repeat (first | ((first | refine W_reg rfl fun G K hG hK => ?_ | refine W_end rfl fun G K hG hK => ?_); simp (disch := omega) only [go_sem, ↓reduceIte, Nat.reduceEqDiff, Nat.reduceAdd, Nat.reduceLeDiff, hG, e5, e0, e1, hlen, c1]; refine hK _ _ ?_; clear hK K hG G) | refine W_seqS ?_ | refine W_seqC ?_ | refine W_seqB ?_ | refine W_block ?_ | refine W_skip ?_ | (refine W_condT ?hc ?_; (case hc => (simp (disch := omega) only [go_sem, ↓reduceIte, Nat.reduceEqDiff, Nat.reduceAdd, Nat.reduceLeDiff, e5, e0, e1, hlen, c1]; done))) | (refine W_condF ?hc ?_; (case hc => (simp (disch := omega) only [go_sem, ↓reduceIte, Nat.reduceEqDiff, Nat.reduceAdd, Nat.reduceLeDiff, e5, e0, e1, hlen, c1]; done))) | refine thenI ?_ | refine thenE ?_ | refine thenR ?_ | refine inBI ?_ | refine inBR ?_ | refine inBS ?_ | refine inBN (by decide) ?_)
    refine W_exit ?_; repeat (first | refine thenI ?_ | refine thenE ?_ | refine thenR ?_ | refine inBI ?_ | refine inBR ?_ | refine inBS ?_ | refine inBN (by decide) ?_)
    repeat (first | ((first | refine W_reg rfl fun G K hG hK => ?_ | refine W_end rfl fun G K hG hK => ?_); simp (disch := omega) only [go_sem, ↓reduceIte, Nat.reduceEqDiff, Nat.reduceAdd, Nat.reduceLeDiff, hG]; refine hK _ _ ?_; clear hK K hG G) | refine W_seqS ?_ | refine W_seqC ?_ | refine W_seqB ?_ | refine W_block ?_ | refine W_skip ?_ | (refine W_condT ?hc ?_; (case hc => (simp (disch := omega) only [go_sem, ↓reduceIte, Nat.reduceEqDiff, Nat.reduceAdd, Nat.reduceLeDiff]; done))) | (refine W_condF ?hc ?_; (case hc => (simp (disch := omega) only [go_sem, ↓reduceIte, Nat.reduceEqDiff, Nat.reduceAdd, Nat.reduceLeDiff]; done))) | refine thenI ?_ | refine thenE ?_ | refine thenR ?_ | refine inBI ?_ | refine inBR ?_ | refine inBS ?_ | refine inBN (by decide) ?_)
    refine W_ret ?_; try (repeat (first | refine thenI ?_ | refine thenE ?_ | refine thenR ?_ | refine inBI ?_ | refine inBR ?_ | refine inBS ?_ | refine inBN (by decide) ?_))
    refine fin1 (.inl rfl) (by (simp (disch := omega) only [go_sem, ↓reduceIte, Nat.reduceEqDiff, Nat.reduceAdd, Nat.reduceLeDiff]); try rfl) rfl ⟨rfl, rfl⟩
theorem T.wtL_drop {xs : List T} {j : Nat} {x : T} (h : xs[j]? = some x) : T.wtL (xs.drop j) = x.wt + T.wtL (xs.drop (j + 1)) := by
  have hj := (List.getElem?_eq_some_iff.1 h)
  obtain ⟨hlt, rfl⟩ := hj
  rw [List.drop_eq_getElem_cons hlt]; rfl

theorem szTermS_of (xs : List T) (st : St) (s : Value) (left : Int) (h0 : 0 ≤ left) (h1 : left ≤ 1073741824) (hbig : xs.length ≤ maxLen) (hr : Row (Enc st) 4 st xs s)
    (ih : ∀ x ∈ xs, ∀ cs left, 0 ≤ left → left ≤ 1073741824 → Enc st x cs → CallS Try.prog 4 [.agg cs.toArray, .int .i64 left] st fun r st' => r = .int .i64 (if (x.wt : Int) ≤ left then left - x.wt else -1) ∧ st' = st) :
    CallS Try.prog 13 [s, .int .i64 left] st fun r st' => r = .int .i64 (if ((xs.length + T.wtL xs : Nat) : Int) ≤ left then left - (xs.length + T.wtL xs : Nat) else -1) ∧ st' = st := by
  refine CallS_of_W [] 27 Try.func13 rfl rfl rfl rfl (by simp) ?_
  have hbig2 : xs.length ≤ 9223372036854775807 := hbig
  clear hbig
  have hlen := row_len hr Try.underlying22
  repeat (first | ((first | refine W_reg rfl fun G K hG hK => ?_ | refine W_end rfl fun G K hG hK => ?_); simp (disch := omega) only [go_sem, ↓reduceIte, Nat.reduceEqDiff, Nat.reduceAdd, Nat.reduceLeDiff, hG, hlen]; refine hK _ _ ?_; clear hK K hG G) | refine W_seqS ?_ | refine W_seqC ?_ | refine W_seqB ?_ | refine W_block ?_ | refine W_skip ?_ | (refine W_condT ?hc ?_; (case hc => (simp (disch := omega) only [go_sem, ↓reduceIte, Nat.reduceEqDiff, Nat.reduceAdd, Nat.reduceLeDiff, hlen]; done))) | (refine W_condF ?hc ?_; (case hc => (simp (disch := omega) only [go_sem, ↓reduceIte, Nat.reduceEqDiff, Nat.reduceAdd, Nat.reduceLeDiff, hlen]; done))) | refine thenI ?_ | refine thenE ?_ | refine thenR ?_ | refine inBI ?_ | refine inBR ?_ | refine inBS ?_ | refine inBN (by decide) ?_)
  refine W_condP rfl (fun hb => ?_) (fun hb => ?_)
  · repeat (first | ((first | refine W_reg rfl fun G K hG hK => ?_ | refine W_end rfl fun G K hG hK => ?_); simp (disch := omega) only [go_sem, ↓reduceIte, Nat.reduceEqDiff, Nat.reduceAdd, Nat.reduceLeDiff, hG]; refine hK _ _ ?_; clear hK K hG G) | refine W_seqS ?_ | refine W_seqC ?_ | refine W_seqB ?_ | refine W_block ?_ | refine W_skip ?_ | (refine W_condT ?hc ?_; (case hc => (simp (disch := omega) only [go_sem, ↓reduceIte, Nat.reduceEqDiff, Nat.reduceAdd, Nat.reduceLeDiff]; done))) | (refine W_condF ?hc ?_; (case hc => (simp (disch := omega) only [go_sem, ↓reduceIte, Nat.reduceEqDiff, Nat.reduceAdd, Nat.reduceLeDiff]; done))) | refine thenI ?_ | refine thenE ?_ | refine thenR ?_ | refine inBI ?_ | refine inBR ?_ | refine inBS ?_ | refine inBN (by decide) ?_)
    refine W_ret ?_; try (repeat (first | refine thenI ?_ | refine thenE ?_ | refine thenR ?_ | refine inBI ?_ | refine inBR ?_ | refine inBS ?_ | refine inBN (by decide) ?_))
    refine (fin1 (.inl rfl) (by (simp (disch := omega) only [go_sem, ↓reduceIte, Nat.reduceEqDiff, Nat.reduceAdd, Nat.reduceLeDiff]); try rfl) rfl ⟨?_, rfl⟩)
    rw [if_neg (by omega)]
  repeat (first | ((first | refine W_reg rfl fun G K hG hK => ?_ | refine W_end rfl fun G K hG hK => ?_); simp (disch := omega) only [go_sem, ↓reduceIte, Nat.reduceEqDiff, Nat.reduceAdd, Nat.reduceLeDiff, hG]; refine hK _ _ ?_; clear hK K hG G) | refine W_seqS ?_ | refine W_seqC ?_ | refine W_seqB ?_ | refine W_block ?_ | refine W_skip ?_ | (refine W_condT ?hc ?_; (case hc => (simp (disch := omega) only [go_sem, ↓reduceIte, Nat.reduceEqDiff, Nat.reduceAdd, Nat.reduceLeDiff]; done))) | (refine W_condF ?hc ?_; (case hc => (simp (disch := omega) only [go_sem, ↓reduceIte, Nat.reduceEqDiff, Nat.reduceAdd, Nat.reduceLeDiff]; done))) | refine thenI ?_ | refine thenE ?_ | refine thenR ?_ | refine inBI ?_ | refine inBR ?_ | refine inBS ?_ | refine inBN (by decide) ?_)
  refine W_loop (fun d fr st' => ∃ (j : Nat) (l : Int), d = xs.length - j ∧ j ≤ xs.length ∧ 0 ≤ l ∧ l ≤ 1073741824 ∧ (l + xs.length + T.wtL xs : Int) = left + T.wtL (xs.drop j) ∧ st' = st ∧ fr.env 5 = .int .i64 j ∧ fr.env 0 = s ∧ fr.env 1 = .int .i64 l) xs.length ?_ ?_
  · exact ⟨0, left - xs.length, by omega, by omega, by omega, by omega, by simp, rfl, (by (simp (disch := omega) only [go_sem, ↓reduceIte, Nat.reduceEqDiff, Nat.reduceAdd, Nat.reduceLeDiff]); try rfl), (by (simp (disch := omega) only [go_sem, ↓reduceIte, Nat.reduceEqDiff, Nat.reduceAdd, Nat.reduceLeDiff]); try rfl), (by (simp (disch := omega) only [go_sem, ↓reduceIte, Nat.reduceEqDiff, Nat.reduceAdd, Nat.reduceLeDiff]); try rfl)⟩
  rintro d ⟨env, loc⟩ st' ⟨j, l, hd, hj, hl, hl2, hsum, rfl, e5, e0, e1⟩
  simp only at e5 e0 e1
  by_cases hlt : j < xs.length
  · have c1 : decide ((j : Int) < (xs.length : Int)) = true := by simpa using hlt
    obtain ⟨i, o, c, cs, rfl, hcl, hE, hcs⟩ := row_at hr (List.getElem?_eq_getElem hlt)
    have hx : xs[j]? = some xs[j] := List.getElem?_eq_getElem hlt
    have hw := T.wtL_drop hx
    have hld := load_row (A := []) (loc := loc) ag24 sz24 hcl hcs
    repeat (first | ((first | refine W_reg rfl fun G K hG hK => ?_ | refine W_end rfl fun G K hG hK => ?_); simp (disch := omega) only [go_sem, ↓reduceIte, Nat.reduceEqDiff, Nat.reduceAdd, Nat.reduceLeDiff, hG, e5, e0, e1, hlen, c1]; refine hK _ _ ?_; clear hK K hG G) | refine W_seqS ?_ | refine W_seqC ?_ | refine W_seqB ?_ | refine W_block ?_ | refine W_skip ?_ | (refine W_condT ?hc ?_; (case hc => (simp (disch := omega) only [go_sem, ↓reduceIte, Nat.reduceEqDiff, Nat.reduceAdd, Nat.reduceLeDiff, e5, e0, e1, hlen, c1]; done))) | (refine W_condF ?hc ?_; (case hc => (simp (disch := omega) only [go_sem, ↓reduceIte, Nat.reduceEqDiff, Nat.reduceAdd, Nat.reduceLeDiff, e5, e0, e1, hlen, c1]; done))) | refine thenI ?_ | refine thenE ?_ | refine thenR ?_ | refine inBI ?_ | refine inBR ?_ | refine inBS ?_ | refine inBN (by decide) ?_)
    have hi := idxOk hlt
    (repeat (first | refine W_seqS ?_ | refine W_seqC ?_ | refine W_seqB ?_ | refine W_block ?_)); refine W_reg rfl fun G K hG hK => ?_; simp (disch := omega) only [go_sem, ↓reduceIte, Nat.reduceEqDiff, Nat.reduceAdd, Nat.reduceLeDiff, hG, e5, e0, e1, idxA, el22, sz24, Int.toNat_natCast, hi, hld]
    refine w_call (ih xs[j] (List.getElem_mem hlt) cs l hl (by omega) hE) (by simp (disch := omega) only [go_sem, ↓reduceIte, Nat.reduceEqDiff, e1]) ?hl ?_
    case hl => first | rfl | (simp only [go_sem, List.all_cons, List.all_nil, Bool.not_false, Bool.and_self, e1]; done)
    rintro r_ s_ ⟨rfl, rfl⟩; refine ⟨fun e => (by cases e), ?_⟩
    simp (disch := omega) only [go_sem, ↓reduceIte, Nat.reduceEqDiff, Nat.reduceAdd, Nat.reduceLeDiff, hG]; refine hK _ _ ?_; clear hK K hG G; repeat (first | refine thenI ?_ | refine thenE ?_ | refine thenR ?_ | refine inBI ?_ | refine inBR ?_ | refine inBS ?_ | refine inBN (by decide) ?_)
    by_cases hw2 : (xs[j].wt : Int) ≤ l
    · have c2 : decide (l - (xs[j].wt : Int) < 0) = false := by simp; omega
      rw [if_pos hw2]
      refine W_reg rfl fun G K hG hK => ?_; simp (disch := omega) only [go_sem, ↓reduceIte, Nat.reduceEqDiff, Nat.reduceAdd, Nat.reduceLeDiff, hG, c2]; refine hK _ _ ?_; clear hK K hG G; repeat (first | refine thenI ?_ | refine thenE ?_ | refine thenR ?_ | refine inBI ?_ | refine inBR ?_ | refine inBS ?_ | refine inBN (by decide) ?_)
      repeat (first | ((first | refine W_reg rfl fun G K hG hK => ?_ | refine W_end rfl fun G K hG hK => ?_); simp (disch := omega) only [go_sem, ↓reduceIte, Nat.reduceEqDiff, Nat.reduceAdd, Nat.reduceLeDiff, hG, c2, e5]; refine hK _ _ ?_; clear hK K hG G) | refine W_seqS ?_ | refine W_seqC ?_ | refine W_seqB ?_ | refine W_block ?_ | refine W_skip ?_ | (refine W_condT ?hc ?_; (case hc => (simp (disch := omega) only [go_sem, ↓reduceIte, Nat.reduceEqDiff, Nat.reduceAdd, Nat.reduceLeDiff, c2, e5]; done))) | (refine W_condF ?hc ?_; (case hc => (simp (disch := omega) only [go_sem, ↓reduceIte, Nat.reduceEqDiff, Nat.reduceAdd, Nat.reduceLeDiff, c2, e5]; done))) | refine thenI ?_ | refine thenE ?_ | refine thenR ?_ | refine inBI ?_ | refine inBR ?_ | refine inBS ?_ | refine inBN (by decide) ?_)
      refine ⟨xs.length - (j + 1), by omega, j + 1, l - xs[j].wt, rfl, by omega, by omega, by omega, by omega, rfl, (by (simp (disch := omega) only [go_sem, ↓reduceIte, Nat.reduceEqDiff, Nat.reduceAdd, Nat.reduceLeDiff]); try rfl), (by (simp (disch := omega) only [go_sem, ↓reduceIte, Nat.reduceEqDiff, Nat.reduceAdd, Nat.reduceLeDiff, e0]); try rfl), (by (simp (disch := omega) only [go_sem, ↓reduceIte, Nat.reduceEqDiff, Nat.reduceAdd, Nat.reduceLeDiff]); try rfl)⟩
    · have c2 : decide ((-1 : Int) < 0) = true := by simp
      rw [if_neg hw2]
      repeat (first | ((first | refine W_reg rfl fun G K hG hK => ?_ | refine W_end rfl fun G K hG hK => ?_); simp (disch := omega) only [go_sem, ↓reduceIte, Nat.reduceEqDiff, Nat.reduceAdd, Nat.reduceLeDiff, hG, c2, e5]; refine hK _ _ ?_; clear hK K hG G) | refine W_seqS ?_ | refine W_seqC ?_ | refine W_seqB ?_ | refine W_block ?_ | refine W_skip ?_ | (refine W_condT ?hc ?_; (case hc => (simp (disch := omega) only [go_sem, ↓reduceIte, Nat.reduceEqDiff, Nat.reduceAdd, Nat.reduceLeDiff, c2, e5]; done))) | (refine W_condF ?hc ?_; (case hc => (simp (disch := omega) only [go_sem, ↓reduceIte, Nat.reduceEqDiff, Nat.reduceAdd, Nat.reduceLeDiff, c2, e5]; done))) | refine thenI ?_ | refine thenE ?_ | refine thenR ?_ | refine inBI ?_ | refine inBR ?_ | refine inBS ?_ | refine inBN (by decide) ?_)
      refine W_ret ?_; try (repeat (first | refine thenI ?_ | refine thenE ?_ | refine thenR ?_ | refine inBI ?_ | refine inBR ?_ | refine inBS ?_ | refine inBN (by decide) ?_))
      refine (fin1 (.inl rfl) (by (simp (disch := omega) only [go_sem, ↓reduceIte, Nat.reduceEqDiff, Nat.reduceAdd, Nat.reduceLeDiff]); try rfl) rfl ⟨?_, rfl⟩)
      rw [if_neg (by omega)]
  · have c1 : decide ((j : Int) < (xs.length : Int)) = false := by simpa using hlt
    repeat (first | ((first | refine W_reg rfl fun G K hG hK => ?_ | refine W_end rfl fun G K hG hK => ?_); simp (disch := omega) only [go_sem, ↓reduceIte, Nat.reduceEqDiff, Nat.reduceAdd, Nat.reduceLeDiff, hG, e5, e0, e1, hlen, c1]; refine hK _ _ ?_; clear hK K hG G) | refine W_seqS ?_ | refine W_seqC ?_ | refine W_seqB ?_ | refine W_block ?_ | refine W_skip ?_ | (refine W_condT ?hc ?_; (case hc => (simp (disch := omega) only [go_sem, ↓reduceIte, Nat.reduceEqDiff, Nat.reduceAdd, Nat.reduceLeDiff, e5, e0, e1, hlen, c1]; done))) | (refine W_condF ?hc ?_; (case hc => (simp (disch := omega) only [go_sem, ↓reduceIte, Nat.reduceEqDiff, Nat.reduceAdd, Nat.reduceLeDiff, e5, e0, e1, hlen, c1]; done))) | refine thenI ?_ | refine thenE ?_ | refine thenR ?_ | refine inBI ?_ | refine inBR ?_ | refine inBS ?_ | refine inBN (by decide) ?_)
    refine W_exit ?_; repeat (first | refine thenI ?_ | refine thenE ?_ | refine thenR ?_ | refine inBI ?_ | refine inBR ?_ | refine inBS ?_ | refine inBN (by decide) ?_)
    repeat (first | ((first | refine W_reg rfl fun G K hG hK => ?_ | refine W_end rfl fun G K hG hK => ?_); simp (disch := omega) only [go_sem, ↓reduceIte, Nat.reduceEqDiff, Nat.reduceAdd, Nat.reduceLeDiff, hG, e5, e0, e1]; refine hK _ _ ?_; clear hK K hG G) | refine W_seqS ?_ | refine W_seqC ?_ | refine W_seqB ?_ | refine W_block ?_ | refine W_skip ?_ | (refine W_condT ?hc ?_; (case hc => (simp (disch := omega) only [go_sem, ↓reduceIte, Nat.reduceEqDiff, Nat.reduceAdd, Nat.reduceLeDiff, e5, e0, e1]; done))) | (refine W_condF ?hc ?_; (case hc => (simp (disch := omega) only [go_sem, ↓reduceIte, Nat.reduceEqDiff, Nat.reduceAdd, Nat.reduceLeDiff, e5, e0, e1]; done))) | refine thenI ?_ | refine thenE ?_ | refine thenR ?_ | refine inBI ?_ | refine inBR ?_ | refine inBS ?_ | refine inBN (by decide) ?_)
    refine W_ret ?_; try (repeat (first | refine thenI ?_ | refine thenE ?_ | refine thenR ?_ | refine inBI ?_ | refine inBR ?_ | refine inBS ?_ | refine inBN (by decide) ?_))
    refine (fin1 (.inl rfl) (by (simp (disch := omega) only [go_sem, ↓reduceIte, Nat.reduceEqDiff, Nat.reduceAdd, Nat.reduceLeDiff, e1]); try rfl) rfl ⟨?_, rfl⟩)
    have : xs.drop j = [] := List.drop_eq_nil_of_le (by omega)
    rw [this] at hsum
    simp only [T.wtL] at hsum
    have e : l = left - ((xs.length + T.wtL xs : Nat) : Int) := by omega
    rw [if_pos (by omega), e]

theorem szTerm_of (k n : Int) (nm : ByteArray) (args : List T) (st : St) (s : Value) (left : Int) (h0 : 0 ≤ left) (h1 : left ≤ 1073741824) (hnm : nm.size ≤ maxLen) (hr : Row (Enc st) 4 st args s)
    (h : ∀ left : Int, 0 ≤ left → left ≤ 1073741824 → CallS Try.prog 13 [s, .int .i64 left] st fun r st' => r = .int .i64 (if ((args.length + T.wtL args : Nat) : Int) ≤ left then left - (args.length + T.wtL args : Nat) else -1) ∧ st' = st) :
    CallS Try.prog 4 [.agg #[.int .i64 k, .int .i64 n, .string nm, s], .int .i64 left] st fun r st' => r = .int .i64 (if ((T.mk k n nm args).wt : Int) ≤ left then left - (T.mk k n nm args).wt else -1) ∧ st' = st := by
  have hnm2 : nm.size ≤ 9223372036854775807 := hnm
  clear hnm
  refine CallS_of_W [] 19 Try.func4 rfl rfl rfl rfl (by simp) ?_
  have hwt : (T.mk k n nm args).wt = nm.size + args.length + T.wtL args := by simp only [T.wt]
  have n1 := hr.notLoc.1
  have hlen := len_str (s := nm) Try.underlying9
  repeat (first | ((first | refine W_reg rfl fun G K hG hK => ?_ | refine W_end rfl fun G K hG hK => ?_); simp (disch := omega) only [go_sem, ↓reduceIte, Nat.reduceEqDiff, Nat.reduceAdd, Nat.reduceLeDiff, hG, hlen]; refine hK _ _ ?_; clear hK K hG G) | refine W_seqS ?_ | refine W_seqC ?_ | refine W_seqB ?_ | refine W_block ?_ | refine W_skip ?_ | (refine W_condT ?hc ?_; (case hc => (simp (disch := omega) only [go_sem, ↓reduceIte, Nat.reduceEqDiff, Nat.reduceAdd, Nat.reduceLeDiff, hlen]; done))) | (refine W_condF ?hc ?_; (case hc => (simp (disch := omega) only [go_sem, ↓reduceIte, Nat.reduceEqDiff, Nat.reduceAdd, Nat.reduceLeDiff, hlen]; done))) | refine thenI ?_ | refine thenE ?_ | refine thenR ?_ | refine inBI ?_ | refine inBR ?_ | refine inBS ?_ | refine inBN (by decide) ?_)
  refine W_condP rfl (fun hb => ?_) (fun hb => ?_)
  · repeat (first | ((first | refine W_reg rfl fun G K hG hK => ?_ | refine W_end rfl fun G K hG hK => ?_); simp (disch := omega) only [go_sem, ↓reduceIte, Nat.reduceEqDiff, Nat.reduceAdd, Nat.reduceLeDiff, hG]; refine hK _ _ ?_; clear hK K hG G) | refine W_seqS ?_ | refine W_seqC ?_ | refine W_seqB ?_ | refine W_block ?_ | refine W_skip ?_ | (refine W_condT ?hc ?_; (case hc => (simp (disch := omega) only [go_sem, ↓reduceIte, Nat.reduceEqDiff, Nat.reduceAdd, Nat.reduceLeDiff]; done))) | (refine W_condF ?hc ?_; (case hc => (simp (disch := omega) only [go_sem, ↓reduceIte, Nat.reduceEqDiff, Nat.reduceAdd, Nat.reduceLeDiff]; done))) | refine thenI ?_ | refine thenE ?_ | refine thenR ?_ | refine inBI ?_ | refine inBR ?_ | refine inBS ?_ | refine inBN (by decide) ?_)
    refine W_ret ?_; try (repeat (first | refine thenI ?_ | refine thenE ?_ | refine thenR ?_ | refine inBI ?_ | refine inBR ?_ | refine inBS ?_ | refine inBN (by decide) ?_))
    refine fin1 (.inl rfl) (by (simp (disch := omega) only [go_sem, ↓reduceIte, Nat.reduceEqDiff, Nat.reduceAdd, Nat.reduceLeDiff]); try rfl) rfl ⟨?_, rfl⟩
    rw [if_neg (by rw [hwt]; omega)]
  repeat (first | ((first | refine W_reg rfl fun G K hG hK => ?_ | refine W_end rfl fun G K hG hK => ?_); simp (disch := omega) only [go_sem, ↓reduceIte, Nat.reduceEqDiff, Nat.reduceAdd, Nat.reduceLeDiff, hG]; refine hK _ _ ?_; clear hK K hG G) | refine W_seqS ?_ | refine W_seqC ?_ | refine W_seqB ?_ | refine W_block ?_ | refine W_skip ?_ | (refine W_condT ?hc ?_; (case hc => (simp (disch := omega) only [go_sem, ↓reduceIte, Nat.reduceEqDiff, Nat.reduceAdd, Nat.reduceLeDiff]; done))) | (refine W_condF ?hc ?_; (case hc => (simp (disch := omega) only [go_sem, ↓reduceIte, Nat.reduceEqDiff, Nat.reduceAdd, Nat.reduceLeDiff]; done))) | refine thenI ?_ | refine thenE ?_ | refine thenR ?_ | refine inBI ?_ | refine inBR ?_ | refine inBS ?_ | refine inBN (by decide) ?_)
  (repeat (first | refine W_seqS ?_ | refine W_seqC ?_ | refine W_seqB ?_ | refine W_block ?_)); refine W_reg rfl fun G K hG hK => ?_; simp (disch := omega) only [go_sem, ↓reduceIte, Nat.reduceEqDiff, Nat.reduceAdd, Nat.reduceLeDiff, hG]
  refine w_call (h (left - nm.size) (by omega) (by omega)) (by simp (disch := omega) only [go_sem, ↓reduceIte, Nat.reduceEqDiff, n1]) ?hl ?_
  case hl => first | rfl | (simp only [go_sem, List.all_cons, List.all_nil, Bool.not_false, Bool.and_self, n1]; done)
  rintro r_ s_ ⟨rfl, rfl⟩; refine ⟨fun e => (by cases e), ?_⟩
  simp (disch := omega) only [go_sem, ↓reduceIte, Nat.reduceEqDiff, Nat.reduceAdd, Nat.reduceLeDiff, hG]; refine hK _ _ ?_; clear hK K hG G; repeat (first | refine thenI ?_ | refine thenE ?_ | refine thenR ?_ | refine inBI ?_ | refine inBR ?_ | refine inBS ?_ | refine inBN (by decide) ?_)
  by_cases hw : ((args.length + T.wtL args : Nat) : Int) ≤ left - nm.size
  · rw [if_pos hw]
    have c2 : decide (left - (nm.size : Int) - ((args.length + T.wtL args : Nat) : Int) < 0) = false := by simp; omega
    repeat (first | ((first | refine W_reg rfl fun G K hG hK => ?_ | refine W_end rfl fun G K hG hK => ?_); simp (disch := omega) only [go_sem, ↓reduceIte, Nat.reduceEqDiff, Nat.reduceAdd, Nat.reduceLeDiff, hG, c2]; refine hK _ _ ?_; clear hK K hG G) | refine W_seqS ?_ | refine W_seqC ?_ | refine W_seqB ?_ | refine W_block ?_ | refine W_skip ?_ | (refine W_condT ?hc ?_; (case hc => (simp (disch := omega) only [go_sem, ↓reduceIte, Nat.reduceEqDiff, Nat.reduceAdd, Nat.reduceLeDiff, c2]; done))) | (refine W_condF ?hc ?_; (case hc => (simp (disch := omega) only [go_sem, ↓reduceIte, Nat.reduceEqDiff, Nat.reduceAdd, Nat.reduceLeDiff, c2]; done))) | refine thenI ?_ | refine thenE ?_ | refine thenR ?_ | refine inBI ?_ | refine inBR ?_ | refine inBS ?_ | refine inBN (by decide) ?_)
    refine W_ret ?_; try (repeat (first | refine thenI ?_ | refine thenE ?_ | refine thenR ?_ | refine inBI ?_ | refine inBR ?_ | refine inBS ?_ | refine inBN (by decide) ?_))
    refine fin1 (.inl rfl) (by (simp (disch := omega) only [go_sem, ↓reduceIte, Nat.reduceEqDiff, Nat.reduceAdd, Nat.reduceLeDiff]); try rfl) rfl ⟨?_, rfl⟩
    have e : left - (nm.size : Int) - ((args.length + T.wtL args : Nat) : Int) = left - ((T.mk k n nm args).wt : Int) := by rw [hwt]; omega
    rw [if_pos (by rw [hwt]; omega), e]
  · rw [if_neg hw]
    have c2 : decide ((-1 : Int) < 0) = true := by simp
    repeat (first | ((first | refine W_reg rfl fun G K hG hK => ?_ | refine W_end rfl fun G K hG hK => ?_); simp (disch := omega) only [go_sem, ↓reduceIte, Nat.reduceEqDiff, Nat.reduceAdd, Nat.reduceLeDiff, hG, c2]; refine hK _ _ ?_; clear hK K hG G) | refine W_seqS ?_ | refine W_seqC ?_ | refine W_seqB ?_ | refine W_block ?_ | refine W_skip ?_ | (refine W_condT ?hc ?_; (case hc => (simp (disch := omega) only [go_sem, ↓reduceIte, Nat.reduceEqDiff, Nat.reduceAdd, Nat.reduceLeDiff, c2]; done))) | (refine W_condF ?hc ?_; (case hc => (simp (disch := omega) only [go_sem, ↓reduceIte, Nat.reduceEqDiff, Nat.reduceAdd, Nat.reduceLeDiff, c2]; done))) | refine thenI ?_ | refine thenE ?_ | refine thenR ?_ | refine inBI ?_ | refine inBR ?_ | refine inBS ?_ | refine inBN (by decide) ?_)
    refine W_ret ?_; try (repeat (first | refine thenI ?_ | refine thenE ?_ | refine thenR ?_ | refine inBI ?_ | refine inBR ?_ | refine inBS ?_ | refine inBN (by decide) ?_))
    refine fin1 (.inl rfl) (by (simp (disch := omega) only [go_sem, ↓reduceIte, Nat.reduceEqDiff, Nat.reduceAdd, Nat.reduceLeDiff]); try rfl) rfl ⟨?_, rfl⟩
    rw [if_neg (by rw [hwt]; omega)]

/-- What came in is no longer than memory is. -/
inductive Lens : T → Prop
  | mk (k n : Int) (nm : ByteArray) (args : List T) (h : args.length ≤ maxLen) (hn : nm.size ≤ maxLen) (hs : ∀ a ∈ args, Lens a) : Lens (.mk k n nm args)

theorem szTerm_ok : ∀ (t : T) (st : St) (cs : List Value) (left : Int), Lens t → 0 ≤ left → left ≤ 1073741824 → Enc st t cs →
    CallS Try.prog 4 [.agg cs.toArray, .int .i64 left] st fun r st' => r = .int .i64 (if (t.wt : Int) ≤ left then left - t.wt else -1) ∧ st' = st := by
  refine T.ind fun k n nm args ih st cs left hl h0 h1 h => ?_
  obtain ⟨s, rfl, hr⟩ := h.open
  cases hl with
  | mk _ _ _ _ hb hn hs =>
  exact szTerm_of k n nm args st s left h0 h1 hn hr fun left h0 h1 => szTermS_of args st s left h0 h1 hb hr fun x hx cs left h0 h1 he => ih x hx st cs left (hs x hx) h0 h1 he

theorem eqTerm_ok : ∀ (t : T) (st : St) (cs ds : List Value), Lim 4611686018427387904 t → Enc st t cs → Enc st t ds →
    CallS Try.prog 9 [.agg cs.toArray, .agg ds.toArray] st fun r st' => r = .bool true ∧ st' = st := by
  refine T.ind fun k n nm args ih st cs ds hl h h' => ?_
  obtain ⟨s, rfl, hr⟩ := h.open
  obtain ⟨s', rfl, hr'⟩ := h'.open
  exact eqTerm_of k n nm args st s s' hr hr' (eqTermS_of args st s s' hl.args.1 hr hr' fun x hx cs ds he he' => ih x hx st cs ds (hl.args.2 x hx) he he')

end

section
/- A tree behind a row of one's own. -/
open Go Go.Proofs
set_option linter.unusedVariables false
set_option linter.unusedSimpArgs false
set_option maxRecDepth 100000

/-- Every name is short. -/
inductive LimN (B : Nat) : T → Prop
  | mk (k n : Int) (nm : ByteArray) (args : List T) (h : nm.size ≤ B) (hs : ∀ a ∈ args, LimN B a) : LimN B (.mk k n nm args)
theorem LimN.of_wt {B : Nat} : ∀ t : T, t.wt ≤ B → LimN B t := by
  refine T.ind fun k n nm args ih h => ?_
  simp only [T.wt] at h
  exact .mk k n nm args (by omega) fun a ha => ih a ha (by have := T.wt_mem ha; omega)
theorem LimN.args {B : Nat} {k n : Int} {nm : ByteArray} {args : List T} (h : LimN B (.mk k n nm args)) : nm.size ≤ B ∧ ∀ a ∈ args, LimN B a := by cases h; exact ⟨by assumption, by assumption⟩

/-- A tree is put behind a row of one's own. -/
theorem Own.step {n0 : Nat} {st st2 : St} {xs : List T} {s : Value} {L : List Nat} {x : T} {cx : List Value} {Lx : List Nat} (h : SliceO (Own 31 st) 31 st xs s L) (hf : Fresh n0 L) (hn0 : n0 ≤ st.length) (hext : Ext st st2)
    (hx : Own 31 st2 x cx Lx) (hfx : Fresh st.length Lx) (hb : xs.length + 1 ≤ 1099511627776) :
    ∃ s' st' L', appendA Try.prog 29 29 s (.slice (some ⟨st2.length, 0, none⟩) 1 1) (st2 ++ [⟨cx, 31, 0⟩]) = some (s', st') ∧ SliceO (Own 31 st') 31 st' (xs ++ [x]) s' L' ∧ Fresh n0 L' ∧ st2.length ≤ st'.length ∧ (∀ i, i < n0 → st'[i]? = st2[i]?) :=
  SliceO.step (fun _ _ => Own.frame) (fun _ => Own.lt) (fun _ => Own.len) Try.underlying29 sz31 by31 ze31 rfl h hf hn0 hext hx hfx (by omega) (by omega)


end

section
/- Copies of trees: impl.copyTerm, spec.l3Copy. -/
open Go Go.Proofs
set_option linter.unusedVariables false
set_option linter.unusedSimpArgs false
set_option maxRecDepth 100000

theorem copy_of (k n : Int) (nm : ByteArray) (xs : List T) (st : St) (s : Value) (hbig : xs.length ≤ 1073741824) (hr : Row (Enc st) 4 st xs s)
    (ih : ∀ x ∈ xs, ∀ st' cs, Enc st' x cs → CallS Try.prog 47 [.agg cs.toArray] st' fun r st2 => Ext st' st2 ∧ ∃ ds L, r = .agg ds.toArray ∧ OwnT st2 (x) ds L ∧ Fresh st'.length L) :
    CallS Try.prog 47 [.agg #[.int .i64 k, .int .i64 n, .string nm, s]] st fun r st2 => Ext st st2 ∧ ∃ ds L, r = .agg ds.toArray ∧ OwnT st2 ((T.mk k n nm xs)) ds L ∧ Fresh st.length L := by
  refine CallS_of_W [] 29 Try.func47 rfl rfl rfl rfl (by simp) ?_
  have hlen := row_len hr Try.underlying29
  have n1 := hr.notLoc.1
  have n2 := hr.notLoc.2
  have hlen2 : lenE Try.prog 29 s = some (.int .i64 xs.length) := hlen
  repeat (first | ((first | refine W_reg rfl fun G K hG hK => ?_ | refine W_end rfl fun G K hG hK => ?_); simp (disch := omega) only [go_sem, ↓reduceIte, Nat.reduceEqDiff, Nat.reduceAdd, Nat.reduceLeDiff, hG, hlen2]; refine hK _ _ ?_; clear hK K hG G) | refine W_seqS ?_ | refine W_seqC ?_ | refine W_seqB ?_ | refine W_block ?_ | refine W_skip ?_ | (refine W_condT ?hc ?_; (case hc => (simp (disch := omega) only [go_sem, ↓reduceIte, Nat.reduceEqDiff, Nat.reduceAdd, Nat.reduceLeDiff, hlen2]; done))) | (refine W_condF ?hc ?_; (case hc => (simp (disch := omega) only [go_sem, ↓reduceIte, Nat.reduceEqDiff, Nat.reduceAdd, Nat.reduceLeDiff, hlen2]; done))) | refine thenI ?_ | refine thenE ?_ | refine thenR ?_ | refine inBI ?_ | refine inBR ?_ | refine inBS ?_ | refine inBN (by decide) ?_)
  refine W_loop (fun d fr st' => ∃ (j : Nat) (r : Value) (L : List Nat), d = xs.length - j ∧ j ≤ xs.length ∧ Ext st st' ∧ SliceO (Own 31 st') 31 st' (xs.take j) r L ∧ Fresh st.length L
    ∧ fr.env 14 = s ∧ fr.env 15 = .int .i64 xs.length ∧ fr.env 2 = .pointer (some ⟨2, 0, some 1⟩) ∧ fr.env 3 = .pointer (some ⟨3, 0, some 1⟩) ∧ fr.env 16 = .int .i64 j
    ∧ fr.loc 3 = (1, [.int .i64 k, .int .i64 n, .string nm, r]) ∧ (fr.loc 2).1 = 1 ∧ (fr.loc 2).2.length = 4) xs.length ?_ ?_
  · exact ⟨0, .slice none 0 0, [], by omega, by omega, Ext.refl _, .inl ⟨rfl, rfl, rfl⟩, ⟨by simp, by simp⟩, (by (simp (disch := omega) only [go_sem, ↓reduceIte, Nat.reduceEqDiff, Nat.reduceAdd, Nat.reduceLeDiff]); try rfl), (by (simp (disch := omega) only [go_sem, ↓reduceIte, Nat.reduceEqDiff, Nat.reduceAdd, Nat.reduceLeDiff]); try rfl), (by (simp (disch := omega) only [go_sem, ↓reduceIte, Nat.reduceEqDiff, Nat.reduceAdd, Nat.reduceLeDiff]); try rfl), (by (simp (disch := omega) only [go_sem, ↓reduceIte, Nat.reduceEqDiff, Nat.reduceAdd, Nat.reduceLeDiff]); try rfl), (by (simp (disch := omega) only [go_sem, ↓reduceIte, Nat.reduceEqDiff, Nat.reduceAdd, Nat.reduceLeDiff]); try rfl), (by (simp (disch := omega) only [go_sem, ↓reduceIte, Nat.reduceEqDiff, Nat.reduceAdd, Nat.reduceLeDiff]); try rfl), (by (simp (disch := omega) only [go_sem, ↓reduceIte, Nat.reduceEqDiff, Nat.reduceAdd, Nat.reduceLeDiff]); try rfl), (by (simp (disch := omega) only [go_sem, ↓reduceIte, Nat.reduceEqDiff, Nat.reduceAdd, Nat.reduceLeDiff]); try rfl)⟩
  rintro d ⟨env, loc⟩ st' ⟨j, r, L, hd, hj, hext, hown, hfr, e14, e15, e2, e3, e4, l3, l2, l2'⟩
  simp only at e14 e15 e2 e3 e4 l3 l2 l2'
  by_cases hlt : j < xs.length
  · have c1 : decide ((j : Int) < (xs.length : Int)) = true := by simpa using hlt
    have hx : xs[j]? = some xs[j] := List.getElem?_eq_getElem hlt
    obtain ⟨i, o, c, cs, rfl, hcl, hE, hcs⟩ := row_at hr hx
    have hld := fun loc => load_row (A := []) (loc := loc) ag31 sz31 hcl (hcs.ext hext)
    have hi := idxOk hlt
    have ho := hown.okv
    have hc := hown.cells
    have hl := hown.loc
    obtain ⟨v0, v1, v2, v3, rfl⟩ : ∃ v0 v1 v2 v3, cs = [v0, v1, v2, v3] := by
      match cs, hcl with
      | [v0, v1, v2, v3], _ => exact ⟨v0, v1, v2, v3, rfl⟩
    repeat (first | ((first | refine W_reg rfl fun G K hG hK => ?_ | refine W_end rfl fun G K hG hK => ?_); simp (disch := omega) only [go_sem, ↓reduceIte, Nat.reduceEqDiff, Nat.reduceAdd, Nat.reduceLeDiff, hG, e14, e15, e2, e3, e4, l3, c1, idxA, Int.toNat_natCast, hi, hld, cells_agg]; refine hK _ _ ?_; clear hK K hG G) | refine W_seqS ?_ | refine W_seqC ?_ | refine W_seqB ?_ | refine W_block ?_ | refine W_skip ?_ | (refine W_condT ?hc ?_; (case hc => (simp (disch := omega) only [go_sem, ↓reduceIte, Nat.reduceEqDiff, Nat.reduceAdd, Nat.reduceLeDiff, e14, e15, e2, e3, e4, l3, c1, idxA, Int.toNat_natCast, hi, hld, cells_agg]; done))) | (refine W_condF ?hc ?_; (case hc => (simp (disch := omega) only [go_sem, ↓reduceIte, Nat.reduceEqDiff, Nat.reduceAdd, Nat.reduceLeDiff, e14, e15, e2, e3, e4, l3, c1, idxA, Int.toNat_natCast, hi, hld, cells_agg]; done))) | refine thenI ?_ | refine thenE ?_ | refine thenR ?_ | refine inBI ?_ | refine inBR ?_ | refine inBS ?_ | refine inBN (by decide) ?_)
    refine W_endD mixed [] [(0,false),(1,false),(2,false),(3,true),(4,false),(5,false),(6,false),(7,false)] rfl (by decide +kernel) fun G K hG hK => ?_; simp only [pickOps, List.filterMap_cons, List.filterMap_nil, List.getElem?_cons_zero, List.getElem?_cons_succ, Option.map_some]; simp (disch := omega) only [go_sem, ↓reduceIte, Nat.reduceEqDiff, Nat.reduceAdd, Nat.reduceLeDiff, hG, e14, e15, e2, e3, e4, l3]
    refine w_call (ih xs[j] (List.getElem_mem hlt) st' _ (Enc.ext hext _ _ hE)) (by simp (disch := omega) only [go_sem, ↓reduceIte, Nat.reduceEqDiff]) ?hl ?_
    case hl => first | rfl | (simp only [go_sem, List.all_cons, List.all_nil, Bool.not_false, Bool.and_self]; done)
    rintro r_ s_ ⟨hx1, ds, Lx, rfl, hox, hfx⟩; refine ⟨fun e => hx1, ?_⟩
    obtain ⟨r', st3, L', hap, hown', hfr', hl3, hoth⟩ := Own.step hown hfr hext.length hx1 hox hfx (by simp; omega)
    have ho' := hown'.okv
    have hc' := hown'.cells
    have hn' := hown'.loc
    have hdl := Own.len _ _ _ hox
    simp (disch := omega) only [go_sem, ↓reduceIte, Nat.reduceEqDiff, Nat.reduceAdd, Nat.reduceLeDiff, hG, e2, e3, e4, l3, w_append, hap, ho', hc', hn', hl, ho, hdl, List.toList_toArray]; refine hK _ _ ?_; clear hK K hG G; repeat (first | refine thenI ?_ | refine thenE ?_ | refine thenR ?_ | refine inBI ?_ | refine inBR ?_ | refine inBS ?_ | refine inBN (by decide) ?_)
    repeat (first | ((first | refine W_reg rfl fun G K hG hK => ?_ | refine W_end rfl fun G K hG hK => ?_); simp (disch := omega) only [go_sem, ↓reduceIte, Nat.reduceEqDiff, Nat.reduceAdd, Nat.reduceLeDiff, hG, e4]; refine hK _ _ ?_; clear hK K hG G) | refine W_seqS ?_ | refine W_seqC ?_ | refine W_seqB ?_ | refine W_block ?_ | refine W_skip ?_ | (refine W_condT ?hc ?_; (case hc => (simp (disch := omega) only [go_sem, ↓reduceIte, Nat.reduceEqDiff, Nat.reduceAdd, Nat.reduceLeDiff, e4]; done))) | (refine W_condF ?hc ?_; (case hc => (simp (disch := omega) only [go_sem, ↓reduceIte, Nat.reduceEqDiff, Nat.reduceAdd, Nat.reduceLeDiff, e4]; done))) | refine thenI ?_ | refine thenE ?_ | refine thenR ?_ | refine inBI ?_ | refine inBR ?_ | refine inBS ?_ | refine inBN (by decide) ?_)
    have hxt := hext.length
    have htk : xs.take (j + 1) = xs.take j ++ [xs[j]] := List.take_succ_eq_append_getElem hlt
    refine ⟨xs.length - (j + 1), by omega, j + 1, r', L', rfl, by omega, Ext.of_get fun q hq => ?_, by rw [htk]; exact hown', hfr', (by (simp (disch := omega) only [go_sem, ↓reduceIte, Nat.reduceEqDiff, Nat.reduceAdd, Nat.reduceLeDiff, e14]); try rfl), (by (simp (disch := omega) only [go_sem, ↓reduceIte, Nat.reduceEqDiff, Nat.reduceAdd, Nat.reduceLeDiff, e15]); try rfl), (by (simp (disch := omega) only [go_sem, ↓reduceIte, Nat.reduceEqDiff, Nat.reduceAdd, Nat.reduceLeDiff, e2]); try rfl), (by (simp (disch := omega) only [go_sem, ↓reduceIte, Nat.reduceEqDiff, Nat.reduceAdd, Nat.reduceLeDiff, e3]); try rfl), (by (simp (disch := omega) only [go_sem, ↓reduceIte, Nat.reduceEqDiff, Nat.reduceAdd, Nat.reduceLeDiff]); try rfl), (by (simp (disch := omega) only [go_sem, ↓reduceIte, Nat.reduceEqDiff, Nat.reduceAdd, Nat.reduceLeDiff, l3]); try rfl), (by (simp (disch := omega) only [go_sem, ↓reduceIte, Nat.reduceEqDiff, Nat.reduceAdd, Nat.reduceLeDiff, l2]); try rfl), (by (simp (disch := omega) only [go_sem, ↓reduceIte, Nat.reduceEqDiff, Nat.reduceAdd, Nat.reduceLeDiff, l2']); try rfl)⟩
    rw [hoth q hq, hx1.get (by omega), hext.get hq]
  · have c1 : decide ((j : Int) < (xs.length : Int)) = false := by simpa using hlt
    have hjn : j = xs.length := by omega
    subst hjn
    rw [List.take_length] at hown
    have ho := hown.okv
    have hc := hown.cells
    have hl := hown.loc
    repeat (first | ((first | refine W_reg rfl fun G K hG hK => ?_ | refine W_end rfl fun G K hG hK => ?_); simp (disch := omega) only [go_sem, ↓reduceIte, Nat.reduceEqDiff, Nat.reduceAdd, Nat.reduceLeDiff, hG, e14, e15, e2, e3, e4, l3, c1]; refine hK _ _ ?_; clear hK K hG G) | refine W_seqS ?_ | refine W_seqC ?_ | refine W_seqB ?_ | refine W_block ?_ | refine W_skip ?_ | (refine W_condT ?hc ?_; (case hc => (simp (disch := omega) only [go_sem, ↓reduceIte, Nat.reduceEqDiff, Nat.reduceAdd, Nat.reduceLeDiff, e14, e15, e2, e3, e4, l3, c1]; done))) | (refine W_condF ?hc ?_; (case hc => (simp (disch := omega) only [go_sem, ↓reduceIte, Nat.reduceEqDiff, Nat.reduceAdd, Nat.reduceLeDiff, e14, e15, e2, e3, e4, l3, c1]; done))) | refine thenI ?_ | refine thenE ?_ | refine thenR ?_ | refine inBI ?_ | refine inBR ?_ | refine inBS ?_ | refine inBN (by decide) ?_)
    refine W_exit ?_; repeat (first | refine thenI ?_ | refine thenE ?_ | refine thenR ?_ | refine inBI ?_ | refine inBR ?_ | refine inBS ?_ | refine inBN (by decide) ?_)
    repeat (first | ((first | refine W_reg rfl fun G K hG hK => ?_ | refine W_end rfl fun G K hG hK => ?_); simp (disch := omega) only [go_sem, ↓reduceIte, Nat.reduceEqDiff, Nat.reduceAdd, Nat.reduceLeDiff, hG, e2, e3, l2, l2', l3, ho, hc, hl]; refine hK _ _ ?_; clear hK K hG G) | refine W_seqS ?_ | refine W_seqC ?_ | refine W_seqB ?_ | refine W_block ?_ | refine W_skip ?_ | (refine W_condT ?hc ?_; (case hc => (simp (disch := omega) only [go_sem, ↓reduceIte, Nat.reduceEqDiff, Nat.reduceAdd, Nat.reduceLeDiff, e2, e3, l2, l2', l3, ho, hc, hl]; done))) | (refine W_condF ?hc ?_; (case hc => (simp (disch := omega) only [go_sem, ↓reduceIte, Nat.reduceEqDiff, Nat.reduceAdd, Nat.reduceLeDiff, e2, e3, l2, l2', l3, ho, hc, hl]; done))) | refine thenI ?_ | refine thenE ?_ | refine thenR ?_ | refine inBI ?_ | refine inBR ?_ | refine inBS ?_ | refine inBN (by decide) ?_)
    refine W_ret ?_; try (repeat (first | refine thenI ?_ | refine thenE ?_ | refine thenR ?_ | refine inBI ?_ | refine inBR ?_ | refine inBS ?_ | refine inBN (by decide) ?_))
    refine finC (.inl rfl) (by (simp (disch := omega) only [go_sem, ↓reduceIte, Nat.reduceEqDiff, Nat.reduceAdd, Nat.reduceLeDiff, e2]); try rfl) ⟨hext, [_, _, _, _], L, rfl, Own.close _ _ _ hown, hfr⟩

theorem copy_ok : ∀ (t : T) (st : St) (cs : List Value), Lim 1073741824 t → Enc st t cs →
    CallS Try.prog 47 [.agg cs.toArray] st fun r st2 => Ext st st2 ∧ ∃ ds L, r = .agg ds.toArray ∧ OwnT st2 t ds L ∧ Fresh st.length L := by
  refine T.ind fun k n nm args ih st cs hl h => ?_
  obtain ⟨s, rfl, hr⟩ := h.open
  exact copy_of k n nm args st s hl.args.1 hr fun x hx st' cs he => ih x hx st' cs (hl.args.2 x hx) he
theorem l3Copy_of (k n : Int) (nm : ByteArray) (xs : List T) (st : St) (s : Value) (hbig : xs.length ≤ 1073741824) (hr : Row (Enc st) 4 st xs s)
    (ih : ∀ x ∈ xs, ∀ st' cs, Enc st' x cs → CallS Try.prog 45 [.agg cs.toArray] st' fun r st2 => Ext st' st2 ∧ ∃ ds L, r = .agg ds.toArray ∧ OwnT st2 x ds L ∧ Fresh st'.length L) :
    CallS Try.prog 45 [.agg #[.int .i64 k, .int .i64 n, .string nm, s]] st fun r st2 => Ext st st2 ∧ ∃ ds L, r = .agg ds.toArray ∧ OwnT st2 (.mk k n nm xs) ds L ∧ Fresh st.length L := by
  refine CallS_of_W [] 25 Try.func45 rfl rfl rfl rfl (by simp) ?_
  have hlen := row_len hr Try.underlying29
  have n1 := hr.notLoc.1
  have n2 := hr.notLoc.2
  have hlen2 : lenE Try.prog 29 s = some (.int .i64 xs.length) := hlen
  repeat (first | ((first | refine W_reg rfl fun G K hG hK => ?_ | refine W_end rfl fun G K hG hK => ?_); simp (disch := omega) only [go_sem, ↓reduceIte, Nat.reduceEqDiff, Nat.reduceAdd, Nat.reduceLeDiff, hG]; refine hK _ _ ?_; clear hK K hG G) | refine W_seqS ?_ | refine W_seqC ?_ | refine W_seqB ?_ | refine W_block ?_ | refine W_skip ?_ | (refine W_condT ?hc ?_; (case hc => (simp (disch := omega) only [go_sem, ↓reduceIte, Nat.reduceEqDiff, Nat.reduceAdd, Nat.reduceLeDiff]; done))) | (refine W_condF ?hc ?_; (case hc => (simp (disch := omega) only [go_sem, ↓reduceIte, Nat.reduceEqDiff, Nat.reduceAdd, Nat.reduceLeDiff]; done))) | refine thenI ?_ | refine thenE ?_ | refine thenR ?_ | refine inBI ?_ | refine inBR ?_ | refine inBS ?_ | refine inBN (by decide) ?_)
  refine W_loop (fun d fr st' => ∃ (j : Nat) (r : Value) (L : List Nat), d = xs.length - j ∧ j ≤ xs.length ∧ Ext st st' ∧ SliceO (Own 31 st') 31 st' (xs.take j) r L ∧ Fresh st.length L
    ∧ fr.env 1 = .pointer (some ⟨1, 0, some 1⟩) ∧ fr.env 2 = .pointer (some ⟨2, 0, some 1⟩) ∧ fr.env 3 = r ∧ fr.env 4 = .int .i64 j
    ∧ fr.loc 1 = (1, [.int .i64 k, .int .i64 n, .string nm, s]) ∧ (fr.loc 2).1 = 1 ∧ (fr.loc 2).2.length = 4) xs.length ?_ ?_
  · exact ⟨0, .slice (some ⟨st.length, 0, none⟩) 0 0, [st.length], by omega, by omega, Ext.app _ _, .inr ⟨st.length, 0, [], [], by simp, by simp, .nil, rfl⟩, ⟨by simp, by simp⟩, (by (simp (disch := omega) only [go_sem, ↓reduceIte, Nat.reduceEqDiff, Nat.reduceAdd, Nat.reduceLeDiff]); try rfl), (by (simp (disch := omega) only [go_sem, ↓reduceIte, Nat.reduceEqDiff, Nat.reduceAdd, Nat.reduceLeDiff]); try rfl), (by (simp (disch := omega) only [go_sem, ↓reduceIte, Nat.reduceEqDiff, Nat.reduceAdd, Nat.reduceLeDiff]); try rfl), (by (simp (disch := omega) only [go_sem, ↓reduceIte, Nat.reduceEqDiff, Nat.reduceAdd, Nat.reduceLeDiff]); try rfl), (by (simp (disch := omega) only [go_sem, ↓reduceIte, Nat.reduceEqDiff, Nat.reduceAdd, Nat.reduceLeDiff]); try rfl), (by (simp (disch := omega) only [go_sem, ↓reduceIte, Nat.reduceEqDiff, Nat.reduceAdd, Nat.reduceLeDiff]); try rfl), (by (simp (disch := omega) only [go_sem, ↓reduceIte, Nat.reduceEqDiff, Nat.reduceAdd, Nat.reduceLeDiff]); try rfl)⟩
  rintro d ⟨env, loc⟩ st' ⟨j, r, L, hd, hj, hext, hown, hfr, e1, e2, e3, e4, l1, l2, l2'⟩
  simp only at e1 e2 e3 e4 l1 l2 l2'
  by_cases hlt : j < xs.length
  · have c1 : decide ((j : Int) < (xs.length : Int)) = true := by simpa using hlt
    have hx : xs[j]? = some xs[j] := List.getElem?_eq_getElem hlt
    obtain ⟨i, o, c, cs, rfl, hcl, hE, hcs⟩ := row_at hr hx
    have hld := fun loc => load_row (A := []) (loc := loc) ag31 sz31 hcl (hcs.ext hext)
    have hi := idxOk hlt
    have ho := hown.okv
    have hc := hown.cells
    have hl := hown.loc
    repeat (first | ((first | refine W_reg rfl fun G K hG hK => ?_ | refine W_end rfl fun G K hG hK => ?_); simp (disch := omega) only [go_sem, ↓reduceIte, Nat.reduceEqDiff, Nat.reduceAdd, Nat.reduceLeDiff, hG, e1, e2, e3, e4, l1, hlen2, c1]; refine hK _ _ ?_; clear hK K hG G) | refine W_seqS ?_ | refine W_seqC ?_ | refine W_seqB ?_ | refine W_block ?_ | refine W_skip ?_ | (refine W_condT ?hc ?_; (case hc => (simp (disch := omega) only [go_sem, ↓reduceIte, Nat.reduceEqDiff, Nat.reduceAdd, Nat.reduceLeDiff, e1, e2, e3, e4, l1, hlen2, c1]; done))) | (refine W_condF ?hc ?_; (case hc => (simp (disch := omega) only [go_sem, ↓reduceIte, Nat.reduceEqDiff, Nat.reduceAdd, Nat.reduceLeDiff, e1, e2, e3, e4, l1, hlen2, c1]; done))) | refine thenI ?_ | refine thenE ?_ | refine thenR ?_ | refine inBI ?_ | refine inBR ?_ | refine inBS ?_ | refine inBN (by decide) ?_)
    refine W_end rfl fun G K hG hK => ?_; simp (disch := omega) only [go_sem, ↓reduceIte, Nat.reduceEqDiff, Nat.reduceAdd, Nat.reduceLeDiff, hG, e1, e2, e3, e4, l1, idxA, Int.toNat_natCast, hi, hld]
    refine w_call (ih xs[j] (List.getElem_mem hlt) st' cs (Enc.ext hext _ _ hE)) (by simp (disch := omega) only [go_sem, ↓reduceIte, Nat.reduceEqDiff]) ?hl ?_
    case hl => first | rfl | (simp only [go_sem, List.all_cons, List.all_nil, Bool.not_false, Bool.and_self]; done)
    rintro r_ s_ ⟨hx1, ds, Lx, rfl, hox, hfx⟩; refine ⟨fun e => (by cases e), ?_⟩
    obtain ⟨r', st3, L', hap, hown', hfr', hl3, hoth⟩ := Own.step hown hfr hext.length hx1 hox hfx (by simp; omega)
    have ho' := hown'.okv
    have hc' := hown'.cells
    have hn' := hown'.loc
    have hdl := Own.len _ _ _ hox
    simp (disch := omega) only [go_sem, ↓reduceIte, Nat.reduceEqDiff, Nat.reduceAdd, Nat.reduceLeDiff, hG, e1, e2, e3, e4, l1, w_append, hap, ho', hc', hn', hl, ho, hdl, List.toList_toArray]; refine hK _ _ ?_; clear hK K hG G; repeat (first | refine thenI ?_ | refine thenE ?_ | refine thenR ?_ | refine inBI ?_ | refine inBR ?_ | refine inBS ?_ | refine inBN (by decide) ?_)
    repeat (first | ((first | refine W_reg rfl fun G K hG hK => ?_ | refine W_end rfl fun G K hG hK => ?_); simp (disch := omega) only [go_sem, ↓reduceIte, Nat.reduceEqDiff, Nat.reduceAdd, Nat.reduceLeDiff, hG, e4]; refine hK _ _ ?_; clear hK K hG G) | refine W_seqS ?_ | refine W_seqC ?_ | refine W_seqB ?_ | refine W_block ?_ | refine W_skip ?_ | (refine W_condT ?hc ?_; (case hc => (simp (disch := omega) only [go_sem, ↓reduceIte, Nat.reduceEqDiff, Nat.reduceAdd, Nat.reduceLeDiff, e4]; done))) | (refine W_condF ?hc ?_; (case hc => (simp (disch := omega) only [go_sem, ↓reduceIte, Nat.reduceEqDiff, Nat.reduceAdd, Nat.reduceLeDiff, e4]; done))) | refine thenI ?_ | refine thenE ?_ | refine thenR ?_ | refine inBI ?_ | refine inBR ?_ | refine inBS ?_ | refine inBN (by decide) ?_)
    have hxt := hext.length
    have htk : xs.take (j + 1) = xs.take j ++ [xs[j]] := List.take_succ_eq_append_getElem hlt
    refine ⟨xs.length - (j + 1), by omega, j + 1, r', L', rfl, by omega, Ext.of_get fun q hq => ?_, by rw [htk]; exact hown', hfr', (by (simp (disch := omega) only [go_sem, ↓reduceIte, Nat.reduceEqDiff, Nat.reduceAdd, Nat.reduceLeDiff, e1]); try rfl), (by (simp (disch := omega) only [go_sem, ↓reduceIte, Nat.reduceEqDiff, Nat.reduceAdd, Nat.reduceLeDiff, e2]); try rfl), (by (simp (disch := omega) only [go_sem, ↓reduceIte, Nat.reduceEqDiff, Nat.reduceAdd, Nat.reduceLeDiff]); try rfl), (by (simp (disch := omega) only [go_sem, ↓reduceIte, Nat.reduceEqDiff, Nat.reduceAdd, Nat.reduceLeDiff]); try rfl), (by (simp (disch := omega) only [go_sem, ↓reduceIte, Nat.reduceEqDiff, Nat.reduceAdd, Nat.reduceLeDiff, l1]); try rfl), (by (simp (disch := omega) only [go_sem, ↓reduceIte, Nat.reduceEqDiff, Nat.reduceAdd, Nat.reduceLeDiff, l2]); try rfl), (by (simp (disch := omega) only [go_sem, ↓reduceIte, Nat.reduceEqDiff, Nat.reduceAdd, Nat.reduceLeDiff, l2']); try rfl)⟩
    rw [hoth q hq, hx1.get (by omega), hext.get hq]
  · have c1 : decide ((j : Int) < (xs.length : Int)) = false := by simpa using hlt
    have hjn : j = xs.length := by omega
    subst hjn
    rw [List.take_length] at hown
    have ho := hown.okv
    have hc := hown.cells
    have hl := hown.loc
    repeat (first | ((first | refine W_reg rfl fun G K hG hK => ?_ | refine W_end rfl fun G K hG hK => ?_); simp (disch := omega) only [go_sem, ↓reduceIte, Nat.reduceEqDiff, Nat.reduceAdd, Nat.reduceLeDiff, hG, e1, e2, e3, e4, l1, hlen2, c1]; refine hK _ _ ?_; clear hK K hG G) | refine W_seqS ?_ | refine W_seqC ?_ | refine W_seqB ?_ | refine W_block ?_ | refine W_skip ?_ | (refine W_condT ?hc ?_; (case hc => (simp (disch := omega) only [go_sem, ↓reduceIte, Nat.reduceEqDiff, Nat.reduceAdd, Nat.reduceLeDiff, e1, e2, e3, e4, l1, hlen2, c1]; done))) | (refine W_condF ?hc ?_; (case hc => (simp (disch := omega) only [go_sem, ↓reduceIte, Nat.reduceEqDiff, Nat.reduceAdd, Nat.reduceLeDiff, e1, e2, e3, e4, l1, hlen2, c1]; done))) | refine thenI ?_ | refine thenE ?_ | refine thenR ?_ | refine inBI ?_ | refine inBR ?_ | refine inBS ?_ | refine inBN (by decide) ?_)
    refine W_exit ?_; repeat (first | refine thenI ?_ | refine thenE ?_ | refine thenR ?_ | refine inBI ?_ | refine inBR ?_ | refine inBS ?_ | refine inBN (by decide) ?_)
    repeat (first | ((first | refine W_reg rfl fun G K hG hK => ?_ | refine W_end rfl fun G K hG hK => ?_); simp (disch := omega) only [go_sem, ↓reduceIte, Nat.reduceEqDiff, Nat.reduceAdd, Nat.reduceLeDiff, hG, e1, e2, e3, l1, l2, l2', ho, hc, hl]; refine hK _ _ ?_; clear hK K hG G) | refine W_seqS ?_ | refine W_seqC ?_ | refine W_seqB ?_ | refine W_block ?_ | refine W_skip ?_ | (refine W_condT ?hc ?_; (case hc => (simp (disch := omega) only [go_sem, ↓reduceIte, Nat.reduceEqDiff, Nat.reduceAdd, Nat.reduceLeDiff, e1, e2, e3, l1, l2, l2', ho, hc, hl]; done))) | (refine W_condF ?hc ?_; (case hc => (simp (disch := omega) only [go_sem, ↓reduceIte, Nat.reduceEqDiff, Nat.reduceAdd, Nat.reduceLeDiff, e1, e2, e3, l1, l2, l2', ho, hc, hl]; done))) | refine thenI ?_ | refine thenE ?_ | refine thenR ?_ | refine inBI ?_ | refine inBR ?_ | refine inBS ?_ | refine inBN (by decide) ?_)
    refine W_ret ?_; try (repeat (first | refine thenI ?_ | refine thenE ?_ | refine thenR ?_ | refine inBI ?_ | refine inBR ?_ | refine inBS ?_ | refine inBN (by decide) ?_))
    refine finC (.inl rfl) (by (simp (disch := omega) only [go_sem, ↓reduceIte, Nat.reduceEqDiff, Nat.reduceAdd, Nat.reduceLeDiff, e2]); try rfl) ⟨hext, [_, _, _, _], L, rfl, Own.close _ _ _ hown, hfr⟩

theorem l3Copy_ok : ∀ (t : T) (st : St) (cs : List Value), Lim 1073741824 t → Enc st t cs →
    CallS Try.prog 45 [.agg cs.toArray] st fun r st2 => Ext st st2 ∧ ∃ ds L, r = .agg ds.toArray ∧ OwnT st2 t ds L ∧ Fresh st.length L := by
  refine T.ind fun k n nm args ih st cs hl h => ?_
  obtain ⟨s, rfl, hr⟩ := h.open
  exact l3Copy_of k n nm args st s hl.args.1 hr fun x hx st' cs he => ih x hx st' cs (hl.args.2 x hx) he

end

end Go.Proofs.Ytoeibmfdafilcaa.AM
/- Kinds of data: what rows of each have in common. -/
namespace Go.Proofs.Ytoeibmfdafilcaa.AM
open Go
set_option linter.unusedVariables false
set_option linter.unusedSimpArgs false

/-- A kind of data: its cells, how they read, how they are owned. -/
class Kind (α : Type) where
  sz : Nat
  e : TypeId
  enc : St → α → List Value → Prop
  own : St → α → List Value → List Nat → Prop
  enc_len : ∀ (st : St) (x : α) (cs : List Value), enc st x cs → cs.length = sz
  enc_ext : ∀ (st st' : St) (x : α) (cs : List Value), Ext st st' → enc st x cs → enc st' x cs
  own_len : ∀ (st : St) (x : α) (cs : List Value) (L : List Nat), own st x cs L → cs.length = sz
  own_lt : ∀ (st : St) (x : α) (cs : List Value) (L : List Nat), own st x cs L → ∀ i ∈ L, i < st.length
  own_frame : ∀ (st st' : St) (x : α) (cs : List Value) (L : List Nat), SameOn L st st' → own st x cs L → own st' x cs L
  own_enc : ∀ (st : St) (x : α) (cs : List Value) (L : List Nat), own st x cs L → enc st x cs

theorem Fresh.mono {n m : Nat} {L : List Nat} (h : Fresh n L) (hm : m ≤ n) : Fresh m L := ⟨h.1, fun i hi => Nat.le_trans hm (h.2 i hi)⟩
theorem Fresh.nil (n : Nat) : Fresh n [] := ⟨by simp, by simp⟩
theorem SameOn.ext {L : List Nat} {st st' : St} (hx : Ext st st') (hL : ∀ i ∈ L, i < st.length) : SameOn L st st' := fun i hi => hx.get (hL i hi)

section
variable {α : Type} [Kind α]
abbrev Rw (st : St) (xs : List α) (s : Value) : Prop := Row (Kind.enc st) (Kind.sz α) st xs s
abbrev Sl (st : St) (xs : List α) (s : Value) (L : List Nat) : Prop := SliceO (Kind.own st) (Kind.e α) st xs s L
theorem Rw.ext {st st' : St} {xs : List α} {s : Value} (h : Rw st xs s) (hx : Ext st st') : Rw st' xs s := h.mono hx fun x _ cs he => Kind.enc_ext _ _ x cs hx he
theorem Rw.at {st : St} {xs : List α} {s : Value} (h : Rw st xs s) {j : Nat} {x : α} (hx : xs[j]? = some x) : ∃ i o c cs, s = .slice (some ⟨i, o, none⟩) xs.length c ∧ cs.length = Kind.sz α ∧ Kind.enc st x cs ∧ CellsAt st i (o + j * Kind.sz α) cs := row_at h hx
theorem Rw.nil (st : St) : Rw (α := α) st [] (.slice none 0 0) := .inl ⟨.inl rfl, rfl⟩
theorem Sl.row {st : St} {xs : List α} {s : Value} {L : List Nat} (h : Sl st xs s L) : Rw st xs s := SliceO.row (Kind.own_len st) (fun x _ cs L he => Kind.own_enc st x cs L he) h
theorem Sl.lt {st : St} {xs : List α} {s : Value} {L : List Nat} (h : Sl st xs s L) : ∀ i ∈ L, i < st.length := SliceO.lt (Kind.own_lt st) h
theorem Sl.frame {st st' : St} {xs : List α} {s : Value} {L : List Nat} (h : Sl st xs s L) (hs : SameOn L st st') : Sl st' xs s L := SliceO.frame (E := Kind.own) (fun st st' x cs L => Kind.own_frame st st' x cs L) hs h
theorem Sl.ext {st st' : St} {xs : List α} {s : Value} {L : List Nat} (h : Sl st xs s L) (hx : Ext st st') : Sl st' xs s L := h.frame (.ext hx h.lt)
theorem Sl.other {st st' : St} {xs : List α} {s : Value} {L K : List Nat} (h : Sl st xs s L) (hot : ∀ i, i < st.length → i ∉ K → st'[i]? = st[i]?) (hd : ∀ i ∈ L, i ∉ K) : Sl st' xs s L := h.frame fun i hi => hot i (h.lt i hi) (hd i hi)
theorem Sl.apart {st : St} {xs : List α} {s : Value} {L K : List Nat} (h : Sl st xs s L) (hf : Fresh st.length K) : ∀ i ∈ L, i ∉ K := fun i hi hk => by
  have h1 := h.lt i hi
  have h2 := hf.2 i hk
  omega
theorem Sl.nil (st : St) : Sl (α := α) st [] (.slice none 0 0) [] := .inl ⟨rfl, rfl, rfl⟩
theorem own_ext {st st' : St} {x : α} {cs : List Value} {L : List Nat} (h : Kind.own st x cs L) (hx : Ext st st') : Kind.own st' x cs L := Kind.own_frame _ _ _ _ _ (.ext hx (Kind.own_lt _ _ _ _ h)) h
/-- A slice of no elements that is not nil. -/
theorem Sl.empty (st : St) : Sl (α := α) (st ++ [⟨[], Kind.e α, 0⟩]) [] (.slice (some ⟨st.length, 0, none⟩) 0 0) [st.length] := .inr ⟨st.length, 0, [], [], rfl, by simp, .nil, rfl⟩

/-- An element is put behind a row of one's own. -/
theorem Sl.step {P : Program} {t : TypeId} {by_ sz' n0 : Nat} {z : List Value} {st st2 : St} {xs : List α} {s : Value} {L : List Nat} {x : α} {cx : List Value} {Lx : List Nat}
    (hu : P.underlying t = some (.slice (Kind.e α))) (hs : szA P (Kind.e α) = some (sz' + 1)) (hz' : Kind.sz α = sz' + 1) (hb : bytA P (Kind.e α) = some by_) (hz : zeroA P (Kind.e α) = some z) (hzl : z.length = sz' + 1)
    (h : Sl st xs s L) (hf : Fresh n0 L) (hn0 : n0 ≤ st.length) (hext : Ext st st2) (hx : Kind.own st2 x cx Lx) (hfx : Fresh st.length Lx) (hbd : (xs.length + 1) * by_ ≤ 2 ^ 46) (hbn : xs.length + 1 ≤ 2 ^ 46) :
    ∃ s' st' L', appendA P t t s (.slice (some ⟨st2.length, 0, none⟩) 1 1) (st2 ++ [⟨cx, Kind.e α, 0⟩]) = some (s', st') ∧ Sl st' (xs ++ [x]) s' L' ∧ Fresh n0 L' ∧ st2.length ≤ st'.length ∧ (∀ i, i < n0 → st'[i]? = st2[i]?) :=
  SliceO.step (E := Kind.own) (fun st st' x cs L => Kind.own_frame st st' x cs L) (fun st x cs L => Kind.own_lt st x cs L) (sz := sz') (fun st x cs L h => (Kind.own_len st x cs L h).trans hz') hu hs hb hz hzl h hf hn0 hext hx hfx hbd hbn
end

/-! Marks. -/
/-- How the elements of a row of a kind are marked. -/
class Marks (α : Type) extends Kind α where
  mk1 : α → Nat → α × Nat
  mk1_ge : ∀ x k, k ≤ (mk1 x k).2
section
variable {α : Type} [Marks α]
def mkL : List α → Nat → List α × Nat
  | [], k => ([], k)
  | x :: xs, k => ((Marks.mk1 x k).1 :: (mkL xs (Marks.mk1 x k).2).1, (mkL xs (Marks.mk1 x k).2).2)
theorem mkL_len (xs : List α) (k : Nat) : (mkL xs k).1.length = xs.length := by
  induction xs generalizing k with
  | nil => rfl
  | cons x xs ih => simp only [mkL, List.length_cons, ih]
theorem mkL_app (xs ys : List α) (k : Nat) : mkL (xs ++ ys) k = ((mkL xs k).1 ++ (mkL ys (mkL xs k).2).1, (mkL ys (mkL xs k).2).2) := by
  induction xs generalizing k with
  | nil => rfl
  | cons x xs ih => simp only [List.cons_append, mkL, ih]
theorem mkL_ge (l : List α) (k : Nat) : k ≤ (mkL l k).2 := by
  induction l generalizing k with
  | nil => exact Nat.le_refl _
  | cons x xs ih => simp only [mkL]; have h1 := Marks.mk1_ge x k; have h2 := ih (Marks.mk1 x k).2; omega
theorem mkL_snoc {xs : List α} {j : Nat} (hj : j < xs.length) (k : Nat) : mkL (xs.take (j + 1)) k = ((mkL (xs.take j) k).1 ++ [(Marks.mk1 xs[j] (mkL (xs.take j) k).2).1], (Marks.mk1 xs[j] (mkL (xs.take j) k).2).2) := by
  rw [List.take_succ_eq_append_getElem hj, mkL_app]; rfl
theorem mkL_at {xs : List α} {j : Nat} (hj : j < xs.length) (k : Nat) : (mkL xs k).1[j]? = some (Marks.mk1 xs[j] (mkL (xs.take j) k).2).1 ∧ (Marks.mk1 xs[j] (mkL (xs.take j) k).2).2 ≤ (mkL xs k).2 := by
  have hdr : xs.drop j = xs[j] :: xs.drop (j + 1) := List.drop_eq_getElem_cons hj
  have hml : (mkL (xs.take j) k).1.length = j := by rw [mkL_len]; simp; omega
  have hap := mkL_app (xs.take j) (xs.drop j) k
  rw [List.take_append_drop, hdr] at hap
  rw [hap]
  refine ⟨?_, ?_⟩
  · simp only
    rw [List.getElem?_append_right (by omega), hml, Nat.sub_self]; rfl
  · simp only [mkL]
    exact mkL_ge _ _

/-- A row that is being marked, j of its elements done. -/
structure MarkSt (xs : List α) (k : Nat) (st : St) (s : Value) (L : List Nat) (j : Nat) (st' : St) : Prop where
  sl : Sl st' ((mkL (xs.take j) k).1 ++ xs.drop j) s L
  le : st.length ≤ st'.length
  oth : ∀ i, i < st.length → i ∉ L → st'[i]? = st[i]?

theorem MarkSt.start {xs : List α} {k : Nat} {st : St} {s : Value} {L : List Nat} (h : Sl st xs s L) : MarkSt xs k st s L 0 st := ⟨by simpa [mkL] using h, Nat.le_refl _, fun _ _ _ => rfl⟩
theorem MarkSt.stop {xs : List α} {k : Nat} {st st' : St} {s : Value} {L : List Nat} (h : MarkSt xs k st s L xs.length st') : Sl st' (mkL xs k).1 s L := by
  have := h.sl
  rw [List.take_length] at this
  simpa using this
theorem MarkSt.len {xs : List α} {k : Nat} {st st' : St} {s : Value} {L : List Nat} {j : Nat} (h : MarkSt xs k st s L j st') (hj : j ≤ xs.length) {P : Program} {t e : TypeId} (hu : P.underlying t = some (.slice e)) : lenE P t s = some (.int .i64 xs.length) := by
  have := row_len h.sl.row hu
  rw [this]; simp [mkL_len]; omega
/-- The element that comes next, and what stands about it. -/
theorem MarkSt.open {xs : List α} {k : Nat} {st st' : St} {s : Value} {L : List Nat} {j : Nat} (h : MarkSt xs k st s L j st') (hnd : L.Nodup) (hj : j < xs.length) :
    ∃ i c c1 cx c2 L1 Lx L2, s = .slice (some ⟨i, 0, none⟩) xs.length c ∧ L = i :: (L1 ++ Lx ++ L2) ∧ st'[i]? = some ⟨c1 ++ cx ++ c2, Kind.e α, 0⟩ ∧ c1.length = j * Kind.sz α ∧ Kind.own st' xs[j] cx Lx ∧ Lx.Nodup ∧ i ∉ Lx ∧ i < st'.length ∧
      (∀ (st2 : St) (cx' : List Value), st2[i]? = some ⟨c1 ++ cx' ++ c2, Kind.e α, 0⟩ → st'.length ≤ st2.length → Kind.own st2 (Marks.mk1 xs[j] (mkL (xs.take j) k).2).1 cx' Lx → (∀ q, q < st'.length → q ≠ i → q ∉ Lx → st2[q]? = st'[q]?) → MarkSt xs k st s L (j + 1) st2) := by
  have hml : (mkL (xs.take j) k).1.length = j := by rw [mkL_len]; simp; omega
  have hdr : xs.drop j = xs[j] :: xs.drop (j + 1) := List.drop_eq_getElem_cons hj
  have hat : ((mkL (xs.take j) k).1 ++ xs.drop j)[j]? = some xs[j] := by
    rw [List.getElem?_append_right (by omega), hml, Nat.sub_self, hdr]; rfl
  have hl2 : (((mkL (xs.take j) k).1 ++ xs.drop j)).length = xs.length := by simp [hml]; omega
  have hd2 : ((mkL (xs.take j) k).1 ++ xs.drop j).drop (j + 1) = xs.drop (j + 1) := by
    rw [List.drop_append, hml, Nat.add_sub_cancel_left, List.drop_eq_nil_of_le (by omega), hdr]; rfl
  have hsl := h.sl
  have hlt := hsl.lt
  rcases hsl with ⟨rfl, h0, rfl⟩ | ⟨i, c, cs, K, rfl, hb, hr, rfl⟩
  · rw [h0] at hat; simp at hat
  obtain ⟨c1, cx, c2, L1, Lx, L2, h1, h2, h3, rfl, rfl⟩ := hr.split j _ hat
  have hcl := h1.len (Kind.own_len st')
  rw [List.take_left' hml] at h1
  rw [hd2] at h3
  obtain ⟨hi0, hnd1⟩ := List.nodup_cons.1 hnd
  obtain ⟨hnd2, hnd3, hnd4⟩ := List.nodup_append.1 hnd1
  obtain ⟨hnd5, hnd6, hnd7⟩ := List.nodup_append.1 hnd2
  refine ⟨i, c, c1, cx, c2, L1, Lx, L2, by rw [hl2], rfl, hb, by rw [hcl, List.length_take, hl2, Nat.min_eq_left (by omega)], h2, hnd6, fun hh => hi0 (by simp [hh]), (List.getElem?_eq_some_iff.1 hb).1, fun st2 cx' hb2 hle2 hown hot => ⟨?_, Nat.le_trans h.le hle2, fun q h1 h2 => ?_⟩⟩
  · have hs1 : SameOn L1 st' st2 := fun q hq => hot q (hlt q (by simp [hq])) (fun e => hi0 (by simp [← e, hq])) (fun hh => hnd7 q hq q hh rfl)
    have hs2 : SameOn L2 st' st2 := fun q hq => hot q (hlt q (by simp [hq])) (fun e => hi0 (by simp [← e, hq])) (fun hh => hnd4 q (by simp [hh]) q hq rfl)
    have g1 := h1.mono (E' := Kind.own st2) fun x _ cx Lx hL he => Kind.own_frame _ _ x cx Lx (fun q hq => hs1 q (hL q hq)) he
    have g3 := h3.mono (E' := Kind.own st2) fun x _ cx Lx hL he => Kind.own_frame _ _ x cx Lx (fun q hq => hs2 q (hL q hq)) he
    rw [mkL_snoc hj]
    refine .inr ⟨i, c, _, L1 ++ Lx ++ L2, ?_, hb2, ?_, rfl⟩
    · rw [hl2]; simp [hml]; omega
    · exact (g1.app (RowO.one hown)).app g3
  · rw [hot q (by have := h.le; omega) (fun e => h2 (by simp [e])) (fun hh => h2 (by simp [hh])), h.oth q h1 h2]
end
end Go.Proofs.Ytoeibmfdafilcaa.AM


/- Rows put behind rows. -/
namespace Go.Proofs.Ytoeibmfdafilcaa.AM
open Go
set_option linter.unusedVariables false
set_option linter.unusedSimpArgs false

/-- What reads, and is no one's. -/
def Shr {α : Type} (E : α → List Value → Prop) : α → List Value → List Nat → Prop := fun x cx Lx => E x cx ∧ Lx = []
theorem RowO.take {α : Type} {E : α → List Value → List Nat → Prop} {sz : Nat} (hE : ∀ x cx Lx, E x cx Lx → cx.length = sz) {xs : List α} {cs : List Value} {L : List Nat} (h : RowO E xs cs L) : cs.length = xs.length * sz := h.len hE

theorem cellsFrom_app {f : Nat → Option Value} : ∀ {m n o : Nat} {cs ds : List Value}, cellsFrom f o m = some cs → cellsFrom f (o + m) n = some ds → cellsFrom f o (m + n) = some (cs ++ ds) := by
  intro m n o cs ds h1 h2
  refine cellsFrom_of (by rw [List.length_append, cellsFrom_len h1, cellsFrom_len h2]) fun j v hj => ?_
  have hl := cellsFrom_len h1
  by_cases hlt : j < m
  · rw [List.getElem?_append_left (by omega)] at hj
    exact cellsFrom_get h1 j v hj
  · rw [List.getElem?_append_right (by omega), hl] at hj
    have := cellsFrom_get h2 (j - m) v hj
    rwa [show o + m + (j - m) = o + j by omega] at this

/-- The cells of a row. -/
theorem row_cells {α : Type} {E : α → List Value → Prop} {sz : Nat} {st : St} : ∀ {xs : List α} {i o : Nat}, (∀ (j : Nat) x, xs[j]? = some x → ∃ cs, cs.length = sz ∧ E x cs ∧ CellsAt st i (o + j * sz) cs) →
    ∃ cs, cellsFrom (cell st i) o (xs.length * sz) = some cs ∧ RowO (Shr E) xs cs [] := by
  intro xs
  induction xs with
  | nil => intro i o _; exact ⟨[], by simp [cellsFrom], .nil⟩
  | cons x xs ih =>
    intro i o h
    obtain ⟨c0, h1, h2, h3⟩ := h 0 x rfl
    obtain ⟨cs, h4, h5⟩ := ih (i := i) (o := o + sz) fun j y hy => by
      obtain ⟨c, g1, g2, g3⟩ := h (j + 1) y (by simpa using hy)
      exact ⟨c, g1, g2, by rwa [show o + (j + 1) * sz = o + sz + j * sz by rw [Nat.add_mul, Nat.one_mul]; omega] at g3⟩
    refine ⟨c0 ++ cs, ?_, ?_⟩
    · have e : (x :: xs).length * sz = sz + xs.length * sz := by rw [List.length_cons, Nat.add_mul, Nat.one_mul]; omega
      rw [e]
      refine cellsFrom_app (cellsFrom_of h1 fun j v hj => ?_) h4
      rw [Nat.zero_mul, Nat.add_zero] at h3
      exact h3 j v hj
    · have := RowO.cons x xs c0 cs [] [] (E := Shr E) ⟨h2, rfl⟩ h5
      simpa using this
theorem newsA_row {α : Type} {E : α → List Value → Prop} {sz : Nat} {st : St} {xs : List α} {s : Value} (h : Row E sz st xs s) {P : Program} {u e : TypeId} (hu : P.underlying u = some (.slice e)) : ∃ cs, newsA P u sz s st = some (xs.length, cs) ∧ RowO (Shr E) xs cs [] := by
  rcases h with ⟨rfl | rfl, rfl⟩ | ⟨i, o, c, rfl, h⟩
  · exact ⟨[], by unfold newsA; simp only [hu]; rfl, .nil⟩
  · exact ⟨[], by unfold newsA; simp only [hu]; rfl, .nil⟩
  · obtain ⟨cs, h1, h2⟩ := row_cells h
    refine ⟨cs, ?_, h2⟩
    unfold newsA
    simp only [hu]
    rw [h1]
    rfl

theorem RowO.lt {α : Type} {E : α → List Value → List Nat → Prop} {n : Nat} (hE : ∀ x cx Lx, E x cx Lx → ∀ i ∈ Lx, i < n) {xs : List α} {cs : List Value} {L : List Nat} (h : RowO E xs cs L) : ∀ i ∈ L, i < n := by
  induction h with
  | nil => intro i hi; cases hi
  | cons x xs cx cs Lx L h hs ih =>
    intro j hj
    rcases List.mem_append.1 hj with hj | hj
    · exact hE x cx Lx h j hj
    · exact ih j hj

/-- The block in which a slice lies. -/
def topId : Value → Option Nat
  | .slice (some ⟨b, _, none⟩) _ _ => some b
  | _ => none
/-- All that was there is there still, but for one block. -/
def Away (k : Option Nat) (st st' : St) : Prop := st.length ≤ st'.length ∧ ∀ i, i < st.length → k ≠ some i → st'[i]? = st[i]?
/-- A row grew: its old block alone has turned. -/
structure Grow (st : St) (s : Value) (st' : St) (s' : Value) : Prop where
  away : Away (topId s) st st'
  top : topId s' = topId s ∨ ∃ m, st.length ≤ m ∧ topId s' = some m
theorem Grow.refl (st : St) (s : Value) : Grow st s st s := ⟨⟨Nat.le_refl _, fun _ _ _ => rfl⟩, .inl rfl⟩
theorem Away.trans {k k' : Option Nat} {a b c : St} (h : Away k a b) (g : Away k' b c) (hk : k' = k ∨ ∃ m, a.length ≤ m ∧ k' = some m) : Away k a c := ⟨Nat.le_trans h.1 g.1, fun i hi hne => by
  rw [g.2 i (by have := h.1; omega) (fun e => ?_), h.2 i hi hne]
  rcases hk with rfl | ⟨m, hm, rfl⟩
  · exact hne e
  · cases e; omega⟩
theorem Grow.trans {a b c : St} {s s' s'' : Value} (h : Grow a s b s') (g : Grow b s' c s'') : Grow a s c s'' := ⟨h.away.trans g.away h.top, by
  rcases g.top with h1 | ⟨m, h1, h2⟩
  · rw [h1]; exact h.top
  · exact .inr ⟨m, Nat.le_trans h.away.1 h1, h2⟩⟩
theorem Grow.topOk {a b : St} {s s' : Value} {n : Nat} (h : Grow a s b s') (hs : topId s = none ∨ ∃ m, n ≤ m ∧ topId s = some m) (hn : n ≤ a.length) : topId s' = none ∨ ∃ m, n ≤ m ∧ topId s' = some m := by
  rcases h.top with h1 | ⟨m, h1, h2⟩
  · rw [h1]; exact hs
  · exact .inr ⟨m, by omega, h2⟩
theorem Away.of_ext {k : Option Nat} {a b : St} (h : Ext a b) : Away k a b := ⟨h.length, fun i hi _ => h.get hi⟩
theorem Grow.of_ext {a b : St} (h : Ext a b) (s : Value) : Grow a s b s := ⟨.of_ext h, .inl rfl⟩
theorem Away.ext {a b : St} (h : Away none a b) : Ext a b := Ext.of_get fun i hi => h.2 i hi (by simp)
theorem Away.ext_of {k : Option Nat} {a b c : St} (h : Away k b c) (hx : Ext a b) (hk : k = none ∨ ∃ m, a.length ≤ m ∧ k = some m) : Ext a c := Ext.of_get fun i hi => by
  rw [h.2 i (by have := hx.length; omega) (fun e => ?_), hx.get hi]
  rcases hk with rfl | ⟨m, hm, rfl⟩
  · cases e
  · cases e; omega

/-- A row is put behind a row of one's own. -/
theorem SliceO.app {α : Type} {E : St → α → List Value → List Nat → Prop} (hE : ∀ (st st' : St) x cx Lx, SameOn Lx st st' → E st x cx Lx → E st' x cx Lx) (hlt : ∀ (st : St) x cx Lx, E st x cx Lx → ∀ i ∈ Lx, i < st.length)
    {P : Program} {t u e : TypeId} {sz by_ n0 : Nat} (hl : ∀ st x cx Lx, E st x cx Lx → cx.length = sz + 1) {z : List Value} {st st2 : St} {xs ys : List α} {s y : Value} {L : List Nat} {cy : List Value} {K : List Nat}
    (hu : P.underlying t = some (.slice e)) (hs : szA P e = some (sz + 1)) (hb : bytA P e = some by_) (hz : zeroA P e = some z) (hzl : z.length = sz + 1)
    (h : SliceO (E st) e st xs s L) (hf : Fresh n0 L) (hn0 : n0 ≤ st.length) (hext : Ext st st2) (hn : newsA P u (sz + 1) y st2 = some (ys.length, cy)) (hx : RowO (E st2) ys cy K) (hfx : Fresh st.length K) (hbd : (xs.length + ys.length) * by_ ≤ 2 ^ 46) (hbn : xs.length + ys.length ≤ 2 ^ 46) :
    ∃ s' st' L', appendA P t u s y st2 = some (s', st') ∧ SliceO (E st') e st' (xs ++ ys) s' L' ∧ Fresh n0 L' ∧ Grow st2 s st' s' := by
  have he : elemA P t = some e := by unfold elemA; rw [hu]
  have hlen := hext.length
  by_cases h0 : ys = []
  · subst h0
    cases hx
    have hap : appendA P t u s y st2 = some (s, st2) := by
      unfold appendA
      simp only [he, hs, hb, hz, hn, hzl, if_true, List.length_nil]
      rcases h with ⟨rfl, _⟩ | ⟨i, c, cs, K, rfl, _⟩ <;> rfl
    refine ⟨s, st2, L, hap, ?_, hf, .refl _ _⟩
    rw [List.append_nil]
    exact h.frame hE (.ext hext (h.lt (hlt st)))
  have hy0 : ys.length ≠ 0 := fun e => h0 (List.eq_nil_of_length_eq_zero e)
  have hxlt := hx.lt (hlt st2)
  rcases h with ⟨rfl, rfl, rfl⟩ | ⟨i, c, cs, K1, rfl, hbk, hr, rfl⟩
  · refine ⟨_, _, st2.length :: K, appendA_nil he hs hb hz hzl hn hy0 (by simpa using hbd) (by simpa using hbn), .inr ⟨st2.length, ys.length, cy, K, rfl, by simp, ?_, rfl⟩, ⟨List.nodup_cons.2 ⟨fun hm => by have := hxlt _ hm; omega, hfx.1⟩, fun j hj => ?_⟩, ⟨⟨by simp, fun j hj _ => ?_⟩, .inr ⟨_, Nat.le_refl _, rfl⟩⟩⟩
    · exact hx.mono fun x _ cx Lx hL he' => hE st2 _ x cx Lx (fun j hj => by rw [List.getElem?_append_left (hxlt j (hL j hj))]) he'
    · cases hj with
      | head => omega
      | tail _ hj => have := hfx.2 j hj; omega
    · rw [List.getElem?_append_left (by omega)]
  · have hi : i < st.length := (List.getElem?_eq_some_iff.1 hbk).1
    have hbk2 := hext _ _ hbk
    have hrl := hr.len (hl st)
    have hap := appendA_to (c := c) he hs hb hz hzl hn hy0 hbk2 hrl hbd hbn
    have hK := SliceO.lt (E := E st) (e := e) (st := st) (xs := xs) (s := .slice (some ⟨i, 0, none⟩) xs.length c) (L := i :: K1) (fun x cx Lx h => hlt st x cx Lx h) (.inr ⟨i, c, cs, K1, rfl, hbk, hr, rfl⟩)
    have hiK : i ∉ K1 := (List.nodup_cons.1 hf.1).1
    have get : ∀ j, j ≠ i → j < st2.length → (st2.set i ⟨cs, e, 2⟩ ++ [(⟨cs ++ cy, e, 0⟩ : Blk)])[j]? = st2[j]? := by
      intro j hj hlt
      rw [List.getElem?_append_left (by simp; omega), List.getElem?_set, if_neg (Ne.symm hj)]
    have hlast : (st2.set i ⟨cs, e, 2⟩ ++ [(⟨cs ++ cy, e, 0⟩ : Blk)])[st2.length]? = some ⟨cs ++ cy, e, 0⟩ := by
      have : (st2.set i (⟨cs, e, 2⟩ : Blk)).length = st2.length := by simp
      rw [← this]; simp
    refine ⟨_, _, st2.length :: (K1 ++ K), hap, .inr ⟨st2.length, xs.length + ys.length, cs ++ cy, K1 ++ K, by simp, hlast, ?_, rfl⟩, ⟨List.nodup_cons.2 ⟨fun hm => ?_, List.nodup_append.2 ⟨(List.nodup_cons.1 hf.1).2, hfx.1, fun a ha b hb' e' => ?_⟩⟩, fun j hj => ?_⟩, ⟨⟨by simp, fun j hj hjL => ?_⟩, .inr ⟨_, Nat.le_refl _, rfl⟩⟩⟩
    · refine (hr.mono fun y hy cy Ly hL he' => ?_).app (hx.mono fun x _ cx Lx hL he' => ?_)
      · refine hE st _ y cy Ly (fun j hj => ?_) he'
        have hjK := hL j hj
        have hjl := hK j (by simp [hjK])
        rw [get j (fun e' => hiK (e' ▸ hjK)) (by omega), hext.get hjl]
      · refine hE st2 _ x cx Lx (fun j hj => ?_) he'
        have h1 := hxlt j (hL j hj)
        have h2 := hfx.2 j (hL j hj)
        exact get j (by omega) h1
    · rcases List.mem_append.1 hm with hm | hm
      · have := hK _ (List.mem_cons_of_mem _ hm); omega
      · have := hxlt _ hm; omega
    · subst e'
      have h1 := hK a (by simp [ha])
      have h2 := hfx.2 a hb'
      omega
    · cases hj with
      | head => omega
      | tail _ hj =>
        rcases List.mem_append.1 hj with hj | hj
        · exact hf.2 j (by simp [hj])
        · have := hfx.2 j hj; omega
    · exact get j (fun e' => hjL (by rw [e']; rfl)) hj

/-- A row is put behind a new slice of no elements. -/
theorem SliceO.fresh {α : Type} {E : St → α → List Value → List Nat → Prop} (hE : ∀ (st st' : St) x cx Lx, SameOn Lx st st' → E st x cx Lx → E st' x cx Lx) (hlt : ∀ (st : St) x cx Lx, E st x cx Lx → ∀ i ∈ Lx, i < st.length)
    {P : Program} {t u e : TypeId} {sz by_ : Nat} (hl : ∀ st x cx Lx, E st x cx Lx → cx.length = sz + 1) {z : List Value} {st : St} {ys : List α} {y : Value} {cy : List Value}
    (hu : P.underlying t = some (.slice e)) (hs : szA P e = some (sz + 1)) (hb : bytA P e = some by_) (hz : zeroA P e = some z) (hzl : z.length = sz + 1)
    (hn : newsA P u (sz + 1) y (st ++ [⟨[], e, 0⟩]) = some (ys.length, cy)) (hx : RowO (E (st ++ [⟨[], e, 0⟩])) ys cy []) (hbd : ys.length * by_ ≤ 2 ^ 46) (hbn : ys.length ≤ 2 ^ 46) :
    ∃ s' st' L', appendA P t u (.slice (some ⟨st.length, 0, none⟩) 0 0) y (st ++ [⟨[], e, 0⟩]) = some (s', st') ∧ SliceO (E st') e st' ys s' L' ∧ Fresh st.length L' ∧ Ext st st' ∧ st.length + 1 ≤ st'.length := by
  obtain ⟨s', st', L', h1, h2, h3, h4⟩ := SliceO.app (xs := []) (L := [st.length]) (K := []) (n0 := st.length) hE hlt hl hu hs hb hz hzl (.inr ⟨st.length, 0, [], [], rfl, by simp, .nil, rfl⟩) ⟨by simp, by simp⟩ (by simp) (Ext.refl (st ++ [⟨[], e, 0⟩])) hn hx ⟨by simp, by simp⟩ (by simpa using hbd) (by simpa using hbn)
  refine ⟨s', st', L', h1, by simpa using h2, h3, Ext.of_get fun i hi => ?_, by simpa using h4.away.1⟩
  rw [h4.away.2 i (by simp; omega) (fun e => by cases e; omega), List.getElem?_append_left hi]

/-- The cells of a row of one's own. -/
theorem newsA_own {α : Type} {E : α → List Value → List Nat → Prop} {P : Program} {u e e' : TypeId} {sz n0 : Nat} {st : St} {ys : List α} {y : Value} {L : List Nat} (hu : P.underlying u = some (.slice e')) (hl : ∀ x cx Lx, E x cx Lx → cx.length = sz) (h : SliceO E e st ys y L) (hf : Fresh n0 L) :
    ∃ cy K, newsA P u sz y st = some (ys.length, cy) ∧ RowO E ys cy K ∧ Fresh n0 K := by
  rcases h with ⟨rfl, rfl, rfl⟩ | ⟨i, c, cs, K, rfl, hb, hr, rfl⟩
  · exact ⟨[], [], by unfold newsA; simp only [hu]; rfl, .nil, hf⟩
  · refine ⟨cs, K, ?_, hr, (List.nodup_cons.1 hf.1).2, fun j hj => hf.2 j (by simp [hj])⟩
    unfold newsA
    simp only [hu]
    rw [cellsFrom_of (f := cell st i) (hr.len hl) fun j v hj => by rw [cell_of hb, Nat.zero_add]; exact hj]
    rfl
theorem newsA_1 {P : Program} {u e : TypeId} {sz : Nat} {st : St} {cx : List Value} (hu : P.underlying u = some (.slice e)) (hl : cx.length = sz) : newsA P u sz (.slice (some ⟨st.length, 0, none⟩) 1 1) (st ++ [⟨cx, e, 0⟩]) = some (1, cx) := newsA_one hu (by simp) hl
section
variable {α : Type} [Kind α]
/-- An element is put behind a row of one's own; what else was there stays. -/
theorem Sl.push {P : Program} {t u : TypeId} {by_ sz' n0 : Nat} {z : List Value} {st st2 : St} {xs : List α} {s : Value} {L : List Nat} {x : α} {cx : List Value} {Lx : List Nat}
    (hu : P.underlying t = some (.slice (Kind.e α))) (hu2 : P.underlying u = some (.slice (Kind.e α))) (hs : szA P (Kind.e α) = some (sz' + 1)) (hz' : Kind.sz α = sz' + 1) (hb : bytA P (Kind.e α) = some by_) (hz : zeroA P (Kind.e α) = some z) (hzl : z.length = sz' + 1)
    (h : Sl st xs s L) (hf : Fresh n0 L) (hn0 : n0 ≤ st.length) (hext : Ext st st2) (hx : Kind.own st2 x cx Lx) (hfx : Fresh st.length Lx) (hbd : (xs.length + 1) * by_ ≤ 2 ^ 46) (hbn : xs.length + 1 ≤ 2 ^ 46) :
    ∃ s' st' L', appendA P t u s (.slice (some ⟨st2.length, 0, none⟩) 1 1) (st2 ++ [⟨cx, Kind.e α, 0⟩]) = some (s', st') ∧ Sl st' (xs ++ [x]) s' L' ∧ Fresh n0 L' ∧ Grow st s st' s' := by
  have hx' : Kind.own (st2 ++ [⟨cx, Kind.e α, 0⟩]) x cx Lx := own_ext hx (Ext.app _ _)
  obtain ⟨s', st', L', h1, h2, h3, h4⟩ := SliceO.app (E := Kind.own) (fun st st' x cs L => Kind.own_frame st st' x cs L) (fun st x cs L => Kind.own_lt st x cs L) (sz := sz') (fun st x cs L h => (Kind.own_len st x cs L h).trans hz') (ys := [x]) (u := u) hu hs hb hz hzl h hf hn0 (hext.trans (Ext.app _ [⟨cx, Kind.e α, 0⟩])) (newsA_1 hu2 ((Kind.own_len _ _ _ _ hx).trans hz')) (RowO.one hx') hfx hbd hbn
  exact ⟨s', st', L', h1, h2, h3, (Grow.of_ext (hext.trans (Ext.app _ _)) s).trans h4⟩
/-- A row of one's own is put behind another. -/
theorem Sl.join {P : Program} {t u : TypeId} {by_ sz' n0 : Nat} {z : List Value} {st st2 : St} {xs ys : List α} {s y : Value} {L K : List Nat}
    (hu : P.underlying t = some (.slice (Kind.e α))) (hu2 : P.underlying u = some (.slice (Kind.e α))) (hs : szA P (Kind.e α) = some (sz' + 1)) (hz' : Kind.sz α = sz' + 1) (hb : bytA P (Kind.e α) = some by_) (hz : zeroA P (Kind.e α) = some z) (hzl : z.length = sz' + 1)
    (h : Sl st xs s L) (hf : Fresh n0 L) (hn0 : n0 ≤ st.length) (hext : Ext st st2) (hy : Sl st2 ys y K) (hfx : Fresh st.length K) (hbd : (xs.length + ys.length) * by_ ≤ 2 ^ 46) (hbn : xs.length + ys.length ≤ 2 ^ 46) :
    ∃ s' st' L', appendA P t u s y st2 = some (s', st') ∧ Sl st' (xs ++ ys) s' L' ∧ Fresh n0 L' ∧ Grow st s st' s' := by
  obtain ⟨cy, K', hn, hr, hK⟩ := newsA_own (P := P) (u := u) hu2 (Kind.own_len st2) hy hfx
  rw [hz'] at hn
  obtain ⟨s', st', L', h1, h2, h3, h4⟩ := SliceO.app (E := Kind.own) (fun st st' x cs L => Kind.own_frame st st' x cs L) (fun st x cs L => Kind.own_lt st x cs L) (sz := sz') (fun st x cs L h => (Kind.own_len st x cs L h).trans hz') hu hs hb hz hzl h hf hn0 hext hn hr hK hbd hbn
  exact ⟨s', st', L', h1, h2, h3, (Grow.of_ext hext s).trans h4⟩
end
theorem SliceO.top {α : Type} {E : α → List Value → List Nat → Prop} {e : TypeId} {st : St} {xs : List α} {s : Value} {L : List Nat} {n : Nat} (h : SliceO E e st xs s L) (hf : Fresh n L) : topId s = none ∨ ∃ m, n ≤ m ∧ topId s = some m := by
  rcases h with ⟨rfl, _, _⟩ | ⟨i, c, cs, K, rfl, _, _, rfl⟩
  · exact .inl rfl
  · exact .inr ⟨i, hf.2 i (by simp), rfl⟩
theorem eq_nil {P : Program} {t e : TypeId} (h : P.underlying t = some (.slice e)) : pureRun P (Op.equal t (.slice none 0 0) (.slice none 0 0)) = some true := by
  show pureRun P (Op.equalIn (9999 + 1) t (.slice none 0 0) (.slice none 0 0)) = _
  rw [Op.equalIn, pureRun_bind, pureRun_und h]
  rfl
theorem row_nil {α : Type} {E : α → List Value → Prop} {sz : Nat} {st : St} {xs : List α} {s : Value} (h : Row E sz st xs s) {P : Program} {t e : TypeId} (hu : P.underlying t = some (.slice e)) :
    ∃ b, (∀ x y, binE P .eql t x y s (.slice none 0 0) = some (.bool b)) ∧ (b = true → xs = [] ∧ s = .slice none 0 0) := by
  have he : elemA P t = some e := by unfold elemA; rw [hu]
  have hno : ∀ a n c x y, binE P .eql t x y (.slice (some a) n c) (.slice none 0 0) = some (.bool false) := fun a n c x y => by
    show (match elemA P t with | some _ => eqNil .eql (.slice (some a) n c) (.slice none 0 0) | none => eqNilI P t .eql (.slice (some a) n c) (.slice none 0 0)) = _
    rw [he]; rfl
  rcases h with ⟨rfl | rfl, rfl⟩ | ⟨i, o, c, rfl, h⟩
  · refine ⟨true, fun x y => ?_, fun _ => ⟨rfl, rfl⟩⟩
    have : binE P .eql t x y (.slice none 0 0) (.slice none 0 0) = flatRun P (do pure (.bool (← Op.equal t (.slice none 0 0) (.slice none 0 0)))) := rfl
    rw [this, flatRun, pureRun_bind, eq_nil hu]; rfl
  · exact ⟨false, fun x y => hno _ _ _ x y, fun e => by cases e⟩
  · exact ⟨false, fun x y => hno _ _ _ x y, fun e => by cases e⟩

section
variable {α : Type} [Kind α]
/-- An element of a row of one's own is put. -/
theorem Sl.set {P : Program} {n0 j : Nat} {st st2 : St} {xs : List α} {s v : Value} {L : List Nat} {x : α} {cx : List Value} {Lx : List Nat} (hs : szA P (Kind.e α) = some (Kind.sz α))
    (h : Sl st xs s L) (hf : Fresh n0 L) (hn0 : n0 ≤ st.length) (hext : Ext st st2) (hx : Kind.own st2 x cx Lx) (hfx : Fresh st.length Lx) (hj : j < xs.length) (hv : v.cells.toList = cx) (hok : okv v = true) :
    ∃ b c st' L', s = .slice (some ⟨b, 0, none⟩) xs.length c ∧ (∀ loc, storeA P (Kind.e α) (.pointer (some ⟨b, j * Kind.sz α, none⟩)) v loc st2 = some (loc, st')) ∧ Sl st' (xs.set j x) s L' ∧ Fresh n0 L' ∧ st'.length = st2.length ∧ n0 ≤ b ∧ ∀ i, i ≠ b → st'[i]? = st2[i]? := by
  have hlt := h.lt
  rcases h with ⟨_, h0, _⟩ | ⟨b, c, cs, K, rfl, hb, hr, rfl⟩
  · rw [h0] at hj; simp at hj
  obtain ⟨c1, c0, c2, L1, L0, L2, g1, g2, g3, rfl, rfl⟩ := hr.split j _ (List.getElem?_eq_getElem hj)
  have hcl := g1.len (Kind.own_len st)
  have hc0 := Kind.own_len _ _ _ _ g2
  have hcx := Kind.own_len _ _ _ _ hx
  have hl1 : c1.length = j * Kind.sz α := by rw [hcl, List.length_take, Nat.min_eq_left (by omega)]
  have hxlt := Kind.own_lt _ _ _ _ hx
  obtain ⟨hi0, hnd1⟩ := List.nodup_cons.1 hf.1
  obtain ⟨hnd2, hnd3, hnd4⟩ := List.nodup_append.1 hnd1
  obtain ⟨hnd5, hnd6, hnd7⟩ := List.nodup_append.1 hnd2
  have hb2 := hext _ _ hb
  have hbl : b < st.length := (List.getElem?_eq_some_iff.1 hb).1
  have hel := hext.length
  have hbb : (st2.set b ⟨c1 ++ cx ++ c2, Kind.e α, 0⟩)[b]? = some ⟨c1 ++ cx ++ c2, Kind.e α, 0⟩ := by rw [List.getElem?_set]; simp; omega
  have get : ∀ i, i ≠ b → (st2.set b ⟨c1 ++ cx ++ c2, Kind.e α, 0⟩)[i]? = st2[i]? := fun i hi => by rw [List.getElem?_set, if_neg (Ne.symm hi)]
  refine ⟨b, c, st2.set b ⟨c1 ++ cx ++ c2, Kind.e α, 0⟩, b :: (L1 ++ Lx ++ L2), rfl, fun loc => ?_, .inr ⟨b, c, c1 ++ cx ++ c2, L1 ++ Lx ++ L2, by rw [List.length_set], hbb, ?_, rfl⟩, ⟨List.nodup_cons.2 ⟨fun hm => ?_, List.nodup_append.2 ⟨List.nodup_append.2 ⟨hnd5, hfx.1, fun a ha d hd e => ?_⟩, hnd3, fun a ha d hd e => ?_⟩⟩, fun i hi => ?_⟩, by simp, hf.2 b (by simp), get⟩
  · have hvs : v.cells.size = Kind.sz α := by rw [← hcx, ← hv]; simp
    rw [storeA_h]
    have hvc : vc v = v.cells := rfl
    simp only [hok, if_true, hs, hb2, hvc, hvs, hv, true_and]
    rw [if_pos (by simp [hl1, hc0])]
    unfold AM.splice
    have e1 : (c1 ++ c0 ++ c2).take (j * Kind.sz α) = c1 := by rw [← hl1, List.append_assoc, List.take_left]
    have e2 : (c1 ++ c0 ++ c2).drop (j * Kind.sz α + cx.length) = c2 := by rw [← hl1, hcx, ← hc0, ← List.length_append, List.drop_left]
    rw [e1, e2]
  · have e : xs.set j x = xs.take j ++ [x] ++ xs.drop (j + 1) := by rw [List.set_eq_take_append_cons_drop, if_pos hj]; simp
    rw [e]
    refine (RowO.app (g1.mono fun y _ cy Ly hL he => ?_) (RowO.one ?_)).app (g3.mono fun y _ cy Ly hL he => ?_)
    · exact Kind.own_frame _ _ y cy Ly (fun q hq => by
        have hq1 := hL q hq
        rw [get q (fun e => hi0 (by simp [← e, hq1])), hext.get (hlt q (by simp [hq1]))]) he
    · exact Kind.own_frame _ _ x cx Lx (fun q hq => get q (by have := hfx.2 q hq; omega)) hx
    · exact Kind.own_frame _ _ y cy Ly (fun q hq => by
        have hq1 := hL q hq
        rw [get q (fun e => hi0 (by simp [← e, hq1])), hext.get (hlt q (by simp [hq1]))]) he
  · simp only [List.mem_append] at hm
    rcases hm with (hm | hm) | hm
    · exact hi0 (by simp [hm])
    · have := hfx.2 _ hm; omega
    · exact hi0 (by simp [hm])
  · subst e
    have h1 := hlt a (by simp [ha])
    have h2 := hfx.2 a hd
    omega
  · subst e
    rcases List.mem_append.1 ha with ha | ha
    · exact hnd4 a (by simp [ha]) a hd rfl
    · have h1 := hlt a (by simp [hd])
      have h2 := hfx.2 a ha
      omega
  · rcases List.mem_cons.1 hi with rfl | hi
    · exact hf.2 _ (by simp)
    · simp only [List.mem_append] at hi
      rcases hi with (hi | hi) | hi
      · exact hf.2 i (by simp [hi])
      · have := hfx.2 i hi; omega
      · exact hf.2 i (by simp [hi])
end
/-- The rest of a row. -/
theorem row_drop {α : Type} {E : α → List Value → Prop} {sz : Nat} {st : St} {xs : List α} {s : Value} (h : Row E (sz + 1) st xs s) {P : Program} {t e : TypeId} (hu : P.underlying t = some (.slice e)) (hs : szA P e = some (sz + 1)) {k : Nat} (hk : k ≤ xs.length) (h0 : xs ≠ []) :
    ∃ s', sliceA P t s (some (.int .i64 k)) none = some s' ∧ flat s = false ∧ Row E (sz + 1) st (xs.drop k) s' := by
  rcases h with ⟨_, rfl⟩ | ⟨i, o, c, rfl, h⟩
  · exact absurd rfl h0
  · have he : elemA P t = some e := by unfold elemA; rw [hu]
    refine ⟨.slice (some ⟨i, o + k * (sz + 1), none⟩) (xs.length - k) (xs.length - k), ?_, rfl, .inr ⟨i, o + k * (sz + 1), xs.length - k, by simp, fun j x hx => ?_⟩⟩
    · unfold sliceA
      simp only [he, hs, Int.toNat_natCast]
      rw [if_pos (by omega)]
    · rw [List.getElem?_drop] at hx
      obtain ⟨cs, h1, h2, h3⟩ := h (k + j) x hx
      exact ⟨cs, h1, h2, by rwa [show o + k * (sz + 1) + j * (sz + 1) = o + (k + j) * (sz + 1) by rw [Nat.add_mul]; omega]⟩
/-- A kind whose data stand in their cells alone. -/
class Flat (α : Type) extends Kind α where
  flat_own : ∀ (st : St) (x : α) (cs : List Value), enc st x cs → own st x cs []
section
variable {α : Type} [Flat α]
theorem shr_own {st : St} {xs : List α} {cs : List Value} {L : List Nat} (h : RowO (Shr (Kind.enc (α := α) st)) xs cs L) : RowO (Kind.own st) xs cs L := h.mono fun x _ cx Lx _ he => by obtain ⟨h1, rfl⟩ := he; exact Flat.flat_own st x cx h1
/-- A row of flat data is put behind one's own. -/
theorem Sl.appRow {P : Program} {t u : TypeId} {by_ sz' n0 : Nat} {z : List Value} {st st2 : St} {xs ys : List α} {s y : Value} {L : List Nat}
    (hu : P.underlying t = some (.slice (Kind.e α))) (hu2 : P.underlying u = some (.slice (Kind.e α))) (hs : szA P (Kind.e α) = some (sz' + 1)) (hz' : Kind.sz α = sz' + 1) (hb : bytA P (Kind.e α) = some by_) (hz : zeroA P (Kind.e α) = some z) (hzl : z.length = sz' + 1)
    (h : Sl st xs s L) (hf : Fresh n0 L) (hn0 : n0 ≤ st.length) (hext : Ext st st2) (hy : Rw st2 ys y) (hbd : (xs.length + ys.length) * by_ ≤ 2 ^ 46) (hbn : xs.length + ys.length ≤ 2 ^ 46) :
    ∃ s' st' L', appendA P t u s y st2 = some (s', st') ∧ Sl st' (xs ++ ys) s' L' ∧ Fresh n0 L' ∧ Grow st2 s st' s' := by
  obtain ⟨cy, hn, hx⟩ := newsA_row hy hu2
  rw [hz'] at hn
  exact SliceO.app (E := Kind.own) (fun st st' x cs L => Kind.own_frame st st' x cs L) (fun st x cs L => Kind.own_lt st x cs L) (sz := sz') (fun st x cs L h => (Kind.own_len st x cs L h).trans hz') hu hs hb hz hzl h hf hn0 hext hn (shr_own hx) ⟨by simp, by simp⟩ hbd hbn
theorem Sl.freshRow {P : Program} {t u : TypeId} {by_ sz' : Nat} {z : List Value} {st : St} {ys : List α} {y : Value}
    (hu : P.underlying t = some (.slice (Kind.e α))) (hu2 : P.underlying u = some (.slice (Kind.e α))) (hs : szA P (Kind.e α) = some (sz' + 1)) (hz' : Kind.sz α = sz' + 1) (hb : bytA P (Kind.e α) = some by_) (hz : zeroA P (Kind.e α) = some z) (hzl : z.length = sz' + 1)
    (hy : Rw st ys y) (hbd : ys.length * by_ ≤ 2 ^ 46) (hbn : ys.length ≤ 2 ^ 46) :
    ∃ s' st' L', appendA P t u (.slice (some ⟨st.length, 0, none⟩) 0 0) y (st ++ [⟨[], Kind.e α, 0⟩]) = some (s', st') ∧ Sl st' ys s' L' ∧ Fresh st.length L' ∧ Ext st st' ∧ st.length + 1 ≤ st'.length := by
  obtain ⟨cy, hn, hx⟩ := newsA_row (hy.ext (Ext.app st [⟨[], Kind.e α, 0⟩])) hu2
  rw [hz'] at hn
  exact SliceO.fresh (E := Kind.own) (fun st st' x cs L => Kind.own_frame st st' x cs L) (fun st x cs L => Kind.own_lt st x cs L) (sz := sz') (fun st x cs L h => (Kind.own_len st x cs L h).trans hz') hu hs hb hz hzl hn (shr_own hx) hbd hbn
end
end Go.Proofs.Ytoeibmfdafilcaa.AM


/- Kinds: numbers, strings, terms, bindings. -/
namespace Go.Proofs.Ytoeibmfdafilcaa.AM
open Go
set_option linter.unusedVariables false
set_option linter.unusedSimpArgs false

instance : Kind Int where
  sz := 1
  e := 3
  enc := fun _ n cs => cs = [.int .i64 n]
  own := fun _ n cs L => cs = [.int .i64 n] ∧ L = []
  enc_len := fun _ _ _ h => by rw [h]; rfl
  enc_ext := fun _ _ _ _ _ h => h
  own_len := fun _ _ _ _ h => by rw [h.1]; rfl
  own_lt := fun _ _ _ _ h => by rw [h.2]; simp
  own_frame := fun _ _ _ _ _ _ h => h
  own_enc := fun _ _ _ _ h => h.1
instance : Marks Int where
  mk1 := fun _ k => (k, k + 1)
  mk1_ge := fun _ k => Nat.le_succ k
instance : Kind ByteArray where
  sz := 1
  e := 9
  enc := fun _ n cs => cs = [.string n]
  own := fun _ n cs L => cs = [.string n] ∧ L = []
  enc_len := fun _ _ _ h => by rw [h]; rfl
  enc_ext := fun _ _ _ _ _ h => h
  own_len := fun _ _ _ _ h => by rw [h.1]; rfl
  own_lt := fun _ _ _ _ h => by rw [h.2]; simp
  own_frame := fun _ _ _ _ _ _ h => h
  own_enc := fun _ _ _ _ h => h.1
instance : Marks ByteArray where
  mk1 := fun _ k => (mtext k, k + 1)
  mk1_ge := fun _ k => Nat.le_succ k
instance : Flat Int where
  flat_own := fun _ _ _ h => And.intro h rfl
instance : Flat ByteArray where
  flat_own := fun _ _ _ h => And.intro h rfl
/-- How much a datum weighs. -/
class Wt (α : Type) where
  wt : α → Nat
def wtL {α : Type} [Wt α] : List α → Nat
  | [] => 0
  | x :: xs => Wt.wt x + wtL xs
instance : Wt ByteArray := ⟨ByteArray.size⟩
instance : Kind T where
  sz := 4
  e := 31
  enc := Enc
  own := Own 31
  enc_len := fun _ x _ h => by cases x; obtain ⟨s, rfl, _⟩ := h.open; rfl
  enc_ext := fun _ _ x cs hx h => Enc.ext hx x cs h
  own_len := fun _ => Own.len
  own_lt := fun _ => Own.lt
  own_frame := fun _ _ => Own.frame
  own_enc := fun _ => Own.enc
instance : Marks T where
  mk1 := T.mk1
  mk1_ge := fun x k => (T.mk1_ge x k).1
theorem T.eta (x : T) : ∃ k n nm args, x = .mk k n nm args := by cases x; exact ⟨_, _, _, _, rfl⟩
abbrev RowT (st : St) (xs : List T) (s : Value) : Prop := Row (Enc st) 4 st xs s
abbrev SlT (st : St) (xs : List T) (s : Value) (L : List Nat) : Prop := SliceO (Own 31 st) 31 st xs s L
theorem Own.args_cells {e : TypeId} {st : St} {t : T} {cs : List Value} {L : List Nat} (h : Own e st t cs L) : ∃ k n nm s, cs = [.int .i64 k, .int .i64 n, .string nm, s] ∧ okv s = true ∧ isLoc s = false ∧ vc s = #[s] := by
  obtain ⟨k, n, nm, args⟩ := t
  obtain ⟨s, rfl, hs⟩ := h.open
  exact ⟨k, n, nm, s, rfl, hs.okv, hs.loc, hs.cells⟩
instance : Wt T := ⟨T.wt⟩
end Go.Proofs.Ytoeibmfdafilcaa.AM


/- Kinds: bindings. -/
namespace Go.Proofs.Ytoeibmfdafilcaa.AM
open Go
set_option linter.unusedVariables false
set_option linter.unusedSimpArgs false

/-- A binding. -/
structure Bnd where
  nm : ByteArray
  tm : T
def EncB (st : St) (b : Bnd) (cs : List Value) : Prop := ∃ c, cs = .string b.nm :: c ∧ Enc st b.tm c
def OwnB (st : St) (b : Bnd) (cs : List Value) (L : List Nat) : Prop := ∃ c, cs = .string b.nm :: c ∧ Own 31 st b.tm c L
instance : Kind Bnd where
  sz := 5
  e := 54
  enc := EncB
  own := OwnB
  enc_len := fun st b _ h => by obtain ⟨c, rfl, h⟩ := h; have := Kind.enc_len (α := T) st _ _ h; simp; exact this
  enc_ext := fun _ _ b _ hx h => by obtain ⟨c, rfl, h⟩ := h; exact ⟨c, rfl, Enc.ext hx _ _ h⟩
  own_len := fun st b _ _ h => by obtain ⟨c, rfl, h⟩ := h; have := Own.len _ _ _ h; simp; exact this
  own_lt := fun st b _ _ h => by obtain ⟨c, rfl, h⟩ := h; exact Own.lt _ _ _ h
  own_frame := fun _ _ b _ _ hs h => by obtain ⟨c, rfl, h⟩ := h; exact ⟨c, rfl, Own.frame _ _ _ hs h⟩
  own_enc := fun _ b _ _ h => by obtain ⟨c, rfl, h⟩ := h; exact ⟨c, rfl, Own.enc _ _ _ h⟩
instance : Marks Bnd where
  mk1 := fun b k => (⟨mtext k, (b.tm.mk1 (k + 1)).1⟩, (b.tm.mk1 (k + 1)).2)
  mk1_ge := fun b k => by have := (T.mk1_ge b.tm (k + 1)).1; simp only; omega
instance : Wt Bnd := ⟨fun b => b.nm.size + b.tm.wt⟩
theorem mk1_B {b : Bnd} {k0 n0 : Int} {m : ByteArray} {args : List T} (h : b.tm = .mk k0 n0 m args) (k : Nat) : Marks.mk1 b k = ((⟨mtext k, .mk (k + 1 : Nat) (k + 2 : Nat) (mtext (k + 3)) (T.mkL args (k + 4)).1⟩ : Bnd), (T.mkL args (k + 4)).2) := by
  simp only [Marks.mk1, h, T.mk1]
theorem EncB.open {st : St} {b : Bnd} {cs : List Value} (h : EncB st b cs) : ∃ k n m args s, b.tm = .mk k n m args ∧ cs = [.string b.nm, .int .i64 k, .int .i64 n, .string m, s] ∧ RowT st args s := by
  obtain ⟨c, rfl, h⟩ := h
  obtain ⟨nm, k, n, m, args⟩ := b
  obtain ⟨s, rfl, hr⟩ := h.open
  exact ⟨k, n, m, args, s, rfl, rfl, hr⟩
theorem OwnB.open {st : St} {b : Bnd} {cs : List Value} {L : List Nat} (h : OwnB st b cs L) : ∃ k n m args s, b.tm = .mk k n m args ∧ cs = [.string b.nm, .int .i64 k, .int .i64 n, .string m, s] ∧ SlT st args s L := by
  obtain ⟨c, rfl, h⟩ := h
  obtain ⟨nm, k, n, m, args⟩ := b
  obtain ⟨s, rfl, hr⟩ := h.open
  exact ⟨k, n, m, args, s, rfl, rfl, hr⟩
theorem row_atB {st : St} {xs : List Bnd} {s : Value} (h : Rw st xs s) {j : Nat} {x : Bnd} (hx : xs[j]? = some x) {n : Nat} (hn : xs.length = n := by rfl) : ∃ i o c k m nm args sx, s = .slice (some ⟨i, o, none⟩) n c ∧ x.tm = .mk k m nm args ∧ RowT st args sx ∧ CellsAt st i (o + j * 5) [.string x.nm, .int .i64 k, .int .i64 m, .string nm, sx] := by
  subst hn
  obtain ⟨i, o, c, cs, rfl, _, hE, hc⟩ := row_at h hx
  obtain ⟨k, m, nm, args, sx, h1, rfl, h2⟩ := EncB.open hE
  exact ⟨i, o, c, k, m, nm, args, sx, rfl, h1, h2, hc⟩
end Go.Proofs.Ytoeibmfdafilcaa.AM

