/- Data in the abstract store: rows, terms. -/
import Derived.Test.YtibcegfhllkdgaaDoorA18
namespace Go.Proofs.YtibcegfhllkdgaaDoor.AM
open Go
set_option linter.unusedVariables false
set_option linter.unusedSimpArgs false

/-- Cells that stand in a row. -/
def CellsAt (st : St) (i o : Nat) (cs : List Value) : Prop := ∀ (q : Nat) v, cs[q]? = some v → cell st i (o + q) = some v

theorem cell_ext {st st' : St} (h : Ext st st') {i j : Nat} {v : Value} (hc : cell st i j = some v) : cell st' i j = some v := by
  unfold cell at hc ⊢
  split at hc
  · rename_i b hb; rw [h i b hb]; exact hc
  · cases hc
theorem CellsAt.ext {st st' : St} (h : Ext st st') {i o : Nat} {cs : List Value} (hc : CellsAt st i o cs) : CellsAt st' i o cs := fun q v hq => cell_ext h (hc q v hq)

/-- A slice of no elements: nil, or one of which nothing is known. -/
def emptyS (s : Value) : Prop := s = .slice none 0 0 ∨ s = .slice (some ⟨0, 0, some 0⟩) 0 0
/-- A slice whose elements read as the members of a list. -/
def Row {α : Type} (E : α → List Value → Prop) (sz : Nat) (st : St) (xs : List α) (s : Value) : Prop :=
  (emptyS s ∧ xs = []) ∨ ∃ i o c, s = .slice (some ⟨i, o, none⟩) xs.length c ∧ ∀ (j : Nat) x, xs[j]? = some x → ∃ cs, cs.length = sz ∧ E x cs ∧ CellsAt st i (o + j * sz) cs

theorem Row.mono {α : Type} {E E' : α → List Value → Prop} {sz : Nat} {st st' : St} {xs : List α} {s : Value} (h : Row E sz st xs s) (hs : Ext st st') (hE : ∀ x ∈ xs, ∀ cs, E x cs → E' x cs) : Row E' sz st' xs s := by
  rcases h with h | ⟨i, o, c, rfl, h⟩
  · exact .inl h
  · refine .inr ⟨i, o, c, rfl, fun j x hx => ?_⟩
    obtain ⟨cs, h1, h2, h3⟩ := h j x hx
    exact ⟨cs, h1, hE x (List.mem_of_getElem? hx) cs h2, h3.ext hs⟩

inductive T where
  | mk (k n : Int) (nm : ByteArray) (args : List T)

mutual
def T.wt : T → Nat
  | .mk _ _ nm args => nm.size + args.length + T.wtL args
def T.wtL : List T → Nat
  | [] => 0
  | x :: xs => x.wt + T.wtL xs
end

theorem T.ind {P : T → Prop} (h : ∀ k n nm args, (∀ a ∈ args, P a) → P (.mk k n nm args)) : ∀ t, P t := by
  intro t
  refine T.rec (motive_1 := P) (motive_2 := fun l => ∀ a ∈ l, P a) (fun k n nm args ih => h k n nm args ih) (fun a ha => by cases ha) (fun x xs hx hxs a ha => ?_) t
  cases ha with
  | head => exact hx
  | tail _ ha => exact hxs a ha

inductive Enc (st : St) : T → List Value → Prop
  | nil (k n : Int) (nm : ByteArray) (s : Value) (h : emptyS s) : Enc st (.mk k n nm []) [.int .i64 k, .int .i64 n, .string nm, s]
  | sl (k n : Int) (nm : ByteArray) (args : List T) (i o c : Nat) (f : Nat → List Value) (hl : ∀ (j : Nat) x, args[j]? = some x → (f j).length = 4) (he : ∀ (j : Nat) x, args[j]? = some x → Enc st x (f j))
      (hc : ∀ (j : Nat) x, args[j]? = some x → CellsAt st i (o + j * 4) (f j)) : Enc st (.mk k n nm args) [.int .i64 k, .int .i64 n, .string nm, .slice (some ⟨i, o, none⟩) args.length c]

theorem Enc.open {st : St} {k n : Int} {nm : ByteArray} {args : List T} {cs : List Value} (h : Enc st (.mk k n nm args) cs) : ∃ s, cs = [.int .i64 k, .int .i64 n, .string nm, s] ∧ Row (Enc st) 4 st args s := by
  cases h with
  | nil _ _ _ s h => exact ⟨_, rfl, .inl ⟨h, rfl⟩⟩
  | sl _ _ _ _ i o c f hl he hc => exact ⟨_, rfl, .inr ⟨i, o, c, rfl, fun j x hx => ⟨f j, hl j x hx, he j x hx, hc j x hx⟩⟩⟩
theorem Enc.close {st : St} (k n : Int) (nm : ByteArray) {args : List T} {s : Value} (h : Row (Enc st) 4 st args s) : Enc st (.mk k n nm args) [.int .i64 k, .int .i64 n, .string nm, s] := by
  rcases h with ⟨hs, rfl⟩ | ⟨i, o, c, rfl, h⟩
  · exact .nil k n nm s hs
  · have hex : ∀ j, ∃ cs : List Value, ∀ x, args[j]? = some x → cs.length = 4 ∧ Enc st x cs ∧ CellsAt st i (o + j * 4) cs := by
      intro j
      cases hj : args[j]? with
      | none => exact ⟨[], fun x hx => by cases hx⟩
      | some x =>
        obtain ⟨cs, h1⟩ := h j x hj
        exact ⟨cs, fun y hy => by obtain rfl := Option.some.inj hy; exact h1⟩
    exact .sl k n nm args i o c (fun j => Classical.choose (hex j)) (fun j x hx => (Classical.choose_spec (hex j) x hx).1) (fun j x hx => (Classical.choose_spec (hex j) x hx).2.1) (fun j x hx => (Classical.choose_spec (hex j) x hx).2.2)
theorem Enc.ext {st st' : St} (hs : Ext st st') : ∀ (t : T) (cs : List Value), Enc st t cs → Enc st' t cs := by
  refine T.ind fun k n nm args ih cs h => ?_
  obtain ⟨s, rfl, hr⟩ := h.open
  exact Enc.close k n nm (hr.mono hs fun x hx cs he => ih x hx cs he)

section
variable {P : Program} {A : List Tmp} {loc : Nat → Nat × List Value} {st : St} {t : TypeId}
/-- An element is read whole. -/
theorem load_row {i o n : Nat} {cs : List Value} (ha : aggA P t = some true) (hs : szA P t = some n) (hl : cs.length = n) (hc : CellsAt st i o cs) : loadA P A t (.pointer (some ⟨i, o, none⟩)) loc st = some (.agg cs.toArray) :=
  load_hn ha hs hl hc
theorem load_cell {i o : Nat} {v : Value} (ha : aggA P t = some false) (hc : cell st i o = some v) : loadA P A t (.pointer (some ⟨i, o, none⟩)) loc st = some v := load_h1 ha hc
end

section
variable {P : Program} {A H : List Tmp} {loc : Nat → Nat × List Value} {st : St} {t : TypeId} {b o : Nat}
theorem loadA_p {sp : Option Nat} : loadA P A t (.pointer (some ⟨b, o, sp⟩)) loc st = (match aggA P t with
    | some false => cellAt A loc st b sp o
    | some true => (match szA P t with
      | some n => (match cellsFrom (cellAt A loc st b sp) o n with
        | some cs => if okPtr A loc b sp then some (.agg cs.toArray) else none
        | none => none)
      | none => none)
    | none => none) := by
  unfold loadA
  cases aggA P t with
  | none => rfl
  | some b => cases b <;> cases szA P t <;> rfl
theorem cellAt_l {w j : Nat} : cellAt A loc st b (some w) j = if w ≠ 0 ∧ (loc b).1 = w ∧ b ∉ A then (loc b).2[j]? else none := rfl
theorem cellAt_h {j : Nat} : cellAt A loc st b none j = cell st b j := rfl
theorem okPtr_l {w : Nat} : okPtr A loc b (some w) = decide (w ≠ 0 ∧ (loc b).1 = w ∧ b ∉ A) := rfl
theorem okPtr_h : okPtr A loc b none = true := rfl
theorem fadA_p {sp : Option Nat} {f : Nat} : fadA P A t (.pointer (some ⟨b, o, sp⟩)) f loc = (match offA P t f with
    | some d => if okPtr A loc b sp then some (.pointer (some ⟨b, o + d, sp⟩)) else none
    | none => none) := rfl
theorem allocA_l {d : Tmp} {z : List Value} {t : TypeId} : allocA [] d z t loc st = (.pointer (some ⟨d, 0, some ((loc d).1 + 1)⟩), upd loc d ((loc d).1 + 1, z), st) := rfl
theorem storeA_l {w : Nat} {v : Value} : storeA P t (.pointer (some ⟨b, o, some w⟩)) v loc st = (if okv v then (match szA P t with
    | some sz => if w ≠ 0 ∧ (loc b).1 = w ∧ (vc v).size = sz ∧ o + sz ≤ (loc b).2.length then some (upd loc b (w, splice (loc b).2 o (vc v).toList), st) else none
    | none => none) else none) := by
  unfold storeA
  cases szA P t <;> rfl
theorem storeA_h {v : Value} : storeA P t (.pointer (some ⟨b, o, none⟩)) v loc st = (if okv v then (match szA P t with
    | some sz => (match st[b]? with
      | some blk => if blk.stat = 0 ∧ (vc v).size = sz ∧ o + sz ≤ blk.cells.length then some (loc, st.set b { blk with cells := splice blk.cells o (vc v).toList }) else none
      | none => none)
    | none => none) else none) := by
  unfold storeA
  cases szA P t <;> rfl
theorem cells_agg {cs : Array Value} : vc (Value.agg cs) = cs := rfl
theorem cells_int {k : IntKind} {i : Int} : vc (Value.int k i) = #[.int k i] := rfl
theorem cells_str {s : ByteArray} : vc (Value.string s) = #[.string s] := rfl
theorem cells_sl {a : Option Addr} {n c : Nat} : vc (Value.slice a n c) = #[.slice a n c] := rfl
theorem cells_bool {b : Bool} : vc (Value.bool b) = #[.bool b] := rfl
theorem flat_i {k : IntKind} {i : Int} : flat (.int k i) = true := rfl
theorem flat_s {s : ByteArray} : flat (.string s) = true := rfl
theorem flat_b {b : Bool} : flat (.bool b) = true := rfl
theorem flat_sl {a : Addr} {n c : Nat} : flat (.slice (some a) n c) = false := rfl
theorem flat_nil : flat (.slice none 0 0) = true := rfl
theorem loc_agg {cs : Array Value} : isLoc (.agg cs) = false := rfl
theorem loc_int {k : IntKind} {i : Int} : isLoc (.int k i) = false := rfl
theorem loc_str {s : ByteArray} : isLoc (.string s) = false := rfl
theorem loc_sl {a : Option Addr} {n c : Nat} : isLoc (.slice a n c) = false := rfl
theorem loc_bool {b : Bool} : isLoc (.bool b) = false := rfl
theorem loc_fn {f : Fn} {a b : Array Value} : isLoc (.func f a b) = false := rfl
theorem loc_ptr : isLoc (.pointer (some ⟨b, o, none⟩)) = false := rfl
theorem okv_agg {cs : Array Value} : okv (.agg cs) = true := rfl
theorem okv_int {k : IntKind} {i : Int} : okv (.int k i) = true := rfl
theorem okv_str {s : ByteArray} : okv (.string s) = true := rfl
theorem okv_sl {a : Option Addr} {n c : Nat} : okv (.slice a n c) = true := rfl
theorem okv_bool {b : Bool} : okv (.bool b) = true := rfl
end

theorem wrap_in {x : Int} (h0 : -9223372036854775808 ≤ x) (h1 : x ≤ 9223372036854775807) : IntKind.i64.wrap x = x := IntWalk.i64_in _ ⟨h0, h1⟩

theorem upd_eval {α : Type} (f : Nat → α) (i : Nat) (v : α) (j : Nat) : upd f i v j = if j = i then v else f j := rfl
theorem argEnv_zero (v : Value) (l : List Value) : argEnv (v :: l) 0 = v := rfl
theorem argEnv_succ (v : Value) (l : List Value) (n : Nat) : argEnv (v :: l) (n + 1) = argEnv l n := rfl
theorem row_len {α : Type} {E : α → List Value → Prop} {sz : Nat} {st : St} {xs : List α} {s : Value} (h : Row E sz st xs s) {P : Program} {t e : TypeId} (hu : P.underlying t = some (.slice e)) : lenE P t s = some (.int .i64 xs.length) := by
  rcases h with ⟨rfl | rfl, rfl⟩ | ⟨i, o, c, rfl, _⟩
  · exact len_sl hu
  · exact len_sl hu
  · exact len_sl hu
theorem row_at {α : Type} {E : α → List Value → Prop} {sz : Nat} {st : St} {xs : List α} {s : Value} (h : Row E sz st xs s) {j : Nat} {x : α} (hx : xs[j]? = some x) : ∃ i o c cs, s = .slice (some ⟨i, o, none⟩) xs.length c ∧ cs.length = sz ∧ E x cs ∧ CellsAt st i (o + j * sz) cs := by
  rcases h with ⟨_, rfl⟩ | ⟨i, o, c, rfl, h⟩
  · simp at hx
  · obtain ⟨cs, h1, h2, h3⟩ := h j x hx
    exact ⟨i, o, c, cs, rfl, h1, h2, h3⟩
theorem idxOk {j n : Nat} (h : j < n) : (0 ≤ (j : Int) ∧ (j : Int) < (n : Int)) = True := by simp; omega
theorem Row.notLoc {α : Type} {E : α → List Value → Prop} {sz : Nat} {st : St} {xs : List α} {s : Value} (h : Row E sz st xs s) : isLoc s = false ∧ okv s = true := by
  rcases h with ⟨rfl | rfl, rfl⟩ | ⟨i, o, c, rfl, _⟩ <;> exact ⟨rfl, rfl⟩

end Go.Proofs.YtibcegfhllkdgaaDoor.AM
