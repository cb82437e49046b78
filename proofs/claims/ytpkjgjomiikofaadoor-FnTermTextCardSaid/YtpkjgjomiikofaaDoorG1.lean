/- My texts for the law, laid together (part 1): PLN D1 D2 D3 M1 D6 D7 DR1 F1 F2 F6 S1 M2 B1 R1 C0 C6 DT DB K3 C11 C12 C13 C15 C16 C1 PL3 N1 PL4 C3. -/
import Derived.Lib.AtoiTie
import Derived.Lib.ItoaMem
import Derived.Lib.ItoaLen
import Derived.Test.YtpkjgjomiikofaaDoorA18
import Derived.Test.YtpkjgjomiikofaaDoorAF
import Derived.Test.YtpkjgjomiikofaaDoorShelf
import Derived.Lib.AppendIntMem
import Derived.Lib.Strings
import Derived.Laws.Strings
import Derived.Sort.Walk0
import Derived.Shelf.Sort.Plain
import Derived.Shelf.Slices.CompactS
/- Whole numbers and their decimal form, in plain Lean. -/
namespace Go.Proofs.YtpkjgjomiikofaaDoor.AM
open Go Go.Proofs Go.Lib
set_option linter.unusedVariables false
set_option linter.unusedSimpArgs false

theorem decFrom_app (l m : List UInt8) : ∀ acc, decFrom acc (l ++ m) = (decFrom acc l).bind fun n => decFrom n m := by
  induction l with
  | nil => intro acc; rfl
  | cons b r ih =>
    intro acc
    simp only [List.cons_append, decFrom]
    cases digitVal b with
    | none => rfl
    | some d => exact ih _
theorem digit_of (d : Nat) (h : d < 10) : digitVal (UInt8.ofNat (48 + d)) = some d := by
  unfold digitVal
  have e : (UInt8.ofNat (48 + d)).toNat = 48 + d := by simp; omega
  rw [e, if_pos (by omega)]
  simp
theorem decFrom_digits (u : Nat) : decFrom 0 (decDigits u) = some u := by
  induction u using Nat.strongRecOn with
  | _ u ih =>
    rw [decDigits]
    split
    · rename_i h
      simp only [decFrom, digit_of u h]
      simp
    · rename_i h
      rw [decFrom_app, ih (u / 10) (by omega)]
      simp only [Option.bind_some, decFrom, digit_of (u % 10) (by omega)]
      congr 1; omega
theorem digits_ne (u : Nat) : decDigits u ≠ [] := by
  intro h
  have := decDigits_length u
  rw [h] at this
  have := nDigits_pos u
  simp at *
  omega
theorem decNat_digits (u : Nat) : decNat (decDigits u) = some u := by
  unfold decNat
  rw [if_neg (by simpa using digits_ne u), decFrom_digits]
theorem digits_head (u : Nat) : ∃ b r, decDigits u = b :: r ∧ 48 ≤ b.toNat ∧ b.toNat ≤ 57 := by
  cases h : decDigits u with
  | nil => exact absurd h (digits_ne u)
  | cons b r =>
    refine ⟨b, r, rfl, ?_⟩
    obtain ⟨d, hd⟩ := digit_of_decFrom (decDigits u) 0 u (decFrom_digits u) 0 b (by rw [h]; rfl)
    have := digitVal_eq hd
    omega
theorem atoi_itoa (n : Int) : atoi (itoa n) = some n := by
  by_cases h : n < 0
  · obtain ⟨u, hu, rfl⟩ : ∃ u : Nat, 1 ≤ u ∧ n = -(u : Int) := ⟨n.natAbs, by omega, by omega⟩
    rw [itoa_neg u hu]
    simp [atoi, decNat_digits]
  · obtain ⟨u, rfl⟩ : ∃ u : Nat, n = u := ⟨n.toNat, by omega⟩
    rw [itoa_nonneg]
    obtain ⟨b, r, h1, h2, h3⟩ := digits_head u
    have h4 := decNat_digits u
    rw [h1] at h4 ⊢
    have e1 : ¬ (b == 45) = true := fun e => by have : b = 45 := by simpa using e
                                                subst this; simp at h2
    have e2 : ¬ (b == 43) = true := fun e => by have : b = 43 := by simpa using e
                                                subst this; simp at h2
    simp only [atoi, if_neg e1, if_neg e2, h4, Option.map_some]
theorem nDigits_le : ∀ (k u : Nat), u < 10 ^ (k + 1) → nDigits u ≤ k + 1 := by
  intro k
  induction k with
  | zero => intro u h; rw [nDigits_small (by simpa using h)]; omega
  | succ k ih =>
    intro u h
    by_cases h1 : u < 10
    · rw [nDigits_small h1]; omega
    · rw [nDigits_big h1]
      have := ih (u / 10) (by rw [Nat.pow_succ] at h; omega)
      omega
theorem itoa_short {n : Int} (h0 : -1000000000000 < n) (h1 : n < 1000000000000) : (itoa n).length ≤ 13 := by
  by_cases h : n < 0
  · obtain ⟨u, hu, rfl⟩ : ∃ u : Nat, 1 ≤ u ∧ n = -(u : Int) := ⟨n.natAbs, by omega, by omega⟩
    rw [itoa_neg u hu, List.length_cons, decDigits_length]
    have := nDigits_le 11 u (by omega)
    omega
  · obtain ⟨u, rfl⟩ : ∃ u : Nat, n = u := ⟨n.toNat, by omega⟩
    rw [itoa_nonneg, decDigits_length]
    have := nDigits_le 11 u (by omega)
    omega

/-- A number between two ends, written as it is formatted. -/
def wholeN (lo hi : Int) (l : List UInt8) : Option Int := match atoiAll l with
  | .ok v => if (lo ≤ v ∧ v ≤ hi) ∧ itoa v = l then some v else none
  | _ => none
theorem wholeN_some {lo hi v : Int} {l : List UInt8} (hlo : -1000000000000 < lo) (hhi : hi < 1000000000000) : wholeN lo hi l = some v ↔ (lo ≤ v ∧ v ≤ hi) ∧ itoa v = l := by
  constructor
  · intro h
    unfold wholeN at h
    split at h
    · split at h
      · rename_i hc; cases h; exact hc
      · cases h
    · cases h
  · rintro ⟨h1, rfl⟩
    have h2 := itoa_short (n := v) (by omega) (by omega)
    unfold wholeN
    rw [atoiAll_short _ (by omega), atoi_itoa]
    simp only [NumEnd.ofOption]
    rw [if_pos ⟨h1, trivial⟩]
end Go.Proofs.YtpkjgjomiikofaaDoor.AM


/- Data in the abstract store: rows, terms. -/
namespace Go.Proofs.YtpkjgjomiikofaaDoor.AM
open Go
set_option linter.unusedVariables false
set_option linter.unusedSimpArgs false

/-- Cells that stand in a row. -/
def CellsAt (st : St) (i o : Nat) (cs : List Value) : Prop := ∀ (q : Nat) v, cs[q]? = some v → cell st i (o + q) = some v

theorem cell_ext {st st' : St} (h : Ext st st') {i j : Nat} {v : Value} (hc : cell st i j = some v) : cell st' i j = some v := by
  unfold cell at hc ⊢
  split at hc
  · rename_i b hb; rw [h i b hb]; exact hc
  · cases hc
theorem CellsAt.ext {st st' : St} (h : Ext st st') {i o : Nat} {cs : List Value} (hc : CellsAt st i o cs) : CellsAt st' i o cs := fun q v hq => cell_ext h (hc q v hq)

/-- A slice of no elements: nil, or one of which nothing is known. -/
def emptyS (s : Value) : Prop := s = .slice none 0 0 ∨ s = .slice (some ⟨0, 0, some 0⟩) 0 0
/-- A slice whose elements read as the members of a list. -/
def Row {α : Type} (E : α → List Value → Prop) (sz : Nat) (st : St) (xs : List α) (s : Value) : Prop :=
  (emptyS s ∧ xs = []) ∨ ∃ i o c, s = .slice (some ⟨i, o, none⟩) xs.length c ∧ ∀ (j : Nat) x, xs[j]? = some x → ∃ cs, cs.length = sz ∧ E x cs ∧ CellsAt st i (o + j * sz) cs

theorem Row.mono {α : Type} {E E' : α → List Value → Prop} {sz : Nat} {st st' : St} {xs : List α} {s : Value} (h : Row E sz st xs s) (hs : Ext st st') (hE : ∀ x ∈ xs, ∀ cs, E x cs → E' x cs) : Row E' sz st' xs s := by
  rcases h with h | ⟨i, o, c, rfl, h⟩
  · exact .inl h
  · refine .inr ⟨i, o, c, rfl, fun j x hx => ?_⟩
    obtain ⟨cs, h1, h2, h3⟩ := h j x hx
    exact ⟨cs, h1, hE x (List.mem_of_getElem? hx) cs h2, h3.ext hs⟩

inductive T where
  | mk (k n : Int) (nm : ByteArray) (args : List T)

mutual
def T.wt : T → Nat
  | .mk _ _ nm args => nm.size + args.length + T.wtL args
def T.wtL : List T → Nat
  | [] => 0
  | x :: xs => x.wt + T.wtL xs
end

theorem T.ind {P : T → Prop} (h : ∀ k n nm args, (∀ a ∈ args, P a) → P (.mk k n nm args)) : ∀ t, P t := by
  intro t
  refine T.rec (motive_1 := P) (motive_2 := fun l => ∀ a ∈ l, P a) (fun k n nm args ih => h k n nm args ih) (fun a ha => by cases ha) (fun x xs hx hxs a ha => ?_) t
  cases ha with
  | head => exact hx
  | tail _ ha => exact hxs a ha

inductive Enc (st : St) : T → List Value → Prop
  | nil (k n : Int) (nm : ByteArray) (s : Value) (h : emptyS s) : Enc st (.mk k n nm []) [.int .i64 k, .int .i64 n, .string nm, s]
  | sl (k n : Int) (nm : ByteArray) (args : List T) (i o c : Nat) (f : Nat → List Value) (hl : ∀ (j : Nat) x, args[j]? = some x → (f j).length = 4) (he : ∀ (j : Nat) x, args[j]? = some x → Enc st x (f j))
      (hc : ∀ (j : Nat) x, args[j]? = some x → CellsAt st i (o + j * 4) (f j)) : Enc st (.mk k n nm args) [.int .i64 k, .int .i64 n, .string nm, .slice (some ⟨i, o, none⟩) args.length c]

theorem Enc.open {st : St} {k n : Int} {nm : ByteArray} {args : List T} {cs : List Value} (h : Enc st (.mk k n nm args) cs) : ∃ s, cs = [.int .i64 k, .int .i64 n, .string nm, s] ∧ Row (Enc st) 4 st args s := by
  cases h with
  | nil _ _ _ s h => exact ⟨_, rfl, .inl ⟨h, rfl⟩⟩
  | sl _ _ _ _ i o c f hl he hc => exact ⟨_, rfl, .inr ⟨i, o, c, rfl, fun j x hx => ⟨f j, hl j x hx, he j x hx, hc j x hx⟩⟩⟩
theorem Enc.close {st : St} (k n : Int) (nm : ByteArray) {args : List T} {s : Value} (h : Row (Enc st) 4 st args s) : Enc st (.mk k n nm args) [.int .i64 k, .int .i64 n, .string nm, s] := by
  rcases h with ⟨hs, rfl⟩ | ⟨i, o, c, rfl, h⟩
  · exact .nil k n nm s hs
  · have hex : ∀ j, ∃ cs : List Value, ∀ x, args[j]? = some x → cs.length = 4 ∧ Enc st x cs ∧ CellsAt st i (o + j * 4) cs := by
      intro j
      cases hj : args[j]? with
      | none => exact ⟨[], fun x hx => by cases hx⟩
      | some x =>
        obtain ⟨cs, h1⟩ := h j x hj
        exact ⟨cs, fun y hy => by obtain rfl := Option.some.inj hy; exact h1⟩
    exact .sl k n nm args i o c (fun j => Classical.choose (hex j)) (fun j x hx => (Classical.choose_spec (hex j) x hx).1) (fun j x hx => (Classical.choose_spec (hex j) x hx).2.1) (fun j x hx => (Classical.choose_spec (hex j) x hx).2.2)
theorem Enc.ext {st st' : St} (hs : Ext st st') : ∀ (t : T) (cs : List Value), Enc st t cs → Enc st' t cs := by
  refine T.ind fun k n nm args ih cs h => ?_
  obtain ⟨s, rfl, hr⟩ := h.open
  exact Enc.close k n nm (hr.mono hs fun x hx cs he => ih x hx cs he)

section
variable {P : Program} {A : List Tmp} {loc : Nat → Nat × List Value} {st : St} {t : TypeId}
/-- An element is read whole. -/
theorem load_row {i o n : Nat} {cs : List Value} (ha : aggA P t = some true) (hs : szA P t = some n) (hl : cs.length = n) (hc : CellsAt st i o cs) : loadA P A t (.pointer (some ⟨i, o, none⟩)) loc st = some (.agg cs.toArray) :=
  load_hn ha hs hl hc
end

section
variable {P : Program} {A H : List Tmp} {loc : Nat → Nat × List Value} {st : St} {t : TypeId} {b o : Nat}
theorem loadA_p {sp : Option Nat} : loadA P A t (.pointer (some ⟨b, o, sp⟩)) loc st = (match aggA P t with
    | some false => cellAt A loc st b sp o
    | some true => (match szA P t with
      | some n => (match cellsFrom (cellAt A loc st b sp) o n with
        | some cs => if okPtr A loc b sp then some (.agg cs.toArray) else none
        | none => none)
      | none => none)
    | none => none) := by
  unfold loadA
  cases aggA P t with
  | none => rfl
  | some b => cases b <;> cases szA P t <;> rfl
theorem cellAt_l {w j : Nat} : cellAt A loc st b (some w) j = if w ≠ 0 ∧ (loc b).1 = w ∧ b ∉ A then (loc b).2[j]? else none := rfl
theorem cellAt_h {j : Nat} : cellAt A loc st b none j = cell st b j := rfl
theorem okPtr_l {w : Nat} : okPtr A loc b (some w) = decide (w ≠ 0 ∧ (loc b).1 = w ∧ b ∉ A) := rfl
theorem okPtr_h : okPtr A loc b none = true := rfl
theorem fadA_p {sp : Option Nat} {f : Nat} : fadA P A t (.pointer (some ⟨b, o, sp⟩)) f loc = (match offA P t f with
    | some d => if okPtr A loc b sp then some (.pointer (some ⟨b, o + d, sp⟩)) else none
    | none => none) := rfl
theorem allocA_l {d : Tmp} {z : List Value} {t : TypeId} : allocA [] d z t loc st = (.pointer (some ⟨d, 0, some ((loc d).1 + 1)⟩), upd loc d ((loc d).1 + 1, z), st) := rfl
theorem storeA_l {w : Nat} {v : Value} : storeA P t (.pointer (some ⟨b, o, some w⟩)) v loc st = (if okv v then (match szA P t with
    | some sz => if w ≠ 0 ∧ (loc b).1 = w ∧ (vc v).size = sz ∧ o + sz ≤ (loc b).2.length then some (upd loc b (w, splice (loc b).2 o (vc v).toList), st) else none
    | none => none) else none) := by
  unfold storeA
  cases szA P t <;> rfl
theorem storeA_h {v : Value} : storeA P t (.pointer (some ⟨b, o, none⟩)) v loc st = (if okv v then (match szA P t with
    | some sz => (match st[b]? with
      | some blk => if blk.stat = 0 ∧ (vc v).size = sz ∧ o + sz ≤ blk.cells.length then some (loc, st.set b { blk with cells := splice blk.cells o (vc v).toList }) else none
      | none => none)
    | none => none) else none) := by
  unfold storeA
  cases szA P t <;> rfl
theorem cells_agg {cs : Array Value} : vc (Value.agg cs) = cs := rfl
theorem cells_int {k : IntKind} {i : Int} : vc (Value.int k i) = #[.int k i] := rfl
theorem cells_str {s : ByteArray} : vc (Value.string s) = #[.string s] := rfl
theorem cells_sl {a : Option Addr} {n c : Nat} : vc (Value.slice a n c) = #[.slice a n c] := rfl
theorem cells_bool {b : Bool} : vc (Value.bool b) = #[.bool b] := rfl
theorem flat_i {k : IntKind} {i : Int} : flat (.int k i) = true := rfl
theorem flat_s {s : ByteArray} : flat (.string s) = true := rfl
theorem flat_b {b : Bool} : flat (.bool b) = true := rfl
theorem flat_sl {a : Addr} {n c : Nat} : flat (.slice (some a) n c) = false := rfl
theorem flat_nil : flat (.slice none 0 0) = true := rfl
theorem loc_agg {cs : Array Value} : isLoc (.agg cs) = false := rfl
theorem loc_int {k : IntKind} {i : Int} : isLoc (.int k i) = false := rfl
theorem loc_str {s : ByteArray} : isLoc (.string s) = false := rfl
theorem loc_sl {a : Option Addr} {n c : Nat} : isLoc (.slice a n c) = false := rfl
theorem loc_bool {b : Bool} : isLoc (.bool b) = false := rfl
theorem loc_fn {f : Fn} {a b : Array Value} : isLoc (.func f a b) = false := rfl
theorem loc_ptr : isLoc (.pointer (some ⟨b, o, none⟩)) = false := rfl
theorem okv_agg {cs : Array Value} : okv (.agg cs) = true := rfl
theorem okv_int {k : IntKind} {i : Int} : okv (.int k i) = true := rfl
theorem okv_str {s : ByteArray} : okv (.string s) = true := rfl
theorem okv_sl {a : Option Addr} {n c : Nat} : okv (.slice a n c) = true := rfl
theorem okv_bool {b : Bool} : okv (.bool b) = true := rfl
end

theorem wrap_in {x : Int} (h0 : -9223372036854775808 ≤ x) (h1 : x ≤ 9223372036854775807) : IntKind.i64.wrap x = x := IntWalk.i64_in _ ⟨h0, h1⟩

theorem upd_eval {α : Type} (f : Nat → α) (i : Nat) (v : α) (j : Nat) : upd f i v j = if j = i then v else f j := rfl
theorem argEnv_zero (v : Value) (l : List Value) : argEnv (v :: l) 0 = v := rfl
theorem argEnv_succ (v : Value) (l : List Value) (n : Nat) : argEnv (v :: l) (n + 1) = argEnv l n := rfl
theorem row_len {α : Type} {E : α → List Value → Prop} {sz : Nat} {st : St} {xs : List α} {s : Value} (h : Row E sz st xs s) {P : Program} {t e : TypeId} (hu : P.underlying t = some (.slice e)) : lenE P t s = some (.int .i64 xs.length) := by
  rcases h with ⟨rfl | rfl, rfl⟩ | ⟨i, o, c, rfl, _⟩
  · exact len_sl hu
  · exact len_sl hu
  · exact len_sl hu
theorem row_at {α : Type} {E : α → List Value → Prop} {sz : Nat} {st : St} {xs : List α} {s : Value} (h : Row E sz st xs s) {j : Nat} {x : α} (hx : xs[j]? = some x) : ∃ i o c cs, s = .slice (some ⟨i, o, none⟩) xs.length c ∧ cs.length = sz ∧ E x cs ∧ CellsAt st i (o + j * sz) cs := by
  rcases h with ⟨_, rfl⟩ | ⟨i, o, c, rfl, h⟩
  · simp at hx
  · obtain ⟨cs, h1, h2, h3⟩ := h j x hx
    exact ⟨i, o, c, cs, rfl, h1, h2, h3⟩
theorem idxOk {j n : Nat} (h : j < n) : (0 ≤ (j : Int) ∧ (j : Int) < (n : Int)) = True := by simp; omega
theorem Row.notLoc {α : Type} {E : α → List Value → Prop} {sz : Nat} {st : St} {xs : List α} {s : Value} (h : Row E sz st xs s) : isLoc s = false ∧ okv s = true := by
  rcases h with ⟨rfl | rfl, rfl⟩ | ⟨i, o, c, rfl, _⟩ <;> exact ⟨rfl, rfl⟩

end Go.Proofs.YtpkjgjomiikofaaDoor.AM


/- Data that is one's own: rows of blocks that no one else holds; how they are built. -/
namespace Go.Proofs.YtpkjgjomiikofaaDoor.AM
open Go
set_option linter.unusedVariables false
set_option linter.unusedSimpArgs false

inductive RowO {α : Type} (E : α → List Value → List Nat → Prop) : List α → List Value → List Nat → Prop
  | nil : RowO E [] [] []
  | cons (x : α) (xs : List α) (cx cs : List Value) (Lx L : List Nat) (h : E x cx Lx) (hs : RowO E xs cs L) : RowO E (x :: xs) (cx ++ cs) (Lx ++ L)

theorem RowO.app {α : Type} {E : α → List Value → List Nat → Prop} {xs ys : List α} {cs ds : List Value} {L K : List Nat} (h : RowO E xs cs L) (k : RowO E ys ds K) : RowO E (xs ++ ys) (cs ++ ds) (L ++ K) := by
  induction h with
  | nil => exact k
  | cons x xs cx cs Lx L h hs ih => rw [List.append_assoc, List.append_assoc]; exact .cons x _ cx _ Lx _ h ih
theorem RowO.one {α : Type} {E : α → List Value → List Nat → Prop} {x : α} {cx : List Value} {Lx : List Nat} (h : E x cx Lx) : RowO E [x] cx Lx := by
  have := RowO.cons x [] cx [] Lx [] h .nil
  simpa using this
theorem RowO.len {α : Type} {E : α → List Value → List Nat → Prop} {sz : Nat} (hE : ∀ x cx Lx, E x cx Lx → cx.length = sz) {xs : List α} {cs : List Value} {L : List Nat} (h : RowO E xs cs L) : cs.length = xs.length * sz := by
  induction h with
  | nil => simp
  | cons x xs cx cs Lx L h hs ih => rw [List.length_append, hE _ _ _ h, ih, List.length_cons, Nat.add_mul]; omega
theorem RowO.mono {α : Type} {E E' : α → List Value → List Nat → Prop} {xs : List α} {cs : List Value} {L : List Nat} (h : RowO E xs cs L) (hE : ∀ x ∈ xs, ∀ cx Lx, (∀ i ∈ Lx, i ∈ L) → E x cx Lx → E' x cx Lx) : RowO E' xs cs L := by
  induction h with
  | nil => exact .nil
  | cons x xs cx cs Lx L h hs ih =>
    exact .cons x xs cx cs Lx L (hE x (by simp) cx Lx (fun i hi => by simp [hi]) h) (ih fun y hy cy Ly hL he => hE y (by simp [hy]) cy Ly (fun i hi => by simp [hL i hi]) he)
theorem RowO.get {α : Type} {E : α → List Value → List Nat → Prop} {sz : Nat} (hE : ∀ x cx Lx, E x cx Lx → cx.length = sz) {xs : List α} {cs : List Value} {L : List Nat} (h : RowO E xs cs L) :
    ∀ (j : Nat) x, xs[j]? = some x → ∃ cx Lx, E x cx Lx ∧ (∀ i ∈ Lx, i ∈ L) ∧ ∀ (q : Nat) v, cx[q]? = some v → cs[j * sz + q]? = some v := by
  induction h with
  | nil => intro j x hx; simp at hx
  | cons y xs cy cs Ly L h hs ih =>
    intro j x hx
    have hl := hE _ _ _ h
    cases j with
    | zero =>
      simp only [List.getElem?_cons_zero, Option.some.injEq] at hx
      subst hx
      refine ⟨cy, Ly, h, fun i hi => by simp [hi], fun q v hq => ?_⟩
      have : q < cy.length := (List.getElem?_eq_some_iff.1 hq).1
      rw [Nat.zero_mul, Nat.zero_add, List.getElem?_append_left this]; exact hq
    | succ j =>
      obtain ⟨cx, Lx, h1, h2, h3⟩ := ih j x (by simpa using hx)
      refine ⟨cx, Lx, h1, fun i hi => by simp [h2 i hi], fun q v hq => ?_⟩
      rw [List.getElem?_append_right (by rw [hl, Nat.succ_mul]; omega)]
      have e : (j + 1) * sz + q - cy.length = j * sz + q := by rw [hl, Nat.succ_mul]; omega
      rw [e]; exact h3 q v hq
/-- What stands before, at and behind a place. -/
theorem RowO.split {α : Type} {E : α → List Value → List Nat → Prop} {xs : List α} {cs : List Value} {L : List Nat} (h : RowO E xs cs L) : ∀ (j : Nat) x, xs[j]? = some x →
    ∃ c1 cx c2 L1 Lx L2, RowO E (xs.take j) c1 L1 ∧ E x cx Lx ∧ RowO E (xs.drop (j + 1)) c2 L2 ∧ cs = c1 ++ cx ++ c2 ∧ L = L1 ++ Lx ++ L2 := by
  induction h with
  | nil => intro j x hx; simp at hx
  | cons y xs cy cs Ly L h hs ih =>
    intro j x hx
    cases j with
    | zero =>
      simp only [List.getElem?_cons_zero, Option.some.injEq] at hx
      subst hx
      exact ⟨[], cy, cs, [], Ly, L, .nil, h, by simpa using hs, by simp, by simp⟩
    | succ j =>
      obtain ⟨c1, cx, c2, L1, Lx, L2, h1, h2, h3, h4, h5⟩ := ih j x (by simpa using hx)
      refine ⟨cy ++ c1, cx, c2, Ly ++ L1, Lx, L2, ?_, h2, by simpa using h3, by rw [h4]; simp, by rw [h5]; simp⟩
      rw [List.take_succ_cons]
      exact .cons y _ cy c1 Ly L1 h h1

/-- A slice that lies in a block of its own. -/
def SliceO {α : Type} (E : α → List Value → List Nat → Prop) (e : TypeId) (st : St) (xs : List α) (s : Value) (L : List Nat) : Prop :=
  (s = .slice none 0 0 ∧ xs = [] ∧ L = []) ∨ ∃ i c cs K, s = .slice (some ⟨i, 0, none⟩) xs.length c ∧ st[i]? = some ⟨cs, e, 0⟩ ∧ RowO E xs cs K ∧ L = i :: K

theorem SliceO.okv {α : Type} {E : α → List Value → List Nat → Prop} {e : TypeId} {st : St} {xs : List α} {s : Value} {L : List Nat} (h : SliceO E e st xs s L) : AM.okv s = true := by
  rcases h with ⟨rfl, _⟩ | ⟨i, c, cs, K, rfl, _⟩ <;> rfl
theorem SliceO.loc {α : Type} {E : α → List Value → List Nat → Prop} {e : TypeId} {st : St} {xs : List α} {s : Value} {L : List Nat} (h : SliceO E e st xs s L) : isLoc s = false := by
  rcases h with ⟨rfl, _⟩ | ⟨i, c, cs, K, rfl, _⟩ <;> rfl
theorem SliceO.cells {α : Type} {E : α → List Value → List Nat → Prop} {e : TypeId} {st : St} {xs : List α} {s : Value} {L : List Nat} (h : SliceO E e st xs s L) : vc s = #[s] := by
  rcases h with ⟨rfl, _⟩ | ⟨i, c, cs, K, rfl, _⟩ <;> rfl

inductive Own (e : TypeId) (st : St) : T → List Value → List Nat → Prop
  | nil (k n : Int) (nm : ByteArray) : Own e st (.mk k n nm []) [.int .i64 k, .int .i64 n, .string nm, .slice none 0 0] []
  | sl (k n : Int) (nm : ByteArray) (args : List T) (i c : Nat) (cs : List Value) (K : List Nat) (hb : st[i]? = some ⟨cs, e, 0⟩) (h : RowO (Own e st) args cs K) :
      Own e st (.mk k n nm args) [.int .i64 k, .int .i64 n, .string nm, .slice (some ⟨i, 0, none⟩) args.length c] (i :: K)

theorem Own.open {e : TypeId} {st : St} {k n : Int} {nm : ByteArray} {args : List T} {cs : List Value} {L : List Nat} (h : Own e st (.mk k n nm args) cs L) : ∃ s, cs = [.int .i64 k, .int .i64 n, .string nm, s] ∧ SliceO (Own e st) e st args s L := by
  cases h with
  | nil => exact ⟨_, rfl, .inl ⟨rfl, rfl, rfl⟩⟩
  | sl _ _ _ _ i c cs K hb h => exact ⟨_, rfl, .inr ⟨i, c, cs, K, rfl, hb, h, rfl⟩⟩
theorem Own.close {e : TypeId} {st : St} (k n : Int) (nm : ByteArray) {args : List T} {s : Value} {L : List Nat} (h : SliceO (Own e st) e st args s L) : Own e st (.mk k n nm args) [.int .i64 k, .int .i64 n, .string nm, s] L := by
  rcases h with ⟨rfl, rfl, rfl⟩ | ⟨i, c, cs, K, rfl, hb, h, rfl⟩
  · exact .nil k n nm
  · exact .sl k n nm args i c cs K hb h
theorem Own.len {e : TypeId} {st : St} : ∀ x cx Lx, Own e st x cx Lx → cx.length = 4 := by
  intro x cx Lx h
  cases h <;> rfl

/-- What happens elsewhere. -/
def SameOn (L : List Nat) (st st' : St) : Prop := ∀ i ∈ L, st'[i]? = st[i]?
theorem Own.frame {e : TypeId} {st st' : St} : ∀ (t : T) (cs : List Value) (L : List Nat), SameOn L st st' → Own e st t cs L → Own e st' t cs L := by
  refine T.ind fun k n nm args ih cs L hs h => ?_
  obtain ⟨s, rfl, hr⟩ := h.open
  refine Own.close k n nm ?_
  rcases hr with hr | ⟨i, c, cs, K, rfl, hb, hr, rfl⟩
  · exact .inl hr
  · exact .inr ⟨i, c, cs, K, rfl, (hs i (by simp)).trans hb, hr.mono fun x hx cx Lx hL he => ih x hx cx Lx (fun j hj => hs j (by simp [hL j hj])) he, rfl⟩
theorem SliceO.frame {α : Type} {E : St → α → List Value → List Nat → Prop} (hE : ∀ (st st' : St) x cx Lx, SameOn Lx st st' → E st x cx Lx → E st' x cx Lx) {e : TypeId} {st st' : St} {xs : List α} {s : Value} {L : List Nat} (hs : SameOn L st st') (h : SliceO (E st) e st xs s L) : SliceO (E st') e st' xs s L := by
  rcases h with h | ⟨i, c, cs, K, rfl, hb, hr, rfl⟩
  · exact .inl h
  · exact .inr ⟨i, c, cs, K, rfl, (hs i (by simp)).trans hb, hr.mono fun x hx cx Lx hL he => hE _ _ x cx Lx (fun j hj => hs j (by simp [hL j hj])) he, rfl⟩
theorem SliceO.lt {α : Type} {E : α → List Value → List Nat → Prop} {e : TypeId} {st : St} {xs : List α} {s : Value} {L : List Nat} (hE : ∀ x cx Lx, E x cx Lx → ∀ i ∈ Lx, i < st.length) (h : SliceO E e st xs s L) : ∀ i ∈ L, i < st.length := by
  rcases h with ⟨_, _, rfl⟩ | ⟨i, c, cs, K, rfl, hb, hr, rfl⟩
  · intro i hi; cases hi
  · intro j hj
    cases hj with
    | head => exact (List.getElem?_eq_some_iff.1 hb).1
    | tail _ hj =>
      clear hb
      induction hr with
      | nil => cases hj
      | cons x xs cx cs Lx L h hs ih =>
        rcases List.mem_append.1 hj with hj | hj
        · exact hE x cx Lx h j hj
        · exact ih hj
theorem Own.lt {e : TypeId} {st : St} : ∀ (t : T) (cs : List Value) (L : List Nat), Own e st t cs L → ∀ i ∈ L, i < st.length := by
  refine T.ind fun k n nm args ih cs L h => ?_
  obtain ⟨s, rfl, hr⟩ := h.open
  rcases hr with ⟨_, _, rfl⟩ | ⟨i, c, cs, K, rfl, hb, hr, rfl⟩
  · intro i hi; cases hi
  · intro j hj
    cases hj with
    | head => exact (List.getElem?_eq_some_iff.1 hb).1
    | tail _ hj =>
      clear hb h
      induction hr with
      | nil => cases hj
      | cons x xs cx cs Lx L h hs ih2 =>
        rcases List.mem_append.1 hj with hj | hj
        · exact ih x (by simp) cx Lx h j hj
        · exact ih2 (fun y hy => ih y (by simp [hy])) hj

theorem cell_of {st : St} {i : Nat} {cs : List Value} {e : TypeId} {q : Nat} (hb : st[i]? = some ⟨cs, e, 0⟩) : cell st i q = cs[q]? := by
  unfold cell; rw [hb]; rfl
theorem SliceO.row {α : Type} {E : α → List Value → List Nat → Prop} {E' : α → List Value → Prop} {sz : Nat} {e : TypeId} {st : St} {xs : List α} {s : Value} {L : List Nat} (hl : ∀ x cx Lx, E x cx Lx → cx.length = sz) (hE : ∀ x ∈ xs, ∀ cx Lx, E x cx Lx → E' x cx) (h : SliceO E e st xs s L) : Row E' sz st xs s := by
  rcases h with ⟨rfl, rfl, _⟩ | ⟨i, c, cs, K, rfl, hb, hr, rfl⟩
  · exact .inl ⟨.inl rfl, rfl⟩
  · refine .inr ⟨i, 0, c, rfl, fun j x hx => ?_⟩
    obtain ⟨cx, Lx, h1, _, h3⟩ := hr.get hl j x hx
    exact ⟨cx, hl _ _ _ h1, hE x (List.mem_of_getElem? hx) cx Lx h1, fun q v hq => by rw [cell_of hb, Nat.zero_add]; exact h3 q v hq⟩
theorem Own.enc {e : TypeId} {st : St} : ∀ (t : T) (cs : List Value) (L : List Nat), Own e st t cs L → Enc st t cs := by
  refine T.ind fun k n nm args ih cs L h => ?_
  obtain ⟨s, rfl, hr⟩ := h.open
  exact Enc.close k n nm (hr.row Own.len fun x hx cx Lx he => ih x hx cx Lx he)

/-- New since n. -/
def Fresh (n : Nat) (L : List Nat) : Prop := L.Nodup ∧ ∀ i ∈ L, n ≤ i

theorem appendA_nil {P : Program} {t e : TypeId} {sz by_ n : Nat} {z cs : List Value} {x : Value} {st : St} (he : elemA P t = some e) (hs : szA P e = some (sz + 1)) (hb : bytA P e = some by_) (hz : zeroA P e = some z) (hzl : z.length = sz + 1)
    {u : TypeId} (hn : newsA P u (sz + 1) x st = some (n, cs)) (h0 : n ≠ 0) (hbd : n * by_ ≤ 2 ^ 46) (hbn : n ≤ 2 ^ 46) : appendA P t u (.slice none 0 0) x st = some (.slice (some ⟨st.length, 0, none⟩) n n, st ++ [⟨cs, e, 0⟩]) := by
  unfold appendA
  simp only [he, hs, hb, hz, hn, hzl, if_true, h0, if_false, hbd, hbn, and_self]
theorem appendA_to {P : Program} {t e : TypeId} {sz by_ n i len c : Nat} {z cs ds : List Value} {x : Value} {st : St} (he : elemA P t = some e) (hs : szA P e = some (sz + 1)) (hb : bytA P e = some by_) (hz : zeroA P e = some z) (hzl : z.length = sz + 1)
    {u : TypeId} (hn : newsA P u (sz + 1) x st = some (n, cs)) (h0 : n ≠ 0) (hi : st[i]? = some ⟨ds, e, 0⟩) (hl : ds.length = len * (sz + 1)) (hbd : (len + n) * by_ ≤ 2 ^ 46) (hbn : len + n ≤ 2 ^ 46) :
    appendA P t u (.slice (some ⟨i, 0, none⟩) len c) x st = some (.slice (some ⟨st.length, 0, none⟩) (len + n) (len + n), st.set i ⟨ds, e, 2⟩ ++ [⟨ds ++ cs, e, 0⟩]) := by
  unfold appendA
  have ht : ds.take (len * (sz + 1)) = ds := List.take_of_length_le (by omega)
  simp only [he, hs, hb, hz, hn, hzl, if_true, h0, if_false, hi, hl, hbd, hbn, Nat.le_refl, and_self, ht]
theorem newsA_one {P : Program} {u e : TypeId} {sz i c : Nat} {cs : List Value} {st : St} (hu : P.underlying u = some (.slice e)) (hi : st[i]? = some ⟨cs, e, 0⟩) (hl : cs.length = sz) : newsA P u sz (.slice (some ⟨i, 0, none⟩) 1 c) st = some (1, cs) := by
  unfold newsA
  simp only [hu, Nat.one_mul]
  rw [cellsFrom_of (f := cell st i) hl fun j v hj => by rw [cell_of hi, Nat.zero_add]; exact hj]
  rfl

/-- An element is put behind a row of one's own. -/
theorem SliceO.step {α : Type} {E : St → α → List Value → List Nat → Prop} (hE : ∀ (st st' : St) x cx Lx, SameOn Lx st st' → E st x cx Lx → E st' x cx Lx) (hlt : ∀ (st : St) x cx Lx, E st x cx Lx → ∀ i ∈ Lx, i < st.length)
    {P : Program} {t e : TypeId} {sz by_ n0 : Nat} (hl : ∀ st x cx Lx, E st x cx Lx → cx.length = sz + 1) {z : List Value} {st st2 : St} {xs : List α} {s : Value} {L : List Nat} {x : α} {cx : List Value} {Lx : List Nat}
    (hu : P.underlying t = some (.slice e)) (hs : szA P e = some (sz + 1)) (hb : bytA P e = some by_) (hz : zeroA P e = some z) (hzl : z.length = sz + 1)
    (h : SliceO (E st) e st xs s L) (hf : Fresh n0 L) (hn0 : n0 ≤ st.length) (hext : Ext st st2) (hx : E st2 x cx Lx) (hfx : Fresh st.length Lx) (hbd : (xs.length + 1) * by_ ≤ 2 ^ 46) (hbn : xs.length + 1 ≤ 2 ^ 46) :
    ∃ s' st' L', appendA P t t s (.slice (some ⟨st2.length, 0, none⟩) 1 1) (st2 ++ [⟨cx, e, 0⟩]) = some (s', st') ∧ SliceO (E st') e st' (xs ++ [x]) s' L' ∧ Fresh n0 L' ∧ st2.length ≤ st'.length ∧ (∀ i, i < n0 → st'[i]? = st2[i]?) := by
  have he : elemA P t = some e := by unfold elemA; rw [hu]
  have hlen : st.length ≤ st2.length := by
    rcases Nat.lt_or_ge st2.length st.length with h | h
    · have h1 : st[st2.length]? = some st[st2.length] := List.getElem?_eq_getElem h
      have h2 := hext _ _ h1
      have := (List.getElem?_eq_some_iff.1 h2).1
      omega
    · exact h
  have hnew : (st2 ++ [(⟨cx, e, 0⟩ : Blk)])[st2.length]? = some ⟨cx, e, 0⟩ := by simp
  have hn := newsA_one (P := P) (u := t) (sz := sz + 1) (c := 1) hu hnew (hl _ _ _ _ hx)
  have hxlt := hlt _ _ _ _ hx
  rcases h with ⟨rfl, rfl, rfl⟩ | ⟨i, c, cs, K, rfl, hbk, hr, rfl⟩
  · refine ⟨_, _, (st2.length + 1) :: Lx, appendA_nil he hs hb hz hzl hn (by omega) (by simpa using hbd) (by omega), .inr ⟨st2.length + 1, 1, cx, Lx, by simp, by simp, ?_, rfl⟩, ⟨List.nodup_cons.2 ⟨fun hm => by have := hxlt _ hm; omega, hfx.1⟩, fun j hj => ?_⟩, by simp, fun j hj => ?_⟩
    · refine RowO.one (hE st2 _ x cx Lx (fun j hj => ?_) hx)
      have := hxlt j hj
      rw [List.getElem?_append_left (by simp; omega), List.getElem?_append_left this]
    · cases hj with
      | head => omega
      | tail _ hj => have := hfx.2 j hj; omega
    · rw [List.getElem?_append_left (by simp; omega), List.getElem?_append_left (by omega)]
  · have hi : i < st.length := (List.getElem?_eq_some_iff.1 hbk).1
    have hbk2 : (st2 ++ [(⟨cx, e, 0⟩ : Blk)])[i]? = some ⟨cs, e, 0⟩ := by rw [List.getElem?_append_left (by omega)]; exact hext _ _ hbk
    have hrl := hr.len (hl st)
    have hap := appendA_to (c := c) he hs hb hz hzl hn (by omega) hbk2 hrl hbd hbn
    have hK := SliceO.lt (E := E st) (e := e) (st := st) (xs := xs) (s := .slice (some ⟨i, 0, none⟩) xs.length c) (L := i :: K) (fun x cx Lx h => hlt st x cx Lx h) (.inr ⟨i, c, cs, K, rfl, hbk, hr, rfl⟩)
    have hiK : i ∉ K := (List.nodup_cons.1 hf.1).1
    have hst' : ((st2 ++ [(⟨cx, e, 0⟩ : Blk)]).set i ⟨cs, e, 2⟩ ++ [(⟨cs ++ cx, e, 0⟩ : Blk)]).length = st2.length + 2 := by simp
    have get : ∀ j, j ≠ i → j < st2.length → ((st2 ++ [(⟨cx, e, 0⟩ : Blk)]).set i ⟨cs, e, 2⟩ ++ [(⟨cs ++ cx, e, 0⟩ : Blk)])[j]? = st2[j]? := by
      intro j hj hlt
      rw [List.getElem?_append_left (by simp; omega), List.getElem?_set, if_neg (Ne.symm hj), List.getElem?_append_left hlt]
    refine ⟨_, _, (st2.length + 1) :: (K ++ Lx), hap, .inr ⟨st2.length + 1, xs.length + 1, cs ++ cx, K ++ Lx, by simp, ?_, ?_, rfl⟩, ⟨List.nodup_cons.2 ⟨fun hm => ?_, List.nodup_append.2 ⟨(List.nodup_cons.1 hf.1).2, hfx.1, fun a ha b hb' e' => ?_⟩⟩, fun j hj => ?_⟩, by simp; omega, fun j hj => ?_⟩
    · have : ((st2 ++ [(⟨cx, e, 0⟩ : Blk)]).set i ⟨cs, e, 2⟩).length = st2.length + 1 := by simp
      rw [← this]; simp
    · refine (hr.mono fun y hy cy Ly hL he' => ?_).app (RowO.one (hE st2 _ x cx Lx (fun j hj => ?_) hx))
      · refine hE st _ y cy Ly (fun j hj => ?_) he'
        have hjK := hL j hj
        have hjl := hK j (by simp [hjK])
        have hji : j ≠ i := fun e' => hiK (e' ▸ hjK)
        rw [get j hji (by omega)]
        have h1 : st[j]? = some st[j] := List.getElem?_eq_getElem hjl
        rw [h1, hext _ _ h1]
      · have h1 := hxlt j hj
        have h2 := hfx.2 j hj
        exact get j (by omega) h1
    · rcases List.mem_append.1 hm with hm | hm
      · have := hK _ (List.mem_cons_of_mem _ hm); omega
      · have := hxlt _ hm; omega
    · subst e'
      have h1 := hK a (by simp [ha])
      have h2 := hfx.2 a hb'
      omega
    · cases hj with
      | head => omega
      | tail _ hj =>
        rcases List.mem_append.1 hj with hj | hj
        · exact hf.2 j (by simp [hj])
        · have := hfx.2 j hj; omega
    · have h1 := hf.2 i (by simp)
      exact get j (by omega) (by omega)

end Go.Proofs.YtpkjgjomiikofaaDoor.AM


/- Rows that are made at their full length and then filled. -/
namespace Go.Proofs.YtpkjgjomiikofaaDoor.AM
open Go
set_option linter.unusedVariables false
set_option linter.unusedSimpArgs false

def FillO {α : Type} (E : St → α → List Value → List Nat → Prop) (e : TypeId) (sz : Nat) (st : St) (xs : List α) (n o : Nat) (K : List Nat) : Prop :=
  ∃ cs zs, st[o]? = some ⟨cs ++ zs, e, 0⟩ ∧ RowO (E st) xs cs K ∧ zs.length = (n - xs.length) * sz ∧ xs.length ≤ n

theorem Ext.length {st st' : St} (h : Ext st st') : st.length ≤ st'.length := by
  rcases Nat.lt_or_ge st'.length st.length with hlt | hge
  · have h1 : st[st'.length]? = some st[st'.length] := List.getElem?_eq_getElem hlt
    have := (List.getElem?_eq_some_iff.1 (h _ _ h1)).1
    omega
  · exact hge
theorem Ext.get {st st' : St} (h : Ext st st') {i : Nat} (hi : i < st.length) : st'[i]? = st[i]? := by
  have h1 : st[i]? = some st[i] := List.getElem?_eq_getElem hi
  rw [h1]; exact h _ _ h1
theorem Ext.of_get {st st' : St} (h : ∀ i, i < st.length → st'[i]? = st[i]?) : Ext st st' := fun i b hb => (h i (List.getElem?_eq_some_iff.1 hb).1).trans hb

theorem FillO.lt {α : Type} {E : St → α → List Value → List Nat → Prop} (hlt : ∀ (st : St) x cx Lx, E st x cx Lx → ∀ i ∈ Lx, i < st.length) {e : TypeId} {sz n o : Nat} {st : St} {xs : List α} {K : List Nat} (h : FillO E e sz st xs n o K) : ∀ i ∈ K, i < st.length := by
  obtain ⟨cs, zs, hb, hr, hz, hle⟩ := h
  clear hb hz hle
  induction hr with
  | nil => intro i hi; cases hi
  | cons x xs cx cs Lx L h hs ih =>
    intro j hj
    rcases List.mem_append.1 hj with hj | hj
    · exact hlt st x cx Lx h j hj
    · exact ih j hj

theorem FillO.step {α : Type} {E : St → α → List Value → List Nat → Prop} (hE : ∀ (st st' : St) x cx Lx, SameOn Lx st st' → E st x cx Lx → E st' x cx Lx) (hlt : ∀ (st : St) x cx Lx, E st x cx Lx → ∀ i ∈ Lx, i < st.length)
    {P : Program} {e : TypeId} {sz n0 n o : Nat} (hl : ∀ st x cx Lx, E st x cx Lx → cx.length = sz) {st st2 : St} {xs : List α} {K : List Nat} {x : α} {cx : List Value} {Lx : List Nat} {v : Value} {loc : Nat → Nat × List Value}
    (hs : szA P e = some sz) (h : FillO E e sz st xs n o K) (hf : Fresh n0 (o :: K)) (hext : Ext st st2) (hx : E st2 x cx Lx) (hfx : Fresh st.length Lx) (hv : v.cells.toList = cx) (hok : okv v = true) (hn : xs.length < n) :
    ∃ st', storeA P e (.pointer (some ⟨o, 0 + xs.length * sz, none⟩)) v loc st2 = some (loc, st') ∧ FillO E e sz st' (xs ++ [x]) n o (K ++ Lx) ∧ Fresh n0 (o :: (K ++ Lx)) ∧ st'.length = st2.length ∧ (∀ i, i ≠ o → st'[i]? = st2[i]?) := by
  have hK := h.lt hlt
  obtain ⟨cs, zs, hb, hr, hz, hle⟩ := h
  have ho : o < st.length := (List.getElem?_eq_some_iff.1 hb).1
  have hb2 := hext _ _ hb
  have hcl := hr.len (hl st)
  have hcx : cx.length = sz := hl _ _ _ _ hx
  have hvs : v.cells.size = sz := by rw [← hcx, ← hv]; simp
  have hxlt := hlt _ _ _ _ hx
  have hnd := List.nodup_cons.1 hf.1
  have hzge : sz ≤ zs.length := by rw [hz]; exact Nat.le_mul_of_pos_left _ (by omega)
  have hsp : splice (cs ++ zs) (0 + xs.length * sz) cx = cs ++ cx ++ zs.drop sz := by
    unfold AM.splice
    rw [Nat.zero_add, ← hcl, hcx, List.take_left, List.drop_append]
    simp
  have get : ∀ i, i ≠ o → (st2.set o ⟨cs ++ cx ++ zs.drop sz, e, 0⟩)[i]? = st2[i]? := fun i hi => by rw [List.getElem?_set, if_neg (Ne.symm hi)]
  refine ⟨st2.set o ⟨cs ++ cx ++ zs.drop sz, e, 0⟩, ?_, ⟨cs ++ cx, zs.drop sz, ?_, ?_, ?_, by simp; omega⟩, ⟨List.nodup_cons.2 ⟨fun hm => ?_, List.nodup_append.2 ⟨hnd.2, hfx.1, fun a ha b hb' e' => ?_⟩⟩, fun j hj => ?_⟩, by simp, get⟩
  · unfold storeA
    simp only [hok, if_true, hs, hb2, hvs, true_and, hv]
    rw [if_pos (by rw [List.length_append, hcl, hz, Nat.zero_add]; have := Nat.mul_le_mul_right sz (show xs.length + 1 ≤ n by omega); rw [Nat.add_mul, Nat.one_mul] at this; rw [Nat.sub_mul]; omega), hsp]
  · rw [List.getElem?_set, if_pos rfl, if_pos (by have := hext.length; omega)]
  · refine (hr.mono fun y hy cy Ly hL he => ?_).app (RowO.one (hE st2 _ x cx Lx (fun j hj => ?_) hx))
    · refine hE st _ y cy Ly (fun j hj => ?_) he
      have hjK := hL j hj
      rw [get j (fun e' => hnd.1 (e' ▸ hjK)), hext.get (hK j hjK)]
    · have := hfx.2 j hj
      exact get j (by omega)
  · rw [List.length_drop, hz, List.length_append, List.length_singleton, ← Nat.sub_sub, Nat.sub_mul (n - xs.length) 1, Nat.one_mul]
  · rcases List.mem_append.1 hm with hm | hm
    · exact hnd.1 hm
    · have := hfx.2 _ hm; omega
  · subst e'
    have h1 := hK a ha
    have h2 := hfx.2 a hb'
    omega
  · cases hj with
    | head => exact hf.2 o (by simp)
    | tail _ hj =>
      rcases List.mem_append.1 hj with hj | hj
      · exact hf.2 j (by simp [hj])
      · have h1 := hfx.2 j hj
        have h2 := hf.2 o (by simp)
        omega

theorem FillO.done {α : Type} {E : St → α → List Value → List Nat → Prop} {e : TypeId} {sz o c : Nat} {st : St} {xs : List α} {K : List Nat} (h : FillO E e sz st xs xs.length o K) : SliceO (E st) e st xs (.slice (some ⟨o, 0, none⟩) xs.length c) (o :: K) := by
  obtain ⟨cs, zs, hb, hr, hz, _⟩ := h
  have : zs = [] := List.eq_nil_of_length_eq_zero (by rw [hz]; simp)
  subst this
  rw [List.append_nil] at hb
  exact .inr ⟨o, c, cs, K, rfl, hb, hr, rfl⟩

/-- Every node has few arguments. -/
inductive Lim (B : Nat) : T → Prop
  | mk (k n : Int) (nm : ByteArray) (args : List T) (h : args.length ≤ B) (hs : ∀ a ∈ args, Lim B a) : Lim B (.mk k n nm args)
theorem T.wt_mem {xs : List T} {x : T} (h : x ∈ xs) : x.wt ≤ T.wtL xs := by
  induction xs with
  | nil => cases h
  | cons y ys ih =>
    simp only [T.wtL]
    cases h with
    | head => omega
    | tail _ h => have := ih h; omega
theorem Lim.of_wt {B : Nat} : ∀ t : T, t.wt ≤ B → Lim B t := by
  refine T.ind fun k n nm args ih h => ?_
  simp only [T.wt] at h
  exact .mk k n nm args (by omega) fun a ha => ih a ha (by have := T.wt_mem ha; omega)
theorem Lim.args {B : Nat} {k n : Int} {nm : ByteArray} {args : List T} (h : Lim B (.mk k n nm args)) : args.length ≤ B ∧ ∀ a ∈ args, Lim B a := by cases h; exact ⟨by assumption, by assumption⟩

end Go.Proofs.YtpkjgjomiikofaaDoor.AM


namespace Go.Proofs.YtpkjgjomiikofaaDoor.AM
open Go
attribute [local go_sem] List.map_cons List.map_nil List.all_cons List.all_nil Bool.and_self Option.map_some List.getElem?_toArray Option.bind_some gye_b gye_t gsk_b gsk_t gb1 gb2 gb3 gb4 bne_self_eq_false beq_self_eq_true w_guard w_nil stepV_some step_some step_some' w_move w_assign w_pick w_binOp w_unOp w_load w_fieldAddr w_indexAddr w_len w_max w_index ev_max max_int ev_index w_box w_alloc w_store w_field w_extract w_nilCheck w_convert w_buildSlice w_build ev_buildL fillL_nil fillL_cons bs0 bs1 ev_conv ev_bin ev_un ev_pick ev_load ev_fieldAddr ev_indexAddr ev_len ev_field ev_extract ev_nilCheck fr_tmp fr_int fr_bool fr_str fr_nil fr_func put_some put_none bin_lss bin_leq bin_gtr bin_geq bin_eql bin_neq bin_add bin_sub bin_mul bin_seql bin_sneq un_not pick_ ext_ loadA_p cellAt_l cellAt_h okPtr_l okPtr_h fadA_p allocA_l storeA_l cells_agg cells_int cells_str cells_sl cells_bool flat_i flat_s flat_b flat_sl flat_nil loc_agg loc_int loc_str loc_sl loc_bool loc_fn loc_ptr okv_agg okv_int okv_str okv_sl okv_bool cellsFrom splice upd_eval argEnv_zero argEnv_succ ne_eq Nat.add_one_ne_zero not_false_eq_true List.not_mem_nil and_self decide_true List.getElem?_cons_zero List.getElem?_cons_succ List.size_toArray List.length_cons List.length_nil List.take_succ_cons List.take_zero List.drop_succ_cons List.drop_zero List.cons_append List.nil_append List.drop_nil Bool.not_true Bool.not_false Bool.false_eq_true Nat.zero_add Nat.add_zero wrap_in List.toList_toArray List.mem_cons or_self or_false false_or
attribute [local go_sem] ag22 ag24 ag26 ag3 ag4 ag5 ag78 ag83 ag9 ag91 bu116 bu122 bu26 bu39 bu49 bu58 by26 by5 by9 el22 el24 el46 el53 of26_0 of26_1 of26_2 of26_3 of39_0 of49_0 of49_1 of49_2 of58_0 of58_1 of58_2 of80_0 of80_1 ro26_0 ro26_1 ro26_2 ro3_3 ro5_1 ro9_1 ro9_2 ro9_3 ro9_4 ro9_8 sz22 sz24 sz26 sz3 sz4 sz5 sz78 sz83 sz9 sz91 ze109 ze26 ze5 ze80 ze9 ze90
section
/- The marks: laws.markText. -/
open Go Go.Proofs
set_option linter.unusedVariables false
set_option linter.unusedSimpArgs false
set_option maxRecDepth 100000

def digitB (k : Nat) : ByteArray := ⟨#[UInt8.ofNat (48 + k % 10)]⟩
def mtF : Nat → Nat → ByteArray → ByteArray
  | 0, _, acc => acc
  | f + 1, k, acc => if k = 0 then acc else mtF f (k / 10) (digitB k ++ acc)
/-- A mark's text. -/
def mtext (k : Nat) : ByteArray := if k = 0 then ⟨#[109, 48]⟩ else (⟨#[109]⟩ : ByteArray) ++ mtF (k + 1) k ⟨#[]⟩

theorem ne_rem {k : IntKind} {P : Program} {t : TypeId} {x y : Operand} {a : Int} : binE P .rem t x y (.int k a) (.int k 10) = some (.int k (a.tmod 10)) := bin_rem (by decide)
theorem ne_quo {k : IntKind} {P : Program} {t : TypeId} {x y : Operand} {a : Int} : binE P .quo t x y (.int k a) (.int k 10) = some (.int k (k.wrap (a.tdiv 10))) := bin_quo (by decide)


end

end Go.Proofs.YtpkjgjomiikofaaDoor.AM
/- Kinds of data: what rows of each have in common. -/
namespace Go.Proofs.YtpkjgjomiikofaaDoor.AM
open Go
set_option linter.unusedVariables false
set_option linter.unusedSimpArgs false

/-- A kind of data: its cells, how they read, how they are owned. -/
class Kind (α : Type) where
  sz : Nat
  e : TypeId
  enc : St → α → List Value → Prop
  own : St → α → List Value → List Nat → Prop
  enc_len : ∀ (st : St) (x : α) (cs : List Value), enc st x cs → cs.length = sz
  enc_ext : ∀ (st st' : St) (x : α) (cs : List Value), Ext st st' → enc st x cs → enc st' x cs
  own_len : ∀ (st : St) (x : α) (cs : List Value) (L : List Nat), own st x cs L → cs.length = sz
  own_lt : ∀ (st : St) (x : α) (cs : List Value) (L : List Nat), own st x cs L → ∀ i ∈ L, i < st.length
  own_frame : ∀ (st st' : St) (x : α) (cs : List Value) (L : List Nat), SameOn L st st' → own st x cs L → own st' x cs L
  own_enc : ∀ (st : St) (x : α) (cs : List Value) (L : List Nat), own st x cs L → enc st x cs

theorem Fresh.mono {n m : Nat} {L : List Nat} (h : Fresh n L) (hm : m ≤ n) : Fresh m L := ⟨h.1, fun i hi => Nat.le_trans hm (h.2 i hi)⟩
theorem Fresh.nil (n : Nat) : Fresh n [] := ⟨by simp, by simp⟩
theorem SameOn.ext {L : List Nat} {st st' : St} (hx : Ext st st') (hL : ∀ i ∈ L, i < st.length) : SameOn L st st' := fun i hi => hx.get (hL i hi)

section
variable {α : Type} [Kind α]
abbrev Rw (st : St) (xs : List α) (s : Value) : Prop := Row (Kind.enc st) (Kind.sz α) st xs s
abbrev Sl (st : St) (xs : List α) (s : Value) (L : List Nat) : Prop := SliceO (Kind.own st) (Kind.e α) st xs s L
theorem Rw.ext {st st' : St} {xs : List α} {s : Value} (h : Rw st xs s) (hx : Ext st st') : Rw st' xs s := h.mono hx fun x _ cs he => Kind.enc_ext _ _ x cs hx he
theorem Rw.at {st : St} {xs : List α} {s : Value} (h : Rw st xs s) {j : Nat} {x : α} (hx : xs[j]? = some x) : ∃ i o c cs, s = .slice (some ⟨i, o, none⟩) xs.length c ∧ cs.length = Kind.sz α ∧ Kind.enc st x cs ∧ CellsAt st i (o + j * Kind.sz α) cs := row_at h hx
theorem Rw.nil (st : St) : Rw (α := α) st [] (.slice none 0 0) := .inl ⟨.inl rfl, rfl⟩
theorem Sl.row {st : St} {xs : List α} {s : Value} {L : List Nat} (h : Sl st xs s L) : Rw st xs s := SliceO.row (Kind.own_len st) (fun x _ cs L he => Kind.own_enc st x cs L he) h
theorem Sl.lt {st : St} {xs : List α} {s : Value} {L : List Nat} (h : Sl st xs s L) : ∀ i ∈ L, i < st.length := SliceO.lt (Kind.own_lt st) h
theorem Sl.frame {st st' : St} {xs : List α} {s : Value} {L : List Nat} (h : Sl st xs s L) (hs : SameOn L st st') : Sl st' xs s L := SliceO.frame (E := Kind.own) (fun st st' x cs L => Kind.own_frame st st' x cs L) hs h
theorem Sl.ext {st st' : St} {xs : List α} {s : Value} {L : List Nat} (h : Sl st xs s L) (hx : Ext st st') : Sl st' xs s L := h.frame (.ext hx h.lt)
theorem Sl.apart {st : St} {xs : List α} {s : Value} {L K : List Nat} (h : Sl st xs s L) (hf : Fresh st.length K) : ∀ i ∈ L, i ∉ K := fun i hi hk => by
  have h1 := h.lt i hi
  have h2 := hf.2 i hk
  omega
theorem Sl.nil (st : St) : Sl (α := α) st [] (.slice none 0 0) [] := .inl ⟨rfl, rfl, rfl⟩
theorem own_ext {st st' : St} {x : α} {cs : List Value} {L : List Nat} (h : Kind.own st x cs L) (hx : Ext st st') : Kind.own st' x cs L := Kind.own_frame _ _ _ _ _ (.ext hx (Kind.own_lt _ _ _ _ h)) h
/-- An element is put behind a row of one's own. -/
theorem Sl.step {P : Program} {t : TypeId} {by_ sz' n0 : Nat} {z : List Value} {st st2 : St} {xs : List α} {s : Value} {L : List Nat} {x : α} {cx : List Value} {Lx : List Nat}
    (hu : P.underlying t = some (.slice (Kind.e α))) (hs : szA P (Kind.e α) = some (sz' + 1)) (hz' : Kind.sz α = sz' + 1) (hb : bytA P (Kind.e α) = some by_) (hz : zeroA P (Kind.e α) = some z) (hzl : z.length = sz' + 1)
    (h : Sl st xs s L) (hf : Fresh n0 L) (hn0 : n0 ≤ st.length) (hext : Ext st st2) (hx : Kind.own st2 x cx Lx) (hfx : Fresh st.length Lx) (hbd : (xs.length + 1) * by_ ≤ 2 ^ 46) (hbn : xs.length + 1 ≤ 2 ^ 46) :
    ∃ s' st' L', appendA P t t s (.slice (some ⟨st2.length, 0, none⟩) 1 1) (st2 ++ [⟨cx, Kind.e α, 0⟩]) = some (s', st') ∧ Sl st' (xs ++ [x]) s' L' ∧ Fresh n0 L' ∧ st2.length ≤ st'.length ∧ (∀ i, i < n0 → st'[i]? = st2[i]?) :=
  SliceO.step (E := Kind.own) (fun st st' x cs L => Kind.own_frame st st' x cs L) (fun st x cs L => Kind.own_lt st x cs L) (sz := sz') (fun st x cs L h => (Kind.own_len st x cs L h).trans hz') hu hs hb hz hzl h hf hn0 hext hx hfx hbd hbn
end

/-! Marks. -/
/-- How the elements of a row of a kind are marked. -/
class Marks (α : Type) extends Kind α where
  mk1 : α → Nat → α × Nat
  mk1_ge : ∀ x k, k ≤ (mk1 x k).2
section
variable {α : Type} [Marks α]
def mkL : List α → Nat → List α × Nat
  | [], k => ([], k)
  | x :: xs, k => ((Marks.mk1 x k).1 :: (mkL xs (Marks.mk1 x k).2).1, (mkL xs (Marks.mk1 x k).2).2)
theorem mkL_len (xs : List α) (k : Nat) : (mkL xs k).1.length = xs.length := by
  induction xs generalizing k with
  | nil => rfl
  | cons x xs ih => simp only [mkL, List.length_cons, ih]
theorem mkL_app (xs ys : List α) (k : Nat) : mkL (xs ++ ys) k = ((mkL xs k).1 ++ (mkL ys (mkL xs k).2).1, (mkL ys (mkL xs k).2).2) := by
  induction xs generalizing k with
  | nil => rfl
  | cons x xs ih => simp only [List.cons_append, mkL, ih]
theorem mkL_snoc {xs : List α} {j : Nat} (hj : j < xs.length) (k : Nat) : mkL (xs.take (j + 1)) k = ((mkL (xs.take j) k).1 ++ [(Marks.mk1 xs[j] (mkL (xs.take j) k).2).1], (Marks.mk1 xs[j] (mkL (xs.take j) k).2).2) := by
  rw [List.take_succ_eq_append_getElem hj, mkL_app]; rfl
/-- A row that is being marked, j of its elements done. -/
structure MarkSt (xs : List α) (k : Nat) (st : St) (s : Value) (L : List Nat) (j : Nat) (st' : St) : Prop where
  sl : Sl st' ((mkL (xs.take j) k).1 ++ xs.drop j) s L
  le : st.length ≤ st'.length
  oth : ∀ i, i < st.length → i ∉ L → st'[i]? = st[i]?

theorem MarkSt.stop {xs : List α} {k : Nat} {st st' : St} {s : Value} {L : List Nat} (h : MarkSt xs k st s L xs.length st') : Sl st' (mkL xs k).1 s L := by
  have := h.sl
  rw [List.take_length] at this
  simpa using this
theorem MarkSt.len {xs : List α} {k : Nat} {st st' : St} {s : Value} {L : List Nat} {j : Nat} (h : MarkSt xs k st s L j st') (hj : j ≤ xs.length) {P : Program} {t e : TypeId} (hu : P.underlying t = some (.slice e)) : lenE P t s = some (.int .i64 xs.length) := by
  have := row_len h.sl.row hu
  rw [this]; simp [mkL_len]; omega
/-- The element that comes next, and what stands about it. -/
theorem MarkSt.open {xs : List α} {k : Nat} {st st' : St} {s : Value} {L : List Nat} {j : Nat} (h : MarkSt xs k st s L j st') (hnd : L.Nodup) (hj : j < xs.length) :
    ∃ i c c1 cx c2 L1 Lx L2, s = .slice (some ⟨i, 0, none⟩) xs.length c ∧ L = i :: (L1 ++ Lx ++ L2) ∧ st'[i]? = some ⟨c1 ++ cx ++ c2, Kind.e α, 0⟩ ∧ c1.length = j * Kind.sz α ∧ Kind.own st' xs[j] cx Lx ∧ Lx.Nodup ∧ i ∉ Lx ∧ i < st'.length ∧
      (∀ (st2 : St) (cx' : List Value), st2[i]? = some ⟨c1 ++ cx' ++ c2, Kind.e α, 0⟩ → st'.length ≤ st2.length → Kind.own st2 (Marks.mk1 xs[j] (mkL (xs.take j) k).2).1 cx' Lx → (∀ q, q < st'.length → q ≠ i → q ∉ Lx → st2[q]? = st'[q]?) → MarkSt xs k st s L (j + 1) st2) := by
  have hml : (mkL (xs.take j) k).1.length = j := by rw [mkL_len]; simp; omega
  have hdr : xs.drop j = xs[j] :: xs.drop (j + 1) := List.drop_eq_getElem_cons hj
  have hat : ((mkL (xs.take j) k).1 ++ xs.drop j)[j]? = some xs[j] := by
    rw [List.getElem?_append_right (by omega), hml, Nat.sub_self, hdr]; rfl
  have hl2 : (((mkL (xs.take j) k).1 ++ xs.drop j)).length = xs.length := by simp [hml]; omega
  have hd2 : ((mkL (xs.take j) k).1 ++ xs.drop j).drop (j + 1) = xs.drop (j + 1) := by
    rw [List.drop_append, hml, Nat.add_sub_cancel_left, List.drop_eq_nil_of_le (by omega), hdr]; rfl
  have hsl := h.sl
  have hlt := hsl.lt
  rcases hsl with ⟨rfl, h0, rfl⟩ | ⟨i, c, cs, K, rfl, hb, hr, rfl⟩
  · rw [h0] at hat; simp at hat
  obtain ⟨c1, cx, c2, L1, Lx, L2, h1, h2, h3, rfl, rfl⟩ := hr.split j _ hat
  have hcl := h1.len (Kind.own_len st')
  rw [List.take_left' hml] at h1
  rw [hd2] at h3
  obtain ⟨hi0, hnd1⟩ := List.nodup_cons.1 hnd
  obtain ⟨hnd2, hnd3, hnd4⟩ := List.nodup_append.1 hnd1
  obtain ⟨hnd5, hnd6, hnd7⟩ := List.nodup_append.1 hnd2
  refine ⟨i, c, c1, cx, c2, L1, Lx, L2, by rw [hl2], rfl, hb, by rw [hcl, List.length_take, hl2, Nat.min_eq_left (by omega)], h2, hnd6, fun hh => hi0 (by simp [hh]), (List.getElem?_eq_some_iff.1 hb).1, fun st2 cx' hb2 hle2 hown hot => ⟨?_, Nat.le_trans h.le hle2, fun q h1 h2 => ?_⟩⟩
  · have hs1 : SameOn L1 st' st2 := fun q hq => hot q (hlt q (by simp [hq])) (fun e => hi0 (by simp [← e, hq])) (fun hh => hnd7 q hq q hh rfl)
    have hs2 : SameOn L2 st' st2 := fun q hq => hot q (hlt q (by simp [hq])) (fun e => hi0 (by simp [← e, hq])) (fun hh => hnd4 q (by simp [hh]) q hq rfl)
    have g1 := h1.mono (E' := Kind.own st2) fun x _ cx Lx hL he => Kind.own_frame _ _ x cx Lx (fun q hq => hs1 q (hL q hq)) he
    have g3 := h3.mono (E' := Kind.own st2) fun x _ cx Lx hL he => Kind.own_frame _ _ x cx Lx (fun q hq => hs2 q (hL q hq)) he
    rw [mkL_snoc hj]
    refine .inr ⟨i, c, _, L1 ++ Lx ++ L2, ?_, hb2, ?_, rfl⟩
    · rw [hl2]; simp [hml]; omega
    · exact (g1.app (RowO.one hown)).app g3
  · rw [hot q (by have := h.le; omega) (fun e => h2 (by simp [e])) (fun hh => h2 (by simp [hh])), h.oth q h1 h2]
end
end Go.Proofs.YtpkjgjomiikofaaDoor.AM


/- Rows put behind rows. -/
namespace Go.Proofs.YtpkjgjomiikofaaDoor.AM
open Go
set_option linter.unusedVariables false
set_option linter.unusedSimpArgs false

/-- What reads, and is no one's. -/
def Shr {α : Type} (E : α → List Value → Prop) : α → List Value → List Nat → Prop := fun x cx Lx => E x cx ∧ Lx = []
theorem RowO.take {α : Type} {E : α → List Value → List Nat → Prop} {sz : Nat} (hE : ∀ x cx Lx, E x cx Lx → cx.length = sz) {xs : List α} {cs : List Value} {L : List Nat} (h : RowO E xs cs L) : cs.length = xs.length * sz := h.len hE

theorem cellsFrom_app {f : Nat → Option Value} : ∀ {m n o : Nat} {cs ds : List Value}, cellsFrom f o m = some cs → cellsFrom f (o + m) n = some ds → cellsFrom f o (m + n) = some (cs ++ ds) := by
  intro m n o cs ds h1 h2
  refine cellsFrom_of (by rw [List.length_append, cellsFrom_len h1, cellsFrom_len h2]) fun j v hj => ?_
  have hl := cellsFrom_len h1
  by_cases hlt : j < m
  · rw [List.getElem?_append_left (by omega)] at hj
    exact cellsFrom_get h1 j v hj
  · rw [List.getElem?_append_right (by omega), hl] at hj
    have := cellsFrom_get h2 (j - m) v hj
    rwa [show o + m + (j - m) = o + j by omega] at this

/-- The cells of a row. -/
theorem row_cells {α : Type} {E : α → List Value → Prop} {sz : Nat} {st : St} : ∀ {xs : List α} {i o : Nat}, (∀ (j : Nat) x, xs[j]? = some x → ∃ cs, cs.length = sz ∧ E x cs ∧ CellsAt st i (o + j * sz) cs) →
    ∃ cs, cellsFrom (cell st i) o (xs.length * sz) = some cs ∧ RowO (Shr E) xs cs [] := by
  intro xs
  induction xs with
  | nil => intro i o _; exact ⟨[], by simp [cellsFrom], .nil⟩
  | cons x xs ih =>
    intro i o h
    obtain ⟨c0, h1, h2, h3⟩ := h 0 x rfl
    obtain ⟨cs, h4, h5⟩ := ih (i := i) (o := o + sz) fun j y hy => by
      obtain ⟨c, g1, g2, g3⟩ := h (j + 1) y (by simpa using hy)
      exact ⟨c, g1, g2, by rwa [show o + (j + 1) * sz = o + sz + j * sz by rw [Nat.add_mul, Nat.one_mul]; omega] at g3⟩
    refine ⟨c0 ++ cs, ?_, ?_⟩
    · have e : (x :: xs).length * sz = sz + xs.length * sz := by rw [List.length_cons, Nat.add_mul, Nat.one_mul]; omega
      rw [e]
      refine cellsFrom_app (cellsFrom_of h1 fun j v hj => ?_) h4
      rw [Nat.zero_mul, Nat.add_zero] at h3
      exact h3 j v hj
    · have := RowO.cons x xs c0 cs [] [] (E := Shr E) ⟨h2, rfl⟩ h5
      simpa using this
theorem newsA_row {α : Type} {E : α → List Value → Prop} {sz : Nat} {st : St} {xs : List α} {s : Value} (h : Row E sz st xs s) {P : Program} {u e : TypeId} (hu : P.underlying u = some (.slice e)) : ∃ cs, newsA P u sz s st = some (xs.length, cs) ∧ RowO (Shr E) xs cs [] := by
  rcases h with ⟨rfl | rfl, rfl⟩ | ⟨i, o, c, rfl, h⟩
  · exact ⟨[], by unfold newsA; simp only [hu]; rfl, .nil⟩
  · exact ⟨[], by unfold newsA; simp only [hu]; rfl, .nil⟩
  · obtain ⟨cs, h1, h2⟩ := row_cells h
    refine ⟨cs, ?_, h2⟩
    unfold newsA
    simp only [hu]
    rw [h1]
    rfl

theorem RowO.lt {α : Type} {E : α → List Value → List Nat → Prop} {n : Nat} (hE : ∀ x cx Lx, E x cx Lx → ∀ i ∈ Lx, i < n) {xs : List α} {cs : List Value} {L : List Nat} (h : RowO E xs cs L) : ∀ i ∈ L, i < n := by
  induction h with
  | nil => intro i hi; cases hi
  | cons x xs cx cs Lx L h hs ih =>
    intro j hj
    rcases List.mem_append.1 hj with hj | hj
    · exact hE x cx Lx h j hj
    · exact ih j hj

/-- The block in which a slice lies. -/
def topId : Value → Option Nat
  | .slice (some ⟨b, _, none⟩) _ _ => some b
  | _ => none
/-- All that was there is there still, but for one block. -/
def Away (k : Option Nat) (st st' : St) : Prop := st.length ≤ st'.length ∧ ∀ i, i < st.length → k ≠ some i → st'[i]? = st[i]?
/-- A row grew: its old block alone has turned. -/
structure Grow (st : St) (s : Value) (st' : St) (s' : Value) : Prop where
  away : Away (topId s) st st'
  top : topId s' = topId s ∨ ∃ m, st.length ≤ m ∧ topId s' = some m
theorem Grow.refl (st : St) (s : Value) : Grow st s st s := ⟨⟨Nat.le_refl _, fun _ _ _ => rfl⟩, .inl rfl⟩
theorem Away.trans {k k' : Option Nat} {a b c : St} (h : Away k a b) (g : Away k' b c) (hk : k' = k ∨ ∃ m, a.length ≤ m ∧ k' = some m) : Away k a c := ⟨Nat.le_trans h.1 g.1, fun i hi hne => by
  rw [g.2 i (by have := h.1; omega) (fun e => ?_), h.2 i hi hne]
  rcases hk with rfl | ⟨m, hm, rfl⟩
  · exact hne e
  · cases e; omega⟩
theorem Grow.trans {a b c : St} {s s' s'' : Value} (h : Grow a s b s') (g : Grow b s' c s'') : Grow a s c s'' := ⟨h.away.trans g.away h.top, by
  rcases g.top with h1 | ⟨m, h1, h2⟩
  · rw [h1]; exact h.top
  · exact .inr ⟨m, Nat.le_trans h.away.1 h1, h2⟩⟩
theorem Away.of_ext {k : Option Nat} {a b : St} (h : Ext a b) : Away k a b := ⟨h.length, fun i hi _ => h.get hi⟩
theorem Grow.of_ext {a b : St} (h : Ext a b) (s : Value) : Grow a s b s := ⟨.of_ext h, .inl rfl⟩
theorem Away.ext {a b : St} (h : Away none a b) : Ext a b := Ext.of_get fun i hi => h.2 i hi (by simp)
theorem Away.ext_of {k : Option Nat} {a b c : St} (h : Away k b c) (hx : Ext a b) (hk : k = none ∨ ∃ m, a.length ≤ m ∧ k = some m) : Ext a c := Ext.of_get fun i hi => by
  rw [h.2 i (by have := hx.length; omega) (fun e => ?_), hx.get hi]
  rcases hk with rfl | ⟨m, hm, rfl⟩
  · cases e
  · cases e; omega

/-- A row is put behind a row of one's own. -/
theorem SliceO.app {α : Type} {E : St → α → List Value → List Nat → Prop} (hE : ∀ (st st' : St) x cx Lx, SameOn Lx st st' → E st x cx Lx → E st' x cx Lx) (hlt : ∀ (st : St) x cx Lx, E st x cx Lx → ∀ i ∈ Lx, i < st.length)
    {P : Program} {t u e : TypeId} {sz by_ n0 : Nat} (hl : ∀ st x cx Lx, E st x cx Lx → cx.length = sz + 1) {z : List Value} {st st2 : St} {xs ys : List α} {s y : Value} {L : List Nat} {cy : List Value} {K : List Nat}
    (hu : P.underlying t = some (.slice e)) (hs : szA P e = some (sz + 1)) (hb : bytA P e = some by_) (hz : zeroA P e = some z) (hzl : z.length = sz + 1)
    (h : SliceO (E st) e st xs s L) (hf : Fresh n0 L) (hn0 : n0 ≤ st.length) (hext : Ext st st2) (hn : newsA P u (sz + 1) y st2 = some (ys.length, cy)) (hx : RowO (E st2) ys cy K) (hfx : Fresh st.length K) (hbd : (xs.length + ys.length) * by_ ≤ 2 ^ 46) (hbn : xs.length + ys.length ≤ 2 ^ 46) :
    ∃ s' st' L', appendA P t u s y st2 = some (s', st') ∧ SliceO (E st') e st' (xs ++ ys) s' L' ∧ Fresh n0 L' ∧ Grow st2 s st' s' := by
  have he : elemA P t = some e := by unfold elemA; rw [hu]
  have hlen := hext.length
  by_cases h0 : ys = []
  · subst h0
    cases hx
    have hap : appendA P t u s y st2 = some (s, st2) := by
      unfold appendA
      simp only [he, hs, hb, hz, hn, hzl, if_true, List.length_nil]
      rcases h with ⟨rfl, _⟩ | ⟨i, c, cs, K, rfl, _⟩ <;> rfl
    refine ⟨s, st2, L, hap, ?_, hf, .refl _ _⟩
    rw [List.append_nil]
    exact h.frame hE (.ext hext (h.lt (hlt st)))
  have hy0 : ys.length ≠ 0 := fun e => h0 (List.eq_nil_of_length_eq_zero e)
  have hxlt := hx.lt (hlt st2)
  rcases h with ⟨rfl, rfl, rfl⟩ | ⟨i, c, cs, K1, rfl, hbk, hr, rfl⟩
  · refine ⟨_, _, st2.length :: K, appendA_nil he hs hb hz hzl hn hy0 (by simpa using hbd) (by simpa using hbn), .inr ⟨st2.length, ys.length, cy, K, rfl, by simp, ?_, rfl⟩, ⟨List.nodup_cons.2 ⟨fun hm => by have := hxlt _ hm; omega, hfx.1⟩, fun j hj => ?_⟩, ⟨⟨by simp, fun j hj _ => ?_⟩, .inr ⟨_, Nat.le_refl _, rfl⟩⟩⟩
    · exact hx.mono fun x _ cx Lx hL he' => hE st2 _ x cx Lx (fun j hj => by rw [List.getElem?_append_left (hxlt j (hL j hj))]) he'
    · cases hj with
      | head => omega
      | tail _ hj => have := hfx.2 j hj; omega
    · rw [List.getElem?_append_left (by omega)]
  · have hi : i < st.length := (List.getElem?_eq_some_iff.1 hbk).1
    have hbk2 := hext _ _ hbk
    have hrl := hr.len (hl st)
    have hap := appendA_to (c := c) he hs hb hz hzl hn hy0 hbk2 hrl hbd hbn
    have hK := SliceO.lt (E := E st) (e := e) (st := st) (xs := xs) (s := .slice (some ⟨i, 0, none⟩) xs.length c) (L := i :: K1) (fun x cx Lx h => hlt st x cx Lx h) (.inr ⟨i, c, cs, K1, rfl, hbk, hr, rfl⟩)
    have hiK : i ∉ K1 := (List.nodup_cons.1 hf.1).1
    have get : ∀ j, j ≠ i → j < st2.length → (st2.set i ⟨cs, e, 2⟩ ++ [(⟨cs ++ cy, e, 0⟩ : Blk)])[j]? = st2[j]? := by
      intro j hj hlt
      rw [List.getElem?_append_left (by simp; omega), List.getElem?_set, if_neg (Ne.symm hj)]
    have hlast : (st2.set i ⟨cs, e, 2⟩ ++ [(⟨cs ++ cy, e, 0⟩ : Blk)])[st2.length]? = some ⟨cs ++ cy, e, 0⟩ := by
      have : (st2.set i (⟨cs, e, 2⟩ : Blk)).length = st2.length := by simp
      rw [← this]; simp
    refine ⟨_, _, st2.length :: (K1 ++ K), hap, .inr ⟨st2.length, xs.length + ys.length, cs ++ cy, K1 ++ K, by simp, hlast, ?_, rfl⟩, ⟨List.nodup_cons.2 ⟨fun hm => ?_, List.nodup_append.2 ⟨(List.nodup_cons.1 hf.1).2, hfx.1, fun a ha b hb' e' => ?_⟩⟩, fun j hj => ?_⟩, ⟨⟨by simp, fun j hj hjL => ?_⟩, .inr ⟨_, Nat.le_refl _, rfl⟩⟩⟩
    · refine (hr.mono fun y hy cy Ly hL he' => ?_).app (hx.mono fun x _ cx Lx hL he' => ?_)
      · refine hE st _ y cy Ly (fun j hj => ?_) he'
        have hjK := hL j hj
        have hjl := hK j (by simp [hjK])
        rw [get j (fun e' => hiK (e' ▸ hjK)) (by omega), hext.get hjl]
      · refine hE st2 _ x cx Lx (fun j hj => ?_) he'
        have h1 := hxlt j (hL j hj)
        have h2 := hfx.2 j (hL j hj)
        exact get j (by omega) h1
    · rcases List.mem_append.1 hm with hm | hm
      · have := hK _ (List.mem_cons_of_mem _ hm); omega
      · have := hxlt _ hm; omega
    · subst e'
      have h1 := hK a (by simp [ha])
      have h2 := hfx.2 a hb'
      omega
    · cases hj with
      | head => omega
      | tail _ hj =>
        rcases List.mem_append.1 hj with hj | hj
        · exact hf.2 j (by simp [hj])
        · have := hfx.2 j hj; omega
    · exact get j (fun e' => hjL (by rw [e']; rfl)) hj

/-- The cells of a row of one's own. -/
theorem newsA_own {α : Type} {E : α → List Value → List Nat → Prop} {P : Program} {u e e' : TypeId} {sz n0 : Nat} {st : St} {ys : List α} {y : Value} {L : List Nat} (hu : P.underlying u = some (.slice e')) (hl : ∀ x cx Lx, E x cx Lx → cx.length = sz) (h : SliceO E e st ys y L) (hf : Fresh n0 L) :
    ∃ cy K, newsA P u sz y st = some (ys.length, cy) ∧ RowO E ys cy K ∧ Fresh n0 K := by
  rcases h with ⟨rfl, rfl, rfl⟩ | ⟨i, c, cs, K, rfl, hb, hr, rfl⟩
  · exact ⟨[], [], by unfold newsA; simp only [hu]; rfl, .nil, hf⟩
  · refine ⟨cs, K, ?_, hr, (List.nodup_cons.1 hf.1).2, fun j hj => hf.2 j (by simp [hj])⟩
    unfold newsA
    simp only [hu]
    rw [cellsFrom_of (f := cell st i) (hr.len hl) fun j v hj => by rw [cell_of hb, Nat.zero_add]; exact hj]
    rfl
theorem newsA_1 {P : Program} {u e : TypeId} {sz : Nat} {st : St} {cx : List Value} (hu : P.underlying u = some (.slice e)) (hl : cx.length = sz) : newsA P u sz (.slice (some ⟨st.length, 0, none⟩) 1 1) (st ++ [⟨cx, e, 0⟩]) = some (1, cx) := newsA_one hu (by simp) hl
section
variable {α : Type} [Kind α]
/-- An element is put behind a row of one's own; what else was there stays. -/
theorem Sl.push {P : Program} {t u : TypeId} {by_ sz' n0 : Nat} {z : List Value} {st st2 : St} {xs : List α} {s : Value} {L : List Nat} {x : α} {cx : List Value} {Lx : List Nat}
    (hu : P.underlying t = some (.slice (Kind.e α))) (hu2 : P.underlying u = some (.slice (Kind.e α))) (hs : szA P (Kind.e α) = some (sz' + 1)) (hz' : Kind.sz α = sz' + 1) (hb : bytA P (Kind.e α) = some by_) (hz : zeroA P (Kind.e α) = some z) (hzl : z.length = sz' + 1)
    (h : Sl st xs s L) (hf : Fresh n0 L) (hn0 : n0 ≤ st.length) (hext : Ext st st2) (hx : Kind.own st2 x cx Lx) (hfx : Fresh st.length Lx) (hbd : (xs.length + 1) * by_ ≤ 2 ^ 46) (hbn : xs.length + 1 ≤ 2 ^ 46) :
    ∃ s' st' L', appendA P t u s (.slice (some ⟨st2.length, 0, none⟩) 1 1) (st2 ++ [⟨cx, Kind.e α, 0⟩]) = some (s', st') ∧ Sl st' (xs ++ [x]) s' L' ∧ Fresh n0 L' ∧ Grow st s st' s' := by
  have hx' : Kind.own (st2 ++ [⟨cx, Kind.e α, 0⟩]) x cx Lx := own_ext hx (Ext.app _ _)
  obtain ⟨s', st', L', h1, h2, h3, h4⟩ := SliceO.app (E := Kind.own) (fun st st' x cs L => Kind.own_frame st st' x cs L) (fun st x cs L => Kind.own_lt st x cs L) (sz := sz') (fun st x cs L h => (Kind.own_len st x cs L h).trans hz') (ys := [x]) (u := u) hu hs hb hz hzl h hf hn0 (hext.trans (Ext.app _ [⟨cx, Kind.e α, 0⟩])) (newsA_1 hu2 ((Kind.own_len _ _ _ _ hx).trans hz')) (RowO.one hx') hfx hbd hbn
  exact ⟨s', st', L', h1, h2, h3, (Grow.of_ext (hext.trans (Ext.app _ _)) s).trans h4⟩
/-- A row of one's own is put behind another. -/
theorem Sl.join {P : Program} {t u : TypeId} {by_ sz' n0 : Nat} {z : List Value} {st st2 : St} {xs ys : List α} {s y : Value} {L K : List Nat}
    (hu : P.underlying t = some (.slice (Kind.e α))) (hu2 : P.underlying u = some (.slice (Kind.e α))) (hs : szA P (Kind.e α) = some (sz' + 1)) (hz' : Kind.sz α = sz' + 1) (hb : bytA P (Kind.e α) = some by_) (hz : zeroA P (Kind.e α) = some z) (hzl : z.length = sz' + 1)
    (h : Sl st xs s L) (hf : Fresh n0 L) (hn0 : n0 ≤ st.length) (hext : Ext st st2) (hy : Sl st2 ys y K) (hfx : Fresh st.length K) (hbd : (xs.length + ys.length) * by_ ≤ 2 ^ 46) (hbn : xs.length + ys.length ≤ 2 ^ 46) :
    ∃ s' st' L', appendA P t u s y st2 = some (s', st') ∧ Sl st' (xs ++ ys) s' L' ∧ Fresh n0 L' ∧ Grow st s st' s' := by
  obtain ⟨cy, K', hn, hr, hK⟩ := newsA_own (P := P) (u := u) hu2 (Kind.own_len st2) hy hfx
  rw [hz'] at hn
  obtain ⟨s', st', L', h1, h2, h3, h4⟩ := SliceO.app (E := Kind.own) (fun st st' x cs L => Kind.own_frame st st' x cs L) (fun st x cs L => Kind.own_lt st x cs L) (sz := sz') (fun st x cs L h => (Kind.own_len st x cs L h).trans hz') hu hs hb hz hzl h hf hn0 hext hn hr hK hbd hbn
  exact ⟨s', st', L', h1, h2, h3, (Grow.of_ext hext s).trans h4⟩
end
theorem SliceO.top {α : Type} {E : α → List Value → List Nat → Prop} {e : TypeId} {st : St} {xs : List α} {s : Value} {L : List Nat} {n : Nat} (h : SliceO E e st xs s L) (hf : Fresh n L) : topId s = none ∨ ∃ m, n ≤ m ∧ topId s = some m := by
  rcases h with ⟨rfl, _, _⟩ | ⟨i, c, cs, K, rfl, _, _, rfl⟩
  · exact .inl rfl
  · exact .inr ⟨i, hf.2 i (by simp), rfl⟩
section
variable {α : Type} [Kind α]
/-- An element of a row of one's own is put. -/
theorem Sl.set {P : Program} {n0 j : Nat} {st st2 : St} {xs : List α} {s v : Value} {L : List Nat} {x : α} {cx : List Value} {Lx : List Nat} (hs : szA P (Kind.e α) = some (Kind.sz α))
    (h : Sl st xs s L) (hf : Fresh n0 L) (hn0 : n0 ≤ st.length) (hext : Ext st st2) (hx : Kind.own st2 x cx Lx) (hfx : Fresh st.length Lx) (hj : j < xs.length) (hv : v.cells.toList = cx) (hok : okv v = true) :
    ∃ b c st' L', s = .slice (some ⟨b, 0, none⟩) xs.length c ∧ (∀ loc, storeA P (Kind.e α) (.pointer (some ⟨b, j * Kind.sz α, none⟩)) v loc st2 = some (loc, st')) ∧ Sl st' (xs.set j x) s L' ∧ Fresh n0 L' ∧ st'.length = st2.length ∧ n0 ≤ b ∧ ∀ i, i ≠ b → st'[i]? = st2[i]? := by
  have hlt := h.lt
  rcases h with ⟨_, h0, _⟩ | ⟨b, c, cs, K, rfl, hb, hr, rfl⟩
  · rw [h0] at hj; simp at hj
  obtain ⟨c1, c0, c2, L1, L0, L2, g1, g2, g3, rfl, rfl⟩ := hr.split j _ (List.getElem?_eq_getElem hj)
  have hcl := g1.len (Kind.own_len st)
  have hc0 := Kind.own_len _ _ _ _ g2
  have hcx := Kind.own_len _ _ _ _ hx
  have hl1 : c1.length = j * Kind.sz α := by rw [hcl, List.length_take, Nat.min_eq_left (by omega)]
  have hxlt := Kind.own_lt _ _ _ _ hx
  obtain ⟨hi0, hnd1⟩ := List.nodup_cons.1 hf.1
  obtain ⟨hnd2, hnd3, hnd4⟩ := List.nodup_append.1 hnd1
  obtain ⟨hnd5, hnd6, hnd7⟩ := List.nodup_append.1 hnd2
  have hb2 := hext _ _ hb
  have hbl : b < st.length := (List.getElem?_eq_some_iff.1 hb).1
  have hel := hext.length
  have hbb : (st2.set b ⟨c1 ++ cx ++ c2, Kind.e α, 0⟩)[b]? = some ⟨c1 ++ cx ++ c2, Kind.e α, 0⟩ := by rw [List.getElem?_set]; simp; omega
  have get : ∀ i, i ≠ b → (st2.set b ⟨c1 ++ cx ++ c2, Kind.e α, 0⟩)[i]? = st2[i]? := fun i hi => by rw [List.getElem?_set, if_neg (Ne.symm hi)]
  refine ⟨b, c, st2.set b ⟨c1 ++ cx ++ c2, Kind.e α, 0⟩, b :: (L1 ++ Lx ++ L2), rfl, fun loc => ?_, .inr ⟨b, c, c1 ++ cx ++ c2, L1 ++ Lx ++ L2, by rw [List.length_set], hbb, ?_, rfl⟩, ⟨List.nodup_cons.2 ⟨fun hm => ?_, List.nodup_append.2 ⟨List.nodup_append.2 ⟨hnd5, hfx.1, fun a ha d hd e => ?_⟩, hnd3, fun a ha d hd e => ?_⟩⟩, fun i hi => ?_⟩, by simp, hf.2 b (by simp), get⟩
  · have hvs : v.cells.size = Kind.sz α := by rw [← hcx, ← hv]; simp
    rw [storeA_h]
    have hvc : vc v = v.cells := rfl
    simp only [hok, if_true, hs, hb2, hvc, hvs, hv, true_and]
    rw [if_pos (by simp [hl1, hc0])]
    unfold AM.splice
    have e1 : (c1 ++ c0 ++ c2).take (j * Kind.sz α) = c1 := by rw [← hl1, List.append_assoc, List.take_left]
    have e2 : (c1 ++ c0 ++ c2).drop (j * Kind.sz α + cx.length) = c2 := by rw [← hl1, hcx, ← hc0, ← List.length_append, List.drop_left]
    rw [e1, e2]
  · have e : xs.set j x = xs.take j ++ [x] ++ xs.drop (j + 1) := by rw [List.set_eq_take_append_cons_drop, if_pos hj]; simp
    rw [e]
    refine (RowO.app (g1.mono fun y _ cy Ly hL he => ?_) (RowO.one ?_)).app (g3.mono fun y _ cy Ly hL he => ?_)
    · exact Kind.own_frame _ _ y cy Ly (fun q hq => by
        have hq1 := hL q hq
        rw [get q (fun e => hi0 (by simp [← e, hq1])), hext.get (hlt q (by simp [hq1]))]) he
    · exact Kind.own_frame _ _ x cx Lx (fun q hq => get q (by have := hfx.2 q hq; omega)) hx
    · exact Kind.own_frame _ _ y cy Ly (fun q hq => by
        have hq1 := hL q hq
        rw [get q (fun e => hi0 (by simp [← e, hq1])), hext.get (hlt q (by simp [hq1]))]) he
  · simp only [List.mem_append] at hm
    rcases hm with (hm | hm) | hm
    · exact hi0 (by simp [hm])
    · have := hfx.2 _ hm; omega
    · exact hi0 (by simp [hm])
  · subst e
    have h1 := hlt a (by simp [ha])
    have h2 := hfx.2 a hd
    omega
  · subst e
    rcases List.mem_append.1 ha with ha | ha
    · exact hnd4 a (by simp [ha]) a hd rfl
    · have h1 := hlt a (by simp [hd])
      have h2 := hfx.2 a ha
      omega
  · rcases List.mem_cons.1 hi with rfl | hi
    · exact hf.2 _ (by simp)
    · simp only [List.mem_append] at hi
      rcases hi with (hi | hi) | hi
      · exact hf.2 i (by simp [hi])
      · have := hfx.2 i hi; omega
      · exact hf.2 i (by simp [hi])
end
/-- A kind whose data stand in their cells alone. -/
class Flat (α : Type) extends Kind α where
  flat_own : ∀ (st : St) (x : α) (cs : List Value), enc st x cs → own st x cs []
section
variable {α : Type} [Flat α]
theorem shr_own {st : St} {xs : List α} {cs : List Value} {L : List Nat} (h : RowO (Shr (Kind.enc (α := α) st)) xs cs L) : RowO (Kind.own st) xs cs L := h.mono fun x _ cx Lx _ he => by obtain ⟨h1, rfl⟩ := he; exact Flat.flat_own st x cx h1
/-- A row of flat data is put behind one's own. -/
theorem Sl.appRow {P : Program} {t u : TypeId} {by_ sz' n0 : Nat} {z : List Value} {st st2 : St} {xs ys : List α} {s y : Value} {L : List Nat}
    (hu : P.underlying t = some (.slice (Kind.e α))) (hu2 : P.underlying u = some (.slice (Kind.e α))) (hs : szA P (Kind.e α) = some (sz' + 1)) (hz' : Kind.sz α = sz' + 1) (hb : bytA P (Kind.e α) = some by_) (hz : zeroA P (Kind.e α) = some z) (hzl : z.length = sz' + 1)
    (h : Sl st xs s L) (hf : Fresh n0 L) (hn0 : n0 ≤ st.length) (hext : Ext st st2) (hy : Rw st2 ys y) (hbd : (xs.length + ys.length) * by_ ≤ 2 ^ 46) (hbn : xs.length + ys.length ≤ 2 ^ 46) :
    ∃ s' st' L', appendA P t u s y st2 = some (s', st') ∧ Sl st' (xs ++ ys) s' L' ∧ Fresh n0 L' ∧ Grow st2 s st' s' := by
  obtain ⟨cy, hn, hx⟩ := newsA_row hy hu2
  rw [hz'] at hn
  exact SliceO.app (E := Kind.own) (fun st st' x cs L => Kind.own_frame st st' x cs L) (fun st x cs L => Kind.own_lt st x cs L) (sz := sz') (fun st x cs L h => (Kind.own_len st x cs L h).trans hz') hu hs hb hz hzl h hf hn0 hext hn (shr_own hx) ⟨by simp, by simp⟩ hbd hbn
end
end Go.Proofs.YtpkjgjomiikofaaDoor.AM


/- Contracts of the library, lifted: a world that grows; a block of which nothing is told. -/
namespace Go.Proofs.YtpkjgjomiikofaaDoor.AM
open Go Go.Proofs
set_option linter.unusedVariables false
set_option linter.unusedSimpArgs false

theorem HR.below {P : Program} {B : Base} {M : List ME} {st : St} {w w' : World} (h : HR P B M st w) (k : Go.RowKit.Below w.heap.size w w') : HR P B M st w' := by
  refine ⟨h.len, h.pre, fun i b m hb hm hs hfar => ?_, h.inj, fun i m hm => Nat.lt_of_lt_of_le (h.lt i m hm) k.size, h.old, fun i b m hb hs hm => ?_, k.os.trans h.os, k.tape.trans h.tape, k.output.trans h.output, Nat.le_trans h.size k.size, fun q hq hqm => ?_, h.tab, h.cov⟩
  · obtain ⟨c, h1, h2⟩ := h.blk i b m hb hm hs hfar
    exact ⟨c, h1.to (k.block _ (h.lt i m hm)), h2⟩
  · obtain ⟨h1, h2⟩ := h.ro i b m hb hs hm
    exact ⟨h1, (k.block _ (h.lt i m (h.pre i m hm))).trans h2⟩
  · exact (k.block q (Nat.lt_of_lt_of_le hq h.size)).trans (h.frame q hq hqm)
/-- A block of which nothing is told. -/
def farB : Blk := ⟨[], 0, 1⟩
theorem HR.far {P : Program} {B : Base} {M : List ME} {st : St} {w : World} {N n : Nat} (h : HR P B M st w) (hn : ∀ (i : Nat) m, M[i]? = some m → m.b < n) (h1 : n ≤ N) (h2 : N < w.heap.size) (h3 : B.w0.heap.size ≤ N) : HR P B (M ++ [⟨N, 0, 0, false⟩]) (st ++ [farB]) w := by
  have getM : ∀ (i : Nat) m, (M ++ [(⟨N, 0, 0, false⟩ : ME)])[i]? = some m → M[i]? = some m ∨ (i = st.length ∧ m = ⟨N, 0, 0, false⟩) := fun i m hm => by
    rcases Nat.lt_or_ge i M.length with hi | hi
    · rw [List.getElem?_append_left hi] at hm; exact .inl hm
    · rw [List.getElem?_append_right hi] at hm
      have h4 := (List.getElem?_eq_some_iff.1 hm).1
      simp only [List.length_singleton] at h4
      have h5 : i - M.length = 0 := by omega
      rw [h5] at hm
      simp only [List.getElem?_cons_zero, Option.some.injEq] at hm
      exact .inr ⟨by have := h.len; omega, hm.symm⟩
  have getS : ∀ (i : Nat) b, (st ++ [farB])[i]? = some b → st[i]? = some b ∨ (i = st.length ∧ b = farB) := fun i b hb => by
    rcases Nat.lt_or_ge i st.length with hi | hi
    · rw [List.getElem?_append_left hi] at hb; exact .inl hb
    · rw [List.getElem?_append_right hi] at hb
      have h4 := (List.getElem?_eq_some_iff.1 hb).1
      simp only [List.length_singleton] at h4
      have h5 : i - st.length = 0 := by omega
      rw [h5] at hb
      simp only [List.getElem?_cons_zero, Option.some.injEq] at hb
      exact .inr ⟨by omega, hb.symm⟩
  have hM := Mono.app M [(⟨N, 0, 0, false⟩ : ME)]
  have hin : ∀ (i : Nat) b m, st[i]? = some b → (M ++ [(⟨N, 0, 0, false⟩ : ME)])[i]? = some m → M[i]? = some m := fun i b m hb hm => by
    rcases getM i m hm with h4 | ⟨h4, _⟩
    · exact h4
    · have := (List.getElem?_eq_some_iff.1 hb).1; omega
  refine ⟨by simp [h.len], fun i m hm => hM i m (h.pre i m hm), fun i b m hb hm hs hfar => ?_, fun i j b b' m m' hb hb' hs hs' hm hm' e => ?_, fun i m hm => ?_, fun i m hm hlt => ?_, fun i b m hb hs hm => ?_, h.os, h.tape, h.output, h.size, h.frame, h.tab, h.cov⟩
  · rcases getS i b hb with hb | ⟨_, rfl⟩
    · obtain ⟨c, q1, q2, q3, q4, q5⟩ := h.blk i b m hb (hin i b m hb hm) hs hfar
      exact ⟨c, q1, q2, q3, q4.mono hM, q5⟩
    · exact absurd ⟨rfl, rfl⟩ hfar
  · rcases getS i b hb with hb | ⟨rfl, rfl⟩ <;> rcases getS j b' hb' with hb' | ⟨rfl, rfl⟩
    · exact h.inj i j b b' m m' hb hb' hs hs' (hin i b m hb hm) (hin j b' m' hb' hm') e
    · have h4 := hn i m (hin i b m hb hm)
      rcases getM st.length m' hm' with h5 | ⟨_, h5⟩
      · have := (List.getElem?_eq_some_iff.1 h5).1; have := h.len; omega
      · subst h5; simp only at e; omega
    · have h4 := hn j m' (hin j b' m' hb' hm')
      rcases getM st.length m hm with h5 | ⟨_, h5⟩
      · have := (List.getElem?_eq_some_iff.1 h5).1; have := h.len; omega
      · subst h5; simp only at e; omega
    · rfl
  · rcases getM i m hm with h4 | ⟨_, rfl⟩
    · exact h.lt i m h4
    · exact h2
  · rcases getM i m hm with h4 | ⟨_, rfl⟩
    · exact h.old i m h4 hlt
    · simp only at hlt; omega
  · obtain ⟨q1, q2⟩ := h.ro i b m hb hs hm
    exact ⟨by rw [List.getElem?_append_left (List.getElem?_eq_some_iff.1 q1).1]; exact q1, q2⟩
theorem VL.one' {M : List ME} {s : Value} {vals : Array Value} (h : VL M [s] vals) : ∃ v, vals = #[v] ∧ VR M s v := by
  have hl := h.len
  obtain ⟨l⟩ := vals
  match l, hl with
  | [v], _ => exact ⟨v, rfl, h.rel 0 s v rfl rfl⟩
theorem VL.two' {M : List ME} {s t : Value} {vals : Array Value} (h : VL M [s, t] vals) : ∃ v u, vals = #[v, u] ∧ VR M s v ∧ VR M t u := by
  have hl := h.len
  obtain ⟨l⟩ := vals
  match l, hl with
  | [v, u], _ => exact ⟨v, u, rfl, h.rel 0 s v rfl rfl, h.rel 1 t u rfl rfl⟩
end Go.Proofs.YtpkjgjomiikofaaDoor.AM


namespace Go.Proofs.YtpkjgjomiikofaaDoor.AM
open Go
attribute [local go_sem] List.map_cons List.map_nil List.all_cons List.all_nil Bool.and_self Option.map_some List.getElem?_toArray Option.bind_some gye_b gye_t gsk_b gsk_t gb1 gb2 gb3 gb4 bne_self_eq_false beq_self_eq_true w_guard w_nil stepV_some step_some step_some' w_move w_assign w_pick w_binOp w_unOp w_load w_fieldAddr w_indexAddr w_len w_max w_index ev_max max_int ev_index w_box w_alloc w_store w_field w_extract w_nilCheck w_convert w_buildSlice w_build ev_buildL fillL_nil fillL_cons bs0 bs1 ev_conv ev_bin ev_un ev_pick ev_load ev_fieldAddr ev_indexAddr ev_len ev_field ev_extract ev_nilCheck fr_tmp fr_int fr_bool fr_str fr_nil fr_func put_some put_none bin_lss bin_leq bin_gtr bin_geq bin_eql bin_neq bin_add bin_sub bin_mul bin_seql bin_sneq un_not pick_ ext_ loadA_p cellAt_l cellAt_h okPtr_l okPtr_h fadA_p allocA_l storeA_l cells_agg cells_int cells_str cells_sl cells_bool flat_i flat_s flat_b flat_sl flat_nil loc_agg loc_int loc_str loc_sl loc_bool loc_fn loc_ptr okv_agg okv_int okv_str okv_sl okv_bool cellsFrom splice upd_eval argEnv_zero argEnv_succ ne_eq Nat.add_one_ne_zero not_false_eq_true List.not_mem_nil and_self decide_true List.getElem?_cons_zero List.getElem?_cons_succ List.size_toArray List.length_cons List.length_nil List.take_succ_cons List.take_zero List.drop_succ_cons List.drop_zero List.cons_append List.nil_append List.drop_nil Bool.not_true Bool.not_false Bool.false_eq_true Nat.zero_add Nat.add_zero wrap_in List.toList_toArray List.mem_cons or_self or_false false_or
attribute [local go_sem] ag22 ag24 ag26 ag3 ag4 ag5 ag78 ag83 ag9 ag91 bu116 bu122 bu26 bu39 bu49 bu58 by26 by5 by9 el22 el24 el46 el53 of26_0 of26_1 of26_2 of26_3 of39_0 of49_0 of49_1 of49_2 of58_0 of58_1 of58_2 of80_0 of80_1 ro26_0 ro26_1 ro26_2 ro3_3 ro5_1 ro9_1 ro9_2 ro9_3 ro9_4 ro9_8 sz22 sz24 sz26 sz3 sz4 sz5 sz78 sz83 sz9 sz91 ze109 ze26 ze5 ze80 ze9 ze90
section
/- Whole numbers as texts: spec.FormatInt, strconv.Itoa, impl.FormatInt; the law FnExactFormatInt. -/
open Go Go.Proofs Go.Lib
set_option linter.unusedVariables false
set_option linter.unusedSimpArgs false
set_option maxRecDepth 100000
-- AUTO

/-- The digits of a number that is not nought. -/
def digs (m : Nat) : List UInt8 := if m = 0 then [] else decDigits m
theorem digs_step {m : Nat} (h : m ≠ 0) : digs m = digs (m / 10) ++ [UInt8.ofNat (48 + m % 10)] := by
  unfold digs
  rw [if_neg h]
  by_cases h10 : m < 10
  · rw [if_pos (by omega), decDigits, dif_pos h10, show m % 10 = m by omega]; rfl
  · rw [if_neg (by omega), decDigits, dif_neg h10]
theorem wrap_digit : ∀ k : Nat, k < 10 → IntKind.u8.wrap (48 + (k : Int)) = (((UInt8.ofNat (48 + k)).toNat : Nat) : Int) := by decide
theorem getB2f {st : St} {y : Blk} : (st ++ [y])[st.length]? = some y := by rw [List.getElem?_append_right (Nat.le_refl _), Nat.sub_self]; rfl
theorem app_mk (c : UInt8) (o : ByteArray) : (⟨#[c]⟩ : ByteArray) ++ o = ⟨(c :: o.data.toList).toArray⟩ := by
  apply ByteArray.ext
  apply Array.ext'
  simp
theorem size_mk (l : List UInt8) : (⟨l.toArray⟩ : ByteArray).size = l.length := by
  show l.toArray.size = _
  simp
theorem nat_tdiv (m : Int) : (m.tdiv 10).natAbs = m.natAbs / 10 := by
  rw [Int.natAbs_tdiv]; rfl
theorem nat_tmod (m : Int) : (m.tmod 10).natAbs = m.natAbs % 10 := by
  rw [Int.natAbs_tmod]; rfl
theorem specFormatInt_ok (n : Int) (st : St) (h0 : -9223372036854775808 ≤ n) (h1 : n ≤ 9223372036854775807) :
    CallS Tryd.prog 41 [.int .i64 n] st fun r st2 => Ext st st2 ∧ r = .string ⟨(itoa n).toArray⟩ := by
  refine CallS_of_W [] 31 Tryd.func41 rfl rfl rfl rfl (by simp) ?_
  by_cases hn : n = 0
  · subst hn
    have e : (⟨(itoa 0).toArray⟩ : ByteArray) = ⟨#[48]⟩ := by
      have : itoa 0 = [48] := by decide +kernel
      rw [this]
    rw [e]
    repeat (first | (refine W_reg rfl fun G K hG hK => ?_; simp (disch := omega) only [go_sem, ↓reduceIte, Nat.reduceEqDiff, Nat.reduceAdd, Nat.reduceLeDiff, hG]; refine hK _ _ ?_; clear hK K hG G) | (refine W_end rfl fun G K hG hK => ?_; simp (disch := omega) only [go_sem, ↓reduceIte, Nat.reduceEqDiff, Nat.reduceAdd, Nat.reduceLeDiff, hG]; refine hK _ _ ?_; clear hK K hG G; repeat (first | refine thenI ?_ | refine thenE ?_ | refine thenR ?_ | refine inBI ?_ | refine inBR ?_ | refine inBS ?_ | refine inBN (by decide) ?_)) | refine W_seqS ?_ | refine W_seqC ?_ | refine W_seqB ?_ | refine W_block ?_ | (refine W_skip ?_; repeat (first | refine thenI ?_ | refine thenE ?_ | refine thenR ?_ | refine inBI ?_ | refine inBR ?_ | refine inBS ?_ | refine inBN (by decide) ?_)) | (refine W_condT ?hc ?_; (case hc => (simp (disch := omega) only [go_sem, ↓reduceIte, Nat.reduceEqDiff, Nat.reduceAdd, Nat.reduceLeDiff]; done))) | (refine W_condF ?hc ?_; (case hc => (simp (disch := omega) only [go_sem, ↓reduceIte, Nat.reduceEqDiff, Nat.reduceAdd, Nat.reduceLeDiff]; done))))
    refine W_ret ?_; try (repeat (first | refine thenI ?_ | refine thenE ?_ | refine thenR ?_ | refine inBI ?_ | refine inBR ?_ | refine inBS ?_ | refine inBN (by decide) ?_))
    refine fin1 (.inl rfl) (by (simp (disch := omega) only [go_sem, ↓reduceIte, Nat.reduceEqDiff, Nat.reduceAdd, Nat.reduceLeDiff]); try rfl) rfl ⟨Ext.refl _, rfl⟩
  have c0 : (n == 0) = false := by simpa using hn
  have hlen : ∀ m, m = n.natAbs → (decDigits m).length ≤ 20 := fun m hm => by
    rw [decDigits_length]
    exact nDigits_le20 m (by omega)
  repeat (first | (refine W_reg rfl fun G K hG hK => ?_; simp (disch := omega) only [go_sem, ↓reduceIte, Nat.reduceEqDiff, Nat.reduceAdd, Nat.reduceLeDiff, hG, c0]; refine hK _ _ ?_; clear hK K hG G) | (refine W_end rfl fun G K hG hK => ?_; simp (disch := omega) only [go_sem, ↓reduceIte, Nat.reduceEqDiff, Nat.reduceAdd, Nat.reduceLeDiff, hG, c0]; refine hK _ _ ?_; clear hK K hG G; repeat (first | refine thenI ?_ | refine thenE ?_ | refine thenR ?_ | refine inBI ?_ | refine inBR ?_ | refine inBS ?_ | refine inBN (by decide) ?_)) | refine W_seqS ?_ | refine W_seqC ?_ | refine W_seqB ?_ | refine W_block ?_ | (refine W_skip ?_; repeat (first | refine thenI ?_ | refine thenE ?_ | refine thenR ?_ | refine inBI ?_ | refine inBR ?_ | refine inBS ?_ | refine inBN (by decide) ?_)) | (refine W_condT ?hc ?_; (case hc => (simp (disch := omega) only [go_sem, ↓reduceIte, Nat.reduceEqDiff, Nat.reduceAdd, Nat.reduceLeDiff, c0]; done))) | (refine W_condF ?hc ?_; (case hc => (simp (disch := omega) only [go_sem, ↓reduceIte, Nat.reduceEqDiff, Nat.reduceAdd, Nat.reduceLeDiff, c0]; done))))
  refine W_loop (fun d fr st' => ∃ (j : Nat) (m : Int) (o : ByteArray), d = n.natAbs - j ∧ j ≤ n.natAbs ∧ (Ext st st') ∧ (m.natAbs ≤ n.natAbs - j) ∧ (digs m.natAbs ++ o.data.toList = digs n.natAbs) ∧ (fr.env 0 = .int .i64 m) ∧ (fr.env 3 = .bool (decide (n < 0))) ∧ (fr.env 4 = .string o)) (n.natAbs) ?_ ?_
  · exact ⟨0, n, ⟨#[]⟩, by omega, by omega, Ext.refl _, by omega, by simp, (by (simp (disch := omega) only [go_sem, ↓reduceIte, Nat.reduceEqDiff, Nat.reduceAdd, Nat.reduceLeDiff]); try rfl), (by (simp (disch := omega) only [go_sem, ↓reduceIte, Nat.reduceEqDiff, Nat.reduceAdd, Nat.reduceLeDiff]); try rfl), (by (simp (disch := omega) only [go_sem, ↓reduceIte, Nat.reduceEqDiff, Nat.reduceAdd, Nat.reduceLeDiff]); try rfl)⟩
  rintro d ⟨env, loc⟩ st' ⟨j, m, o, hd, hj, hext, hm, ho, e0, e3, e4⟩
  simp only at e0 e3 e4
  have hol : o.size ≤ 20 := by
    have h2 := congrArg List.length ho
    have h3 := hlen _ rfl
    have h4 : digs n.natAbs = decDigits n.natAbs := by unfold digs; rw [if_neg (by omega)]
    rw [h4, List.length_append] at h2
    have h5 : o.data.toList.length = o.size := by simp
    omega
  by_cases hm0 : m = 0
  · subst hm0
    have c1 : ((0 : Int) != 0) = false := by decide
    have ho2 : o.data.toList = decDigits n.natAbs := by
      have h4 : digs n.natAbs = decDigits n.natAbs := by unfold digs; rw [if_neg (by omega)]
      rw [h4] at ho
      have h5 : digs (0 : Int).natAbs = [] := rfl
      rw [h5, List.nil_append] at ho
      exact ho
    cases hneg : decide (n < 0) with
    | true =>
      have hn2 : n < 0 := by simpa using hneg
      have e : (⟨#[45]⟩ : ByteArray) ++ o = ⟨(itoa n).toArray⟩ := by
        rw [app_mk, ho2]; unfold itoa; rw [if_pos hn2]
      have hs : (⟨#[45]⟩ : ByteArray).size + o.size ≤ 2 ^ 62 := by
        have : (⟨#[45]⟩ : ByteArray).size = 1 := rfl
        omega
      have had : ∀ (x y : Operand), binE Tryd.prog .add 9 x y (.string ⟨#[45]⟩) (.string o) = some (.string (⟨#[45]⟩ ++ o)) := fun x y => bin_sadd hs
      rw [← e]
      repeat (first | (refine W_reg rfl fun G K hG hK => ?_; simp (disch := omega) only [go_sem, ↓reduceIte, Nat.reduceEqDiff, Nat.reduceAdd, Nat.reduceLeDiff, hG, e0, e3, e4, c1, hneg]; refine hK _ _ ?_; clear hK K hG G) | (refine W_end rfl fun G K hG hK => ?_; simp (disch := omega) only [go_sem, ↓reduceIte, Nat.reduceEqDiff, Nat.reduceAdd, Nat.reduceLeDiff, hG, e0, e3, e4, c1, hneg]; refine hK _ _ ?_; clear hK K hG G; repeat (first | refine thenI ?_ | refine thenE ?_ | refine thenR ?_ | refine inBI ?_ | refine inBR ?_ | refine inBS ?_ | refine inBN (by decide) ?_)) | refine W_seqS ?_ | refine W_seqC ?_ | refine W_seqB ?_ | refine W_block ?_ | (refine W_skip ?_; repeat (first | refine thenI ?_ | refine thenE ?_ | refine thenR ?_ | refine inBI ?_ | refine inBR ?_ | refine inBS ?_ | refine inBN (by decide) ?_)) | (refine W_condT ?hc ?_; (case hc => (simp (disch := omega) only [go_sem, ↓reduceIte, Nat.reduceEqDiff, Nat.reduceAdd, Nat.reduceLeDiff, e0, e3, e4, c1, hneg]; done))) | (refine W_condF ?hc ?_; (case hc => (simp (disch := omega) only [go_sem, ↓reduceIte, Nat.reduceEqDiff, Nat.reduceAdd, Nat.reduceLeDiff, e0, e3, e4, c1, hneg]; done))))
      refine W_exit ?_; repeat (first | refine thenI ?_ | refine thenE ?_ | refine thenR ?_ | refine inBI ?_ | refine inBR ?_ | refine inBS ?_ | refine inBN (by decide) ?_)
      repeat (first | (refine W_reg rfl fun G K hG hK => ?_; simp (disch := omega) only [go_sem, ↓reduceIte, Nat.reduceEqDiff, Nat.reduceAdd, Nat.reduceLeDiff, hG, e0, e3, e4, hneg, had]; refine hK _ _ ?_; clear hK K hG G) | (refine W_end rfl fun G K hG hK => ?_; simp (disch := omega) only [go_sem, ↓reduceIte, Nat.reduceEqDiff, Nat.reduceAdd, Nat.reduceLeDiff, hG, e0, e3, e4, hneg, had]; refine hK _ _ ?_; clear hK K hG G; repeat (first | refine thenI ?_ | refine thenE ?_ | refine thenR ?_ | refine inBI ?_ | refine inBR ?_ | refine inBS ?_ | refine inBN (by decide) ?_)) | refine W_seqS ?_ | refine W_seqC ?_ | refine W_seqB ?_ | refine W_block ?_ | (refine W_skip ?_; repeat (first | refine thenI ?_ | refine thenE ?_ | refine thenR ?_ | refine inBI ?_ | refine inBR ?_ | refine inBS ?_ | refine inBN (by decide) ?_)) | (refine W_condT ?hc ?_; (case hc => (simp (disch := omega) only [go_sem, ↓reduceIte, Nat.reduceEqDiff, Nat.reduceAdd, Nat.reduceLeDiff, e0, e3, e4, hneg, had]; done))) | (refine W_condF ?hc ?_; (case hc => (simp (disch := omega) only [go_sem, ↓reduceIte, Nat.reduceEqDiff, Nat.reduceAdd, Nat.reduceLeDiff, e0, e3, e4, hneg, had]; done))))
      refine W_ret ?_; try (repeat (first | refine thenI ?_ | refine thenE ?_ | refine thenR ?_ | refine inBI ?_ | refine inBR ?_ | refine inBS ?_ | refine inBN (by decide) ?_))
      refine fin1 (.inl rfl) (by (simp (disch := omega) only [go_sem, ↓reduceIte, Nat.reduceEqDiff, Nat.reduceAdd, Nat.reduceLeDiff, e0, e3, e4]); try rfl) rfl ⟨hext, rfl⟩
    | false =>
      have hn2 : ¬ n < 0 := by simpa using hneg
      have e : o = ⟨(itoa n).toArray⟩ := by
        have h6 : itoa n = o.data.toList := by
          rw [ho2]; unfold itoa; rw [if_neg hn2, show n.toNat = n.natAbs by omega]
        rw [h6]
      rw [← e]
      repeat (first | (refine W_reg rfl fun G K hG hK => ?_; simp (disch := omega) only [go_sem, ↓reduceIte, Nat.reduceEqDiff, Nat.reduceAdd, Nat.reduceLeDiff, hG, e0, e3, e4, c1, hneg]; refine hK _ _ ?_; clear hK K hG G) | (refine W_end rfl fun G K hG hK => ?_; simp (disch := omega) only [go_sem, ↓reduceIte, Nat.reduceEqDiff, Nat.reduceAdd, Nat.reduceLeDiff, hG, e0, e3, e4, c1, hneg]; refine hK _ _ ?_; clear hK K hG G; repeat (first | refine thenI ?_ | refine thenE ?_ | refine thenR ?_ | refine inBI ?_ | refine inBR ?_ | refine inBS ?_ | refine inBN (by decide) ?_)) | refine W_seqS ?_ | refine W_seqC ?_ | refine W_seqB ?_ | refine W_block ?_ | (refine W_skip ?_; repeat (first | refine thenI ?_ | refine thenE ?_ | refine thenR ?_ | refine inBI ?_ | refine inBR ?_ | refine inBS ?_ | refine inBN (by decide) ?_)) | (refine W_condT ?hc ?_; (case hc => (simp (disch := omega) only [go_sem, ↓reduceIte, Nat.reduceEqDiff, Nat.reduceAdd, Nat.reduceLeDiff, e0, e3, e4, c1, hneg]; done))) | (refine W_condF ?hc ?_; (case hc => (simp (disch := omega) only [go_sem, ↓reduceIte, Nat.reduceEqDiff, Nat.reduceAdd, Nat.reduceLeDiff, e0, e3, e4, c1, hneg]; done))))
      refine W_exit ?_; repeat (first | refine thenI ?_ | refine thenE ?_ | refine thenR ?_ | refine inBI ?_ | refine inBR ?_ | refine inBS ?_ | refine inBN (by decide) ?_)
      repeat (first | (refine W_reg rfl fun G K hG hK => ?_; simp (disch := omega) only [go_sem, ↓reduceIte, Nat.reduceEqDiff, Nat.reduceAdd, Nat.reduceLeDiff, hG, e0, e3, e4, hneg]; refine hK _ _ ?_; clear hK K hG G) | (refine W_end rfl fun G K hG hK => ?_; simp (disch := omega) only [go_sem, ↓reduceIte, Nat.reduceEqDiff, Nat.reduceAdd, Nat.reduceLeDiff, hG, e0, e3, e4, hneg]; refine hK _ _ ?_; clear hK K hG G; repeat (first | refine thenI ?_ | refine thenE ?_ | refine thenR ?_ | refine inBI ?_ | refine inBR ?_ | refine inBS ?_ | refine inBN (by decide) ?_)) | refine W_seqS ?_ | refine W_seqC ?_ | refine W_seqB ?_ | refine W_block ?_ | (refine W_skip ?_; repeat (first | refine thenI ?_ | refine thenE ?_ | refine thenR ?_ | refine inBI ?_ | refine inBR ?_ | refine inBS ?_ | refine inBN (by decide) ?_)) | (refine W_condT ?hc ?_; (case hc => (simp (disch := omega) only [go_sem, ↓reduceIte, Nat.reduceEqDiff, Nat.reduceAdd, Nat.reduceLeDiff, e0, e3, e4, hneg]; done))) | (refine W_condF ?hc ?_; (case hc => (simp (disch := omega) only [go_sem, ↓reduceIte, Nat.reduceEqDiff, Nat.reduceAdd, Nat.reduceLeDiff, e0, e3, e4, hneg]; done))))
      refine W_ret ?_; try (repeat (first | refine thenI ?_ | refine thenE ?_ | refine thenR ?_ | refine inBI ?_ | refine inBR ?_ | refine inBS ?_ | refine inBN (by decide) ?_))
      refine fin1 (.inl rfl) (by (simp (disch := omega) only [go_sem, ↓reduceIte, Nat.reduceEqDiff, Nat.reduceAdd, Nat.reduceLeDiff, e0, e3, e4]); try rfl) rfl ⟨hext, rfl⟩
  · have c1 : (m != 0) = true := by simpa using hm0
    have hk : m.natAbs % 10 < 10 := Nat.mod_lt _ (by omega)
    have hmod := nat_tmod m
    have hdiv := nat_tdiv m
    generalize hc : UInt8.ofNat (48 + m.natAbs % 10) = c at *
    have hwd : IntKind.u8.wrap (48 + ((m.natAbs % 10 : Nat) : Int)) = ((c.toNat : Nat) : Int) := by rw [← hc]; exact wrap_digit _ hk
    have hstep : digs m.natAbs = digs (m.tdiv 10).natAbs ++ [c] := by rw [digs_step (by omega), hdiv, hc]
    have hcell : ∀ (j : Nat) v, (strCells ⟨#[c]⟩)[j]? = some v → cell (st' ++ [(⟨[.int .u8 (c.toNat : Int)], 5, 0⟩ : Blk)]) st'.length (0 + j) = some v := fun j v hv => by
      rw [cell_of getB2f, Nat.zero_add]
      exact hv
    have hcv : ∀ (A : List Tmp) (loc : Nat → Nat × List Value), cvB Tryd.prog A 22 9 (.slice (some ⟨st'.length, 0, none⟩) 1 1) loc (st' ++ [(⟨[.int .u8 (c.toNat : Int)], 5, 0⟩ : Blk)]) = some (.string ⟨#[c]⟩) := fun A loc => cvB_str (q := ⟨#[c]⟩) Tryd.underlying22 Tryd.underlying5 Tryd.underlying9 hcell
    have hci : ∀ x : Int, cvI Tryd.prog 3 5 (.int .i64 x) = some (.int .u8 (IntKind.u8.wrap x)) := fun x => cvI_int Tryd.underlying3 Tryd.underlying5
    have hs : (⟨#[c]⟩ : ByteArray).size + o.size ≤ 2 ^ 62 := by
      have : (⟨#[c]⟩ : ByteArray).size = 1 := rfl
      omega
    have had : ∀ (x y : Operand), binE Tryd.prog .add 9 x y (.string ⟨#[c]⟩) (.string o) = some (.string (⟨#[c]⟩ ++ o)) := fun x y => bin_sadd hs
    have hq : IntKind.i64.wrap (m.tdiv 10) = m.tdiv 10 := wrap_in (by omega) (by omega)
    have hnext : digs (m.tdiv 10).natAbs ++ ((⟨#[c]⟩ : ByteArray) ++ o).data.toList = digs n.natAbs := by
      rw [app_mk, ← ho, hstep]
      simp
    by_cases hneg : m.tmod 10 < 0
    · have c2 : decide (m.tmod 10 < 0) = true := by simpa using hneg
      have hw1 : IntKind.i64.wrap (0 - m.tmod 10) = ((m.natAbs % 10 : Nat) : Int) := by rw [wrap_in (by omega) (by omega)]; omega
      have hw2 : IntKind.i64.wrap (48 + ((m.natAbs % 10 : Nat) : Int)) = 48 + ((m.natAbs % 10 : Nat) : Int) := wrap_in (by omega) (by omega)
      repeat (first | (refine W_reg rfl fun G K hG hK => ?_; simp (disch := omega) only [go_sem, ↓reduceIte, Nat.reduceEqDiff, Nat.reduceAdd, Nat.reduceLeDiff, hG, e0, e3, e4, c1, ne_rem, c2, hw1, hw2, ev_conv, hci, hwd, hcv, had, ne_quo, hq]; refine hK _ _ ?_; clear hK K hG G) | (refine W_end rfl fun G K hG hK => ?_; simp (disch := omega) only [go_sem, ↓reduceIte, Nat.reduceEqDiff, Nat.reduceAdd, Nat.reduceLeDiff, hG, e0, e3, e4, c1, ne_rem, c2, hw1, hw2, ev_conv, hci, hwd, hcv, had, ne_quo, hq]; refine hK _ _ ?_; clear hK K hG G; repeat (first | refine thenI ?_ | refine thenE ?_ | refine thenR ?_ | refine inBI ?_ | refine inBR ?_ | refine inBS ?_ | refine inBN (by decide) ?_)) | refine W_seqS ?_ | refine W_seqC ?_ | refine W_seqB ?_ | refine W_block ?_ | (refine W_skip ?_; repeat (first | refine thenI ?_ | refine thenE ?_ | refine thenR ?_ | refine inBI ?_ | refine inBR ?_ | refine inBS ?_ | refine inBN (by decide) ?_)) | (refine W_condT ?hc ?_; (case hc => (simp (disch := omega) only [go_sem, ↓reduceIte, Nat.reduceEqDiff, Nat.reduceAdd, Nat.reduceLeDiff, e0, e3, e4, c1, ne_rem, c2, hw1, hw2, ev_conv, hci, hwd, hcv, had, ne_quo, hq]; done))) | (refine W_condF ?hc ?_; (case hc => (simp (disch := omega) only [go_sem, ↓reduceIte, Nat.reduceEqDiff, Nat.reduceAdd, Nat.reduceLeDiff, e0, e3, e4, c1, ne_rem, c2, hw1, hw2, ev_conv, hci, hwd, hcv, had, ne_quo, hq]; done))))
      refine ⟨n.natAbs - (j + 1), by omega, j + 1, m.tdiv 10, _, rfl, by omega, hext.trans (Ext.app _ _), by omega, hnext, (by (simp (disch := omega) only [go_sem, ↓reduceIte, Nat.reduceEqDiff, Nat.reduceAdd, Nat.reduceLeDiff, e0, e3, e4]); try rfl), (by (simp (disch := omega) only [go_sem, ↓reduceIte, Nat.reduceEqDiff, Nat.reduceAdd, Nat.reduceLeDiff, e0, e3, e4]); try rfl), (by (simp (disch := omega) only [go_sem, ↓reduceIte, Nat.reduceEqDiff, Nat.reduceAdd, Nat.reduceLeDiff, e0, e3, e4]); try rfl)⟩
    · have c2 : decide (m.tmod 10 < 0) = false := by simpa using hneg
      have hw1 : m.tmod 10 = ((m.natAbs % 10 : Nat) : Int) := by omega
      have hw2 : IntKind.i64.wrap (48 + ((m.natAbs % 10 : Nat) : Int)) = 48 + ((m.natAbs % 10 : Nat) : Int) := wrap_in (by omega) (by omega)
      rw [hw1] at c2
      repeat (first | (refine W_reg rfl fun G K hG hK => ?_; simp (disch := omega) only [go_sem, ↓reduceIte, Nat.reduceEqDiff, Nat.reduceAdd, Nat.reduceLeDiff, hG, e0, e3, e4, c1, ne_rem, hw1, c2, hw2, ev_conv, hci, hwd, hcv, had, ne_quo, hq]; refine hK _ _ ?_; clear hK K hG G) | (refine W_end rfl fun G K hG hK => ?_; simp (disch := omega) only [go_sem, ↓reduceIte, Nat.reduceEqDiff, Nat.reduceAdd, Nat.reduceLeDiff, hG, e0, e3, e4, c1, ne_rem, hw1, c2, hw2, ev_conv, hci, hwd, hcv, had, ne_quo, hq]; refine hK _ _ ?_; clear hK K hG G; repeat (first | refine thenI ?_ | refine thenE ?_ | refine thenR ?_ | refine inBI ?_ | refine inBR ?_ | refine inBS ?_ | refine inBN (by decide) ?_)) | refine W_seqS ?_ | refine W_seqC ?_ | refine W_seqB ?_ | refine W_block ?_ | (refine W_skip ?_; repeat (first | refine thenI ?_ | refine thenE ?_ | refine thenR ?_ | refine inBI ?_ | refine inBR ?_ | refine inBS ?_ | refine inBN (by decide) ?_)) | (refine W_condT ?hc ?_; (case hc => (simp (disch := omega) only [go_sem, ↓reduceIte, Nat.reduceEqDiff, Nat.reduceAdd, Nat.reduceLeDiff, e0, e3, e4, c1, ne_rem, hw1, c2, hw2, ev_conv, hci, hwd, hcv, had, ne_quo, hq]; done))) | (refine W_condF ?hc ?_; (case hc => (simp (disch := omega) only [go_sem, ↓reduceIte, Nat.reduceEqDiff, Nat.reduceAdd, Nat.reduceLeDiff, e0, e3, e4, c1, ne_rem, hw1, c2, hw2, ev_conv, hci, hwd, hcv, had, ne_quo, hq]; done))))
      refine ⟨n.natAbs - (j + 1), by omega, j + 1, m.tdiv 10, _, rfl, by omega, hext.trans (Ext.app _ _), by omega, hnext, (by (simp (disch := omega) only [go_sem, ↓reduceIte, Nat.reduceEqDiff, Nat.reduceAdd, Nat.reduceLeDiff, e0, e3, e4]); try rfl), (by (simp (disch := omega) only [go_sem, ↓reduceIte, Nat.reduceEqDiff, Nat.reduceAdd, Nat.reduceLeDiff, e0, e3, e4]); try rfl), (by (simp (disch := omega) only [go_sem, ↓reduceIte, Nat.reduceEqDiff, Nat.reduceAdd, Nat.reduceLeDiff, e0, e3, e4]); try rfl)⟩

end

section
/- The law FnExactFormatInt. -/
open Go Go.Proofs Go.Lib
set_option linter.unusedVariables false
set_option linter.unusedSimpArgs false
set_option maxRecDepth 100000
-- AUTO

theorem itoa_ok (n : Int) (st : St) (h0 : -9223372036854775808 ≤ n) (h1 : n ≤ 9223372036854775807) :
    CallS Tryd.prog 52 [.int .i64 n] st fun r st2 => r = .string ⟨(itoa n).toArray⟩ ∧ st2 = st := by
  refine ⟨⟨_, Tryd.func52, rfl, rfl⟩, fun M w vals hH hV => ?_⟩
  obtain ⟨v, rfl, hv⟩ := hV.one'
  obtain rfl := hv.flat_eq rfl
  have htab := hH.tab.pow (by decide +kernel)
  refine (Tryd.strconv_Itoa n h0 h1 w htab).mono fun e w' ⟨he, k, os, hw⟩ => ?_
  subst hw
  exact ⟨_, _, st, M, he, ⟨rfl, rfl⟩, .fl _ rfl, hH.below (below_grow _ w (Nat.le_refl _) k os)⟩
theorem implFormatInt_ok (n : Int) (st : St) (h0 : -9223372036854775808 ≤ n) (h1 : n ≤ 9223372036854775807) :
    CallS Tryd.prog 34 [.int .i64 n] st fun r st2 => r = .string ⟨(itoa n).toArray⟩ ∧ st2 = st := by
  refine CallS_of_W [] 5 Tryd.func34 rfl rfl rfl rfl (by simp) ?_
  repeat (first | (refine W_reg rfl fun G K hG hK => ?_; simp (disch := omega) only [go_sem, ↓reduceIte, Nat.reduceEqDiff, Nat.reduceAdd, Nat.reduceLeDiff, hG]; refine hK _ _ ?_; clear hK K hG G) | (refine W_end rfl fun G K hG hK => ?_; simp (disch := omega) only [go_sem, ↓reduceIte, Nat.reduceEqDiff, Nat.reduceAdd, Nat.reduceLeDiff, hG]; refine hK _ _ ?_; clear hK K hG G; repeat (first | refine thenI ?_ | refine thenE ?_ | refine thenR ?_ | refine inBI ?_ | refine inBR ?_ | refine inBS ?_ | refine inBN (by decide) ?_)) | refine W_seqS ?_ | refine W_seqC ?_ | refine W_seqB ?_ | refine W_block ?_ | (refine W_skip ?_; repeat (first | refine thenI ?_ | refine thenE ?_ | refine thenR ?_ | refine inBI ?_ | refine inBR ?_ | refine inBS ?_ | refine inBN (by decide) ?_)) | (refine W_condT ?hc ?_; (case hc => (simp (disch := omega) only [go_sem, ↓reduceIte, Nat.reduceEqDiff, Nat.reduceAdd, Nat.reduceLeDiff]; done))) | (refine W_condF ?hc ?_; (case hc => (simp (disch := omega) only [go_sem, ↓reduceIte, Nat.reduceEqDiff, Nat.reduceAdd, Nat.reduceLeDiff]; done))))
  (repeat (first | refine W_seqS ?_ | refine W_seqC ?_ | refine W_seqB ?_ | refine W_block ?_)); refine W_reg rfl fun G K hG hK => ?_; simp (disch := omega) only [go_sem, ↓reduceIte, Nat.reduceEqDiff, Nat.reduceAdd, Nat.reduceLeDiff, hG]
  refine w_call (itoa_ok n st h0 h1) (by simp (disch := omega) only [go_sem, ↓reduceIte, Nat.reduceEqDiff]) ?hl ?_
  case hl => first | rfl | (simp only [go_sem, List.all_cons, List.all_nil, Bool.not_false, Bool.and_self]; done)
  rintro r_ st ⟨rfl, rfl⟩; refine ⟨fun e => (by cases e), ?_⟩
  simp (disch := omega) only [go_sem, ↓reduceIte, Nat.reduceEqDiff, Nat.reduceAdd, Nat.reduceLeDiff, hG]; refine hK _ _ ?_; clear hK K hG G; repeat (first | refine thenI ?_ | refine thenE ?_ | refine thenR ?_ | refine inBI ?_ | refine inBR ?_ | refine inBS ?_ | refine inBN (by decide) ?_)
  refine W_ret ?_; try (repeat (first | refine thenI ?_ | refine thenE ?_ | refine thenR ?_ | refine inBI ?_ | refine inBR ?_ | refine inBS ?_ | refine inBN (by decide) ?_))
  refine fin1 (.inl rfl) (by (simp (disch := omega) only [go_sem, ↓reduceIte, Nat.reduceEqDiff, Nat.reduceAdd, Nat.reduceLeDiff]); try rfl) rfl ⟨rfl, rfl⟩

end

section
/- Numbers are read: strconv.Atoi lifted. -/
open Go Go.Proofs Go.Lib
set_option linter.unusedVariables false
set_option linter.unusedSimpArgs false
set_option maxRecDepth 100000
-- AUTO

/-- What Atoi answers. -/
def AtoiQ (s : ByteArray) (st : St) (r : Value) (st2 : St) : Prop := Ext st st2 ∧ match atoiAll s.data.toList with
  | .ok v => r = .tuple #[.int .i64 v, .nilIface]
  | _ => ∃ n t p, r = .tuple #[.int .i64 n, .iface t p] ∧ isLoc (.iface t p) = false ∧ flat (.iface t p) = false
/-- A new block of which nothing is told, behind a call of the library. -/
theorem HR.newFar {P : Program} {M : List ME} {st : St} {w w' : World} {N : Nat} {c : Array Value} {e : TypeId} (h : HR P ⟨w, M, st⟩ M st w) (k : Go.RowKit.Below w.heap.size w w') (hN : w.heap.size ≤ N) (hb : w'.heap[N]? = some (.cells c e (0, 0))) :
    HR P ⟨w, M, st⟩ (M ++ [⟨N, 0, 0, false⟩]) (st ++ [farB]) w' :=
  (h.below k).far (n := w.heap.size) (fun i m hm => h.lt i m hm) hN (Array.getElem?_eq_some_iff.1 hb).1 hN
theorem vr_err {M : List ME} {st : St} {N t : Nat} {n : Int} (hl : M.length = st.length) : VR (M ++ [⟨N, 0, 0, false⟩]) (.tuple #[.int .i64 n, .iface t (.pointer (some ⟨st.length, 0, none⟩))]) (.tuple #[.int .i64 n, .iface t (.pointer (some ⟨N, 0, none⟩))]) := by
  refine .tup _ _ rfl fun i x y hx hy => ?_
  match i, hx, hy with
  | 0, hx, hy =>
    cases hx; cases hy
    exact .fl _ rfl
  | 1, hx, hy =>
    cases hx; cases hy
    refine .ifc _ _ _ (.ptr st.length 0 ⟨N, 0, 0, false⟩ ?_)
    rw [← hl, List.getElem?_append_right (Nat.le_refl _), Nat.sub_self]; rfl
theorem atoi_ok (s : ByteArray) (st : St) (hb : s.size ≤ 281474976710656) : CallS Tryd.prog 64 [.string s] st (AtoiQ s st) := by
  refine ⟨⟨_, Tryd.func64, rfl, rfl⟩, fun M w vals hH hV => ?_⟩
  obtain ⟨v, rfl, hv⟩ := hV.one'
  obtain rfl := hv.flat_eq rfl
  cases ha : atoiAll s.data.toList with
  | ok n =>
    refine (Tryd.strconv_Atoi_ok s (by omega) n ha w).mono fun e w' ⟨he, hw⟩ => ?_
    have hbel : Go.RowKit.Below w.heap.size w w' := by
      rcases hw with rfl | ⟨t, rfl⟩
      · exact Go.RowKit.Below.refl _ _
      · exact Lib.bytesWorld_below _ _ _
    exact ⟨.tuple #[.int .i64 n, .nilIface], _, st, M, he, ⟨Ext.refl _, (by simp only [ha])⟩, .of_flat (by simp [flat]; exact ⟨rfl, rfl⟩), hH.below hbel⟩
  | «syntax» =>
    obtain ⟨tp, p, hvar⟩ := hH.tab.err "strconv.ErrSyntax" (.inl rfl) (by decide +kernel)
    refine (Tryd.strconv_Atoi_syntax_var s hb ha tp p w hvar).mono fun e w' ⟨N, he, hN, hc, hbel⟩ => ?_
    exact ⟨_, _, st ++ [farB], M ++ [⟨N, 0, 0, false⟩], he, ⟨Ext.app _ _, by rw [ha]; exact ⟨_, _, _, rfl, rfl, rfl⟩⟩, vr_err hH.len, hH.newFar hbel hN hc⟩
  | range =>
    obtain ⟨tp, p, hvar⟩ := hH.tab.err "strconv.ErrRange" (.inr rfl) (by decide +kernel)
    refine (Tryd.strconv_Atoi_range_var s hb ha tp p w hvar).mono fun e w' ⟨N, he, hN, hc, hbel⟩ => ?_
    exact ⟨_, _, st ++ [farB], M ++ [⟨N, 0, 0, false⟩], he, ⟨Ext.app _ _, by rw [ha]; exact ⟨_, _, _, rfl, rfl, rfl⟩⟩, vr_err hH.len, hH.newFar hbel hN hc⟩

end

end Go.Proofs.YtpkjgjomiikofaaDoor.AM
/- Strings: a byte, a part. -/
namespace Go.Proofs.YtpkjgjomiikofaaDoor.AM
open Go Go.Proofs
set_option linter.unusedVariables false
set_option linter.unusedSimpArgs false

def byteAt (s : ByteArray) (i : Nat) : Int := ((s.data.toList.getD i 0).toNat : Int)
section
variable {P : Program} {t : TypeId} {s : ByteArray}
theorem idxS (ht : P.underlying t = some .string) {k : IntKind} {i : Int} (h0 : 0 ≤ i) (h1 : i < s.size) : flatRun P (Instr.index t (.string s) (.int k i)) = some (.int .u8 (byteAt s i.toNat)) := by
  have h2 : i.toNat < s.size := by omega
  have h3 : (if 0 ≤ i then s[i.toNat]? else none) = some s[i.toNat] := by rw [if_pos h0, ByteArray.getElem?_lt' s _ h2]
  have h4 : ((s[i.toNat]).toNat : Int) = byteAt s i.toNat := by
    unfold byteAt
    have h5 : i.toNat < s.data.toList.length := by simpa using h2
    rw [List.getD_eq_getElem?_getD, List.getElem?_eq_getElem h5]
    simp [ByteArray.getElem_eq_getElem_data]
  have hc : pureRun P (Instr.index t (.string s) (.int k i)) = some (.int .u8 (byteAt s i.toNat)) := by
    unfold Instr.index
    rw [pureRun_bind]
    show (some (k, i)).bind _ = _
    simp only [Option.bind_some]
    rw [pureRun_bind, pureRun_und ht]
    simp only [Option.bind_some]
    rw [h3, ← h4]
    rfl
  unfold flatRun
  rw [hc]; rfl
theorem bndS {x : Value} {k : IntKind} {i : Int} {y : Nat} {c : BoundsCode} (hx : x = .int k i) (h0 : 0 ≤ i) (h1 : i ≤ y) : pureRun P (Instr.sliceBound x y c) = some i.toNat := by
  subst hx
  unfold Instr.sliceBound
  rw [pureRun_bind]
  show (some (k, i)).bind _ = _
  simp only [Option.bind_some]
  rw [if_pos ⟨h0, h1⟩]
  rfl
theorem slice_of (ht : P.underlying t = some .string) {lo hi : Option Value} {l h : Nat} (hb : pureRun P (Instr.sliceBounds false s.size s.size lo hi none) = some (l, h, s.size)) : flatRun P (Instr.sliceAt t (.string s) lo hi none) = some (.string (s.extract l h)) := by
  have hc : pureRun P (Instr.sliceAt t (.string s) lo hi none) = some (.string (s.extract l h)) := by
    unfold Instr.sliceAt
    rw [pureRun_bind, pureRun_und ht]
    simp only [Option.bind_some]
    unfold Instr.slice
    rw [pureRun_bind, pureRun_und ht]
    simp only [Option.bind_some, Option.isSome_none, Bool.false_eq_true, if_false]
    rw [pureRun_bind, hb]
    rfl
  unfold flatRun
  rw [hc]; rfl
theorem sliceS_lh (ht : P.underlying t = some .string) {k k' : IntKind} {l h : Int} (h0 : 0 ≤ l) (h1 : l ≤ h) (h2 : h ≤ s.size) : flatRun P (Instr.sliceAt t (.string s) (some (.int k l)) (some (.int k' h)) none) = some (.string (s.extract l.toNat h.toNat)) := by
  refine slice_of ht ?_
  unfold Instr.sliceBounds
  rw [pureRun_bind]
  show (some s.size).bind _ = _
  simp only [Option.bind_some]
  rw [pureRun_bind, bndS rfl (by omega) h2]
  simp only [Option.bind_some]
  rw [pureRun_bind, bndS rfl h0 (by omega)]
  rfl
theorem sliceS_l (ht : P.underlying t = some .string) {k : IntKind} {l : Int} (h0 : 0 ≤ l) (h1 : l ≤ s.size) : flatRun P (Instr.sliceAt t (.string s) (some (.int k l)) none none) = some (.string (s.extract l.toNat s.size)) := by
  refine slice_of ht ?_
  unfold Instr.sliceBounds
  rw [pureRun_bind]
  show (some s.size).bind _ = _
  simp only [Option.bind_some]
  rw [pureRun_bind]
  show (some s.size).bind _ = _
  simp only [Option.bind_some]
  rw [pureRun_bind, bndS rfl h0 h1]
  rfl
theorem sliceS_h (ht : P.underlying t = some .string) {k : IntKind} {h : Int} (h0 : 0 ≤ h) (h1 : h ≤ s.size) : flatRun P (Instr.sliceAt t (.string s) none (some (.int k h)) none) = some (.string (s.extract 0 h.toNat)) := by
  refine slice_of ht ?_
  unfold Instr.sliceBounds
  rw [pureRun_bind]
  show (some s.size).bind _ = _
  simp only [Option.bind_some]
  rw [pureRun_bind, bndS rfl h0 h1]
  simp only [Option.bind_some]
  rw [pureRun_bind]
  rfl
end
theorem ext_toList (s : ByteArray) (l h : Nat) : (s.extract l h).data.toList = (s.data.toList.drop l).take (h - l) := by
  simp [ByteArray.data_extract]
end Go.Proofs.YtpkjgjomiikofaaDoor.AM


namespace Go.Proofs.YtpkjgjomiikofaaDoor.AM
open Go
attribute [local go_sem] List.map_cons List.map_nil List.all_cons List.all_nil Bool.and_self Option.map_some List.getElem?_toArray Option.bind_some gye_b gye_t gsk_b gsk_t gb1 gb2 gb3 gb4 bne_self_eq_false beq_self_eq_true w_guard w_nil stepV_some step_some step_some' w_move w_assign w_pick w_binOp w_unOp w_load w_fieldAddr w_indexAddr w_len w_max w_index ev_max max_int ev_index w_box w_alloc w_store w_field w_extract w_nilCheck w_convert w_buildSlice w_build ev_buildL fillL_nil fillL_cons bs0 bs1 ev_conv ev_bin ev_un ev_pick ev_load ev_fieldAddr ev_indexAddr ev_len ev_field ev_extract ev_nilCheck fr_tmp fr_int fr_bool fr_str fr_nil fr_func put_some put_none bin_lss bin_leq bin_gtr bin_geq bin_eql bin_neq bin_add bin_sub bin_mul bin_seql bin_sneq un_not pick_ ext_ loadA_p cellAt_l cellAt_h okPtr_l okPtr_h fadA_p allocA_l storeA_l cells_agg cells_int cells_str cells_sl cells_bool flat_i flat_s flat_b flat_sl flat_nil loc_agg loc_int loc_str loc_sl loc_bool loc_fn loc_ptr okv_agg okv_int okv_str okv_sl okv_bool cellsFrom splice upd_eval argEnv_zero argEnv_succ ne_eq Nat.add_one_ne_zero not_false_eq_true List.not_mem_nil and_self decide_true List.getElem?_cons_zero List.getElem?_cons_succ List.size_toArray List.length_cons List.length_nil List.take_succ_cons List.take_zero List.drop_succ_cons List.drop_zero List.cons_append List.nil_append List.drop_nil Bool.not_true Bool.not_false Bool.false_eq_true Nat.zero_add Nat.add_zero wrap_in List.toList_toArray List.mem_cons or_self or_false false_or
attribute [local go_sem] ag22 ag24 ag26 ag3 ag4 ag5 ag78 ag83 ag9 ag91 bu116 bu122 bu26 bu39 bu49 bu58 by26 by5 by9 el22 el24 el46 el53 of26_0 of26_1 of26_2 of26_3 of39_0 of49_0 of49_1 of49_2 of58_0 of58_1 of58_2 of80_0 of80_1 ro26_0 ro26_1 ro26_2 ro3_3 ro5_1 ro9_1 ro9_2 ro9_3 ro9_4 ro9_8 sz22 sz24 sz26 sz3 sz4 sz5 sz78 sz83 sz9 sz91 ze109 ze26 ze5 ze80 ze9 ze90
section
/- The marks: laws.markTermS, laws.markTerm, laws.heldTermS, laws.heldTerm. -/
open Go Go.Proofs
set_option linter.unusedVariables false
set_option linter.unusedSimpArgs false
set_option maxRecDepth 100000

mutual
def T.mk1 : T → Nat → T × Nat
  | .mk _ _ _ args, k => (.mk k (k + 1 : Nat) (mtext (k + 2)) (T.mkL args (k + 3)).1, (T.mkL args (k + 3)).2)
def T.mkL : List T → Nat → List T × Nat
  | [], k => ([], k)
  | x :: xs, k => ((x.mk1 k).1 :: (T.mkL xs (x.mk1 k).2).1, (T.mkL xs (x.mk1 k).2).2)
end
theorem T.mk1_ge : ∀ (t : T) (k : Nat), k ≤ (t.mk1 k).2 ∧ k + 3 ≤ (t.mk1 k).2 := by
  refine T.ind fun k0 n nm args ih k => ?_
  have : ∀ (l : List T), (∀ a ∈ l, ∀ k, k ≤ (a.mk1 k).2 ∧ k + 3 ≤ (a.mk1 k).2) → ∀ k, k ≤ (T.mkL l k).2 := by
    intro l
    induction l with
    | nil => intro _ k; exact Nat.le_refl _
    | cons x xs ihx =>
      intro h k
      simp only [T.mkL]
      have h1 := (h x (by simp) k).1
      have h2 := ihx (fun a ha => h a (by simp [ha])) (x.mk1 k).2
      omega
  have h := this args ih (k + 3)
  simp only [T.mk1]
  omega
theorem SliceO.at_ {st : St} {e : TypeId} {xs : List T} {s : Value} {L : List Nat} (h : SliceO (Own e st) e st xs s L) {j : Nat} {k n : Int} {nm : ByteArray} {args : List T} (hx : xs[j]? = some (.mk k n nm args)) :
    ∃ i c c1 c2 s' L1 Lx L2, s = .slice (some ⟨i, 0, none⟩) xs.length c ∧ st[i]? = some ⟨c1 ++ .int .i64 k :: .int .i64 n :: .string nm :: s' :: c2, e, 0⟩ ∧ c1.length = j * 4 ∧ RowO (Own e st) (xs.take j) c1 L1 ∧ SliceO (Own e st) e st args s' Lx ∧ RowO (Own e st) (xs.drop (j + 1)) c2 L2 ∧ L = i :: (L1 ++ Lx ++ L2) := by
  rcases h with ⟨rfl, rfl, rfl⟩ | ⟨i, c, cs, K, rfl, hb, hr, rfl⟩
  · simp at hx
  · obtain ⟨c1, cx, c2, L1, Lx, L2, h1, h2, h3, rfl, rfl⟩ := hr.split j _ hx
    obtain ⟨s', rfl, hs'⟩ := h2.open
    have hl := h1.len Own.len
    have hj : j < xs.length := (List.getElem?_eq_some_iff.1 hx).1
    refine ⟨i, c, c1, c2, s', L1, Lx, L2, rfl, by simpa using hb, by rw [hl, List.length_take, Nat.min_eq_left (by omega)], h1, hs', h3, rfl⟩

theorem RowO.frame {st st' : St} {e : TypeId} {xs : List T} {cs : List Value} {L : List Nat} (h : RowO (Own e st) xs cs L) (hs : SameOn L st st') : RowO (Own e st') xs cs L :=
  h.mono fun x _ cx Lx hL he => Own.frame x cx Lx (fun j hj => hs j (hL j hj)) he

/-- The place holds another tree, all else of the row is as it was. -/
theorem SliceO.put {st st' : St} {e : TypeId} {xs ys : List T} {i c j : Nat} {c1 c2 : List Value} {s' : Value} {L1 Lx L2 : List Nat} {k n : Int} {nm : ByteArray} {args : List T} (hj : j < xs.length) (hl1 : ys.length = j)
    (h1 : RowO (Own e st) ys c1 L1) (h2 : RowO (Own e st) (xs.drop (j + 1)) c2 L2) (hb : st'[i]? = some ⟨c1 ++ .int .i64 k :: .int .i64 n :: .string nm :: s' :: c2, e, 0⟩) (hx : SliceO (Own e st') e st' args s' Lx)
    (hs1 : SameOn L1 st st') (hs2 : SameOn L2 st st') : SliceO (Own e st') e st' (ys ++ .mk k n nm args :: xs.drop (j + 1)) (.slice (some ⟨i, 0, none⟩) xs.length c) (i :: (L1 ++ Lx ++ L2)) := by
  refine .inr ⟨i, c, _, L1 ++ Lx ++ L2, ?_, hb, ?_, rfl⟩
  · have : (ys ++ T.mk k n nm args :: xs.drop (j + 1)).length = xs.length := by simp; omega
    rw [this]
  · rw [List.append_assoc]
    exact (h1.frame hs1).app (.cons _ _ [_, _, _, _] c2 Lx L2 (Own.close k n nm hx) (h2.frame hs2))


end

section
/- Builders: laws.toTermS, laws.toTerm. -/
open Go Go.Proofs
set_option linter.unusedVariables false
set_option linter.unusedSimpArgs false
set_option maxRecDepth 100000

/-- A term of the program's own, new since n. -/
abbrev OwnT (st : St) (t : T) (cs : List Value) (L : List Nat) : Prop := Own 26 st t cs L


end

section
/- Readers of terms: laws.eqTermS, laws.eqTerm, laws.szTermS, laws.szTerm. -/
open Go Go.Proofs
set_option linter.unusedVariables false
set_option linter.unusedSimpArgs false
set_option maxRecDepth 100000


end

section
/- A tree behind a row of one's own. -/
open Go Go.Proofs
set_option linter.unusedVariables false
set_option linter.unusedSimpArgs false
set_option maxRecDepth 100000

/-- Every name is short. -/
inductive LimN (B : Nat) : T → Prop
  | mk (k n : Int) (nm : ByteArray) (args : List T) (h : nm.size ≤ B) (hs : ∀ a ∈ args, LimN B a) : LimN B (.mk k n nm args)
theorem LimN.of_wt {B : Nat} : ∀ t : T, t.wt ≤ B → LimN B t := by
  refine T.ind fun k n nm args ih h => ?_
  simp only [T.wt] at h
  exact .mk k n nm args (by omega) fun a ha => ih a ha (by have := T.wt_mem ha; omega)
theorem LimN.args {B : Nat} {k n : Int} {nm : ByteArray} {args : List T} (h : LimN B (.mk k n nm args)) : nm.size ≤ B ∧ ∀ a ∈ args, LimN B a := by cases h; exact ⟨by assumption, by assumption⟩

/-- A tree is put behind a row of one's own. -/
theorem Own.step {n0 : Nat} {st st2 : St} {xs : List T} {s : Value} {L : List Nat} {x : T} {cx : List Value} {Lx : List Nat} (h : SliceO (Own 26 st) 26 st xs s L) (hf : Fresh n0 L) (hn0 : n0 ≤ st.length) (hext : Ext st st2)
    (hx : Own 26 st2 x cx Lx) (hfx : Fresh st.length Lx) (hb : xs.length + 1 ≤ 1099511627776) :
    ∃ s' st' L', appendA Tryd.prog 24 24 s (.slice (some ⟨st2.length, 0, none⟩) 1 1) (st2 ++ [⟨cx, 26, 0⟩]) = some (s', st') ∧ SliceO (Own 26 st') 26 st' (xs ++ [x]) s' L' ∧ Fresh n0 L' ∧ st2.length ≤ st'.length ∧ (∀ i, i < n0 → st'[i]? = st2[i]?) :=
  SliceO.step (fun _ _ => Own.frame) (fun _ => Own.lt) (fun _ => Own.len) Tryd.underlying24 sz26 by26 ze26 rfl h hf hn0 hext hx hfx (by omega) (by omega)


end

section
/- Copies of trees: impl.copyTerm, spec.l3Copy. -/
open Go Go.Proofs
set_option linter.unusedVariables false
set_option linter.unusedSimpArgs false
set_option maxRecDepth 100000


end

end Go.Proofs.YtpkjgjomiikofaaDoor.AM
/- Kinds: numbers, strings, terms, bindings. -/
namespace Go.Proofs.YtpkjgjomiikofaaDoor.AM
open Go
set_option linter.unusedVariables false
set_option linter.unusedSimpArgs false

instance : Kind Int where
  sz := 1
  e := 3
  enc := fun _ n cs => cs = [.int .i64 n]
  own := fun _ n cs L => cs = [.int .i64 n] ∧ L = []
  enc_len := fun _ _ _ h => by rw [h]; rfl
  enc_ext := fun _ _ _ _ _ h => h
  own_len := fun _ _ _ _ h => by rw [h.1]; rfl
  own_lt := fun _ _ _ _ h => by rw [h.2]; simp
  own_frame := fun _ _ _ _ _ _ h => h
  own_enc := fun _ _ _ _ h => h.1
instance : Marks Int where
  mk1 := fun _ k => (k, k + 1)
  mk1_ge := fun _ k => Nat.le_succ k
instance : Kind ByteArray where
  sz := 1
  e := 9
  enc := fun _ n cs => cs = [.string n]
  own := fun _ n cs L => cs = [.string n] ∧ L = []
  enc_len := fun _ _ _ h => by rw [h]; rfl
  enc_ext := fun _ _ _ _ _ h => h
  own_len := fun _ _ _ _ h => by rw [h.1]; rfl
  own_lt := fun _ _ _ _ h => by rw [h.2]; simp
  own_frame := fun _ _ _ _ _ _ h => h
  own_enc := fun _ _ _ _ h => h.1
instance : Marks ByteArray where
  mk1 := fun _ k => (mtext k, k + 1)
  mk1_ge := fun _ k => Nat.le_succ k
instance : Flat Int where
  flat_own := fun _ _ _ h => And.intro h rfl
instance : Flat ByteArray where
  flat_own := fun _ _ _ h => And.intro h rfl
/-- How much a datum weighs. -/
class Wt (α : Type) where
  wt : α → Nat
def wtL {α : Type} [Wt α] : List α → Nat
  | [] => 0
  | x :: xs => Wt.wt x + wtL xs
instance : Wt ByteArray := ⟨ByteArray.size⟩
instance : Kind T where
  sz := 4
  e := 26
  enc := Enc
  own := Own 26
  enc_len := fun _ x _ h => by cases x; obtain ⟨s, rfl, _⟩ := h.open; rfl
  enc_ext := fun _ _ x cs hx h => Enc.ext hx x cs h
  own_len := fun _ => Own.len
  own_lt := fun _ => Own.lt
  own_frame := fun _ _ => Own.frame
  own_enc := fun _ => Own.enc
instance : Marks T where
  mk1 := T.mk1
  mk1_ge := fun x k => (T.mk1_ge x k).1
theorem T.eta (x : T) : ∃ k n nm args, x = .mk k n nm args := by cases x; exact ⟨_, _, _, _, rfl⟩
abbrev RowT (st : St) (xs : List T) (s : Value) : Prop := Row (Enc st) 4 st xs s
theorem Own.args_cells {e : TypeId} {st : St} {t : T} {cs : List Value} {L : List Nat} (h : Own e st t cs L) : ∃ k n nm s, cs = [.int .i64 k, .int .i64 n, .string nm, s] ∧ okv s = true ∧ isLoc s = false ∧ vc s = #[s] := by
  obtain ⟨k, n, nm, args⟩ := t
  obtain ⟨s, rfl, hs⟩ := h.open
  exact ⟨k, n, nm, s, rfl, hs.okv, hs.loc, hs.cells⟩
instance : Wt T := ⟨T.wt⟩
end Go.Proofs.YtpkjgjomiikofaaDoor.AM


/- Kinds: bindings. -/
namespace Go.Proofs.YtpkjgjomiikofaaDoor.AM
open Go
set_option linter.unusedVariables false
set_option linter.unusedSimpArgs false

/-- A binding. -/
structure Bnd where
  nm : ByteArray
  tm : T
end Go.Proofs.YtpkjgjomiikofaaDoor.AM


namespace Go.Proofs.YtpkjgjomiikofaaDoor.AM
open Go
attribute [local go_sem] List.map_cons List.map_nil List.all_cons List.all_nil Bool.and_self Option.map_some List.getElem?_toArray Option.bind_some gye_b gye_t gsk_b gsk_t gb1 gb2 gb3 gb4 bne_self_eq_false beq_self_eq_true w_guard w_nil stepV_some step_some step_some' w_move w_assign w_pick w_binOp w_unOp w_load w_fieldAddr w_indexAddr w_len w_max w_index ev_max max_int ev_index w_box w_alloc w_store w_field w_extract w_nilCheck w_convert w_buildSlice w_build ev_buildL fillL_nil fillL_cons bs0 bs1 ev_conv ev_bin ev_un ev_pick ev_load ev_fieldAddr ev_indexAddr ev_len ev_field ev_extract ev_nilCheck fr_tmp fr_int fr_bool fr_str fr_nil fr_func put_some put_none bin_lss bin_leq bin_gtr bin_geq bin_eql bin_neq bin_add bin_sub bin_mul bin_seql bin_sneq un_not pick_ ext_ loadA_p cellAt_l cellAt_h okPtr_l okPtr_h fadA_p allocA_l storeA_l cells_agg cells_int cells_str cells_sl cells_bool flat_i flat_s flat_b flat_sl flat_nil loc_agg loc_int loc_str loc_sl loc_bool loc_fn loc_ptr okv_agg okv_int okv_str okv_sl okv_bool cellsFrom splice upd_eval argEnv_zero argEnv_succ ne_eq Nat.add_one_ne_zero not_false_eq_true List.not_mem_nil and_self decide_true List.getElem?_cons_zero List.getElem?_cons_succ List.size_toArray List.length_cons List.length_nil List.take_succ_cons List.take_zero List.drop_succ_cons List.drop_zero List.cons_append List.nil_append List.drop_nil Bool.not_true Bool.not_false Bool.false_eq_true Nat.zero_add Nat.add_zero wrap_in List.toList_toArray List.mem_cons or_self or_false false_or
attribute [local go_sem] ag22 ag24 ag26 ag3 ag4 ag5 ag78 ag83 ag9 ag91 bu116 bu122 bu26 bu39 bu49 bu58 by26 by5 by9 el22 el24 el46 el53 of26_0 of26_1 of26_2 of26_3 of39_0 of49_0 of49_1 of49_2 of58_0 of58_1 of58_2 of80_0 of80_1 ro26_0 ro26_1 ro26_2 ro3_3 ro5_1 ro9_1 ro9_2 ro9_3 ro9_4 ro9_8 sz22 sz24 sz26 sz3 sz4 sz5 sz78 sz83 sz9 sz91 ze109 ze26 ze5 ze80 ze9 ze90
section
/- Rows of bindings: laws.szBind, szBindS, toBind, toBindS, eqBind, eqBindS, markBindS, heldBindS. -/
open Go Go.Proofs
set_option linter.unusedVariables false
set_option linter.unusedSimpArgs false
set_option maxRecDepth 100000
-- AUTO


end

section
/- Bindings are found and applied: impl.bound, impl.FindBind, spec.l7At, spec.FindBind, impl.ApplySubst, spec.ApplySubst. -/
open Go Go.Proofs
set_option linter.unusedVariables false
set_option linter.unusedSimpArgs false
set_option maxRecDepth 100000
-- AUTO

def T.zero' : T := .mk 0 0 ⟨#[]⟩ []
theorem Lim.zero' {B : Nat} : Lim B T.zero' := .mk _ _ _ _ (by simp) (by simp)
/-- The term of the first binding of a name. -/
def findB (nm : ByteArray) : List Bnd → Option T
  | [] => none
  | b :: bs => if (b.nm.toList == nm.toList) = true then some b.tm else findB nm bs
theorem findB_mem {nm : ByteArray} {bs : List Bnd} {t : T} (h : findB nm bs = some t) : ∃ b ∈ bs, b.tm = t := by
  induction bs with
  | nil => cases h
  | cons b bs ih =>
    simp only [findB] at h
    split at h
    · exact ⟨b, by simp, Option.some.inj h⟩
    · obtain ⟨b', h1, h2⟩ := ih h; exact ⟨b', by simp [h1], h2⟩
abbrev findD (nm : ByteArray) (bs : List Bnd) : T := (findB nm bs).getD T.zero'
theorem Lim.findD {B : Nat} {nm : ByteArray} {bs : List Bnd} (h : ∀ b ∈ bs, Lim B b.tm) : Lim B (findD nm bs) := by
  unfold AM.findD
  cases hf : findB nm bs with
  | none => exact .zero'
  | some t => obtain ⟨b, h1, rfl⟩ := findB_mem hf; exact h b h1


end

section
/- Substitutions are applied: impl.ApplySubst, spec.ApplySubst. -/
open Go Go.Proofs
set_option linter.unusedVariables false
set_option linter.unusedSimpArgs false
set_option maxRecDepth 100000
-- AUTO

mutual
def T.sub (bs : List Bnd) : T → T
  | .mk k n nm args => if ((k == 1) && (findB nm bs).isSome) = true then findD nm bs else .mk k n nm (T.subL bs args)
def T.subL (bs : List Bnd) : List T → List T
  | [] => []
  | x :: xs => x.sub bs :: T.subL bs xs
end
theorem T.subL_map (bs : List Bnd) (xs : List T) : T.subL bs xs = xs.map (T.sub bs) := by
  induction xs with
  | nil => rfl
  | cons x xs ih => simp only [T.subL, List.map_cons, ih]
theorem Lim.sub {B : Nat} {bs : List Bnd} (hb : ∀ b ∈ bs, Lim B b.tm) : ∀ t : T, Lim B t → Lim B (t.sub bs) := by
  refine T.ind fun k n nm args ih h => ?_
  by_cases h1 : ((k == 1) && (findB nm bs).isSome) = true
  · simp only [T.sub, h1, if_true]; exact Lim.findD hb
  · simp only [T.sub, if_neg h1, T.subL_map]
    refine .mk _ _ _ _ (by simpa using h.args.1) fun a ha => ?_
    obtain ⟨x, hx, rfl⟩ := List.mem_map.1 ha
    exact ih x hx (h.args.2 x hx)


end

section
/- Substitutions are composed: impl.copyBind, impl.ComposeSubst, spec.ComposeSubst. -/
open Go Go.Proofs
set_option linter.unusedVariables false
set_option linter.unusedSimpArgs false
set_option maxRecDepth 100000
-- AUTO


end

section
/- Terms are compared: impl.EqualTerm, spec.EqualTerm. -/
open Go Go.Proofs
set_option linter.unusedVariables false
set_option linter.unusedSimpArgs false
set_option maxRecDepth 100000
-- AUTO

mutual
def T.eqv : T → T → Bool
  | .mk k n nm xs, .mk k' n' nm' bs => (k == k') && ((n == n') && ((nm.toList == nm'.toList) && T.eqvL xs bs))
def T.eqvL : List T → List T → Bool
  | [], [] => true
  | a :: xs, b :: bs => T.eqv a b && T.eqvL xs bs
  | _, _ => false
end
theorem T.eqvL_len : ∀ {xs bs : List T}, T.eqvL xs bs = true → xs.length = bs.length := by
  intro xs
  induction xs with
  | nil => intro bs h; cases bs with
    | nil => rfl
    | cons b bs => simp [T.eqvL] at h
  | cons a xs ih => intro bs h; cases bs with
    | nil => simp [T.eqvL] at h
    | cons b bs =>
      simp only [T.eqvL, Bool.and_eq_true] at h
      simp [ih h.2]
theorem ba_toList {a b : ByteArray} (h : (a.toList == b.toList) = true) : a = b := by
  have h1 : a.toList = b.toList := by simpa using h
  have h2 : a.data.toList = b.data.toList := by rw [← Go.ByteArray.toList_eq, ← Go.ByteArray.toList_eq]; exact h1
  exact ByteArray.ext (Array.toList_inj.1 h2)
theorem T.eqv_iff : ∀ (a b : T), T.eqv a b = true ↔ a = b := by
  refine T.ind fun k n nm xs ih b => ?_
  obtain ⟨k', n', nm', bs⟩ := b
  have hl : ∀ (l : List T), (∀ a ∈ l, ∀ b, T.eqv a b = true ↔ a = b) → ∀ m, T.eqvL l m = true ↔ l = m := by
    intro l
    induction l with
    | nil => intro _ m; cases m <;> simp [T.eqvL]
    | cons x xs ihx =>
      intro h m
      cases m with
      | nil => simp [T.eqvL]
      | cons y ys =>
        simp only [T.eqvL, Bool.and_eq_true, List.cons.injEq]
        rw [h x (by simp) y, ihx (fun a ha => h a (by simp [ha])) ys]
  simp only [T.eqv, Bool.and_eq_true, beq_iff_eq, T.mk.injEq]
  rw [hl xs ih bs]
  constructor
  · rintro ⟨h1, h2, h3, h4⟩
    exact ⟨h1, h2, ba_toList (by simpa using h3), h4⟩
  · rintro ⟨rfl, rfl, rfl, rfl⟩
    exact ⟨rfl, rfl, rfl, rfl⟩

theorem specEq_ok : ∀ (a b : T) (st : St) (cs ds : List Value), Lim 1073741824 a → Lim 1073741824 b → Enc st a cs → Enc st b ds →
    CallS Tryd.prog 10 [.agg cs.toArray, .agg ds.toArray] st fun r st' => r = .bool (T.eqv a b) ∧ st' = st := by
  refine T.ind fun k n nm xs ih b st cs ds hl hl' h h' => ?_
  obtain ⟨k', n', nm', bs⟩ := b
  obtain ⟨s, rfl, hr⟩ := h.open
  obtain ⟨s', rfl, hr'⟩ := h'.open
  refine CallS_of_W [] 53 Tryd.func10 rfl rfl rfl rfl (by simp) ?_
  have q1 := hr.notLoc.1
  have q2 := hr.notLoc.2
  have q3 := hr'.notLoc.1
  have q4 := hr'.notLoc.2
  have ha := hl.args.1
  have hb := hl'.args.1
  have hlen : lenE Tryd.prog 24 s = some (.int .i64 xs.length) := row_len hr Tryd.underlying24
  have hlen' : lenE Tryd.prog 24 s' = some (.int .i64 bs.length) := row_len hr' Tryd.underlying24
  have n1 : (k != k') = !(k == k') := rfl
  have n2 : (n != n') = !(n == n') := rfl
  cases c1 : (k == k') with
  | false =>
    repeat (first | (refine W_reg rfl fun G K hG hK => ?_; simp (disch := omega) only [go_sem, ↓reduceIte, Nat.reduceEqDiff, Nat.reduceAdd, Nat.reduceLeDiff, hG, q1, q2, q3, q4, hlen, hlen', n1, n2, c1]; refine hK _ _ ?_; clear hK K hG G) | (refine W_end rfl fun G K hG hK => ?_; simp (disch := omega) only [go_sem, ↓reduceIte, Nat.reduceEqDiff, Nat.reduceAdd, Nat.reduceLeDiff, hG, q1, q2, q3, q4, hlen, hlen', n1, n2, c1]; refine hK _ _ ?_; clear hK K hG G; repeat (first | refine thenI ?_ | refine thenE ?_ | refine thenR ?_ | refine inBI ?_ | refine inBR ?_ | refine inBS ?_ | refine inBN (by decide) ?_)) | refine W_seqS ?_ | refine W_seqC ?_ | refine W_seqB ?_ | refine W_block ?_ | (refine W_skip ?_; repeat (first | refine thenI ?_ | refine thenE ?_ | refine thenR ?_ | refine inBI ?_ | refine inBR ?_ | refine inBS ?_ | refine inBN (by decide) ?_)) | (refine W_condT ?hc ?_; (case hc => (simp (disch := omega) only [go_sem, ↓reduceIte, Nat.reduceEqDiff, Nat.reduceAdd, Nat.reduceLeDiff, q1, q2, q3, q4, hlen, hlen', n1, n2, c1]; done))) | (refine W_condF ?hc ?_; (case hc => (simp (disch := omega) only [go_sem, ↓reduceIte, Nat.reduceEqDiff, Nat.reduceAdd, Nat.reduceLeDiff, q1, q2, q3, q4, hlen, hlen', n1, n2, c1]; done))))
    refine W_ret ?_; try (repeat (first | refine thenI ?_ | refine thenE ?_ | refine thenR ?_ | refine inBI ?_ | refine inBR ?_ | refine inBS ?_ | refine inBN (by decide) ?_))
    refine fin1 (.inl rfl) (by (simp (disch := omega) only [go_sem, ↓reduceIte, Nat.reduceEqDiff, Nat.reduceAdd, Nat.reduceLeDiff, q1, q2, q3, q4, hlen, hlen', n1, n2]); try rfl) rfl ⟨by simp only [T.eqv, c1, Bool.false_and], rfl⟩
  | true =>
  cases c2 : (n == n') with
  | false =>
    repeat (first | (refine W_reg rfl fun G K hG hK => ?_; simp (disch := omega) only [go_sem, ↓reduceIte, Nat.reduceEqDiff, Nat.reduceAdd, Nat.reduceLeDiff, hG, q1, q2, q3, q4, hlen, hlen', n1, n2, c1, c2]; refine hK _ _ ?_; clear hK K hG G) | (refine W_end rfl fun G K hG hK => ?_; simp (disch := omega) only [go_sem, ↓reduceIte, Nat.reduceEqDiff, Nat.reduceAdd, Nat.reduceLeDiff, hG, q1, q2, q3, q4, hlen, hlen', n1, n2, c1, c2]; refine hK _ _ ?_; clear hK K hG G; repeat (first | refine thenI ?_ | refine thenE ?_ | refine thenR ?_ | refine inBI ?_ | refine inBR ?_ | refine inBS ?_ | refine inBN (by decide) ?_)) | refine W_seqS ?_ | refine W_seqC ?_ | refine W_seqB ?_ | refine W_block ?_ | (refine W_skip ?_; repeat (first | refine thenI ?_ | refine thenE ?_ | refine thenR ?_ | refine inBI ?_ | refine inBR ?_ | refine inBS ?_ | refine inBN (by decide) ?_)) | (refine W_condT ?hc ?_; (case hc => (simp (disch := omega) only [go_sem, ↓reduceIte, Nat.reduceEqDiff, Nat.reduceAdd, Nat.reduceLeDiff, q1, q2, q3, q4, hlen, hlen', n1, n2, c1, c2]; done))) | (refine W_condF ?hc ?_; (case hc => (simp (disch := omega) only [go_sem, ↓reduceIte, Nat.reduceEqDiff, Nat.reduceAdd, Nat.reduceLeDiff, q1, q2, q3, q4, hlen, hlen', n1, n2, c1, c2]; done))))
    refine W_ret ?_; try (repeat (first | refine thenI ?_ | refine thenE ?_ | refine thenR ?_ | refine inBI ?_ | refine inBR ?_ | refine inBS ?_ | refine inBN (by decide) ?_))
    refine fin1 (.inl rfl) (by (simp (disch := omega) only [go_sem, ↓reduceIte, Nat.reduceEqDiff, Nat.reduceAdd, Nat.reduceLeDiff, q1, q2, q3, q4, hlen, hlen', n1, n2]); try rfl) rfl ⟨by simp only [T.eqv, c1, c2, Bool.false_and, Bool.and_false], rfl⟩
  | true =>
  cases c3 : (nm.toList == nm'.toList) with
  | false =>
    repeat (first | (refine W_reg rfl fun G K hG hK => ?_; simp (disch := omega) only [go_sem, ↓reduceIte, Nat.reduceEqDiff, Nat.reduceAdd, Nat.reduceLeDiff, hG, q1, q2, q3, q4, hlen, hlen', n1, n2, c1, c2, c3]; refine hK _ _ ?_; clear hK K hG G) | (refine W_end rfl fun G K hG hK => ?_; simp (disch := omega) only [go_sem, ↓reduceIte, Nat.reduceEqDiff, Nat.reduceAdd, Nat.reduceLeDiff, hG, q1, q2, q3, q4, hlen, hlen', n1, n2, c1, c2, c3]; refine hK _ _ ?_; clear hK K hG G; repeat (first | refine thenI ?_ | refine thenE ?_ | refine thenR ?_ | refine inBI ?_ | refine inBR ?_ | refine inBS ?_ | refine inBN (by decide) ?_)) | refine W_seqS ?_ | refine W_seqC ?_ | refine W_seqB ?_ | refine W_block ?_ | (refine W_skip ?_; repeat (first | refine thenI ?_ | refine thenE ?_ | refine thenR ?_ | refine inBI ?_ | refine inBR ?_ | refine inBS ?_ | refine inBN (by decide) ?_)) | (refine W_condT ?hc ?_; (case hc => (simp (disch := omega) only [go_sem, ↓reduceIte, Nat.reduceEqDiff, Nat.reduceAdd, Nat.reduceLeDiff, q1, q2, q3, q4, hlen, hlen', n1, n2, c1, c2, c3]; done))) | (refine W_condF ?hc ?_; (case hc => (simp (disch := omega) only [go_sem, ↓reduceIte, Nat.reduceEqDiff, Nat.reduceAdd, Nat.reduceLeDiff, q1, q2, q3, q4, hlen, hlen', n1, n2, c1, c2, c3]; done))))
    refine W_ret ?_; try (repeat (first | refine thenI ?_ | refine thenE ?_ | refine thenR ?_ | refine inBI ?_ | refine inBR ?_ | refine inBS ?_ | refine inBN (by decide) ?_))
    refine fin1 (.inl rfl) (by (simp (disch := omega) only [go_sem, ↓reduceIte, Nat.reduceEqDiff, Nat.reduceAdd, Nat.reduceLeDiff, q1, q2, q3, q4, hlen, hlen', n1, n2]); try rfl) rfl ⟨by simp only [T.eqv, c1, c2, c3, Bool.false_and, Bool.and_false], rfl⟩
  | true =>
  have hto : T.eqv (.mk k n nm xs) (.mk k' n' nm' bs) = T.eqvL xs bs := by simp only [T.eqv, c1, c2, c3, Bool.true_and]
  rw [hto]
  by_cases hab : xs.length = bs.length
  case neg =>
    have c0 : ((xs.length : Int) != (bs.length : Int)) = true := by simp; omega
    repeat (first | (refine W_reg rfl fun G K hG hK => ?_; simp (disch := omega) only [go_sem, ↓reduceIte, Nat.reduceEqDiff, Nat.reduceAdd, Nat.reduceLeDiff, hG, q1, q2, q3, q4, hlen, hlen', n1, n2, c1, c2, c3, c0]; refine hK _ _ ?_; clear hK K hG G) | (refine W_end rfl fun G K hG hK => ?_; simp (disch := omega) only [go_sem, ↓reduceIte, Nat.reduceEqDiff, Nat.reduceAdd, Nat.reduceLeDiff, hG, q1, q2, q3, q4, hlen, hlen', n1, n2, c1, c2, c3, c0]; refine hK _ _ ?_; clear hK K hG G; repeat (first | refine thenI ?_ | refine thenE ?_ | refine thenR ?_ | refine inBI ?_ | refine inBR ?_ | refine inBS ?_ | refine inBN (by decide) ?_)) | refine W_seqS ?_ | refine W_seqC ?_ | refine W_seqB ?_ | refine W_block ?_ | (refine W_skip ?_; repeat (first | refine thenI ?_ | refine thenE ?_ | refine thenR ?_ | refine inBI ?_ | refine inBR ?_ | refine inBS ?_ | refine inBN (by decide) ?_)) | (refine W_condT ?hc ?_; (case hc => (simp (disch := omega) only [go_sem, ↓reduceIte, Nat.reduceEqDiff, Nat.reduceAdd, Nat.reduceLeDiff, q1, q2, q3, q4, hlen, hlen', n1, n2, c1, c2, c3, c0]; done))) | (refine W_condF ?hc ?_; (case hc => (simp (disch := omega) only [go_sem, ↓reduceIte, Nat.reduceEqDiff, Nat.reduceAdd, Nat.reduceLeDiff, q1, q2, q3, q4, hlen, hlen', n1, n2, c1, c2, c3, c0]; done))))
    refine W_ret ?_; try (repeat (first | refine thenI ?_ | refine thenE ?_ | refine thenR ?_ | refine inBI ?_ | refine inBR ?_ | refine inBS ?_ | refine inBN (by decide) ?_))
    refine fin1 (.inl rfl) (by (simp (disch := omega) only [go_sem, ↓reduceIte, Nat.reduceEqDiff, Nat.reduceAdd, Nat.reduceLeDiff, q1, q2, q3, q4, hlen, hlen', n1, n2]); try rfl) rfl ⟨?_, rfl⟩
    cases hq : T.eqvL xs bs with
    | false => rfl
    | true => exact absurd (T.eqvL_len hq) hab
  have c0 : ((xs.length : Int) != (bs.length : Int)) = false := by simp; omega
  repeat (first | (refine W_reg rfl fun G K hG hK => ?_; simp (disch := omega) only [go_sem, ↓reduceIte, Nat.reduceEqDiff, Nat.reduceAdd, Nat.reduceLeDiff, hG, q1, q2, q3, q4, hlen, hlen', n1, n2, c1, c2, c3, c0]; refine hK _ _ ?_; clear hK K hG G) | (refine W_end rfl fun G K hG hK => ?_; simp (disch := omega) only [go_sem, ↓reduceIte, Nat.reduceEqDiff, Nat.reduceAdd, Nat.reduceLeDiff, hG, q1, q2, q3, q4, hlen, hlen', n1, n2, c1, c2, c3, c0]; refine hK _ _ ?_; clear hK K hG G; repeat (first | refine thenI ?_ | refine thenE ?_ | refine thenR ?_ | refine inBI ?_ | refine inBR ?_ | refine inBS ?_ | refine inBN (by decide) ?_)) | refine W_seqS ?_ | refine W_seqC ?_ | refine W_seqB ?_ | refine W_block ?_ | (refine W_skip ?_; repeat (first | refine thenI ?_ | refine thenE ?_ | refine thenR ?_ | refine inBI ?_ | refine inBR ?_ | refine inBS ?_ | refine inBN (by decide) ?_)) | (refine W_condT ?hc ?_; (case hc => (simp (disch := omega) only [go_sem, ↓reduceIte, Nat.reduceEqDiff, Nat.reduceAdd, Nat.reduceLeDiff, q1, q2, q3, q4, hlen, hlen', n1, n2, c1, c2, c3, c0]; done))) | (refine W_condF ?hc ?_; (case hc => (simp (disch := omega) only [go_sem, ↓reduceIte, Nat.reduceEqDiff, Nat.reduceAdd, Nat.reduceLeDiff, q1, q2, q3, q4, hlen, hlen', n1, n2, c1, c2, c3, c0]; done))))
  refine W_loop (fun d fr st' => ∃ (j : Nat) , d = xs.length - j ∧ j ≤ xs.length ∧ (st' = st) ∧ (T.eqvL (xs.drop j) (bs.drop j) = T.eqvL xs bs) ∧ (fr.env 2 = .pointer (some ⟨2, 0, some 1⟩)) ∧ (fr.env 3 = .pointer (some ⟨3, 0, some 1⟩)) ∧ (fr.env 5 = .int .i64 j) ∧ (fr.loc 2 = (1, [.int .i64 k, .int .i64 n, .string nm, s])) ∧ (fr.loc 3 = (1, [.int .i64 k', .int .i64 n', .string nm', s']))) (xs.length) ?_ ?_
  · exact ⟨0, by omega, by omega, rfl, by simp, (by (simp (disch := omega) only [go_sem, ↓reduceIte, Nat.reduceEqDiff, Nat.reduceAdd, Nat.reduceLeDiff, q1, q2, q3, q4, hlen, hlen', n1, n2]); try rfl), (by (simp (disch := omega) only [go_sem, ↓reduceIte, Nat.reduceEqDiff, Nat.reduceAdd, Nat.reduceLeDiff, q1, q2, q3, q4, hlen, hlen', n1, n2]); try rfl), (by (simp (disch := omega) only [go_sem, ↓reduceIte, Nat.reduceEqDiff, Nat.reduceAdd, Nat.reduceLeDiff, q1, q2, q3, q4, hlen, hlen', n1, n2]); try rfl), (by (simp (disch := omega) only [go_sem, ↓reduceIte, Nat.reduceEqDiff, Nat.reduceAdd, Nat.reduceLeDiff, q1, q2, q3, q4, hlen, hlen', n1, n2]); try rfl), (by (simp (disch := omega) only [go_sem, ↓reduceIte, Nat.reduceEqDiff, Nat.reduceAdd, Nat.reduceLeDiff, q1, q2, q3, q4, hlen, hlen', n1, n2]); try rfl)⟩
  rintro d ⟨env, loc⟩ st' ⟨j, hd, hj, hst, heq, e2, e3, e5, l2, l3⟩
  simp only at e2 e3 e5 l2 l3
  subst hst
  clear c1
  by_cases hlt : j < xs.length
  · have c1 : decide ((j : Int) < (xs.length : Int)) = true := by simpa using hlt
    have hi := idxOk hlt
    have hx : xs[j]? = some xs[j] := List.getElem?_eq_getElem hlt
    have htk : xs.take (j + 1) = xs.take j ++ [xs[j]] := List.take_succ_eq_append_getElem hlt
    have hlt' : j < bs.length := by omega
    have hx' : bs[j]? = some bs[j] := List.getElem?_eq_getElem hlt'
    have hi' := idxOk hlt'
    obtain ⟨i, o, c, cs, rfl, hcl, hE, hcs⟩ := row_at hr hx
    obtain ⟨i2, o2, c2', ds, rfl, hdl, hE', hds⟩ := row_at hr' hx'
    have hld := fun loc => load_row (A := []) (loc := loc) ag26 sz26 hcl hcs
    have hld' := fun loc => load_row (A := []) (loc := loc) ag26 sz26 hdl hds
    rw [List.drop_eq_getElem_cons hlt, List.drop_eq_getElem_cons hlt'] at heq
    simp only [T.eqvL] at heq
    repeat (first | (refine W_reg rfl fun G K hG hK => ?_; simp (disch := omega) only [go_sem, ↓reduceIte, Nat.reduceEqDiff, Nat.reduceAdd, Nat.reduceLeDiff, hG, q1, q2, q3, q4, hlen, hlen', n1, n2, e2, e3, e5, l2, l3, c1, hi, idxA, Int.toNat_natCast]; refine hK _ _ ?_; clear hK K hG G) | (refine W_end rfl fun G K hG hK => ?_; simp (disch := omega) only [go_sem, ↓reduceIte, Nat.reduceEqDiff, Nat.reduceAdd, Nat.reduceLeDiff, hG, q1, q2, q3, q4, hlen, hlen', n1, n2, e2, e3, e5, l2, l3, c1, hi, idxA, Int.toNat_natCast]; refine hK _ _ ?_; clear hK K hG G; repeat (first | refine thenI ?_ | refine thenE ?_ | refine thenR ?_ | refine inBI ?_ | refine inBR ?_ | refine inBS ?_ | refine inBN (by decide) ?_)) | refine W_seqS ?_ | refine W_seqC ?_ | refine W_seqB ?_ | refine W_block ?_ | (refine W_skip ?_; repeat (first | refine thenI ?_ | refine thenE ?_ | refine thenR ?_ | refine inBI ?_ | refine inBR ?_ | refine inBS ?_ | refine inBN (by decide) ?_)) | (refine W_condT ?hc ?_; (case hc => (simp (disch := omega) only [go_sem, ↓reduceIte, Nat.reduceEqDiff, Nat.reduceAdd, Nat.reduceLeDiff, q1, q2, q3, q4, hlen, hlen', n1, n2, e2, e3, e5, l2, l3, c1, hi, idxA, Int.toNat_natCast]; done))) | (refine W_condF ?hc ?_; (case hc => (simp (disch := omega) only [go_sem, ↓reduceIte, Nat.reduceEqDiff, Nat.reduceAdd, Nat.reduceLeDiff, q1, q2, q3, q4, hlen, hlen', n1, n2, e2, e3, e5, l2, l3, c1, hi, idxA, Int.toNat_natCast]; done))))
    (repeat (first | refine W_seqS ?_ | refine W_seqC ?_ | refine W_seqB ?_ | refine W_block ?_)); refine W_regD mixed [] [(0,false),(1,false),(2,false),(3,false),(4,false),(5,false),(6,false),(7,false),(8,false),(9,false),(10,false),(11,false)] rfl (by decide +kernel) fun G K hG hK => ?_; simp only [pickOps, List.filterMap_cons, List.filterMap_nil, List.getElem?_cons_zero, List.getElem?_cons_succ, Option.map_some]; simp (disch := omega) only [go_sem, ↓reduceIte, Nat.reduceEqDiff, Nat.reduceAdd, Nat.reduceLeDiff, hG, q1, q2, q3, q4, hlen, hlen', n1, n2, e2, e3, e5, l2, l3, c1, hi, idxA, Int.toNat_natCast, hld, hld', hi']
    refine w_call (ih xs[j] (List.getElem_mem hlt) bs[j] st' _ _ (hl.args.2 _ (List.getElem_mem hlt)) (hl'.args.2 _ (List.getElem_mem hlt')) hE hE') (by simp (disch := omega) only [go_sem, ↓reduceIte, Nat.reduceEqDiff, q1, q2, q3, q4, hlen, hlen', n1, n2, e2, e3, e5, l2, l3, c1, hi, idxA, Int.toNat_natCast]) ?hl ?_
    case hl => first | rfl | (simp only [go_sem, List.all_cons, List.all_nil, Bool.not_false, Bool.and_self, q1, q2, q3, q4, hlen, hlen', n1, n2, e2, e3, e5, l2, l3, c1, hi, idxA, Int.toNat_natCast]; done)
    rintro r_ st' ⟨rfl, rfl⟩; refine ⟨fun e => (by cases e), ?_⟩
    cases hq : T.eqv xs[j] bs[j] with
    | false =>
      simp (disch := omega) only [go_sem, ↓reduceIte, Nat.reduceEqDiff, Nat.reduceAdd, Nat.reduceLeDiff, hG, q1, q2, q3, q4, hlen, hlen', n1, n2, e2, e3, e5, l2, l3, c1, hi, idxA, Int.toNat_natCast]; refine hK _ _ ?_; clear hK K hG G; repeat (first | refine thenI ?_ | refine thenE ?_ | refine thenR ?_ | refine inBI ?_ | refine inBR ?_ | refine inBS ?_ | refine inBN (by decide) ?_)
      repeat (first | (refine W_reg rfl fun G K hG hK => ?_; simp (disch := omega) only [go_sem, ↓reduceIte, Nat.reduceEqDiff, Nat.reduceAdd, Nat.reduceLeDiff, hG, q1, q2, q3, q4, hlen, hlen', n1, n2, e2, e3, e5, l2, l3, c1, hi, idxA, Int.toNat_natCast]; refine hK _ _ ?_; clear hK K hG G) | (refine W_end rfl fun G K hG hK => ?_; simp (disch := omega) only [go_sem, ↓reduceIte, Nat.reduceEqDiff, Nat.reduceAdd, Nat.reduceLeDiff, hG, q1, q2, q3, q4, hlen, hlen', n1, n2, e2, e3, e5, l2, l3, c1, hi, idxA, Int.toNat_natCast]; refine hK _ _ ?_; clear hK K hG G; repeat (first | refine thenI ?_ | refine thenE ?_ | refine thenR ?_ | refine inBI ?_ | refine inBR ?_ | refine inBS ?_ | refine inBN (by decide) ?_)) | refine W_seqS ?_ | refine W_seqC ?_ | refine W_seqB ?_ | refine W_block ?_ | (refine W_skip ?_; repeat (first | refine thenI ?_ | refine thenE ?_ | refine thenR ?_ | refine inBI ?_ | refine inBR ?_ | refine inBS ?_ | refine inBN (by decide) ?_)) | (refine W_condT ?hc ?_; (case hc => (simp (disch := omega) only [go_sem, ↓reduceIte, Nat.reduceEqDiff, Nat.reduceAdd, Nat.reduceLeDiff, q1, q2, q3, q4, hlen, hlen', n1, n2, e2, e3, e5, l2, l3, c1, hi, idxA, Int.toNat_natCast]; done))) | (refine W_condF ?hc ?_; (case hc => (simp (disch := omega) only [go_sem, ↓reduceIte, Nat.reduceEqDiff, Nat.reduceAdd, Nat.reduceLeDiff, q1, q2, q3, q4, hlen, hlen', n1, n2, e2, e3, e5, l2, l3, c1, hi, idxA, Int.toNat_natCast]; done))))
      rw [hq] at heq
      refine W_ret ?_; try (repeat (first | refine thenI ?_ | refine thenE ?_ | refine thenR ?_ | refine inBI ?_ | refine inBR ?_ | refine inBS ?_ | refine inBN (by decide) ?_))
      refine fin1 (.inl rfl) (by (simp (disch := omega) only [go_sem, ↓reduceIte, Nat.reduceEqDiff, Nat.reduceAdd, Nat.reduceLeDiff, q1, q2, q3, q4, hlen, hlen', n1, n2, e2, e3, e5, l2, l3, c1, hi, idxA, Int.toNat_natCast]); try rfl) rfl ⟨by rw [← heq]; rfl, rfl⟩
    | true =>
      simp (disch := omega) only [go_sem, ↓reduceIte, Nat.reduceEqDiff, Nat.reduceAdd, Nat.reduceLeDiff, hG, q1, q2, q3, q4, hlen, hlen', n1, n2, e2, e3, e5, l2, l3, c1, hi, idxA, Int.toNat_natCast]; refine hK _ _ ?_; clear hK K hG G; repeat (first | refine thenI ?_ | refine thenE ?_ | refine thenR ?_ | refine inBI ?_ | refine inBR ?_ | refine inBS ?_ | refine inBN (by decide) ?_)
      repeat (first | (refine W_reg rfl fun G K hG hK => ?_; simp (disch := omega) only [go_sem, ↓reduceIte, Nat.reduceEqDiff, Nat.reduceAdd, Nat.reduceLeDiff, hG, q1, q2, q3, q4, hlen, hlen', n1, n2, e2, e3, e5, l2, l3, c1, hi, idxA, Int.toNat_natCast]; refine hK _ _ ?_; clear hK K hG G) | (refine W_end rfl fun G K hG hK => ?_; simp (disch := omega) only [go_sem, ↓reduceIte, Nat.reduceEqDiff, Nat.reduceAdd, Nat.reduceLeDiff, hG, q1, q2, q3, q4, hlen, hlen', n1, n2, e2, e3, e5, l2, l3, c1, hi, idxA, Int.toNat_natCast]; refine hK _ _ ?_; clear hK K hG G; repeat (first | refine thenI ?_ | refine thenE ?_ | refine thenR ?_ | refine inBI ?_ | refine inBR ?_ | refine inBS ?_ | refine inBN (by decide) ?_)) | refine W_seqS ?_ | refine W_seqC ?_ | refine W_seqB ?_ | refine W_block ?_ | (refine W_skip ?_; repeat (first | refine thenI ?_ | refine thenE ?_ | refine thenR ?_ | refine inBI ?_ | refine inBR ?_ | refine inBS ?_ | refine inBN (by decide) ?_)) | (refine W_condT ?hc ?_; (case hc => (simp (disch := omega) only [go_sem, ↓reduceIte, Nat.reduceEqDiff, Nat.reduceAdd, Nat.reduceLeDiff, q1, q2, q3, q4, hlen, hlen', n1, n2, e2, e3, e5, l2, l3, c1, hi, idxA, Int.toNat_natCast]; done))) | (refine W_condF ?hc ?_; (case hc => (simp (disch := omega) only [go_sem, ↓reduceIte, Nat.reduceEqDiff, Nat.reduceAdd, Nat.reduceLeDiff, q1, q2, q3, q4, hlen, hlen', n1, n2, e2, e3, e5, l2, l3, c1, hi, idxA, Int.toNat_natCast]; done))))
      rw [hq, Bool.true_and] at heq
      refine ⟨xs.length - (j + 1), by omega, j + 1, rfl, by omega, rfl, heq, (by (simp (disch := omega) only [go_sem, ↓reduceIte, Nat.reduceEqDiff, Nat.reduceAdd, Nat.reduceLeDiff, q1, q2, q3, q4, hlen, hlen', n1, n2, e2, e3, e5, l2, l3, c1, hi, idxA, Int.toNat_natCast]); try rfl), (by (simp (disch := omega) only [go_sem, ↓reduceIte, Nat.reduceEqDiff, Nat.reduceAdd, Nat.reduceLeDiff, q1, q2, q3, q4, hlen, hlen', n1, n2, e2, e3, e5, l2, l3, c1, hi, idxA, Int.toNat_natCast]); try rfl), (by (simp (disch := omega) only [go_sem, ↓reduceIte, Nat.reduceEqDiff, Nat.reduceAdd, Nat.reduceLeDiff, q1, q2, q3, q4, hlen, hlen', n1, n2, e2, e3, e5, l2, l3, c1, hi, idxA, Int.toNat_natCast]); try rfl), (by (simp (disch := omega) only [go_sem, ↓reduceIte, Nat.reduceEqDiff, Nat.reduceAdd, Nat.reduceLeDiff, q1, q2, q3, q4, hlen, hlen', n1, n2, e2, e3, e5, l2, l3, c1, hi, idxA, Int.toNat_natCast]); try rfl), (by (simp (disch := omega) only [go_sem, ↓reduceIte, Nat.reduceEqDiff, Nat.reduceAdd, Nat.reduceLeDiff, q1, q2, q3, q4, hlen, hlen', n1, n2, e2, e3, e5, l2, l3, c1, hi, idxA, Int.toNat_natCast]); try rfl)⟩
  · have c1 : decide ((j : Int) < (xs.length : Int)) = false := by simpa using hlt
    have hjn : j = xs.length := by omega
    subst hjn
    rw [List.drop_length, List.drop_eq_nil_of_le (by omega)] at heq
    repeat (first | (refine W_reg rfl fun G K hG hK => ?_; simp (disch := omega) only [go_sem, ↓reduceIte, Nat.reduceEqDiff, Nat.reduceAdd, Nat.reduceLeDiff, hG, q1, q2, q3, q4, hlen, hlen', n1, n2, e2, e3, e5, l2, l3, c1]; refine hK _ _ ?_; clear hK K hG G) | (refine W_end rfl fun G K hG hK => ?_; simp (disch := omega) only [go_sem, ↓reduceIte, Nat.reduceEqDiff, Nat.reduceAdd, Nat.reduceLeDiff, hG, q1, q2, q3, q4, hlen, hlen', n1, n2, e2, e3, e5, l2, l3, c1]; refine hK _ _ ?_; clear hK K hG G; repeat (first | refine thenI ?_ | refine thenE ?_ | refine thenR ?_ | refine inBI ?_ | refine inBR ?_ | refine inBS ?_ | refine inBN (by decide) ?_)) | refine W_seqS ?_ | refine W_seqC ?_ | refine W_seqB ?_ | refine W_block ?_ | (refine W_skip ?_; repeat (first | refine thenI ?_ | refine thenE ?_ | refine thenR ?_ | refine inBI ?_ | refine inBR ?_ | refine inBS ?_ | refine inBN (by decide) ?_)) | (refine W_condT ?hc ?_; (case hc => (simp (disch := omega) only [go_sem, ↓reduceIte, Nat.reduceEqDiff, Nat.reduceAdd, Nat.reduceLeDiff, q1, q2, q3, q4, hlen, hlen', n1, n2, e2, e3, e5, l2, l3, c1]; done))) | (refine W_condF ?hc ?_; (case hc => (simp (disch := omega) only [go_sem, ↓reduceIte, Nat.reduceEqDiff, Nat.reduceAdd, Nat.reduceLeDiff, q1, q2, q3, q4, hlen, hlen', n1, n2, e2, e3, e5, l2, l3, c1]; done))))
    refine W_exit ?_; repeat (first | refine thenI ?_ | refine thenE ?_ | refine thenR ?_ | refine inBI ?_ | refine inBR ?_ | refine inBS ?_ | refine inBN (by decide) ?_)
    repeat (first | (refine W_reg rfl fun G K hG hK => ?_; simp (disch := omega) only [go_sem, ↓reduceIte, Nat.reduceEqDiff, Nat.reduceAdd, Nat.reduceLeDiff, hG, q1, q2, q3, q4, hlen, hlen', n1, n2, e2, e3, e5, l2, l3, c1]; refine hK _ _ ?_; clear hK K hG G) | (refine W_end rfl fun G K hG hK => ?_; simp (disch := omega) only [go_sem, ↓reduceIte, Nat.reduceEqDiff, Nat.reduceAdd, Nat.reduceLeDiff, hG, q1, q2, q3, q4, hlen, hlen', n1, n2, e2, e3, e5, l2, l3, c1]; refine hK _ _ ?_; clear hK K hG G; repeat (first | refine thenI ?_ | refine thenE ?_ | refine thenR ?_ | refine inBI ?_ | refine inBR ?_ | refine inBS ?_ | refine inBN (by decide) ?_)) | refine W_seqS ?_ | refine W_seqC ?_ | refine W_seqB ?_ | refine W_block ?_ | (refine W_skip ?_; repeat (first | refine thenI ?_ | refine thenE ?_ | refine thenR ?_ | refine inBI ?_ | refine inBR ?_ | refine inBS ?_ | refine inBN (by decide) ?_)) | (refine W_condT ?hc ?_; (case hc => (simp (disch := omega) only [go_sem, ↓reduceIte, Nat.reduceEqDiff, Nat.reduceAdd, Nat.reduceLeDiff, q1, q2, q3, q4, hlen, hlen', n1, n2, e2, e3, e5, l2, l3, c1]; done))) | (refine W_condF ?hc ?_; (case hc => (simp (disch := omega) only [go_sem, ↓reduceIte, Nat.reduceEqDiff, Nat.reduceAdd, Nat.reduceLeDiff, q1, q2, q3, q4, hlen, hlen', n1, n2, e2, e3, e5, l2, l3, c1]; done))))
    refine W_ret ?_; try (repeat (first | refine thenI ?_ | refine thenE ?_ | refine thenR ?_ | refine inBI ?_ | refine inBR ?_ | refine inBS ?_ | refine inBN (by decide) ?_))
    refine fin1 (.inl rfl) (by (simp (disch := omega) only [go_sem, ↓reduceIte, Nat.reduceEqDiff, Nat.reduceAdd, Nat.reduceLeDiff, q1, q2, q3, q4, hlen, hlen', n1, n2, e2, e3, e5, l2, l3, c1]); try rfl) rfl ⟨by rw [← heq]; rfl, rfl⟩

end

section
/- Terms are matched: impl.match, spec.l8Match. -/
open Go Go.Proofs
set_option linter.unusedVariables false
set_option linter.unusedSimpArgs false
set_option maxRecDepth 100000
-- AUTO


end

section
/- Builders: spec.RenameVars, impl.RenameVars. -/
open Go Go.Proofs
set_option linter.unusedVariables false
set_option linter.unusedSimpArgs false
set_option maxRecDepth 100000


end

end Go.Proofs.YtpkjgjomiikofaaDoor.AM
/- A renamed term is a variant, where variables have no arguments. -/
namespace Go.Proofs.YtpkjgjomiikofaaDoor.AM
open Go Go.Proofs
set_option linter.unusedVariables false
set_option linter.unusedSimpArgs false

/-- Variables are plain, but perhaps at the root. -/
inductive Plain : T → Prop
  | mk (k n : Int) (nm : ByteArray) (args : List T) (hv : k = 1 → n = 0 ∧ args = []) (h : ∀ a ∈ args, Plain a) : Plain (.mk k n nm args)
def PlainB : T → Prop
  | .mk k n nm args => k = 1 ∨ ∀ a ∈ args, Plain a
theorem Plain.b {t : T} (h : Plain t) : PlainB t := by
  cases h with
  | mk k n nm args hv h => exact .inr h
mutual
/-- The nodes of a term. -/
def T.count : T → Nat
  | .mk _ _ _ args => 1 + T.countL args
def T.countL : List T → Nat
  | [] => 0
  | x :: xs => x.count + T.countL xs
end
end Go.Proofs.YtpkjgjomiikofaaDoor.AM


/- Sorted lists of names, each once. -/
namespace Go.Proofs.YtpkjgjomiikofaaDoor.AM
open Go
set_option linter.unusedVariables false
set_option linter.unusedSimpArgs false

end Go.Proofs.YtpkjgjomiikofaaDoor.AM


/- Nodes, depth, names, validity of terms, in plain Lean. -/
namespace Go.Proofs.YtpkjgjomiikofaaDoor.AM
open Go Go.Proofs
set_option linter.unusedVariables false
set_option linter.unusedSimpArgs false

mutual
def T.depth : T → Nat
  | .mk _ _ _ args => 1 + T.depthL args
def T.depthL : List T → Nat
  | [] => 0
  | x :: xs => max x.depth (T.depthL xs)
end
theorem T.countL_app (xs ys : List T) : T.countL (xs ++ ys) = T.countL xs + T.countL ys := by
  induction xs with
  | nil => simp [T.countL]
  | cons x xs ih => simp only [List.cons_append, T.countL, ih]; omega
theorem T.depthL_app (xs ys : List T) : T.depthL (xs ++ ys) = max (T.depthL xs) (T.depthL ys) := by
  induction xs with
  | nil => simp [T.depthL]
  | cons x xs ih => simp only [List.cons_append, T.depthL, ih]; omega
theorem T.depth_count : ∀ t : T, t.depth ≤ t.count := by
  refine T.ind fun k n nm args ih => ?_
  have hL : ∀ l : List T, (∀ a ∈ l, a.depth ≤ a.count) → T.depthL l ≤ T.countL l := by
    intro l
    induction l with
    | nil => intro _; exact Nat.le_refl _
    | cons x xs ihx =>
      intro h
      have h1 := h x (by simp)
      have h2 := ihx fun a ha => h a (by simp [ha])
      simp only [T.depthL, T.countL]; omega
  have := hL args ih
  simp only [T.depth, T.count]; omega
theorem T.count_pos (t : T) : 1 ≤ t.count := by cases t; simp only [T.count]; omega
theorem T.count_wt : ∀ t : T, t.count ≤ t.wt + 1 := by
  refine T.ind fun k n nm args ih => ?_
  have hL : ∀ l : List T, (∀ a ∈ l, a.count ≤ a.wt + 1) → T.countL l ≤ T.wtL l + l.length := by
    intro l
    induction l with
    | nil => intro _; exact Nat.le_refl _
    | cons x xs ihx =>
      intro h
      have h1 := h x (by simp)
      have h2 := ihx fun a ha => h a (by simp [ha])
      simp only [T.wtL, T.countL, List.length_cons]; omega
  have := hL args ih
  simp only [T.wt, T.count]; omega
/-- A small letter, or a digit. -/
def lowDig (b : UInt8) : Bool := (decide (97 ≤ b.toNat) && decide (b.toNat ≤ 122)) || (decide (48 ≤ b.toNat) && decide (b.toNat ≤ 57))
/-- A name: 1 to 8 bytes, the first between two letters, the others small letters and digits. -/
def isNm (lo hi : Nat) : List UInt8 → Bool
  | [] => false
  | b :: bs => (decide (lo ≤ b.toNat) && decide (b.toNat ≤ hi)) && (bs.all lowDig && decide (bs.length ≤ 7))
def isName (s : ByteArray) : Bool := isNm 97 122 s.data.toList
def isVar (s : ByteArray) : Bool := isNm 65 90 s.data.toList
theorem name_var (s : ByteArray) : (isName s && isVar s) = false := by
  unfold isName isVar isNm
  split
  · rfl
  · rename_i b bs h
    by_cases h1 : 97 ≤ b.toNat
    · have h2 : ¬ b.toNat ≤ 90 := by omega
      simp [h1, h2]
    · simp [h1]
def nodeOk (k n : Int) (nm : ByteArray) (args : List T) : Bool :=
  if k = 1 then isVar nm && ((n == 0) && ((args.length : Int) == 0))
  else if k = 2 then isName nm && (n == 0)
  else if k = 3 then (nm.toList == (⟨#[]⟩ : ByteArray).toList) && ((decide (n ≥ 0) && decide (n ≤ 3)) && ((args.length : Int) == 0))
  else false
mutual
def T.nodes : T → Bool
  | .mk k n nm args => T.nodesL args && nodeOk k n nm args
def T.nodesL : List T → Bool
  | [] => true
  | x :: xs => x.nodes && T.nodesL xs
end
theorem T.nodesL_all (xs : List T) : T.nodesL xs = xs.all T.nodes := by
  induction xs with
  | nil => rfl
  | cons x xs ih => simp only [T.nodesL, List.all_cons, ih]
def T.valid (t : T) : Bool := decide (t.count ≤ 60) && (decide (t.depth ≤ 16) && t.nodes)
end Go.Proofs.YtpkjgjomiikofaaDoor.AM


namespace Go.Proofs.YtpkjgjomiikofaaDoor.AM
open Go
attribute [local go_sem] List.map_cons List.map_nil List.all_cons List.all_nil Bool.and_self Option.map_some List.getElem?_toArray Option.bind_some gye_b gye_t gsk_b gsk_t gb1 gb2 gb3 gb4 bne_self_eq_false beq_self_eq_true w_guard w_nil stepV_some step_some step_some' w_move w_assign w_pick w_binOp w_unOp w_load w_fieldAddr w_indexAddr w_len w_max w_index ev_max max_int ev_index w_box w_alloc w_store w_field w_extract w_nilCheck w_convert w_buildSlice w_build ev_buildL fillL_nil fillL_cons bs0 bs1 ev_conv ev_bin ev_un ev_pick ev_load ev_fieldAddr ev_indexAddr ev_len ev_field ev_extract ev_nilCheck fr_tmp fr_int fr_bool fr_str fr_nil fr_func put_some put_none bin_lss bin_leq bin_gtr bin_geq bin_eql bin_neq bin_add bin_sub bin_mul bin_seql bin_sneq un_not pick_ ext_ loadA_p cellAt_l cellAt_h okPtr_l okPtr_h fadA_p allocA_l storeA_l cells_agg cells_int cells_str cells_sl cells_bool flat_i flat_s flat_b flat_sl flat_nil loc_agg loc_int loc_str loc_sl loc_bool loc_fn loc_ptr okv_agg okv_int okv_str okv_sl okv_bool cellsFrom splice upd_eval argEnv_zero argEnv_succ ne_eq Nat.add_one_ne_zero not_false_eq_true List.not_mem_nil and_self decide_true List.getElem?_cons_zero List.getElem?_cons_succ List.size_toArray List.length_cons List.length_nil List.take_succ_cons List.take_zero List.drop_succ_cons List.drop_zero List.cons_append List.nil_append List.drop_nil Bool.not_true Bool.not_false Bool.false_eq_true Nat.zero_add Nat.add_zero wrap_in List.toList_toArray List.mem_cons or_self or_false false_or
attribute [local go_sem] ag22 ag24 ag26 ag3 ag4 ag5 ag78 ag83 ag9 ag91 bu116 bu122 bu26 bu39 bu49 bu58 by26 by5 by9 el22 el24 el46 el53 of26_0 of26_1 of26_2 of26_3 of39_0 of49_0 of49_1 of49_2 of58_0 of58_1 of58_2 of80_0 of80_1 ro26_0 ro26_1 ro26_2 ro3_3 ro5_1 ro9_1 ro9_2 ro9_3 ro9_4 ro9_8 sz22 sz24 sz26 sz3 sz4 sz5 sz78 sz83 sz9 sz91 ze109 ze26 ze5 ze80 ze9 ze90
section
/- Words: spec.l1In, the built-in operators, the tests for words, their operations. -/
open Go Go.Proofs
set_option linter.unusedVariables false
set_option linter.unusedSimpArgs false
set_option maxRecDepth 100000

theorem l1In_ok (a b c : Int) (st : St) : CallS Tryd.prog 58 [.int .i64 a, .int .i64 b, .int .i64 c] st fun r st' => r = .bool (decide (a ≥ b) && decide (a ≤ c)) ∧ st' = st := by
  refine CallS_of_W [] 15 Tryd.func58 rfl rfl rfl rfl (by simp) ?_
  by_cases h : a ≥ b
  · have c1 : decide (a ≥ b) = true := by simpa using h
    repeat (first | (refine W_reg rfl fun G K hG hK => ?_; simp (disch := omega) only [go_sem, ↓reduceIte, Nat.reduceEqDiff, Nat.reduceAdd, Nat.reduceLeDiff, hG, c1]; refine hK _ _ ?_; clear hK K hG G) | (refine W_end rfl fun G K hG hK => ?_; simp (disch := omega) only [go_sem, ↓reduceIte, Nat.reduceEqDiff, Nat.reduceAdd, Nat.reduceLeDiff, hG, c1]; refine hK _ _ ?_; clear hK K hG G; repeat (first | refine thenI ?_ | refine thenE ?_ | refine thenR ?_ | refine inBI ?_ | refine inBR ?_ | refine inBS ?_ | refine inBN (by decide) ?_)) | refine W_seqS ?_ | refine W_seqC ?_ | refine W_seqB ?_ | refine W_block ?_ | (refine W_skip ?_; repeat (first | refine thenI ?_ | refine thenE ?_ | refine thenR ?_ | refine inBI ?_ | refine inBR ?_ | refine inBS ?_ | refine inBN (by decide) ?_)) | (refine W_condT ?hc ?_; (case hc => (simp (disch := omega) only [go_sem, ↓reduceIte, Nat.reduceEqDiff, Nat.reduceAdd, Nat.reduceLeDiff, c1]; done))) | (refine W_condF ?hc ?_; (case hc => (simp (disch := omega) only [go_sem, ↓reduceIte, Nat.reduceEqDiff, Nat.reduceAdd, Nat.reduceLeDiff, c1]; done))))
    refine W_ret ?_; try (repeat (first | refine thenI ?_ | refine thenE ?_ | refine thenR ?_ | refine inBI ?_ | refine inBR ?_ | refine inBS ?_ | refine inBN (by decide) ?_))
    refine fin1 (.inl rfl) (by (simp (disch := omega) only [go_sem, ↓reduceIte, Nat.reduceEqDiff, Nat.reduceAdd, Nat.reduceLeDiff]); try rfl) rfl ⟨by rw [c1, Bool.true_and], rfl⟩
  · have c1 : decide (a ≥ b) = false := by simpa using h
    repeat (first | (refine W_reg rfl fun G K hG hK => ?_; simp (disch := omega) only [go_sem, ↓reduceIte, Nat.reduceEqDiff, Nat.reduceAdd, Nat.reduceLeDiff, hG, c1]; refine hK _ _ ?_; clear hK K hG G) | (refine W_end rfl fun G K hG hK => ?_; simp (disch := omega) only [go_sem, ↓reduceIte, Nat.reduceEqDiff, Nat.reduceAdd, Nat.reduceLeDiff, hG, c1]; refine hK _ _ ?_; clear hK K hG G; repeat (first | refine thenI ?_ | refine thenE ?_ | refine thenR ?_ | refine inBI ?_ | refine inBR ?_ | refine inBS ?_ | refine inBN (by decide) ?_)) | refine W_seqS ?_ | refine W_seqC ?_ | refine W_seqB ?_ | refine W_block ?_ | (refine W_skip ?_; repeat (first | refine thenI ?_ | refine thenE ?_ | refine thenR ?_ | refine inBI ?_ | refine inBR ?_ | refine inBS ?_ | refine inBN (by decide) ?_)) | (refine W_condT ?hc ?_; (case hc => (simp (disch := omega) only [go_sem, ↓reduceIte, Nat.reduceEqDiff, Nat.reduceAdd, Nat.reduceLeDiff, c1]; done))) | (refine W_condF ?hc ?_; (case hc => (simp (disch := omega) only [go_sem, ↓reduceIte, Nat.reduceEqDiff, Nat.reduceAdd, Nat.reduceLeDiff, c1]; done))))
    refine W_ret ?_; try (repeat (first | refine thenI ?_ | refine thenE ?_ | refine thenR ?_ | refine inBI ?_ | refine inBR ?_ | refine inBS ?_ | refine inBN (by decide) ?_))
    refine fin1 (.inl rfl) (by (simp (disch := omega) only [go_sem, ↓reduceIte, Nat.reduceEqDiff, Nat.reduceAdd, Nat.reduceLeDiff]); try rfl) rfl ⟨by rw [c1, Bool.false_and], rfl⟩

/-- A word: one of the four. -/
def T.isW : T → Bool
  | .mk k n nm args => (k == 3) && (decide (n ≥ 0) && decide (n ≤ 3)) && (nm.toList == (⟨#[]⟩ : ByteArray).toList) && ((args.length : Int) == 0)
theorem implIsW_of (k n : Int) (nm : ByteArray) (args : List T) (st : St) (s : Value) (hr : Row (Enc st) 4 st args s) : CallS Tryd.prog 51 [.agg #[.int .i64 k, .int .i64 n, .string nm, s]] st fun r st' => r = .bool (T.mk k n nm args).isW ∧ st' = st := by
  refine CallS_of_W [] 27 Tryd.func51 rfl rfl rfl rfl (by simp) ?_
  have hlen := row_len hr Tryd.underlying24
  have n1 := hr.notLoc.1
  have n2 := hr.notLoc.2
  have h4 : decide (n < 4) = decide (n ≤ 3) := by
    rw [decide_eq_decide]; omega
  cases h1 : (k == 3) with
  | false =>
    repeat (first | (refine W_reg rfl fun G K hG hK => ?_; simp (disch := omega) only [go_sem, ↓reduceIte, Nat.reduceEqDiff, Nat.reduceAdd, Nat.reduceLeDiff, hG, h1]; refine hK _ _ ?_; clear hK K hG G) | (refine W_end rfl fun G K hG hK => ?_; simp (disch := omega) only [go_sem, ↓reduceIte, Nat.reduceEqDiff, Nat.reduceAdd, Nat.reduceLeDiff, hG, h1]; refine hK _ _ ?_; clear hK K hG G; repeat (first | refine thenI ?_ | refine thenE ?_ | refine thenR ?_ | refine inBI ?_ | refine inBR ?_ | refine inBS ?_ | refine inBN (by decide) ?_)) | refine W_seqS ?_ | refine W_seqC ?_ | refine W_seqB ?_ | refine W_block ?_ | (refine W_skip ?_; repeat (first | refine thenI ?_ | refine thenE ?_ | refine thenR ?_ | refine inBI ?_ | refine inBR ?_ | refine inBS ?_ | refine inBN (by decide) ?_)) | (refine W_condT ?hc ?_; (case hc => (simp (disch := omega) only [go_sem, ↓reduceIte, Nat.reduceEqDiff, Nat.reduceAdd, Nat.reduceLeDiff, h1]; done))) | (refine W_condF ?hc ?_; (case hc => (simp (disch := omega) only [go_sem, ↓reduceIte, Nat.reduceEqDiff, Nat.reduceAdd, Nat.reduceLeDiff, h1]; done))))
    refine W_ret ?_; try (repeat (first | refine thenI ?_ | refine thenE ?_ | refine thenR ?_ | refine inBI ?_ | refine inBR ?_ | refine inBS ?_ | refine inBN (by decide) ?_))
    refine fin1 (.inl rfl) (by (simp (disch := omega) only [go_sem, ↓reduceIte, Nat.reduceEqDiff, Nat.reduceAdd, Nat.reduceLeDiff]); try rfl) rfl ⟨by simp [T.isW, h1], rfl⟩
  | true =>
    cases h2 : decide (n ≥ 0) with
    | false =>
      repeat (first | (refine W_reg rfl fun G K hG hK => ?_; simp (disch := omega) only [go_sem, ↓reduceIte, Nat.reduceEqDiff, Nat.reduceAdd, Nat.reduceLeDiff, hG, h1, h2]; refine hK _ _ ?_; clear hK K hG G) | (refine W_end rfl fun G K hG hK => ?_; simp (disch := omega) only [go_sem, ↓reduceIte, Nat.reduceEqDiff, Nat.reduceAdd, Nat.reduceLeDiff, hG, h1, h2]; refine hK _ _ ?_; clear hK K hG G; repeat (first | refine thenI ?_ | refine thenE ?_ | refine thenR ?_ | refine inBI ?_ | refine inBR ?_ | refine inBS ?_ | refine inBN (by decide) ?_)) | refine W_seqS ?_ | refine W_seqC ?_ | refine W_seqB ?_ | refine W_block ?_ | (refine W_skip ?_; repeat (first | refine thenI ?_ | refine thenE ?_ | refine thenR ?_ | refine inBI ?_ | refine inBR ?_ | refine inBS ?_ | refine inBN (by decide) ?_)) | (refine W_condT ?hc ?_; (case hc => (simp (disch := omega) only [go_sem, ↓reduceIte, Nat.reduceEqDiff, Nat.reduceAdd, Nat.reduceLeDiff, h1, h2]; done))) | (refine W_condF ?hc ?_; (case hc => (simp (disch := omega) only [go_sem, ↓reduceIte, Nat.reduceEqDiff, Nat.reduceAdd, Nat.reduceLeDiff, h1, h2]; done))))
      refine W_ret ?_; try (repeat (first | refine thenI ?_ | refine thenE ?_ | refine thenR ?_ | refine inBI ?_ | refine inBR ?_ | refine inBS ?_ | refine inBN (by decide) ?_))
      refine fin1 (.inl rfl) (by (simp (disch := omega) only [go_sem, ↓reduceIte, Nat.reduceEqDiff, Nat.reduceAdd, Nat.reduceLeDiff]); try rfl) rfl ⟨by simp only [T.isW, h1, h2]; rfl, rfl⟩
    | true =>
      cases h3 : decide (n ≤ 3) with
      | false =>
        repeat (first | (refine W_reg rfl fun G K hG hK => ?_; simp (disch := omega) only [go_sem, ↓reduceIte, Nat.reduceEqDiff, Nat.reduceAdd, Nat.reduceLeDiff, hG, h1, h2, h4, h3]; refine hK _ _ ?_; clear hK K hG G) | (refine W_end rfl fun G K hG hK => ?_; simp (disch := omega) only [go_sem, ↓reduceIte, Nat.reduceEqDiff, Nat.reduceAdd, Nat.reduceLeDiff, hG, h1, h2, h4, h3]; refine hK _ _ ?_; clear hK K hG G; repeat (first | refine thenI ?_ | refine thenE ?_ | refine thenR ?_ | refine inBI ?_ | refine inBR ?_ | refine inBS ?_ | refine inBN (by decide) ?_)) | refine W_seqS ?_ | refine W_seqC ?_ | refine W_seqB ?_ | refine W_block ?_ | (refine W_skip ?_; repeat (first | refine thenI ?_ | refine thenE ?_ | refine thenR ?_ | refine inBI ?_ | refine inBR ?_ | refine inBS ?_ | refine inBN (by decide) ?_)) | (refine W_condT ?hc ?_; (case hc => (simp (disch := omega) only [go_sem, ↓reduceIte, Nat.reduceEqDiff, Nat.reduceAdd, Nat.reduceLeDiff, h1, h2, h4, h3]; done))) | (refine W_condF ?hc ?_; (case hc => (simp (disch := omega) only [go_sem, ↓reduceIte, Nat.reduceEqDiff, Nat.reduceAdd, Nat.reduceLeDiff, h1, h2, h4, h3]; done))))
        refine W_ret ?_; try (repeat (first | refine thenI ?_ | refine thenE ?_ | refine thenR ?_ | refine inBI ?_ | refine inBR ?_ | refine inBS ?_ | refine inBN (by decide) ?_))
        refine fin1 (.inl rfl) (by (simp (disch := omega) only [go_sem, ↓reduceIte, Nat.reduceEqDiff, Nat.reduceAdd, Nat.reduceLeDiff]); try rfl) rfl ⟨by simp only [T.isW, h1, h2, h3]; rfl, rfl⟩
      | true =>
        cases h5 : (nm.toList == (⟨#[]⟩ : ByteArray).toList) with
        | false =>
          repeat (first | (refine W_reg rfl fun G K hG hK => ?_; simp (disch := omega) only [go_sem, ↓reduceIte, Nat.reduceEqDiff, Nat.reduceAdd, Nat.reduceLeDiff, hG, h1, h2, h4, h3, h5]; refine hK _ _ ?_; clear hK K hG G) | (refine W_end rfl fun G K hG hK => ?_; simp (disch := omega) only [go_sem, ↓reduceIte, Nat.reduceEqDiff, Nat.reduceAdd, Nat.reduceLeDiff, hG, h1, h2, h4, h3, h5]; refine hK _ _ ?_; clear hK K hG G; repeat (first | refine thenI ?_ | refine thenE ?_ | refine thenR ?_ | refine inBI ?_ | refine inBR ?_ | refine inBS ?_ | refine inBN (by decide) ?_)) | refine W_seqS ?_ | refine W_seqC ?_ | refine W_seqB ?_ | refine W_block ?_ | (refine W_skip ?_; repeat (first | refine thenI ?_ | refine thenE ?_ | refine thenR ?_ | refine inBI ?_ | refine inBR ?_ | refine inBS ?_ | refine inBN (by decide) ?_)) | (refine W_condT ?hc ?_; (case hc => (simp (disch := omega) only [go_sem, ↓reduceIte, Nat.reduceEqDiff, Nat.reduceAdd, Nat.reduceLeDiff, h1, h2, h4, h3, h5]; done))) | (refine W_condF ?hc ?_; (case hc => (simp (disch := omega) only [go_sem, ↓reduceIte, Nat.reduceEqDiff, Nat.reduceAdd, Nat.reduceLeDiff, h1, h2, h4, h3, h5]; done))))
          refine W_ret ?_; try (repeat (first | refine thenI ?_ | refine thenE ?_ | refine thenR ?_ | refine inBI ?_ | refine inBR ?_ | refine inBS ?_ | refine inBN (by decide) ?_))
          refine fin1 (.inl rfl) (by (simp (disch := omega) only [go_sem, ↓reduceIte, Nat.reduceEqDiff, Nat.reduceAdd, Nat.reduceLeDiff]); try rfl) rfl ⟨by simp only [T.isW, h1, h2, h3, h5]; rfl, rfl⟩
        | true =>
          repeat (first | (refine W_reg rfl fun G K hG hK => ?_; simp (disch := omega) only [go_sem, ↓reduceIte, Nat.reduceEqDiff, Nat.reduceAdd, Nat.reduceLeDiff, hG, h1, h2, h4, h3, h5, hlen]; refine hK _ _ ?_; clear hK K hG G) | (refine W_end rfl fun G K hG hK => ?_; simp (disch := omega) only [go_sem, ↓reduceIte, Nat.reduceEqDiff, Nat.reduceAdd, Nat.reduceLeDiff, hG, h1, h2, h4, h3, h5, hlen]; refine hK _ _ ?_; clear hK K hG G; repeat (first | refine thenI ?_ | refine thenE ?_ | refine thenR ?_ | refine inBI ?_ | refine inBR ?_ | refine inBS ?_ | refine inBN (by decide) ?_)) | refine W_seqS ?_ | refine W_seqC ?_ | refine W_seqB ?_ | refine W_block ?_ | (refine W_skip ?_; repeat (first | refine thenI ?_ | refine thenE ?_ | refine thenR ?_ | refine inBI ?_ | refine inBR ?_ | refine inBS ?_ | refine inBN (by decide) ?_)) | (refine W_condT ?hc ?_; (case hc => (simp (disch := omega) only [go_sem, ↓reduceIte, Nat.reduceEqDiff, Nat.reduceAdd, Nat.reduceLeDiff, h1, h2, h4, h3, h5, hlen]; done))) | (refine W_condF ?hc ?_; (case hc => (simp (disch := omega) only [go_sem, ↓reduceIte, Nat.reduceEqDiff, Nat.reduceAdd, Nat.reduceLeDiff, h1, h2, h4, h3, h5, hlen]; done))))
          refine W_ret ?_; try (repeat (first | refine thenI ?_ | refine thenE ?_ | refine thenR ?_ | refine inBI ?_ | refine inBR ?_ | refine inBS ?_ | refine inBN (by decide) ?_))
          refine fin1 (.inl rfl) (by (simp (disch := omega) only [go_sem, ↓reduceIte, Nat.reduceEqDiff, Nat.reduceAdd, Nat.reduceLeDiff]); try rfl) rfl ⟨by simp only [T.isW, h1, h2, h3, h5]; rfl, rfl⟩


end

end Go.Proofs.YtpkjgjomiikofaaDoor.AM