/- The walk's equations: what plain operations come to. -/
import Derived.Test.YtdijnohbbgbklaaH14
namespace Go.Proofs.Ytdijnohbbgbklaa.AM
open Go
set_option linter.unusedVariables false
set_option linter.unusedSimpArgs false

/-- A binary operation at two values. -/
def binE (P : Program) (op : BinOp) (t : TypeId) (x y : Operand) (a b : Value) : Option Value :=
  if flat a && flat b then flatRun P (do eqGuard op t x y a b; Go.binOp op t a b)
  else match elemA P t with
    | some _ => eqNil op a b
    | none => eqNilI P t op a b
def unE (P : Program) (op : UnOp) (a : Value) : Option Value := if flat a then flatRun P (Op.unary op a) else none
def lenE (P : Program) (t : TypeId) (v : Value) : Option Value := match P.underlying t, v with
  | some .string, .string s => some (.int .i64 s.size)
  | some (.slice _), .slice _ n _ => some (.int .i64 n)
  | _, _ => none
def idxA (P : Program) (t : TypeId) (v i : Value) : Option Value := match v, i, elemA P t with
  | .slice (some ⟨b, o, none⟩) n _, .int _ k, some e => match szA P e with
    | some sz => if 0 ≤ k ∧ k < n then some (.pointer (some ⟨b, o + k.toNat * sz, none⟩)) else none
    | none => none
  | _, _, _ => none
def fadA (P : Program) (A : List Tmp) (t : TypeId) (v : Value) (f : Nat) (loc : Nat → Nat × List Value) : Option Value := match v with
  | .pointer (some ⟨b, o, sp⟩) => match offA P t f with
    | some d => if okPtr A loc b sp then some (.pointer (some ⟨b, o + d, sp⟩)) else none
    | none => none
  | _ => none
def fldA (P : Program) (t : TypeId) (v : Value) (f : Nat) : Option Value := match v, fieldA P t f with
  | .agg cs, some (d, some n) => if d + n ≤ cs.size then some (.agg (cs.extract d (d + n))) else none
  | .agg cs, some (d, none) => cs[d]?
  | _, _ => none
def ncA (A : List Tmp) (v : Value) (loc : Nat → Nat × List Value) : Option Value := match v with
  | .pointer (some ⟨b, o, sp⟩) => if okPtr A loc b sp then some v else none
  | _ => none
def extA (v : Value) (i : Nat) : Option Value := match v with
  | .tuple vs => vs[i]?
  | _ => none
def pickA (c a b : Value) : Option Value := match c with
  | .bool t => some (if t then a else b)
  | _ => none

section
variable {P : Program} {A H : List Tmp} {ρ : Operand → Value} {loc : Nat → Nat × List Value} {st : St} {t u : TypeId} {x y : Operand}

theorem ev_bin {op : BinOp} : evalVal P A (.binOp op t x y u) ρ loc st = binE P op t x y (ρ x) (ρ y) := rfl
theorem ev_un {op : UnOp} : evalVal P A (.unOp op t x) ρ loc st = unE P op (ρ x) := rfl
theorem ev_pick {c : Operand} : evalVal P A (.pick c x y) ρ loc st = pickA (ρ c) (ρ x) (ρ y) := rfl
theorem ev_load : evalVal P A (.load t x) ρ loc st = loadA P A t (ρ x) loc st := rfl
theorem ev_fieldAddr {f : Nat} : evalVal P A (.fieldAddr t x f) ρ loc st = fadA P A t (ρ x) f loc := rfl
theorem ev_indexAddr : evalVal P A (.indexAddr t x y) ρ loc st = idxA P t (ρ x) (ρ y) := rfl
theorem ev_field {f : Nat} : evalVal P A (.field t x f) ρ loc st = fldA P t (ρ x) f := rfl
theorem ev_nilCheck : evalVal P A (.nilCheck x) ρ loc st = ncA A (ρ x) loc := rfl
theorem ev_extract {i : Nat} : evalVal P A (.extract x i) ρ loc st = extA (ρ x) i := rfl
theorem ev_max {ts : Array TypeId} : evalVal P A (.call ⟨.builtin .max, #[x, y], ts⟩) ρ loc st = maxV [ρ x, ρ y] := rfl
theorem max_int {k k' : IntKind} {a b : Int} : maxV [.int k a, .int k' b] = some (.int k (if b > a then b else a)) := rfl
theorem ev_len : evalVal P A (.call ⟨.builtin .len, #[x], #[t]⟩) ρ loc st = lenE P t (ρ x) := rfl
theorem ev_build {ps : Array (Nat × Operand)} : evalVal P A (.build t ps) ρ loc st = match buildA P t with
    | some (z, pl) => if ps.all (fun p => okv (ρ p.2)) then (Instr.fill (pl[·]?) z.toArray (ps.map fun (i, x) => (i, ρ x)).toList).map .agg else none
    | none => none := rfl
theorem ev_slice {lo hi : Option Operand} : evalVal P A (.slice t x lo hi none) ρ loc st = if flat (ρ x) && (lo.all fun l => flat (ρ l)) && (hi.all fun h => flat (ρ h)) then flatRun P (Instr.sliceAt t (ρ x) (lo.map ρ) (hi.map ρ) none) else sliceA P t (ρ x) (lo.map ρ) (hi.map ρ) := rfl
theorem ev_index : evalVal P A (.index t x y) ρ loc st = if flat (ρ x) && flat (ρ y) then flatRun P (Instr.index t (ρ x) (ρ y)) else none := rfl

theorem fr_tmp {env : Nat → Value} {i : Nat} : Fr.ev ⟨env, loc⟩ (.tmp i) = env i := rfl
theorem fr_int {env : Nat → Value} {k : IntKind} {i : Int} : Fr.ev ⟨env, loc⟩ (.const (.int k i)) = .int k i := rfl
theorem fr_bool {env : Nat → Value} {i : Bool} : Fr.ev ⟨env, loc⟩ (.const (.bool i)) = .bool i := rfl
theorem fr_str {env : Nat → Value} {i : ByteArray} : Fr.ev ⟨env, loc⟩ (.const (.string i)) = .string i := rfl
theorem fr_nil {env : Nat → Value} : Fr.ev ⟨env, loc⟩ (.const (.slice none 0 0)) = .slice none 0 0 := rfl
theorem fr_func {env : Nat → Value} {f : FuncId} : Fr.ev ⟨env, loc⟩ (.func f) = .func (.func f) #[] #[] := rfl
theorem bin_lss {k : IntKind} {a b : Int} : binE P .lss t x y (.int k a) (.int k b) = some (.bool (decide (a < b))) := by
  cases k <;> rfl
theorem bin_leq {k : IntKind} {a b : Int} : binE P .leq t x y (.int k a) (.int k b) = some (.bool (decide (a ≤ b))) := by cases k <;> rfl
theorem bin_gtr {k : IntKind} {a b : Int} : binE P .gtr t x y (.int k a) (.int k b) = some (.bool (decide (a > b))) := by cases k <;> rfl
theorem bin_geq {k : IntKind} {a b : Int} : binE P .geq t x y (.int k a) (.int k b) = some (.bool (decide (a ≥ b))) := by cases k <;> rfl
theorem bin_eql {k : IntKind} {a b : Int} : binE P .eql t x y (.int k a) (.int k b) = some (.bool (a == b)) := by cases k <;> rfl
theorem bin_neq {k : IntKind} {a b : Int} : binE P .neq t x y (.int k a) (.int k b) = some (.bool (a != b)) := by cases k <;> rfl
theorem bin_add {k : IntKind} {a b : Int} : binE P .add t x y (.int k a) (.int k b) = some (.int k (k.wrap (a + b))) := by cases k <;> rfl
theorem bin_sub {k : IntKind} {a b : Int} : binE P .sub t x y (.int k a) (.int k b) = some (.int k (k.wrap (a - b))) := by cases k <;> rfl
theorem bin_mul {k : IntKind} {a b : Int} : binE P .mul t x y (.int k a) (.int k b) = some (.int k (k.wrap (a * b))) := by cases k <;> rfl
theorem bin_rem {k : IntKind} {a b : Int} (h : b ≠ 0) : binE P .rem t x y (.int k a) (.int k b) = some (.int k (a.tmod b)) := by
  have : binE P .rem t x y (.int k a) (.int k b) = flatRun P (Op.intDiv .rem k a b) := by cases k <;> rfl
  rw [this]; unfold Op.intDiv; rw [if_neg h]; rfl
theorem bin_seql {a b : ByteArray} : binE P .eql t x y (.string a) (.string b) = some (.bool (a.toList == b.toList)) := rfl
theorem bin_sneq {a b : ByteArray} : binE P .neq t x y (.string a) (.string b) = some (.bool !(a.toList == b.toList)) := rfl
theorem bin_slss {a b : ByteArray} : binE P .lss t x y (.string a) (.string b) = some (.bool (Op.bytesLess a.toList b.toList)) := rfl
theorem pureRun_bind {α β : Type} {s : Sem α} {f : α → Sem β} : pureRun P (s >>= f) = (pureRun P s).bind fun a => pureRun P (f a) := by
  show pureRun P (s.bind f) = _
  induction s with
  | pure a => rfl
  | program k ih => exact ih P
  | mark m k ih => exact ih
  | _ => rfl
theorem pureRun_pure {α : Type} {a : α} : pureRun P (pure a : Sem α) = some a := rfl
theorem pureRun_und {d : TypeDesc} (h : P.underlying t = some d) : pureRun P (underlying t) = some d := by
  unfold underlying
  rw [pureRun_bind]
  show ((some P).bind fun a => pureRun P (match a.underlying t with | some d => pure d | none => stuck "no such type")) = some d
  simp only [Option.bind_some, h]; rfl
theorem eq_bool {a b : Bool} (h : P.underlying t = some .bool) : pureRun P (Op.equal t (.bool a) (.bool b)) = some (a == b) := by
  show pureRun P (Op.equalIn (9999 + 1) t (.bool a) (.bool b)) = _
  rw [Op.equalIn, pureRun_bind, pureRun_und h]
  rfl
theorem bin_bneq {a b : Bool} (h : P.underlying t = some .bool) : binE P .neq t x y (.bool a) (.bool b) = some (.bool !(a == b)) := by
  have : binE P .neq t x y (.bool a) (.bool b) = flatRun P (do pure (.bool !(← Op.equal t (.bool a) (.bool b)))) := rfl
  rw [this, flatRun, pureRun_bind, eq_bool h]; rfl
theorem un_not {a : Bool} : unE P .not (.bool a) = some (.bool !a) := rfl
theorem pick_ {c : Bool} {a b : Value} : pickA (.bool c) a b = some (if c then a else b) := rfl
theorem ext_ {vs : Array Value} {i : Nat} : extA (.tuple vs) i = vs[i]? := rfl
theorem len_sl {a : Option Addr} {n c : Nat} {e : TypeId} (h : P.underlying t = some (.slice e)) : lenE P t (.slice a n c) = some (.int .i64 n) := by
  unfold lenE; rw [h]
theorem len_str {s : ByteArray} (h : P.underlying t = some .string) : lenE P t (.string s) = some (.int .i64 s.size) := by
  unfold lenE; rw [h]
theorem nc_h {b o : Nat} : ncA A (.pointer (some ⟨b, o, none⟩)) loc = some (.pointer (some ⟨b, o, none⟩)) := by simp [ncA, okPtr]
theorem load_hn {b o n : Nat} {cs : List Value} (h : aggA P t = some true) (hs : szA P t = some n) (hl : cs.length = n) (hc : ∀ (j : Nat) v, cs[j]? = some v → cell st b (o + j) = some v) : loadA P A t (.pointer (some ⟨b, o, none⟩)) loc st = some (.agg cs.toArray) := by
  unfold loadA
  simp only [h, hs]
  rw [cellsFrom_of (f := cellAt A loc st b none) hl (fun j v hj => hc j v hj)]
  rfl
end
end Go.Proofs.Ytdijnohbbgbklaa.AM
