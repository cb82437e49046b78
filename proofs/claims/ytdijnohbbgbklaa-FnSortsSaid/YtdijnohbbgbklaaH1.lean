/- The abstract machine: values, stores, the tie between them and the world. -/
import Derived.Below
import Derived.Laws.AppendOwn
import Derived.Laws.CopyRow
import Derived.OrdersHeld
import Derived.KernelRfl
import Derived.Lib.LaidTab
import Derived.Lib.ItoaNum
namespace Go.Proofs.Ytdijnohbbgbklaa.AM
open Go
set_option linter.unusedVariables false
set_option linter.unusedSimpArgs false

/-- A block of the abstract store. stat: 0 live, 1 read only, 2 dead. -/
structure Blk where
  cells : List Value
  ty : TypeId
  stat : Nat
abbrev St := List Blk

/-- No one knows what this cell holds. -/
def isJ : Value → Bool
  | .pointer (some ⟨_, _, some _⟩) => true
  | _ => false

def cell (st : St) (i j : Nat) : Option Value :=
  match st[i]? with
  | some b => if b.stat = 2 then none else if b.stat = 1 then (match b.cells[j]? with | some v => if isJ v then none else some v | none => none) else b.cells[j]?
  | none => none

def cellsFrom (f : Nat → Option Value) (o : Nat) : Nat → Option (List Value)
  | 0 => some []
  | n + 1 => match f o with
    | none => none
    | some v => match cellsFrom f (o + 1) n with
      | none => none
      | some r => some (v :: r)

structure Fr where
  env : Nat → Value
  loc : Nat → Nat × List Value

/-- A value of which nothing is known. -/
def junk : Value := .pointer (some ⟨0, 0, some 0⟩)

def flat1 : Value → Bool
  | .bool _ | .int .. | .string _ | .float .. | .nilFunc | .nilIface | .pointer none | .slice none 0 0 => true
  | .func (.func _) a b => a.isEmpty && b.isEmpty
  | _ => false
def flat : Value → Bool
  | .agg cs => cs.all flat1
  | .tuple vs => vs.all flat1
  | .iface _ v => flat1 v
  | v => flat1 v

def Fr.ev (fr : Fr) : Operand → Value
  | .tmp t => fr.env t
  | .const v => if flat v then v else junk
  | .global _ => junk
  | .func f => .func (.func f) #[] #[]

def upd {α : Type} (f : Nat → α) (i : Nat) (v : α) : Nat → α := fun j => if j = i then v else f j
theorem upd_same {α : Type} (f : Nat → α) (i : Nat) (v : α) : upd f i v i = v := by simp [upd]
theorem upd_ne {α : Type} (f : Nat → α) (i j : Nat) (v : α) (h : j ≠ i) : upd f i v j = f j := by simp [upd, h]
def put (f : Nat → Value) (d : Option Tmp) (v : Value) : Nat → Value :=
  match d with
  | some d => upd f d v
  | none => f
theorem put_some (f : Nat → Value) (d : Nat) (v : Value) : put f (some d) v = upd f d v := rfl
theorem put_none (f : Nat → Value) (v : Value) : put f none v = f := rfl

/-- What an abstract block is in the world: its number, its cells, the cells of an element, and whether it may be appended to in place. -/
structure ME where
  b : Nat
  n : Nat
  sz : Nat
  ap : Bool

/-- A value of one cell. -/
abbrev one (v : Value) : Bool := v.oneCell'
theorem flat1_one {v : Value} (h : flat1 v = true) : one v = true := by
  unfold flat1 at h; split at h <;> first | rfl | contradiction

inductive VR (M : List ME) : Value → Value → Prop
  | fl (v : Value) (h : flat1 v = true) : VR M v v
  | ptr (i o : Nat) (m : ME) (h : M[i]? = some m) : VR M (.pointer (some ⟨i, o, none⟩)) (.pointer (some ⟨m.b, o, none⟩))
  | sl (i o o' n k c : Nat) (m : ME) (h : M[i]? = some m) (hn : n ≤ c) (hc : o' = o ∧ (o = 0 → m.ap = true → c * m.sz ≤ m.n) ∨ c = 0) :
      VR M (.slice (some ⟨i, o, none⟩) n k) (.slice (some ⟨m.b, o', none⟩) n c)
  | emp (a : Addr) : VR M (.slice (some ⟨0, 0, some 0⟩) 0 0) (.slice (some a) 0 0)
  | agg (xs ys : Array Value) (hs : xs.size = ys.size) (h1 : ∀ (i : Nat) x, xs[i]? = some x → one x = true) (h : ∀ (i : Nat) x y, xs[i]? = some x → ys[i]? = some y → VR M x y) : VR M (.agg xs) (.agg ys)
  | tup (xs ys : Array Value) (hs : xs.size = ys.size) (h : ∀ (i : Nat) x y, xs[i]? = some x → ys[i]? = some y → VR M x y) : VR M (.tuple xs) (.tuple ys)
  | ifc (t : TypeId) (v v' : Value) (h : VR M v v') : VR M (.iface t v) (.iface t v')

theorem VR.mono {M M' : List ME} (hM : ∀ (i : Nat) m, M[i]? = some m → M'[i]? = some m) {v v' : Value} (h : VR M v v') : VR M' v v' := by
  induction h with
  | fl v h => exact .fl v h
  | ptr i o m h => exact .ptr i o m (hM _ _ h)
  | sl i o o' n k c m h hn hc => exact .sl i o o' n k c m (hM _ _ h) hn hc
  | emp a => exact .emp a
  | agg xs ys hs h1 h ih => exact .agg xs ys hs h1 ih
  | tup xs ys hs h ih => exact .tup xs ys hs ih
  | ifc t v v' h ih => exact .ifc t v v' ih

theorem VR.flat1_eq {M : List ME} {v v' : Value} (h : VR M v v') (hf : flat1 v = true) : v' = v := by
  cases h with
  | fl v h => rfl
  | ptr i o m h => simp [flat1] at hf
  | sl i o o' n k c m h hn hc => simp [flat1] at hf
  | emp a => simp [flat1] at hf
  | agg xs ys hs h1 h => simp [flat1] at hf
  | tup xs ys hs h => simp [flat1] at hf
  | ifc t v v' h => simp [flat1] at hf

theorem arr_eq {M : List ME} {xs ys : Array Value} (hs : xs.size = ys.size) (h : ∀ (i : Nat) x y, xs[i]? = some x → ys[i]? = some y → VR M x y) (hf : xs.all flat1 = true) : ys = xs := by
  apply Array.ext hs.symm
  intro i h1 h2
  have e := h i xs[i] ys[i] (Array.getElem?_eq_getElem h2) (Array.getElem?_eq_getElem h1)
  exact e.flat1_eq ((Array.all_eq_true.1 hf) i h2)

theorem VR.flat_eq {M : List ME} {v v' : Value} (h : VR M v v') (hf : flat v = true) : v' = v := by
  cases h with
  | fl v h => rfl
  | ptr i o m h => simp [flat, flat1] at hf
  | sl i o o' n k c m h hn hc => simp [flat, flat1] at hf
  | emp a => simp [flat, flat1] at hf
  | agg xs ys hs h1 h => exact congrArg _ (arr_eq hs h hf)
  | tup xs ys hs h => exact congrArg _ (arr_eq hs h hf)
  | ifc t v v' h => exact congrArg _ (h.flat1_eq hf)

theorem VR.of_flat {M : List ME} {v : Value} (hf : flat v = true) : VR M v v := by
  cases v <;> first
    | exact .fl _ hf
    | (rename_i a; refine .agg a a rfl (fun i x hx => ?_) fun i x y hx hy => ?_
       · obtain ⟨hi, rfl⟩ := Array.getElem?_eq_some_iff.1 hx; exact flat1_one ((Array.all_eq_true.1 hf) i hi)
       · rw [hx] at hy; obtain rfl := Option.some.inj hy
         obtain ⟨hi, rfl⟩ := Array.getElem?_eq_some_iff.1 hx; exact .fl _ ((Array.all_eq_true.1 hf) i hi))
    | (rename_i a; refine .tup a a rfl fun i x y hx hy => ?_; rw [hx] at hy; obtain rfl := Option.some.inj hy
       obtain ⟨hi, rfl⟩ := Array.getElem?_eq_some_iff.1 hx; exact .fl _ ((Array.all_eq_true.1 hf) i hi))
    | exact .ifc _ _ _ (.fl _ hf)

theorem VR.one_eq {M : List ME} {v v' : Value} (h : VR M v v') : one v' = one v := by cases h <;> rfl

/-- A local pointer, or not. -/
def isLoc : Value → Bool
  | .pointer (some ⟨_, _, some _⟩) => true
  | _ => false

/-- A slot of a frame: a local pointer points to the slot's own box, if it is of that box's version. -/
def VF (M : List ME) (L : Nat → Nat) (loc : Nat → Nat × List Value) (v v' : Value) : Prop :=
  match v with
  | .pointer (some ⟨s, off, some ver⟩) => ver ≤ (loc s).1 ∧ (ver ≠ 0 → ver = (loc s).1 → v' = .pointer (some ⟨L s, off, none⟩))
  | v => VR M v v'

theorem VF.vr {M : List ME} {L : Nat → Nat} {loc : Nat → Nat × List Value} {v v' : Value} (h : VF M L loc v v') (hn : isLoc v = false) : VR M v v' := by
  unfold VF at h
  split at h
  · simp [isLoc] at hn
  · exact h
theorem VR.notLoc {M : List ME} {v v' : Value} (h : VR M v v') : isLoc v = false := by
  cases h with
  | fl v h => unfold flat1 at h; split at h <;> first | rfl | contradiction
  | _ => rfl
theorem VR.vf {M : List ME} {L : Nat → Nat} {loc : Nat → Nat × List Value} {v v' : Value} (h : VR M v v') : VF M L loc v v' := by
  have hn := h.notLoc
  unfold VF
  split
  · simp [isLoc] at hn
  · exact h
theorem VF.junk {M : List ME} {L : Nat → Nat} {loc : Nat → Nat × List Value} {v' : Value} : VF M L loc AM.junk v' := ⟨Nat.zero_le _, fun h => absurd rfl h⟩

/-- The cells of a row. -/
def CR (M : List ME) (xs : List Value) (c : Array Value) : Prop := ∀ (j : Nat) x, xs[j]? = some x → one x = true ∧ ∃ y, c[j]? = some y ∧ VR M x y

/-- The same, for a block that may hold what no one knows. -/
def CRs (s : Nat) (M : List ME) (xs : List Value) (c : Array Value) : Prop := ∀ (j : Nat) x, xs[j]? = some x → (s = 1 ∧ isJ x = true) ∨ one x = true ∧ ∃ y, c[j]? = some y ∧ VR M x y
theorem CR.s {s : Nat} {M : List ME} {xs : List Value} {c : Array Value} (h : CR M xs c) : CRs s M xs c := fun j x hx => .inr (h j x hx)
theorem CRs.cr {s : Nat} {M : List ME} {xs : List Value} {c : Array Value} (h : CRs s M xs c) (hs : s ≠ 1) : CR M xs c := fun j x hx => (h j x hx).resolve_left fun e => hs e.1

/-- What the call found at its beginning. -/
structure Base where
  w0 : World
  M0 : List ME
  st0 : St

/-- The world's block. -/
def HasC (w : World) (g : Nat) (c : Array Value) (t : TypeId) (s : Nat) : Prop := ∃ q, w.heap[g]? = some (.cells c t q) ∧ (s = 0 → q = (0, 0))
theorem HasC.live {w : World} {g : Nat} {c : Array Value} {t : TypeId} {s : Nat} (h : HasC w g c t s) (hs : s = 0) : w.heap[g]? = some (.cells c t (0, 0)) := by
  obtain ⟨q, h1, h2⟩ := h
  obtain rfl := h2 hs
  exact h1
theorem HasC.of {w : World} {g : Nat} {c : Array Value} {t : TypeId} {s : Nat} (h : w.heap[g]? = some (.cells c t (0, 0))) : HasC w g c t s := ⟨_, h, fun _ => rfl⟩
theorem HasC.to {w w' : World} {g : Nat} {c : Array Value} {t : TypeId} {s : Nat} (h : HasC w g c t s) (e : w'.heap[g]? = w.heap[g]?) : HasC w' g c t s := h.imp fun _ h => ⟨e.trans h.1, h.2⟩

/-- The package's variables of which the library's contracts ask. -/
def tabNm : List String := ["internal/strconv.uint64pow10", "strconv.ErrSyntax", "strconv.ErrRange"]
structure Tab (P : Program) (w : World) : Prop where
  pow : P.globalNamed "internal/strconv.uint64pow10" ≠ none → Lib.TabIs P w "internal/strconv.uint64pow10" .u64 Lib.pow10Tab
  err : ∀ nm, nm = "strconv.ErrSyntax" ∨ nm = "strconv.ErrRange" → P.globalNamed nm ≠ none → ∃ tp p, w.var? P nm = some #[.iface tp p]
/-- Their blocks are told as read only. -/
def Cov (P : Program) (M : List ME) (st : St) : Prop := ∀ nm ∈ tabNm, ∀ g, P.globalNamed nm = some g → ∃ (j : Nat) (m : ME) (b : Blk), M[j]? = some m ∧ m.b = g ∧ st[j]? = some b ∧ b.stat = 1
theorem Tab.to {P : Program} {w w' : World} (h : Tab P w) (e : ∀ nm ∈ tabNm, ∀ g, P.globalNamed nm = some g → w'.heap[g]? = w.heap[g]?) : Tab P w' := by
  have hv : ∀ nm ∈ tabNm, w'.var? P nm = w.var? P nm := fun nm hn => by
    unfold World.var?
    cases hg : P.globalNamed nm with
    | none => rfl
    | some g => simp only [Option.bind_some]; rw [e nm hn g hg]
  refine ⟨fun hp => ?_, fun nm hn hp => ?_⟩
  · have := h.pow hp
    unfold Lib.TabIs at this ⊢
    rw [hv _ (by simp [tabNm])]; exact this
  · rw [hv _ (by rcases hn with rfl | rfl <;> simp [tabNm])]; exact h.err nm hn hp

/-- The store and the world's heap. -/
structure HR (P : Program) (B : Base) (M : List ME) (st : St) (w : World) : Prop where
  len : M.length = st.length
  pre : ∀ (i : Nat) m, B.M0[i]? = some m → M[i]? = some m
  blk : ∀ (i : Nat) b m, st[i]? = some b → M[i]? = some m → b.stat ≠ 2 → ¬ (b.stat = 1 ∧ b.cells = []) → ∃ c, HasC w m.b c b.ty b.stat ∧ c.size = m.n ∧ b.cells.length ≤ m.n ∧ CRs b.stat M b.cells c ∧ (b.stat = 0 → m.ap = true ∧ m.sz = P.cellsOf b.ty)
  inj : ∀ (i j : Nat) b b' m m', st[i]? = some b → st[j]? = some b' → b.stat ≠ 2 → b'.stat ≠ 2 → M[i]? = some m → M[j]? = some m' → m.b = m'.b → i = j
  lt : ∀ (i : Nat) m, M[i]? = some m → m.b < w.heap.size
  old : ∀ (i : Nat) m, M[i]? = some m → m.b < B.w0.heap.size → ∃ (j : Nat) (m' : ME), B.M0[j]? = some m' ∧ m'.b = m.b
  ro : ∀ (i : Nat) b m, B.st0[i]? = some b → b.stat = 1 → B.M0[i]? = some m → st[i]? = some b ∧ w.heap[m.b]? = B.w0.heap[m.b]?
  os : w.os = B.w0.os
  tape : w.tape = B.w0.tape
  output : w.output = B.w0.output
  size : B.w0.heap.size ≤ w.heap.size
  frame : ∀ k, k < B.w0.heap.size → (∀ (j : Nat) m, B.M0[j]? = some m → m.b ≠ k) → w.heap[k]? = B.w0.heap[k]?
  tab : Tab P B.w0
  cov : Cov P B.M0 B.st0

theorem HR.tabs {P : Program} {B : Base} {M : List ME} {st : St} {w : World} (h : HR P B M st w) : Tab P w ∧ Cov P M st := by
  refine ⟨h.tab.to fun nm hn g hg => ?_, fun nm hn g hg => ?_⟩
  · obtain ⟨j, m, b, h1, rfl, h3, h4⟩ := h.cov nm hn g hg
    exact (h.ro j b m h3 h4 h1).2
  · obtain ⟨j, m, b, h1, h2, h3, h4⟩ := h.cov nm hn g hg
    exact ⟨j, m, b, h.pre j m h1, h2, (h.ro j b m h3 h4 h1).1, h4⟩

/-- A frame in the midst of its code. -/
structure Rel (P : Program) (B : Base) (M : List ME) (L : Nat → Nat) (n : Nat) (fr : Fr) (st : St) (a : Act) (w : World) : Prop where
  defers : a.defers = []
  size : a.tmps.size = n
  env : ∀ t, VF M L fr.loc (fr.env t) (a.tmps.getD t undef)
  loc : ∀ s, (fr.loc s).1 ≠ 0 → ∃ c ty, w.heap[L s]? = some (.cells c ty (0, 0)) ∧ c.size = (fr.loc s).2.length ∧ CR M (fr.loc s).2 c ∧ B.w0.heap.size ≤ L s ∧ L s < w.heap.size
  locInj : ∀ s t, (fr.loc s).1 ≠ 0 → (fr.loc t).1 ≠ 0 → L s = L t → s = t
  locOut : ∀ s, (fr.loc s).1 ≠ 0 → ∀ (i : Nat) m, M[i]? = some m → m.b ≠ L s
  heap : HR P B M st w

theorem Rel.ev {P : Program} {B : Base} {M : List ME} {L : Nat → Nat} {n : Nat} {fr : Fr} {st : St} {a : Act} {w : World} (R : Rel P B M L n fr st a w) (x : Operand) : VF M L fr.loc (fr.ev x) (a.eval x) := by
  cases x with
  | tmp t => exact R.env t
  | const v =>
    show VF M L fr.loc (if flat v then v else AM.junk) v
    by_cases h : flat v = true
    · rw [if_pos h]; exact (VR.of_flat h).vf
    · rw [if_neg h]; exact VF.junk
  | global g => exact VF.junk
  | func f => exact VR.vf (.fl _ rfl)

end Go.Proofs.Ytdijnohbbgbklaa.AM
