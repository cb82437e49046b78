/- The abstract machine's operations that change nothing. -/
import Derived.Test.YtdijnohbbgbklaaH1
import Derived.Laws.BytesString
import Derived.Laws.Small
namespace Go.Proofs.Ytdijnohbbgbklaa.AM
open Go
set_option linter.unusedVariables false
set_option linter.unusedSimpArgs false

def pureRun (P : Program) {α : Type} : Sem α → Option α
  | .pure a => some a
  | .program k => pureRun P (k P)
  | .mark _ k => pureRun P k
  | _ => none

theorem pureRun_run {P : Program} {α : Type} {s : Sem α} {a : α} (h : pureRun P s = some a) (w : World) : s.run P w = .ok a w := by
  induction s with
  | pure b => simp only [pureRun, Option.some.injEq] at h; subst h; rfl
  | program k ih => exact ih P h
  | mark m k ih => exact ih h
  | load _ _ _ _ => simp [pureRun] at h
  | store _ _ _ _ _ => simp [pureRun] at h
  | new _ _ _ => simp [pureRun] at h
  | shape _ _ _ => simp [pureRun] at h
  | freeze _ _ _ _ => simp [pureRun] at h
  | frozen _ _ _ => simp [pureRun] at h
  | getObj _ _ _ => simp [pureRun] at h
  | setObj _ _ _ _ => simp [pureRun] at h
  | choose _ _ _ => simp [pureRun] at h
  | sys _ _ _ => simp [pureRun] at h
  | halt _ => simp [pureRun] at h

/-- A computation over plain values, that yields a plain value. -/
def flatRun (P : Program) (s : Sem Value) : Option Value := match pureRun P s with
  | some v => if flat v then some v else none
  | none => none
theorem flatRun_run {P : Program} {s : Sem Value} {v : Value} (h : flatRun P s = some v) (w : World) : s.run P w = .ok v w ∧ flat v = true := by
  unfold flatRun at h
  split at h
  · rename_i u hu
    split at h
    · rename_i hf
      simp only [Option.some.injEq] at h; subst h
      exact ⟨pureRun_run hu w, hf⟩
    · cases h
  · cases h

def szA (P : Program) (t : TypeId) : Option Nat := (P.info? t).map (·.size)
def aggA (P : Program) (t : TypeId) : Option Bool := match P.underlying t with
  | some (.struct _) | some (.array ..) => some true
  | some _ => some false
  | none => none
def elemA (P : Program) (t : TypeId) : Option TypeId := match P.underlying t with
  | some (.slice e) => some e
  | _ => none
def offA (P : Program) (t : TypeId) (f : Nat) : Option Nat := match P.underlying t with
  | some (.struct fs) => match fs[f]? with
    | some fd => match szA P fd.type with
      | some (_ + 1) => some fd.offset
      | _ => none
    | none => none
  | _ => none

/-- Where a field's cells begin, and how many they are, if it is a struct itself. -/
def fieldA (P : Program) (t : TypeId) (f : Nat) : Option (Nat × Option Nat) := match P.underlying t with
  | some (.struct fs) => match fs[f]? with
    | some fd => match aggA P fd.type, szA P fd.type with
      | some true, some n => some (fd.offset, some n)
      | some false, _ => some (fd.offset, none)
      | _, _ => none
    | none => none
  | _ => none
def zeroA (P : Program) (t : TypeId) : Option (List Value) := match P.info? t with
  | some i => match i.zero with
    | some z => if z.cells.all flat1 then some z.cells.toList else none
    | none => none
  | none => none
def buildA (P : Program) (t : TypeId) : Option (List Value × Array (Nat × Nat)) := match P.underlying t with
  | some (.struct fs) => match zeroA P t, pureRun P (fs.mapM fun f => do pure (f.offset, ← sizeOf f.type)) with
    | some z, some pl => some (z, pl)
    | _, _ => none
  | _ => none
/-- A value that may be laid into memory. -/
def okv : Value → Bool
  | .tuple _ | .pointer (some ⟨_, _, some _⟩) => false
  | _ => true

theorem run_sizeOf {P : Program} {t : TypeId} {n : Nat} (h : szA P t = some n) (w : World) : (sizeOf t).run P w = .ok n w := by
  unfold szA at h
  cases hi : P.info? t with
  | none => simp [hi] at h
  | some i =>
    simp only [hi, Option.map_some, Option.some.injEq] at h
    subst h
    simp [sizeOf, typeInfo, hi]
theorem run_isAgg {P : Program} {t : TypeId} {b : Bool} (h : aggA P t = some b) (w : World) : (isAgg t).run P w = .ok b w := by
  unfold aggA at h
  cases hi : P.underlying t with
  | none => simp [hi] at h
  | some d =>
    rw [hi] at h
    cases d <;> simp only [Option.some.injEq] at h <;> subst h <;> simp [isAgg, underlying, hi]
theorem elemA_eq {P : Program} {t e : TypeId} (h : elemA P t = some e) : P.underlying t = some (.slice e) := by
  unfold elemA at h
  split at h
  · rename_i e' h'; simp only [Option.some.injEq] at h; rw [h', h]
  · cases h

/-- The cell of an address. -/
def cellAt (A : List Tmp) (loc : Nat → Nat × List Value) (st : St) (b : Nat) (sp : Option Nat) (j : Nat) : Option Value :=
  match sp with
  | some ver => if ver ≠ 0 ∧ (loc b).1 = ver ∧ b ∉ A then (loc b).2[j]? else none
  | none => cell st b j

def okPtr (A : List Tmp) (loc : Nat → Nat × List Value) (b : Nat) (sp : Option Nat) : Bool :=
  match sp with
  | some ver => decide (ver ≠ 0 ∧ (loc b).1 = ver ∧ b ∉ A)
  | none => true

def loadA (P : Program) (A : List Tmp) (t : TypeId) (v : Value) (loc : Nat → Nat × List Value) (st : St) : Option Value :=
  match v with
  | .pointer (some ⟨b, o, sp⟩) =>
    match aggA P t, szA P t with
    | some true, some n => match cellsFrom (cellAt A loc st b sp) o n with
      | some cs => if okPtr A loc b sp then some (.agg cs.toArray) else none
      | none => none
    | some false, _ => cellAt A loc st b sp o
    | _, _ => none
  | _ => none

def bytesOf : List Value → Option (List Int)
  | [] => some []
  | .int .u8 n :: r => (bytesOf r).map (n :: ·)
  | _ => none

def sliceA (P : Program) (t : TypeId) (x : Value) (lo hi : Option Value) : Option Value :=
  match x with
  | .slice (some ⟨b, o, none⟩) n _ =>
    match elemA P t with
    | some e => match szA P e with
      | some (sz + 1) =>
        match (match hi with | none => some (n : Int) | some (.int _ h) => some h | _ => none), (match lo with | none => some (0 : Int) | some (.int _ l) => some l | _ => none) with
        | some h, some l => if 0 ≤ l ∧ l ≤ h ∧ h ≤ n then some (.slice (some ⟨b, o + l.toNat * (sz + 1), none⟩) (h.toNat - l.toNat) (h.toNat - l.toNat)) else none
        | _, _ => none
      | _ => none
    | none => none
  | _ => none

def eqNil (op : BinOp) (x y : Value) : Option Value :=
  match op, x, y with
  | .eql, .slice (some _) _ _, .slice none 0 0 => some (.bool false)
  | .neq, .slice (some _) _ _, .slice none 0 0 => some (.bool true)
  | _, _, _ => none

/-- An interface that holds something is not nil. -/
def eqNilI (P : Program) (t : TypeId) (op : BinOp) (x y : Value) : Option Value :=
  match P.underlying t, op, x, y with
  | some (.interface _), .eql, .iface _ _, .nilIface => some (.bool false)
  | some (.interface _), .neq, .iface _ _, .nilIface => some (.bool true)
  | _, _, _, _ => none

def maxV : List Value → Option Value
  | [.int k a, .int _ b] => some (.int k (if b > a then b else a))
  | _ => none
/-- What an operation yields that changes nothing. -/
def evalVal (P : Program) (A : List Tmp) (o : Op) (ρ : Operand → Value) (loc : Nat → Nat × List Value) (st : St) : Option Value :=
  match o with
  | .move x | .assign x => some (ρ x)
  | .pick c a b => match ρ c with
    | .bool t => some (if t then ρ a else ρ b)
    | _ => none
  | .binOp op t x y _ => if flat (ρ x) && flat (ρ y) then flatRun P (do eqGuard op t x y (ρ x) (ρ y); Go.binOp op t (ρ x) (ρ y))
    else match elemA P t with
      | some _ => eqNil op (ρ x) (ρ y)
      | none => eqNilI P t op (ρ x) (ρ y)
  | .unOp op _ x => if flat (ρ x) then flatRun P (Op.unary op (ρ x)) else none
  | .convert src dst x => if flat (ρ x) then flatRun P (convert src dst (ρ x)) else
    match P.underlying src, P.underlying dst, ρ x with
    | some (.slice e), some .string, .slice (some ⟨b, o, none⟩) n _ =>
      match P.underlying e with
      | some (.int .u8) => match cellsFrom (cellAt A loc st b none) o n with
        | some cs => match bytesOf cs with
          | some ns => some (.string (ns.foldl (fun r n => r.push (UInt8.ofNat n.toNat)) ByteArray.empty))
          | none => none
        | none => none
      | _ => none
    | _, _, _ => none
  | .index t x i => if flat (ρ x) && flat (ρ i) then flatRun P (Instr.index t (ρ x) (ρ i)) else none
  | .slice t x lo hi mx => match mx with
    | some _ => none
    | none => if flat (ρ x) && (lo.all fun l => flat (ρ l)) && (hi.all fun h => flat (ρ h)) then flatRun P (Instr.sliceAt t (ρ x) (lo.map ρ) (hi.map ρ) none) else sliceA P t (ρ x) (lo.map ρ) (hi.map ρ)
  | .fieldAddr t x f => match ρ x with
    | .pointer (some ⟨b, o, sp⟩) => match offA P t f with
      | some d => if okPtr A loc b sp then some (.pointer (some ⟨b, o + d, sp⟩)) else none
      | none => none
    | _ => none
  | .nilCheck x => match ρ x with
    | .pointer (some ⟨b, o, sp⟩) => if okPtr A loc b sp then some (ρ x) else none
    | _ => none
  | .indexAddr t x i => match ρ x, ρ i, elemA P t with
    | .slice (some ⟨b, o, none⟩) n _, .int _ k, some e => match szA P e with
      | some sz => if 0 ≤ k ∧ k < n then some (.pointer (some ⟨b, o + k.toNat * sz, none⟩)) else none
      | none => none
    | _, _, _ => none
  | .load t x => loadA P A t (ρ x) loc st
  | .field t x f => match ρ x, fieldA P t f with
    | .agg cs, some (d, some n) => if d + n ≤ cs.size then some (.agg (cs.extract d (d + n))) else none
    | .agg cs, some (d, none) => cs[d]?
    | _, _ => none
  | .build t parts => match buildA P t with
    | some (z, pl) => if parts.all (fun p => okv (ρ p.2)) then (Instr.fill (pl[·]?) z.toArray (parts.map fun (i, x) => (i, ρ x)).toList).map .agg else none
    | none => none
  | .extract x i => match ρ x with
    | .tuple vs => vs[i]?
    | _ => none
  | .call { callee := .builtin .len, args := args, argTypes := ts } => match ts[0]?, args[0]? with
    | some t, some x => match P.underlying t, ρ x with
      | some .string, .string s => some (.int .i64 s.size)
      | some (.slice _), .slice _ n _ => some (.int .i64 n)
      | _, _ => none
    | _, _ => none
  | .call { callee := .builtin .max, args := args, .. } => maxV (args.toList.map ρ)
  | _ => none

theorem cellsFrom_len {f : Nat → Option Value} : ∀ {n o : Nat} {cs : List Value}, cellsFrom f o n = some cs → cs.length = n := by
  intro n
  induction n with
  | zero => intro o cs h; simp only [cellsFrom, Option.some.injEq] at h; subst h; rfl
  | succ n ih =>
    intro o cs h
    simp only [cellsFrom] at h
    split at h
    · cases h
    · split at h
      · cases h
      · rename_i v _ r hr
        simp only [Option.some.injEq] at h
        subst h
        simp [ih hr]
theorem cellsFrom_get {f : Nat → Option Value} : ∀ {n o : Nat} {cs : List Value}, cellsFrom f o n = some cs → ∀ (j : Nat) v, cs[j]? = some v → f (o + j) = some v := by
  intro n
  induction n with
  | zero => intro o cs h j v hj; simp only [cellsFrom, Option.some.injEq] at h; subst h; simp at hj
  | succ n ih =>
    intro o cs h j v hj
    simp only [cellsFrom] at h
    split at h
    · cases h
    · rename_i x hx
      split at h
      · cases h
      · rename_i r hr
        simp only [Option.some.injEq] at h
        subst h
        cases j with
        | zero => simp only [List.getElem?_cons_zero, Option.some.injEq] at hj; subst hj; exact hx
        | succ j => have := ih hr j v (by simpa using hj); rwa [show o + (j + 1) = o + 1 + j by omega]
theorem cellsFrom_of {f : Nat → Option Value} : ∀ {n o : Nat} {cs : List Value}, cs.length = n → (∀ (j : Nat) v, cs[j]? = some v → f (o + j) = some v) → cellsFrom f o n = some cs := by
  intro n
  induction n with
  | zero => intro o cs hl h; obtain rfl := List.eq_nil_of_length_eq_zero hl; rfl
  | succ n ih =>
    intro o cs hl h
    cases cs with
    | nil => simp at hl
    | cons v r =>
      have h0 := h 0 v rfl
      have hr : cellsFrom f (o + 1) n = some r := ih (by simpa using hl) fun j x hx => by have := h (j + 1) x (by simpa using hx); rwa [show o + (j + 1) = o + 1 + j by omega] at this
      have h0' : f o = some v := h0
      simp only [cellsFrom]
      rw [h0', hr]

section
variable {P : Program} {B : Base} {M : List ME} {L : Nat → Nat} {n : Nat} {fr : Fr} {st : St} {a : Act} {w : World}

/-- Where a pointer that is in order points to. -/
theorem Rel.pointer (R : Rel P B M L n fr st a w) {A : List Tmp} {b o : Nat} {sp : Option Nat} {v' : Value} (h : VF M L fr.loc (.pointer (some ⟨b, o, sp⟩)) v') (hp : okPtr A fr.loc b sp = true) :
    ∃ g, v' = .pointer (some ⟨g, o, none⟩) ∧ ∀ o', VF M L fr.loc (.pointer (some ⟨b, o', sp⟩)) (.pointer (some ⟨g, o', none⟩)) := by
  cases sp with
  | some ver =>
    simp only [okPtr, decide_eq_true_eq] at hp
    have := h.2 hp.1 hp.2.1.symm
    exact ⟨L b, this, fun o' => ⟨h.1, fun _ _ => rfl⟩⟩
  | none =>
    have h' : VR M (.pointer (some ⟨b, o, none⟩)) v' := h
    cases h' with
    | fl _ hf => cases hf
    | ptr i o m hm => exact ⟨m.b, rfl, fun o' => VR.ptr b o' m hm⟩

theorem okPtr_of_cellAt {A : List Tmp} {loc : Nat → Nat × List Value} {b : Nat} {sp : Option Nat} {j : Nat} {x : Value} (h : cellAt A loc st b sp j = some x) : okPtr A loc b sp = true := by
  cases sp with
  | none => rfl
  | some ver => simp only [cellAt] at h; simp only [okPtr, decide_eq_true_eq]; split at h <;> first | assumption | cases h

theorem Rel.cell (R : Rel P B M L n fr st a w) {A : List Tmp} {b o g : Nat} {sp : Option Nat} {j : Nat} {x : Value}
    (h : VF M L fr.loc (.pointer (some ⟨b, o, sp⟩)) (.pointer (some ⟨g, o, none⟩))) (hc : cellAt A fr.loc st b sp j = some x) : one x = true ∧ ∃ y, w.cell? ⟨g, j, none⟩ = some y ∧ VR M x y := by
  cases sp with
  | some ver =>
    simp only [cellAt] at hc
    split at hc
    · rename_i hv
      obtain ⟨h1, h2, h3⟩ := hv
      have e := h.2 h1 h2.symm
      injection e with e; injection e with e; injection e with e1 e2
      subst e1
      obtain ⟨c, ty, hw, hs, hcr, _⟩ := R.loc b (by rw [h2]; exact h1)
      obtain ⟨h1x, y, hy, hv⟩ := hcr j x hc
      exact ⟨h1x, y, by simp [World.cell?, hw, hy], hv⟩
    · cases hc
  | none =>
    simp only [cellAt, AM.cell] at hc
    split at hc
    · rename_i blk hb
      split at hc
      · cases hc
      · rename_i hst
        have h' : VR M (.pointer (some ⟨b, o, none⟩)) (.pointer (some ⟨g, o, none⟩)) := h
        have hm : ∃ m, M[b]? = some m ∧ m.b = g := by
          cases h' with
          | fl _ hf => cases hf
          | ptr i o m hm => exact ⟨m, hm, rfl⟩
        obtain ⟨m, hm, rfl⟩ := hm
        obtain ⟨c, ⟨q, hw, _⟩, _, _, hcr, _⟩ := R.heap.blk b blk m hb hm hst (fun e => by rw [e.2] at hc; simp at hc)
        obtain ⟨h1x, y, hy, hv⟩ : one x = true ∧ ∃ y, c[j]? = some y ∧ VR M x y := by
          split at hc
          · rename_i h1
            cases hq : blk.cells[j]? with
            | none => rw [hq] at hc; cases hc
            | some v =>
              rw [hq] at hc
              simp only at hc
              by_cases hj : isJ v = true
              · rw [if_pos hj] at hc; cases hc
              · rw [if_neg hj] at hc
                obtain rfl := Option.some.inj hc
                exact (hcr j v hq).resolve_left fun e => hj e.2
          · rename_i h1
            exact (hcr.cr h1) j x hc
        exact ⟨h1x, y, by simp [World.cell?, hw, hy], hv⟩
    · cases hc

theorem get_ofFn {α : Type} {n : Nat} (f : Fin n → α) (j : Nat) (h : j < n) : (List.ofFn f)[j]? = some (f ⟨j, h⟩) := by
  rw [List.getElem?_eq_getElem (by simpa using h), List.getElem_ofFn]

/-- Cells that stand in a row, in the world. -/
theorem row_exists {cs : List Value} {g o : Nat} (h : ∀ (j : Nat) x, cs[j]? = some x → one x = true ∧ ∃ y, w.cell? ⟨g, o + j, none⟩ = some y ∧ VR M x y) :
    ∃ ys : List Value, ys.length = cs.length ∧ (∀ (j : Nat) y, ys[j]? = some y → w.cell? ((⟨g, o, none⟩ : Addr).add j) = some y) ∧ ∀ (j : Nat) x y, cs[j]? = some x → ys[j]? = some y → VR M x y := by
  have each : ∀ j : Fin cs.length, ∃ y, w.cell? ⟨g, o + j.1, none⟩ = some y ∧ VR M cs[j.1] y := fun j => (h j.1 _ (List.getElem?_eq_getElem j.2)).2
  refine ⟨List.ofFn fun j => Classical.choose (each j), by simp, fun j y hj => ?_, fun j x y hx hy => ?_⟩
  · have hlt : j < cs.length := by have := (List.getElem?_eq_some_iff.1 hj).1; simpa using this
    rw [get_ofFn _ _ hlt] at hj
    obtain rfl := Option.some.inj hj
    have e : (⟨g, o, none⟩ : Addr).add j = ⟨g, o + j, none⟩ := by unfold Addr.add; split <;> simp_all
    rw [e]
    exact (Classical.choose_spec (each ⟨j, hlt⟩)).1
  · have hlt : j < cs.length := (List.getElem?_eq_some_iff.1 hx).1
    rw [get_ofFn _ _ hlt] at hy
    obtain rfl := Option.some.inj hy
    rw [List.getElem?_eq_getElem hlt] at hx
    obtain rfl := Option.some.inj hx
    exact (Classical.choose_spec (each ⟨j, hlt⟩)).2

theorem agg_of_row {cs ys : List Value} (h1 : ∀ (j : Nat) x, cs[j]? = some x → one x = true) (hl : ys.length = cs.length) (h : ∀ (j : Nat) x y, cs[j]? = some x → ys[j]? = some y → VR M x y) : VR M (.agg cs.toArray) (.agg ys.toArray) :=
  .agg _ _ (by simp [hl]) (fun i x hx => h1 i x (by simpa using hx)) fun i x y hx hy => h i x y (by simpa using hx) (by simpa using hy)

end
end Go.Proofs.Ytdijnohbbgbklaa.AM
