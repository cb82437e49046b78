/- The walk's equations: slices of one element, bytes to strings, conversions. -/
import Derived.Test.YtdijnohbbgbklaaH15
namespace Go.Proofs.Ytdijnohbbgbklaa.AM
open Go
set_option linter.unusedVariables false
set_option linter.unusedSimpArgs false

theorem foldl_get (l : List Value) : ∀ (k : Nat) (c : Array Value) (j : Nat), ((l.zipIdx k).foldl (fun cs (x, i) => cs.setIfInBounds (0 + i) x) c)[j]? = if k ≤ j ∧ j < k + l.length ∧ j < c.size then l[j - k]? else c[j]? := by
  induction l with
  | nil => intro k c j; simp; omega
  | cons x l ih =>
    intro k c j
    rw [List.zipIdx_cons, List.foldl_cons, ih]
    simp only [Nat.zero_add, Array.size_setIfInBounds, List.length_cons, Array.getElem?_setIfInBounds]
    by_cases h1 : k + 1 ≤ j ∧ j < k + 1 + l.length ∧ j < c.size
    · rw [if_pos h1, if_pos ⟨by omega, by omega, h1.2.2⟩]
      have e : j - k = (j - (k + 1)) + 1 := by omega
      rw [e, List.getElem?_cons_succ]
    · rw [if_neg h1]
      by_cases h2 : k = j
      · subst h2
        rw [if_pos rfl]
        by_cases h3 : k < c.size
        · rw [if_pos h3, if_pos ⟨by omega, by omega, h3⟩]; simp
        · rw [if_neg h3, if_neg (by omega), Array.getElem?_eq_none (by omega)]
      · rw [if_neg h2, if_neg (by omega)]
theorem fill_one {v : Value} {row : Array Value} {sz : Nat} (hr : row.size = sz) : Instr.fill (fun i => some (i * sz, sz)) row [(0, v)] = if v.cells.size = sz then some v.cells else none := by
  simp only [Instr.fill]
  by_cases h : v.cells.size = sz
  · rw [if_pos h]
    have hc : ¬ ((decide (v.cells.size ≠ sz) || decide (0 * sz + v.cells.size > row.size)) = true) := by simp [h, hr]
    rw [if_neg hc]
    congr 1
    apply Array.ext_getElem?
    intro j
    have e : (0 * sz) = 0 := by simp
    rw [← Array.foldl_toList, Array.toList_zipIdx]
    have := foldl_get v.cells.toList 0 row j
    simp only [e] at this ⊢
    rw [this]
    by_cases hj : j < v.cells.size
    · rw [if_pos ⟨by omega, by simpa using hj, by omega⟩]; simp
    · rw [if_neg (by simp; omega), Array.getElem?_eq_none (by omega), Array.getElem?_eq_none (by omega)]
  · rw [if_neg h]
    have hc : ((decide (v.cells.size ≠ sz) || decide (0 * sz + v.cells.size > row.size)) = true) := by simp [h]
    rw [if_pos hc]

section
variable {P : Program} {A H : List Tmp} {ρ : Operand → Value} {loc : Nat → Nat × List Value} {st : St} {t u : TypeId} {x : Operand}
theorem bs1 {d : Option Tmp} {ty : TypeId} {p : String} {af : Array Edge} {g : Option (Nat × Bool)} : evalEff P H ⟨d, .buildSlice t 1 #[(0, x)], ty, p, af, g⟩ ρ loc st = (match elemA P t with
    | some e => (match rowA P e 1, szA P e with
      | some _, some sz => if okv (ρ x) then (if (vc (ρ x)).size = sz then some (.slice (some ⟨st.length, 0, none⟩) 1 1, loc, st ++ [⟨(vc (ρ x)).toList, e, 0⟩]) else none) else none
      | _, _ => none)
    | none => none) := by
  simp only [evalEff]
  cases elemA P t with
  | none => rfl
  | some e =>
    simp only
    cases hr : rowA P e 1 with
    | none => rfl
    | some row =>
      cases hs : szA P e with
      | none => rfl
      | some sz =>
        simp only
        have hrl : row.length = sz := by
          obtain ⟨sz', h1, _, _, z, zv, _, _, h5⟩ := rowA_sound hr
          rw [hs] at h1
          obtain rfl := Option.some.inj h1
          rw [h5, zrow_len]; simp
        have hall : ((#[((0 : Nat), x)] : Array (Nat × Operand)).all fun p => okv (ρ p.2)) = okv (ρ x) := by simp
        rw [hall]
        cases okv (ρ x) with
        | false => rfl
        | true =>
          simp only [if_true]
          have hm : ((#[((0 : Nat), x)] : Array (Nat × Operand)).map fun (i, x) => (i, ρ x)).toList = [(0, ρ x)] := by simp
          rw [hm, fill_one (by simpa using hrl)]
          unfold vc
          by_cases h : (ρ x).cells.size = sz
          · rw [if_pos h, if_pos h]; rfl
          · rw [if_neg h, if_neg h]; rfl

/-- Bytes to a string. -/
def cvB (P : Program) (A : List Tmp) (t u : TypeId) (v : Value) (loc : Nat → Nat × List Value) (st : St) : Option Value :=
  match P.underlying t, P.underlying u, v with
    | some (.slice e), some .string, .slice (some ⟨b, o, none⟩) n _ =>
      match P.underlying e with
      | some (.int .u8) => match cellsFrom (cellAt A loc st b none) o n with
        | some cs => match bytesOf cs with
          | some ns => some (.string (ns.foldl (fun r n => r.push (UInt8.ofNat n.toNat)) ByteArray.empty))
          | none => none
        | none => none
      | _ => none
    | _, _, _ => none
def cvI (P : Program) (t u : TypeId) (v : Value) : Option Value := flatRun P (convert t u v)
theorem ev_conv : evalVal P A (.convert t u x) ρ loc st = if flat (ρ x) then cvI P t u (ρ x) else cvB P A t u (ρ x) loc st := rfl
theorem cvI_int {d : TypeDesc} {k k' : IntKind} {n : Int} (ht : P.underlying t = some d) (hu : P.underlying u = some (.int k')) : cvI P t u (.int k n) = some (.int k' (k'.wrap n)) := by
  have hc : pureRun P (convert t u (.int k n)) = some (.int k' (k'.wrap n)) := by
    unfold convert
    rw [pureRun_bind, pureRun_und ht]
    simp only [Option.bind_some]
    rw [pureRun_bind, pureRun_und hu]
    simp only [Option.bind_some]
    rfl
  unfold cvI flatRun
  rw [hc]; rfl
end
end Go.Proofs.Ytdijnohbbgbklaa.AM
