/- Structures are built part by part. -/
import Derived.Test.YtdijnohbbgbklaaH16
namespace Go.Proofs.Ytdijnohbbgbklaa.AM
open Go Go.Proofs
set_option linter.unusedVariables false
set_option linter.unusedSimpArgs false

theorem setIn_splice (c : Value) (cs : List Value) (z : Array Value) (o : Nat) (h : o + (cs.length + 1) ≤ z.size) : splice (z.setIfInBounds o c).toList (o + 1) cs = splice z.toList o (c :: cs) := by
  unfold AM.splice
  have hz : o < z.toList.length := by simp; omega
  simp only [Array.toList_setIfInBounds, List.length_cons]
  rw [List.take_set, List.drop_set_of_lt (by omega)]
  have h1 : z.toList.take (o + 1) = z.toList.take o ++ [z.toList[o]] := List.take_succ_eq_append_getElem hz
  rw [h1, List.set_append_right _ _ (by simp; omega)]
  have h2 : o - (z.toList.take o).length = 0 := by simp; omega
  rw [h2]
  simp only [List.set_cons_zero, List.append_assoc, List.cons_append, List.nil_append]
  rw [Nat.add_assoc, Nat.add_comm 1]
theorem fold_splice (cs : List Value) : ∀ (z : Array Value) (off k : Nat), off + k + cs.length ≤ z.size → (cs.zipIdx k).foldl (fun (a : Array Value) (p : Value × Nat) => a.setIfInBounds (off + p.2) p.1) z = (splice z.toList (off + k) cs).toArray := by
  induction cs with
  | nil => intro z off k h; unfold AM.splice; simp
  | cons c cs ih =>
    intro z off k h
    simp only [List.length_cons] at h
    rw [List.zipIdx_cons, List.foldl_cons, ih _ _ _ (by simp; omega)]
    congr 1
    exact setIn_splice c cs z (off + k) (by omega)

/-- The parts are laid in. -/
def fillL (pl : Array (Nat × Nat)) : List Value → List (Nat × Value) → Option (List Value)
  | z, [] => some z
  | z, (i, v) :: rest => match pl[i]? with
    | some (off, size) => if (vc v).size = size ∧ off + size ≤ z.length then fillL pl (splice z off (vc v).toList) rest else none
    | none => none
theorem fill_L (pl : Array (Nat × Nat)) : ∀ (ps : List (Nat × Value)) (z : List Value), Instr.fill (pl[·]?) z.toArray ps = (fillL pl z ps).map List.toArray := by
  intro ps
  induction ps with
  | nil => intro z; rfl
  | cons p ps ih =>
    intro z
    obtain ⟨i, v⟩ := p
    unfold Instr.fill fillL
    cases pl[i]? with
    | none => rfl
    | some q =>
      obtain ⟨off, size⟩ := q
      simp only
      unfold vc
      by_cases h : v.cells.size = size ∧ off + size ≤ z.length
      · rw [if_pos h, if_neg (by simp; omega)]
        rw [← ih]
        congr 1
        have := fold_splice v.cells.toList z.toArray off 0 (by simp; omega)
        rw [← Array.foldl_toList]
        simpa [Array.toList_zipIdx] using this
      · rw [if_neg h, if_pos (by simp; omega)]
        rfl

section
variable {P : Program} {A H : List Tmp} {ρ : Operand → Value} {loc : Nat → Nat × List Value} {st : St} {t u : TypeId} {x : Operand}
theorem ev_buildL {ps : Array (Nat × Operand)} : evalVal P A (.build t ps) ρ loc st = match buildA P t with
    | some (z, pl) => if ps.toList.all (fun p => okv (ρ p.2)) then (fillL pl z (ps.toList.map fun p => (p.1, ρ p.2))).map (fun l => .agg l.toArray) else none
    | none => none := by
  rw [ev_build]
  cases buildA P t with
  | none => rfl
  | some zp =>
    obtain ⟨z, pl⟩ := zp
    simp only
    have h1 : (ps.all fun p => okv (ρ p.2)) = ps.toList.all (fun p => okv (ρ p.2)) := by rw [Array.all_toList]
    have h2 : (ps.map fun (i, x) => (i, ρ x)).toList = ps.toList.map fun p => (p.1, ρ p.2) := by simp
    rw [h1, h2, fill_L, Option.map_map]
    rfl
end
theorem fillL_nil {pl : Array (Nat × Nat)} {z : List Value} : fillL pl z [] = some z := rfl
theorem fillL_cons {pl : Array (Nat × Nat)} {z : List Value} {i : Nat} {v : Value} {rest : List (Nat × Value)} : fillL pl z ((i, v) :: rest) = match pl[i]? with
    | some (off, size) => if (vc v).size = size ∧ off + size ≤ z.length then fillL pl (splice z off (vc v).toList) rest else none
    | none => none := rfl
/-- A slice of no elements, not nil. -/
theorem bs0 {P : Program} {H : List Tmp} {ρ : Operand → Value} {loc : Nat → Nat × List Value} {st : St} {t : TypeId} {d : Option Tmp} {ty : TypeId} {p : String} {af : Array Edge} {g : Option (Nat × Bool)} : evalEff P H ⟨d, .buildSlice t 0 #[], ty, p, af, g⟩ ρ loc st = (match elemA P t with
    | some e => (match rowA P e 0, szA P e with
      | some row, some sz => some (.slice (some ⟨st.length, 0, none⟩) 0 0, loc, st ++ [⟨row, e, 0⟩])
      | _, _ => none)
    | none => none) := by
  simp only [evalEff]
  cases elemA P t with
  | none => rfl
  | some e =>
    simp only
    cases rowA P e 0 with
    | none => rfl
    | some row =>
      cases szA P e with
      | none => rfl
      | some sz => simp [Instr.fill]

/-- A guarded operation. -/
def gsk (want : Bool) : Option Value → Bool
  | some (.bool b) => b != want
  | some (.tuple vs) => vs.size == 0
  | _ => false
def gye (want : Bool) : Option Value → Bool
  | some (.bool b) => b == want
  | _ => false
theorem gye_b {w b : Bool} : gye w (some (.bool b)) = (b == w) := rfl
theorem gye_t {w : Bool} : gye w (some undef) = false := rfl
theorem gb1 : (true == false) = false := rfl
theorem gb2 : (false == true) = false := rfl
theorem gb3 : (true != false) = true := rfl
theorem gb4 : (false != true) = true := rfl
theorem gsk_b {w b : Bool} : gsk w (some (.bool b)) = (b != w) := rfl
theorem gsk_t {w : Bool} : gsk w (some undef) = true := rfl
theorem w_guard {P : Program} {A H : List Tmp} {G : Nat → Option Tmp} {dst : Option Tmp} {op : Op} {t : TypeId} {p : String} {af : Array Edge} {j : Nat} {want x : Bool} {rest : List (Oper × Bool)} {K : Fr → St → Prop} {env : Nat → Value} {loc : Nat → Nat × List Value} {st : St} :
    WOps P A H G ((⟨dst, op, t, p, af, some (j, want)⟩, x) :: rest) K ⟨env, loc⟩ st = (if gye want ((G j).map env) = true then WOps P A H G ((⟨dst, op, t, p, af, none⟩, x) :: rest) K ⟨env, loc⟩ st else if gsk want ((G j).map env) = true then WOps P A H G rest K ⟨put env dst undef, loc⟩ st else False) := by
  have hn : wantedA G env ⟨dst, op, t, p, af, none⟩ = some true := rfl
  cases hg : G j with
  | none =>
    simp only [Option.map_none, reduceCtorEq, if_false, gsk, gye, Bool.false_eq_true]
    simp only [WOps, wantedA, hg]
  | some d =>
    obtain ⟨v, he⟩ : ∃ v, env d = v := ⟨_, rfl⟩
    simp only [Option.map_some, he]
    cases v with
    | bool b =>
      have hw : wantedA G env ⟨dst, op, t, p, af, some (j, want)⟩ = some (b == want) := by simp only [wantedA, hg, he]
      by_cases hb : b = want
      · subst hb
        rw [gye_b, if_pos (by simp)]
        unfold WOps
        rw [hw, hn]
        simp only [beq_self_eq_true]
        rfl
      · have h1 : (b == want) = false := by simpa using hb
        have h2 : (b != want) = true := by simpa using hb
        rw [h1] at hw
        rw [gye_b, h1, if_neg (by simp), gsk_b, h2, if_pos rfl]
        conv => lhs; unfold WOps
        rw [hw]
    | tuple vs =>
      rw [if_neg (by simp [gye])]
      by_cases hv : vs.size = 0
      · have hw : wantedA G env ⟨dst, op, t, p, af, some (j, want)⟩ = some false := by simp only [wantedA, hg, he, hv, if_true]
        have h2 : gsk want (some (.tuple vs)) = true := by simp [gsk, hv]
        rw [h2, if_pos rfl]
        conv => lhs; unfold WOps
        rw [hw]
      · have hw : wantedA G env ⟨dst, op, t, p, af, some (j, want)⟩ = none := by simp only [wantedA, hg, he, hv, if_false]
        have h2 : gsk want (some (.tuple vs)) = false := by simp [gsk, hv]
        rw [h2, if_neg (by simp)]
        conv => lhs; unfold WOps
        rw [hw]
    | _ =>
      have hw : wantedA G env ⟨dst, op, t, p, af, some (j, want)⟩ = none := by simp only [wantedA, hg, he]
      rw [if_neg (by simp [gye])]
      conv => lhs; unfold WOps
      rw [hw]
      simp [gsk]
/-- What is held between two parts. -/
theorem W_to {P : Program} {H : List Tmp} {n : Nat} {Q : Ex → Fr → St → Prop} {fr : Fr} {st : St} {c : Code} {K : Fr → St → Prop} (J : Fr → St → Prop) (h : W P H n c (Then J Q) fr st) (hJ : ∀ fr st, J fr st → K fr st) : W P H n c (Then K Q) fr st :=
  h.mono fun x fr st hq => match x with
    | .normal => hJ fr st hq
    | .ret => hq
    | .exit _ => hq
end Go.Proofs.Ytdijnohbbgbklaa.AM
