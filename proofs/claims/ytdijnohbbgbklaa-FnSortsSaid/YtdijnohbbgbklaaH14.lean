/- The walk's equations: each operation, in the form in which a walk meets it. -/
import Derived.Test.YtdijnohbbgbklaaH13
namespace Go.Proofs.Ytdijnohbbgbklaa.AM
open Go
set_option linter.unusedVariables false
set_option linter.unusedSimpArgs false

/-- A value's cells, under a name that no rule unfolds. -/
def vc (v : Value) : Array Value := v.cells

section
variable {P : Program} {A H : List Tmp} {G : Nat → Option Tmp} {K : Fr → St → Prop} {env : Nat → Value} {loc : Nat → Nat × List Value} {st : St} {rest : List (Oper × Bool)} {t : TypeId} {p : String} {af : Array Edge} {b : Bool}

theorem w_nil {fr : Fr} : WOps P A H G [] K fr st = K fr st := rfl

/-- What an operation does that is no call. -/
def Step (P : Program) (A H : List Tmp) (G : Nat → Option Tmp) (rest : List (Oper × Bool)) (K : Fr → St → Prop) (d : Option Tmp) (env : Nat → Value) : Option (Value × (Nat → Nat × List Value) × St) → Prop
  | some (v, l, s) => WOps P A H G rest K ⟨put env d v, l⟩ s
  | none => False
def StepV (P : Program) (A H : List Tmp) (G : Nat → Option Tmp) (rest : List (Oper × Bool)) (K : Fr → St → Prop) (d : Option Tmp) (env : Nat → Value) (loc : Nat → Nat × List Value) (st : St) : Option Value → Prop
  | some v => WOps P A H G rest K ⟨put env d v, loc⟩ st
  | none => False
theorem stepV_some {d : Nat} {v : Value} : StepV P A H G rest K (some d) env loc st (some v) = WOps P A H G rest K ⟨upd env d v, loc⟩ st := rfl
theorem step_some {d : Nat} {v : Value} {l : Nat → Nat × List Value} {s : St} : Step P A H G rest K (some d) env (some (v, l, s)) = WOps P A H G rest K ⟨upd env d v, l⟩ s := rfl
theorem step_some' {v : Value} {l : Nat → Nat × List Value} {s : St} : Step P A H G rest K none env (some (v, l, s)) = WOps P A H G rest K ⟨env, l⟩ s := rfl
theorem w_val {d : Option Tmp} {op : Op} (hc : callOf op = none) (he : ∀ o : Oper, o.op = op → ∀ (ρ : Operand → Value) loc st, evalEff P H o ρ loc st = none) :
    WOps P A H G ((⟨d, op, t, p, af, none⟩, b) :: rest) K ⟨env, loc⟩ st = StepV P A H G rest K d env loc st (evalVal P A op (Fr.ev ⟨env, loc⟩) loc st) := by
  rw [WOps_cons rfl, hc]
  simp only
  unfold stepVal
  cases hv : evalVal P A op (Fr.ev ⟨env, loc⟩) loc st with
  | some v => simp only [hv]; rfl
  | none => simp only [hv]; rw [he _ rfl]; rfl

theorem w_move {d : Option Tmp} {x : Operand} : WOps P A H G ((⟨d, .move x, t, p, af, none⟩, b) :: rest) K ⟨env, loc⟩ st = WOps P A H G rest K ⟨put env d (Fr.ev ⟨env, loc⟩ x), loc⟩ st := by
  rw [WOps_cons rfl]; rfl
theorem w_assign {d : Option Tmp} {x : Operand} : WOps P A H G ((⟨d, .assign x, t, p, af, none⟩, b) :: rest) K ⟨env, loc⟩ st = WOps P A H G rest K ⟨put env d (Fr.ev ⟨env, loc⟩ x), loc⟩ st := by
  rw [WOps_cons rfl]; rfl
theorem w_pick {d : Option Tmp} {c x y : Operand} : WOps P A H G ((⟨d, .pick c x y, t, p, af, none⟩, b) :: rest) K ⟨env, loc⟩ st = StepV P A H G rest K d env loc st (evalVal P A (.pick c x y) (Fr.ev ⟨env, loc⟩) loc st) := w_val rfl (fun o h ρ l s => by obtain ⟨_, _, _, _, _, _⟩ := o; simp only at h; subst h; rfl)
theorem w_binOp {d : Option Tmp} {op : BinOp} {u u' : TypeId} {x y : Operand} : WOps P A H G ((⟨d, .binOp op u x y u', t, p, af, none⟩, b) :: rest) K ⟨env, loc⟩ st = StepV P A H G rest K d env loc st (evalVal P A (.binOp op u x y u') (Fr.ev ⟨env, loc⟩) loc st) := w_val rfl (fun o h ρ l s => by obtain ⟨_, _, _, _, _, _⟩ := o; simp only at h; subst h; rfl)
theorem w_unOp {d : Option Tmp} {op : UnOp} {u : TypeId} {x : Operand} : WOps P A H G ((⟨d, .unOp op u x, t, p, af, none⟩, b) :: rest) K ⟨env, loc⟩ st = StepV P A H G rest K d env loc st (evalVal P A (.unOp op u x) (Fr.ev ⟨env, loc⟩) loc st) := w_val rfl (fun o h ρ l s => by obtain ⟨_, _, _, _, _, _⟩ := o; simp only at h; subst h; rfl)
theorem w_convert {d : Option Tmp} {u u' : TypeId} {x : Operand} : WOps P A H G ((⟨d, .convert u u' x, t, p, af, none⟩, b) :: rest) K ⟨env, loc⟩ st = StepV P A H G rest K d env loc st (evalVal P A (.convert u u' x) (Fr.ev ⟨env, loc⟩) loc st) := w_val rfl (fun o h ρ l s => by obtain ⟨_, _, _, _, _, _⟩ := o; simp only at h; subst h; rfl)
theorem w_index {d : Option Tmp} {u : TypeId} {x i : Operand} : WOps P A H G ((⟨d, .index u x i, t, p, af, none⟩, b) :: rest) K ⟨env, loc⟩ st = StepV P A H G rest K d env loc st (evalVal P A (.index u x i) (Fr.ev ⟨env, loc⟩) loc st) := w_val rfl (fun o h ρ l s => by obtain ⟨_, _, _, _, _, _⟩ := o; simp only at h; subst h; rfl)
theorem w_slice {d : Option Tmp} {u : TypeId} {x : Operand} {lo hi mx : Option Operand} : WOps P A H G ((⟨d, .slice u x lo hi mx, t, p, af, none⟩, b) :: rest) K ⟨env, loc⟩ st = StepV P A H G rest K d env loc st (evalVal P A (.slice u x lo hi mx) (Fr.ev ⟨env, loc⟩) loc st) := w_val rfl (fun o h ρ l s => by obtain ⟨_, _, _, _, _, _⟩ := o; simp only at h; subst h; rfl)
theorem w_fieldAddr {d : Option Tmp} {u : TypeId} {x : Operand} {f : Nat} : WOps P A H G ((⟨d, .fieldAddr u x f, t, p, af, none⟩, b) :: rest) K ⟨env, loc⟩ st = StepV P A H G rest K d env loc st (evalVal P A (.fieldAddr u x f) (Fr.ev ⟨env, loc⟩) loc st) := w_val rfl (fun o h ρ l s => by obtain ⟨_, _, _, _, _, _⟩ := o; simp only at h; subst h; rfl)
theorem w_nilCheck {d : Option Tmp} {x : Operand} : WOps P A H G ((⟨d, .nilCheck x, t, p, af, none⟩, b) :: rest) K ⟨env, loc⟩ st = StepV P A H G rest K d env loc st (evalVal P A (.nilCheck x) (Fr.ev ⟨env, loc⟩) loc st) := w_val rfl (fun o h ρ l s => by obtain ⟨_, _, _, _, _, _⟩ := o; simp only at h; subst h; rfl)
theorem w_indexAddr {d : Option Tmp} {u : TypeId} {x i : Operand} : WOps P A H G ((⟨d, .indexAddr u x i, t, p, af, none⟩, b) :: rest) K ⟨env, loc⟩ st = StepV P A H G rest K d env loc st (evalVal P A (.indexAddr u x i) (Fr.ev ⟨env, loc⟩) loc st) := w_val rfl (fun o h ρ l s => by obtain ⟨_, _, _, _, _, _⟩ := o; simp only at h; subst h; rfl)
theorem w_load {d : Option Tmp} {u : TypeId} {x : Operand} : WOps P A H G ((⟨d, .load u x, t, p, af, none⟩, b) :: rest) K ⟨env, loc⟩ st = StepV P A H G rest K d env loc st (evalVal P A (.load u x) (Fr.ev ⟨env, loc⟩) loc st) := w_val rfl (fun o h ρ l s => by obtain ⟨_, _, _, _, _, _⟩ := o; simp only at h; subst h; rfl)
theorem w_field {d : Option Tmp} {u : TypeId} {x : Operand} {f : Nat} : WOps P A H G ((⟨d, .field u x f, t, p, af, none⟩, b) :: rest) K ⟨env, loc⟩ st = StepV P A H G rest K d env loc st (evalVal P A (.field u x f) (Fr.ev ⟨env, loc⟩) loc st) := w_val rfl (fun o h ρ l s => by obtain ⟨_, _, _, _, _, _⟩ := o; simp only at h; subst h; rfl)
theorem w_build {d : Option Tmp} {u : TypeId} {ps : Array (Nat × Operand)} : WOps P A H G ((⟨d, .build u ps, t, p, af, none⟩, b) :: rest) K ⟨env, loc⟩ st = StepV P A H G rest K d env loc st (evalVal P A (.build u ps) (Fr.ev ⟨env, loc⟩) loc st) := w_val rfl (fun o h ρ l s => by obtain ⟨_, _, _, _, _, _⟩ := o; simp only at h; subst h; rfl)
theorem w_extract {d : Option Tmp} {x : Operand} {i : Nat} : WOps P A H G ((⟨d, .extract x i, t, p, af, none⟩, b) :: rest) K ⟨env, loc⟩ st = StepV P A H G rest K d env loc st (evalVal P A (.extract x i) (Fr.ev ⟨env, loc⟩) loc st) := w_val rfl (fun o h ρ l s => by obtain ⟨_, _, _, _, _, _⟩ := o; simp only at h; subst h; rfl)
theorem w_len {d : Option Tmp} {args : Array Operand} {ts : Array TypeId} : WOps P A H G ((⟨d, .call ⟨.builtin .len, args, ts⟩, t, p, af, none⟩, b) :: rest) K ⟨env, loc⟩ st = StepV P A H G rest K d env loc st (evalVal P A (.call ⟨.builtin .len, args, ts⟩) (Fr.ev ⟨env, loc⟩) loc st) := w_val rfl (fun o h ρ l s => by obtain ⟨_, _, _, _, _, _⟩ := o; simp only at h; subst h; rfl)
theorem w_max {d : Option Tmp} {args : Array Operand} {ts : Array TypeId} : WOps P A H G ((⟨d, .call ⟨.builtin .max, args, ts⟩, t, p, af, none⟩, b) :: rest) K ⟨env, loc⟩ st = StepV P A H G rest K d env loc st (evalVal P A (.call ⟨.builtin .max, args, ts⟩) (Fr.ev ⟨env, loc⟩) loc st) := w_val rfl (fun o h ρ l s => by obtain ⟨_, _, _, _, _, _⟩ := o; simp only at h; subst h; rfl)

theorem w_eff {o : Oper} (hg : o.guard.isNone = true) (hc : callOf o.op = none) (hv : ∀ (ρ : Operand → Value) loc st, evalVal P A o.op ρ loc st = none) :
    WOps P A H G ((o, b) :: rest) K ⟨env, loc⟩ st = Step P A H G rest K o.dst env (evalEff P H o (Fr.ev ⟨env, loc⟩) loc st) := by
  rw [WOps_cons hg, hc]
  simp only
  unfold stepVal
  rw [hv]
  simp only
  cases evalEff P H o (Fr.ev ⟨env, loc⟩) loc st with
  | none => rfl
  | some r => obtain ⟨v, l, s⟩ := r; rfl
theorem w_alloc {d : Tmp} {u : TypeId} : WOps P A H G ((⟨some d, .alloc u, t, p, af, none⟩, b) :: rest) K ⟨env, loc⟩ st = Step P A H G rest K (some d) env ((zeroA P u).map fun z => allocA H d z u loc st) := by
  rw [w_eff rfl rfl (fun _ _ _ => rfl)]
  simp only [evalEff]
  cases zeroA P u <;> rfl
theorem w_box {d : Tmp} {u : TypeId} {x : Operand} : WOps P A H G ((⟨some d, .box u x, t, p, af, none⟩, b) :: rest) K ⟨env, loc⟩ st = Step P A H G rest K (some d) env (if okv (Fr.ev ⟨env, loc⟩ x) then some (allocA H d (vc (Fr.ev ⟨env, loc⟩ x)).toList u loc st) else none) := by
  rw [w_eff rfl rfl (fun _ _ _ => rfl)]; rfl
theorem w_store {d : Option Tmp} {u : TypeId} {x v : Operand} : WOps P A H G ((⟨d, .store u x v, t, p, af, none⟩, b) :: rest) K ⟨env, loc⟩ st = Step P A H G rest K d env ((storeA P u (Fr.ev ⟨env, loc⟩ x) (Fr.ev ⟨env, loc⟩ v) loc st).map fun r => (undef, r.1, r.2)) := by
  rw [w_eff rfl rfl (fun _ _ _ => rfl)]; rfl
theorem w_buildSlice {d : Option Tmp} {u : TypeId} {n : Nat} {ps : Array (Nat × Operand)} : WOps P A H G ((⟨d, .buildSlice u n ps, t, p, af, none⟩, b) :: rest) K ⟨env, loc⟩ st = Step P A H G rest K d env (evalEff P H ⟨d, .buildSlice u n ps, t, p, af, none⟩ (Fr.ev ⟨env, loc⟩) loc st) := by
  rw [w_eff rfl rfl (fun _ _ _ => rfl)]
theorem w_append {d : Option Tmp} {u u' : TypeId} {x y : Operand} : WOps P A H G ((⟨d, .call ⟨.builtin .append, #[x, y], #[u, u']⟩, t, p, af, none⟩, b) :: rest) K ⟨env, loc⟩ st = Step P A H G rest K d env ((appendA P u u' (Fr.ev ⟨env, loc⟩ x) (Fr.ev ⟨env, loc⟩ y) st).map fun r => (r.1, loc, r.2)) := by
  rw [w_eff rfl rfl (fun _ _ _ => rfl)]; rfl

/-- A call: by its contract. -/
theorem w_call {d : Option Tmp} {g : FuncId} {args : Array Operand} {ts : Array TypeId} {Q : Value → St → Prop} {vs : List Value} (hcall : CallS P g vs st Q) (hvs : args.toList.map (Fr.ev ⟨env, loc⟩) = vs) (hl : vs.all (fun v => !isLoc v) = true)
    (hk : ∀ r st', Q r st' → (b = true → Ext st st') ∧ WOps P A H G rest K ⟨put env d r, loc⟩ st') :
    WOps P A H G ((⟨d, .call ⟨.value (.func g), args, ts⟩, t, p, af, none⟩, b) :: rest) K ⟨env, loc⟩ st := by
  rw [WOps_cons rfl]
  subst hvs
  refine ⟨g, rfl, ?_, hcall.mono hk⟩
  rw [← Array.all_toList, List.all_eq_true]
  intro y hy
  exact List.all_eq_true.1 hl _ (List.mem_map.2 ⟨y, hy, rfl⟩)

end

/-- A region, and what follows. -/
theorem W_reg {P : Program} {H : List Tmp} {n : Nat} {Q : Ex → Fr → St → Prop} {fr : Fr} {st : St} {id : Nat} {l : List Oper} {rest : Code} (hd : dstsLt n l = true)
    (h : ∀ (G : Nat → Option Tmp) (K : Fr → St → Prop), (∀ j, G j = (l[j]?).bind (·.dst)) → (∀ fr st, W P H n rest Q fr st → K fr st) → WOps P [] H G (l.map fun o => (o, false)) K fr st) : W P H n (.seq (.region id l.toArray false) rest) Q fr st :=
  W_seq (W_region hd fun G hG => h G _ hG fun _ _ h => h)
theorem W_regD {P : Program} {H : List Tmp} {n : Nat} {Q : Ex → Fr → St → Prop} {fr : Fr} {st : St} {id : Nat} {l : List Oper} {rest : Code} (hm : P.follows .mixedOrders = true) (A : List Tmp) (π : List (Nat × Bool)) (hd : dstsLt n l = true) (hc : chkD A H l π = true)
    (h : ∀ (G : Nat → Option Tmp) (K : Fr → St → Prop), (∀ j, G j = (l[j]?).bind (·.dst)) → (∀ fr st, W P H n rest Q fr st → K fr st) → WOps P A H G (pickOps l π) K fr st) : W P H n (.seq (.region id l.toArray true) rest) Q fr st :=
  W_seq (W_regionD hm A π hd hc fun G hG => h G _ hG fun _ _ h => h)
/-- A region at the end. -/
theorem W_end {P : Program} {H : List Tmp} {n : Nat} {Q : Ex → Fr → St → Prop} {fr : Fr} {st : St} {id : Nat} {l : List Oper} (hd : dstsLt n l = true)
    (h : ∀ (G : Nat → Option Tmp) (K : Fr → St → Prop), (∀ j, G j = (l[j]?).bind (·.dst)) → (∀ fr st, Q .normal fr st → K fr st) → WOps P [] H G (l.map fun o => (o, false)) K fr st) : W P H n (.region id l.toArray false) Q fr st :=
  W_region hd fun G hG => h G _ hG fun _ _ h => h
theorem W_endD {P : Program} {H : List Tmp} {n : Nat} {Q : Ex → Fr → St → Prop} {fr : Fr} {st : St} {id : Nat} {l : List Oper} (hm : P.follows .mixedOrders = true) (A : List Tmp) (π : List (Nat × Bool)) (hd : dstsLt n l = true) (hc : chkD A H l π = true)
    (h : ∀ (G : Nat → Option Tmp) (K : Fr → St → Prop), (∀ j, G j = (l[j]?).bind (·.dst)) → (∀ fr st, Q .normal fr st → K fr st) → WOps P A H G (pickOps l π) K fr st) : W P H n (.region id l.toArray true) Q fr st :=
  W_regionD hm A π hd hc fun G hG => h G _ hG fun _ _ h => h

section
variable {P : Program} {H : List Tmp} {n : Nat} {Q : Ex → Fr → St → Prop} {fr : Fr} {st : St}
theorem thenI {K : Fr → St → Prop} (h : K fr st) : Then K Q .normal fr st := h
theorem thenR {K : Fr → St → Prop} (h : Q .ret fr st) : Then K Q .ret fr st := h
theorem thenE {K : Fr → St → Prop} {i : Nat} (h : Q (.exit i) fr st) : Then K Q (.exit i) fr st := h
theorem inBI {i : Nat} (h : Q .normal fr st) : InBlock i Q .normal fr st := h
theorem inBR {i : Nat} (h : Q .ret fr st) : InBlock i Q .ret fr st := h
theorem inBS {i : Nat} (h : Q .normal fr st) : InBlock i Q (.exit i) fr st := by simp only [InBlock, if_true]; exact h
theorem inBN {i j : Nat} (hn : j ≠ i) (h : Q (.exit j) fr st) : InBlock i Q (.exit j) fr st := by simp only [InBlock, hn, if_false]; exact h
theorem W_seqS {a b rest : Code} (h : W P H n (.seq a b) (Then (W P H n rest Q) Q) fr st) : W P H n (.seq (.seq a b) rest) Q fr st := W_seq h
theorem W_seqC {c : Operand} {x y rest : Code} (h : W P H n (.cond c x y) (Then (W P H n rest Q) Q) fr st) : W P H n (.seq (.cond c x y) rest) Q fr st := W_seq h
theorem W_seqB {id : Nat} {b rest : Code} (h : W P H n (.block id b) (Then (W P H n rest Q) Q) fr st) : W P H n (.seq (.block id b) rest) Q fr st := W_seq h
theorem W_condT {c : Operand} {x y : Code} (hc : fr.ev c = .bool true) (h : W P H n x Q fr st) : W P H n (.cond c x y) Q fr st := W_cond hc (fun _ => h) (fun e => by cases e)
theorem W_condF {c : Operand} {x y : Code} (hc : fr.ev c = .bool false) (h : W P H n y Q fr st) : W P H n (.cond c x y) Q fr st := W_cond hc (fun e => by cases e) (fun _ => h)
theorem W_condB {c : Operand} {x y : Code} {b : Bool} (hc : fr.ev c = .bool b) (h : if b = true then W P H n x Q fr st else W P H n y Q fr st) : W P H n (.cond c x y) Q fr st := by
  cases b with
  | true => exact W_condT hc h
  | false => exact W_condF hc h
theorem qzT {p q : Prop} (h : p) : if true = true then p else q := h
theorem qzF {p q : Prop} (h : q) : if false = true then p else q := h
theorem fin1 {F : Value → St → Prop} {env : Nat → Value} {loc : Nat → Nat × List Value} {t : Tmp} {x : Ex} (hx : x = .ret ∨ x = .normal) {v : Value} (hv : env t = v) (hl : isLoc v = false) (hq : F v st) : Fin P [.tmp t] F x ⟨env, loc⟩ st := by
  have : ∃ r, resA P [.tmp t] ⟨env, loc⟩ st = some r ∧ F r st := ⟨v, by simp [resA, resL, resV, hv, hl], hq⟩
  rcases hx with rfl | rfl <;> exact this
theorem finC {F : Value → St → Prop} {env : Nat → Value} {loc : Nat → Nat × List Value} {a : Tmp} {t : TypeId} {x : Ex} (hx : x = .ret ∨ x = .normal) {v : Value} (hv : loadA P [] t (env a) loc st = some v) (hq : F v st) : Fin P [.cell a t] F x ⟨env, loc⟩ st := by
  have : ∃ r, resA P [.cell a t] ⟨env, loc⟩ st = some r ∧ F r st := ⟨v, by simp [resA, resL, resV, hv], hq⟩
  rcases hx with rfl | rfl <;> exact this
theorem fin2 {F : Value → St → Prop} {env : Nat → Value} {loc : Nat → Nat × List Value} {t u : Tmp} {x : Ex} (hx : x = .ret ∨ x = .normal) {v v' : Value} (hv : env t = v) (hl : isLoc v = false) (hv' : env u = v') (hl' : isLoc v' = false) (hq : F (.tuple #[v, v']) st) : Fin P [.tmp t, .tmp u] F x ⟨env, loc⟩ st := by
  have : ∃ r, resA P [.tmp t, .tmp u] ⟨env, loc⟩ st = some r ∧ F r st := ⟨.tuple #[v, v'], by simp [resA, resL, resV, hv, hl, hv', hl'], hq⟩
  rcases hx with rfl | rfl <;> exact this
theorem finC2 {F : Value → St → Prop} {env : Nat → Value} {loc : Nat → Nat × List Value} {a u : Tmp} {t : TypeId} {x : Ex} (hx : x = .ret ∨ x = .normal) {v v' : Value} (hv : loadA P [] t (env a) loc st = some v) (hv' : env u = v') (hl' : isLoc v' = false) (hq : F (.tuple #[v, v']) st) : Fin P [.cell a t, .tmp u] F x ⟨env, loc⟩ st := by
  have : ∃ r, resA P [.cell a t, .tmp u] ⟨env, loc⟩ st = some r ∧ F r st := ⟨.tuple #[v, v'], by simp [resA, resL, resV, hv, hv', hl'], hq⟩
  rcases hx with rfl | rfl <;> exact this
end
end Go.Proofs.Ytdijnohbbgbklaa.AM
