/- The program logic: what a call, a code, a row of operations comes to, told of the abstract machine. -/
import Derived.Test.YtdijnohbbgbklaaH8
namespace Go.Proofs.Ytdijnohbbgbklaa.AM
open Go
set_option linter.unusedVariables false
set_option linter.unusedSimpArgs false

/-- What was there is there still. -/
def Ext (st st' : St) : Prop := ∀ (i : Nat) b, st[i]? = some b → st'[i]? = some b
theorem Ext.refl (st : St) : Ext st st := fun _ _ h => h
theorem Ext.trans {a b c : St} (h : Ext a b) (k : Ext b c) : Ext a c := fun i x hx => k i x (h i x hx)
theorem Ext.app (st g : St) : Ext st (st ++ g) := fun i b h => by rw [List.getElem?_append_left (List.getElem?_eq_some_iff.1 h).1]; exact h

structure VL (M : List ME) (args : List Value) (vals : Array Value) : Prop where
  len : args.length = vals.size
  rel : ∀ (i : Nat) x y, args[i]? = some x → vals[i]? = some y → VR M x y

def Runs (P : Program) (g : FuncId) : Prop := ∃ fn, P.funcs[g]? = some fn ∧ (fn.name == "runtime.NumGoroutine") = false ∧ fn.body.isNone = false

/-- A call of f with these values, at this store, comes to an end, with a result and a store of which Q holds. -/
def CallS (P : Program) (f : FuncId) (args : List Value) (st : St) (Q : Value → St → Prop) : Prop :=
  Runs P f ∧ ∀ (M : List ME) (w : World) (vals : Array Value), HR P ⟨w, M, st⟩ M st w → VL M args vals →
    Calls P f vals w fun e w' => ∃ r v st' M', e = .returned v ∧ Q r st' ∧ VR M' r v ∧ HR P ⟨w, M, st⟩ M' st' w'

theorem CallS.mono {P : Program} {f : FuncId} {args : List Value} {st : St} {Q Q' : Value → St → Prop} (h : CallS P f args st Q) (hq : ∀ r st', Q r st' → Q' r st') : CallS P f args st Q' :=
  ⟨h.1, fun M w vals hH hV => (h.2 M w vals hH hV).mono fun e w' ⟨r, v, st', M', he, q, hv, hh⟩ => ⟨r, v, st', M', he, hq r st' q, hv, hh⟩⟩

def wantedA (G : Nat → Option Tmp) (env : Nat → Value) (o : Oper) : Option Bool :=
  match o.guard with
  | none => some true
  | some (j, want) => match G j with
    | some d => match env d with
      | .bool b => some (b == want)
      | .tuple vs => if vs.size = 0 then some false else none
      | _ => none
    | none => none

def stepVal (P : Program) (A H : List Tmp) (o : Oper) (fr : Fr) (st : St) : Option (Value × (Nat → Nat × List Value) × St) :=
  match evalVal P A o.op fr.ev fr.loc st with
  | some v => some (v, fr.loc, st)
  | none => evalEff P H o fr.ev fr.loc st

def callOf (o : Op) : Option (Operand × Array Operand) := match o with
  | .call { callee := .value f, args := args, .. } => some (f, args)
  | _ => none

/-- A row of operations (beside each: whether what was there must stay). -/
def WOps (P : Program) (A H : List Tmp) (G : Nat → Option Tmp) : List (Oper × Bool) → (Fr → St → Prop) → Fr → St → Prop
  | [], K, fr, st => K fr st
  | (o, x) :: rest, K, fr, st => match wantedA G fr.env o with
    | none => False
    | some false => WOps P A H G rest K ⟨put fr.env o.dst undef, fr.loc⟩ st
    | some true => match callOf o.op with
      | some (f, args) => ∃ g, fr.ev f = .func (.func g) #[] #[] ∧ args.all (fun y => !isLoc (fr.ev y)) = true ∧ CallS P g (args.toList.map fr.ev) st fun r st' => (x = true → Ext st st') ∧ WOps P A H G rest K ⟨put fr.env o.dst r, fr.loc⟩ st'
      | none => match stepVal P A H o fr st with
        | some (v, l, s) => WOps P A H G rest K ⟨put fr.env o.dst v, l⟩ s
        | none => False

theorem WOps.mono {P : Program} {A H : List Tmp} {G : Nat → Option Tmp} {K K' : Fr → St → Prop} (hK : ∀ fr st, K fr st → K' fr st) : ∀ (l : List (Oper × Bool)) (fr : Fr) (st : St), WOps P A H G l K fr st → WOps P A H G l K' fr st := by
  intro l
  induction l with
  | nil => intro fr st h; exact hK _ _ h
  | cons ox rest ih =>
    obtain ⟨o, x⟩ := ox
    intro fr st h
    unfold WOps at h ⊢
    split at h
    · exact h.elim
    · exact ih _ _ h
    · split at h
      · obtain ⟨g, h1, h2, h3⟩ := h
        exact ⟨g, h1, h2, h3.mono fun r st' ⟨q1, q2⟩ => ⟨q1, ih _ _ q2⟩⟩
      · split at h
        · exact ih _ _ h
        · exact h.elim

section
variable {P : Program} {B : Base} {M M' : List ME} {L : Nat → Nat} {n : Nat} {fr : Fr} {st st' : St} {a : Act} {w w' : World}

theorem HR.self (h : HR P B M st w) : HR P ⟨w, M, st⟩ M st w :=
  ⟨h.len, fun _ _ h => h, h.blk, h.inj, h.lt, fun i m hm _ => ⟨i, m, hm, rfl⟩, fun i b m hb hs hm => ⟨hb, rfl⟩, rfl, rfl, rfl, Nat.le_refl _, fun _ _ _ => rfl, h.tabs.1, h.tabs.2⟩

theorem HR.trans (h : HR P B M st w) (k : HR P ⟨w, M, st⟩ M' st' w') : HR P B M' st' w' := by
  refine ⟨k.len, fun i m hm => k.pre i m (h.pre i m hm), k.blk, k.inj, k.lt, fun i m hm hlt => ?_, fun i b m hb hs hm => ?_, k.os.trans h.os, k.tape.trans h.tape, k.output.trans h.output, Nat.le_trans h.size k.size, fun q hq hqm => ?_, h.tab, h.cov⟩
  · obtain ⟨j, m', hj, e⟩ := k.old i m hm (Nat.lt_of_lt_of_le hlt h.size)
    obtain ⟨j2, m2, hj2, e2⟩ := h.old j m' hj (by rw [e]; exact hlt)
    exact ⟨j2, m2, hj2, e2.trans e⟩
  · obtain ⟨h1, h2⟩ := h.ro i b m hb hs hm
    obtain ⟨k1, k2⟩ := k.ro i b m h1 hs (h.pre i m hm)
    exact ⟨k1, k2.trans h2⟩
  · refine (k.frame q (Nat.lt_of_lt_of_le hq h.size) fun j m hj e => ?_).trans (h.frame q hq hqm)
    obtain ⟨j2, m2, hj2, e2⟩ := h.old j m hj (by rw [e]; exact hq)
    exact hqm j2 m2 hj2 (e2.trans e)

theorem Rel.call (R : Rel P B M L n fr st a w) (k : HR P ⟨w, M, st⟩ M' st' w') : Rel P B M' L n fr st' a w' :=
  R.heapStep k.pre (R.heap.trans k) k.size k.frame fun i m hm => by
    by_cases hlt : m.b < w.heap.size
    · exact .inl (k.old i m hm hlt)
    · exact .inr (by omega)

theorem wantedA_sound (R : Rel P B M L n fr st a w) {G : Nat → Option Tmp} {ops : Array Oper} (hG : ∀ j, G j = (ops[j]?).bind (·.dst)) {o : Oper} {b : Bool} (h : wantedA G fr.env o = some b) : Region.wanted o (yielded ops a.tmps) = b := by
  unfold wantedA at h
  unfold Region.wanted
  split at h
  · rename_i hg; rw [hg]; simp only [Option.some.injEq] at h; exact h
  · rename_i j want hg
    rw [hg]
    simp only
    rw [hG] at h
    cases hd : (ops[j]?).bind (·.dst) with
    | none => rw [hd] at h; cases h
    | some d =>
      rw [hd] at h
      simp only at h
      have hv := R.env d
      split at h
      · rename_i b' hb
        simp only [Option.some.injEq] at h; subst h
        rw [hb] at hv
        have e := hv.flat rfl
        have : a.tmps[d]? = some (.bool b') := by
          cases ht : a.tmps[d]? with
          | none => simp [Array.getD_eq_getD_getElem?, ht, undef] at e
          | some u => simp [Array.getD_eq_getD_getElem?, ht] at e; rw [e]
        simp [yielded, hd, this]
      · rename_i vs hb
        split at h
        · rename_i h0
          simp only [Option.some.injEq] at h; subst h
          rw [hb] at hv
          have hfl : AM.flat (.tuple vs) = true := by
            have : vs = #[] := Array.eq_empty_of_size_eq_zero h0
            subst this; simp [AM.flat]
          have e := hv.flat hfl
          have : yielded ops a.tmps j = none := by
            unfold yielded
            rw [hd]
            simp only [Option.bind_some]
            cases ht : a.tmps[d]? with
            | none => rfl
            | some u => simp [Array.getD_eq_getD_getElem?, ht] at e; subst e; rfl
          rw [this]
          rfl
        · cases h
      · cases h

theorem VL.of_rel (R : Rel P B M L n fr st a w) {args : Array Operand} (h : args.all (fun y => !isLoc (fr.ev y)) = true) : VL M (args.toList.map fr.ev) (args.map a.eval) := by
  refine ⟨by simp, fun i x y hx hy => ?_⟩
  simp only [List.getElem?_map, Array.getElem?_toList, Option.map_eq_some_iff] at hx
  obtain ⟨o, ho, rfl⟩ := hx
  have hy' : y = a.eval o := by simpa [ho] using hy.symm
  subst hy'
  have hm : o ∈ args := Array.mem_of_getElem? ho
  have := (Array.all_eq_true'.1 h) o hm
  exact (R.ev o).vr (by simpa using this)

/-- One operation, in the world. -/
theorem step_sound (R : Rel P B M L n fr st a w) {A H : List Tmp} {G : Nat → Option Tmp} {ops : Array Oper} (hG : ∀ j, G j = (ops[j]?).bind (·.dst)) {o : Oper} {x : Bool} {rest : List (Oper × Bool)} {K : Fr → St → Prop}
    (hd : ∀ t, o.dst = some t → t < n) (h : WOps P A H G ((o, x) :: rest) K fr st) {K' : Act → World → Prop} {Q : Exit → Act → World → Prop}
    (hK : ∀ fr' st' M' L' a' w', WOps P A H G rest K fr' st' → Rel P B M' L' n fr' st' a' w' → K' a' w') :
    if Region.wanted o (yielded ops a.tmps) then o.wp P a w K' Q else K' (a.put o.dst undef) w := by
  unfold WOps at h
  split at h
  · exact h.elim
  · rename_i hw
    rw [wantedA_sound R hG hw]
    simp only [Bool.false_eq_true, if_false]
    exact hK _ _ _ _ _ _ h (R.put (VR.vf (.tup _ _ rfl (by simp))) hd)
  · rename_i hw
    rw [wantedA_sound R hG hw]
    simp only [if_true]
    split at h
    · rename_i f args hc
      obtain ⟨g, h1, h2, ⟨fn, hf1, hf2, hf3⟩, h3⟩ := h
      have hop : ∃ ts, o.op = .call { callee := .value f, args := args, argTypes := ts } := by
        unfold callOf at hc
        split at hc
        · rename_i f' args' ts heq
          simp only [Option.some.injEq, Prod.mk.injEq] at hc
          obtain ⟨rfl, rfl⟩ := hc
          exact ⟨ts, heq⟩
        · cases hc
      obtain ⟨ts, hop⟩ := hop
      have hfv := R.ev f
      rw [h1] at hfv
      have ef := hfv.flat rfl
      have hcall := h3 M w _ R.heap.self (VL.of_rel R h2)
      have hrun : (execOp a.eval o).run P w = .ok (.enter g (args.map a.eval)) w := by
        have n1 : ¬ fn.name = "runtime.NumGoroutine" := by simpa using hf2
        have n2 : ¬ fn.body = none := by intro e; rw [e] at hf3; cases hf3
        simp [execOp, hop, resolve, ef, Deferred.ofValue, invoke, callFunc, hf1, n1, n2]
      unfold Oper.wp
      rw [hrun, Oper.upon_enter]
      refine hcall.mono fun e w' ⟨r, v, st', M', he, ⟨_, q⟩, hv, hh⟩ => ?_
      subst he
      exact hK _ _ _ _ _ _ q ((R.call hh).put hv.vf hd)
    · rename_i hc
      split at h
      · rename_i v l s hs
        unfold stepVal at hs
        split at hs
        · rename_i v' hv'
          simp only [Option.some.injEq, Prod.mk.injEq] at hs
          obtain ⟨rfl, rfl, rfl⟩ := hs
          obtain ⟨u, hr, hu⟩ := evalVal_sound R hv'
          unfold Oper.wp
          rw [hr, Oper.upon_value]
          exact hK _ _ _ _ _ _ h (R.put hu hd)
        · obtain ⟨nx, u, w', M', L', hr, hnx, hu, hR⟩ := evalEff_sound R hs
          unfold Oper.wp
          rw [hr]
          rcases hnx with rfl | ⟨rfl, rfl⟩
          · rw [Oper.upon_value]; exact hK _ _ _ _ _ _ h (hR.put hu hd)
          · rw [Oper.upon_skip]; exact hK _ _ _ _ _ _ h (hR.put hu hd)
      · exact h.elim

theorem wops_sound {A H : List Tmp} {G : Nat → Option Tmp} {ops : Array Oper} (hG : ∀ j, G j = (ops[j]?).bind (·.dst)) {K : Fr → St → Prop} {Q : Exit → Act → World → Prop}
    (hQ : ∀ fr' st' M' L' a' w', K fr' st' → Rel P B M' L' n fr' st' a' w' → Q .normal a' w') :
    ∀ (l : List Oper), (∀ o ∈ l, ∀ t, o.dst = some t → t < n) → ∀ (fr : Fr) (st : St) (M : List ME) (L : Nat → Nat) (a : Act) (w : World), Rel P B M L n fr st a w → WOps P A H G (l.map fun o => (o, false)) K fr st → wpList P ops Q l a w := by
  intro l
  induction l with
  | nil => intro hd fr st M L a w R h; exact hQ _ _ _ _ _ _ h R
  | cons o rest ih =>
    intro hd fr st M L a w R h
    have hs := step_sound (Q := Q) R hG (hd o (by simp)) h (K' := wpList P ops Q rest) fun fr' st' M' L' a' w' h' R' => ih (fun o ho => hd o (by simp [ho])) fr' st' M' L' a' w' R' h'
    unfold wpList
    split at hs
    · rename_i hw; rw [if_pos hw]; exact .inl hs
    · rename_i hw; rw [if_neg hw]; exact hs

end

inductive Ex where
  | normal
  | ret
  | exit (id : Nat)
def Ex.to : Ex → Exit
  | .normal => .normal
  | .ret => .ret
  | .exit id => .exit id

/-- A code from this frame and store on. -/
def W (P : Program) (H : List Tmp) (n : Nat) (c : Code) (Q : Ex → Fr → St → Prop) (fr : Fr) (st : St) : Prop :=
  ∀ (B : Base) (M : List ME) (L : Nat → Nat) (a : Act) (w : World), Rel P B M L n fr st a w →
    c.wp P (fun e a' w' => ∃ x fr' st' M' L', e = Ex.to x ∧ Q x fr' st' ∧ Rel P B M' L' n fr' st' a' w') a w

section
variable {P : Program} {H : List Tmp} {n : Nat} {Q Q' : Ex → Fr → St → Prop} {fr : Fr} {st : St}

theorem W.mono {c : Code} (h : W P H n c Q fr st) (hq : ∀ x fr st, Q x fr st → Q' x fr st) : W P H n c Q' fr st :=
  fun B M L a w R => wp_mono (h B M L a w R) fun e a' w' ⟨x, fr', st', M', L', he, q, R'⟩ => ⟨x, fr', st', M', L', he, hq _ _ _ q, R'⟩

theorem W_skip (h : Q .normal fr st) : W P H n .skip Q fr st := fun B M L a w R => wp_skip ⟨.normal, fr, st, M, L, rfl, h, R⟩
theorem W_ret (h : Q .ret fr st) : W P H n .ret Q fr st := fun B M L a w R => wp_ret ⟨.ret, fr, st, M, L, rfl, h, R⟩
theorem W_exit {id : Nat} (h : Q (.exit id) fr st) : W P H n (.exit id) Q fr st := fun B M L a w R => wp_exit ⟨.exit id, fr, st, M, L, rfl, h, R⟩

/-- What follows, behind a first part. -/
def Then (K : Fr → St → Prop) (Q : Ex → Fr → St → Prop) : Ex → Fr → St → Prop
  | .normal, fr, st => K fr st
  | x, fr, st => Q x fr st

theorem W_seq {a b : Code} (h : W P H n a (Then (W P H n b Q) Q) fr st) : W P H n (.seq a b) Q fr st := by
  intro B M L ac w R
  refine wp_seq (wp_mono (h B M L ac w R) fun e a' w' ⟨x, fr', st', M', L', he, q, R'⟩ => ?_)
  subst he
  cases x with
  | normal => exact q B M' L' a' w' R'
  | ret => exact ⟨.ret, fr', st', M', L', rfl, q, R'⟩
  | exit id => exact ⟨.exit id, fr', st', M', L', rfl, q, R'⟩

theorem W_cond {c : Operand} {x y : Code} {b : Bool} (hc : fr.ev c = .bool b) (ht : b = true → W P H n x Q fr st) (hf : b = false → W P H n y Q fr st) : W P H n (.cond c x y) Q fr st := by
  intro B M L a w R
  have e : a.eval c = .bool b := by have := R.ev c; rw [hc] at this; exact this.flat rfl
  cases b with
  | true => exact wp_cond e (ht rfl B M L a w R)
  | false => exact wp_cond e (hf rfl B M L a w R)

def InBlock (id : Nat) (Q : Ex → Fr → St → Prop) : Ex → Fr → St → Prop
  | .exit id', fr, st => if id' = id then Q .normal fr st else Q (.exit id') fr st
  | x, fr, st => Q x fr st

theorem W_block {id : Nat} {c : Code} (h : W P H n c (InBlock id Q) fr st) : W P H n (.block id c) Q fr st := by
  intro B M L a w R
  refine wp_block (wp_mono (h B M L a w R) fun e a' w' ⟨x, fr', st', M', L', he, q, R'⟩ => ?_)
  subst he
  cases x with
  | normal => exact ⟨.normal, fr', st', M', L', rfl, q, R'⟩
  | ret => exact ⟨.ret, fr', st', M', L', rfl, q, R'⟩
  | exit id' =>
    simp only [Ex.to, Exit.inBlock]
    simp only [InBlock] at q
    split
    · rename_i e; rw [if_pos e] at q; exact ⟨.normal, fr', st', M', L', rfl, q, R'⟩
    · rename_i e; rw [if_neg e] at q; exact ⟨.exit id', fr', st', M', L', rfl, q, R'⟩

theorem wp_loop_ix {c : Code} {Q : Exit → Act → World → Prop} (I : Nat → Act → World → Prop) (round : ∀ d a w, I d a w → c.wp P (Exit.then (fun a' w' => ∃ d', d' < d ∧ I d' a' w') Q) a w) :
    ∀ d a w, I d a w → (Code.loop c).wp P Q a w := by
  intro d a w h0 b k cs
  have key : ∀ d a w, I d a w → ∃ e a' w', Q e a' w' ∧ Arrives P (lone (b.at a (.code c :: .inLoop c :: k)) cs w) b k cs e a' w' := by
    intro d
    induction d using Nat.strongRecOn with
    | _ d ih =>
      intro a w hI
      obtain ⟨e, a₁, w₁, hq, harr⟩ := round d a w hI b (.inLoop c :: k) cs
      cases e with
      | normal =>
        obtain ⟨d', hlt, hI₁⟩ := hq
        obtain ⟨e₂, a₂, w₂, hq₂, harr₂⟩ := ih d' hlt a₁ w₁ hI₁
        exact ⟨e₂, a₂, w₂, hq₂, .of_steps (Steps.trans harr (.one step_inLoop)) harr₂⟩
      | exit id => exact ⟨_, a₁, w₁, hq, .pass (x := .inLoop c) rfl (fun _ _ => .inl (by simp)) harr⟩
      | goto l => exact ⟨_, a₁, w₁, hq, .pass (x := .inLoop c) rfl (fun _ _ => .inl (by simp)) harr⟩
      | ret => exact ⟨_, a₁, w₁, hq, .pass (x := .inLoop c) rfl (fun _ _ => .inl (by simp)) harr⟩
      | panic ch => exact ⟨_, a₁, w₁, hq, .pass (x := .inLoop c) rfl (fun _ _ => .inl (by simp)) harr⟩
      | outgrown => exact ⟨_, a₁, w₁, hq, .pass (x := .inLoop c) rfl (fun _ _ => .inl (by simp)) harr⟩
  obtain ⟨e, a', w', hq, harr⟩ := key d a w h0
  exact ⟨e, a', w', hq, .of_steps (.one step_loop) harr⟩

theorem W_loop {c : Code} (I : Nat → Fr → St → Prop) (d : Nat) (h0 : I d fr st)
    (hr : ∀ d fr st, I d fr st → W P H n c (Then (fun fr st => ∃ d', d' < d ∧ I d' fr st) Q) fr st) : W P H n (.loop c) Q fr st := by
  intro B M L a w R
  refine wp_loop_ix (fun d a w => ∃ fr st M L, I d fr st ∧ Rel P B M L n fr st a w) (fun d a w ⟨fr, st, M, L, hI, R⟩ => ?_) d a w ⟨fr, st, M, L, h0, R⟩
  refine wp_mono (hr d fr st hI B M L a w R) fun e a' w' ⟨x, fr', st', M', L', he, q, R'⟩ => ?_
  subst he
  cases x with
  | normal => obtain ⟨d', hd, hI'⟩ := q; exact ⟨d', hd, fr', st', M', L', hI', R'⟩
  | ret => exact ⟨.ret, fr', st', M', L', rfl, q, R'⟩
  | exit id => exact ⟨.exit id, fr', st', M', L', rfl, q, R'⟩

def dstsLt (n : Nat) (l : List Oper) : Bool := l.all fun o => match o.dst with
  | some t => decide (t < n)
  | none => true
theorem dstsLt_of {l : List Oper} (h : dstsLt n l = true) : ∀ o ∈ l, ∀ t, o.dst = some t → t < n := by
  intro o ho t ht
  have := List.all_eq_true.1 h o ho
  rw [ht] at this
  simpa using this

theorem W_region {id : Nat} {l : List Oper} (hd : dstsLt n l = true)
    (h : ∀ G : Nat → Option Tmp, (∀ j, G j = (l[j]?).bind (·.dst)) → WOps P [] H G (l.map fun o => (o, false)) (Q .normal) fr st) : W P H n (.region id l.toArray false) Q fr st := by
  intro B M L a w R
  refine wp_region_list ?_
  exact wops_sound (ops := l.toArray) (Q := fun e a' w' => ∃ x fr' st' M' L', e = Ex.to x ∧ Q x fr' st' ∧ Rel P B M' L' n fr' st' a' w') (G := fun j => (l[j]?).bind (·.dst)) (fun j => by simp)
    (fun fr' st' M' L' a' w' hK R' => ⟨.normal, fr', st', M', L', rfl, hK, R'⟩) l (dstsLt_of hd) fr st M L a w R (h _ fun _ => rfl)

end
end Go.Proofs.Ytdijnohbbgbklaa.AM
