/- A function is entered and left; regions that draw their order. -/
import Derived.Test.YtdijnohbbgbklaaH9
namespace Go.Proofs.Ytdijnohbbgbklaa.AM
open Go
set_option linter.unusedVariables false
set_option linter.unusedSimpArgs false

def resV (P : Program) (fr : Fr) (st : St) : ResultVar → Option Value
  | .tmp t => if isLoc (fr.env t) then none else some (fr.env t)
  | .cell a t => loadA P [] t (fr.env a) fr.loc st
def resL (P : Program) (fr : Fr) (st : St) : List ResultVar → Option (List Value)
  | [] => some []
  | r :: rs => match resV P fr st r with
    | none => none
    | some v => match resL P fr st rs with
      | none => none
      | some vs => some (v :: vs)
def resA (P : Program) (rs : List ResultVar) (fr : Fr) (st : St) : Option Value :=
  match resL P fr st rs with
  | some [v] => some v
  | some vs => some (.tuple vs.toArray)
  | none => none
def argEnv (args : List Value) : Nat → Value := fun t => args.getD t undef
/-- The end of a function's body. -/
def Fin (P : Program) (rs : List ResultVar) (Q : Value → St → Prop) : Ex → Fr → St → Prop
  | .exit _, _, _ => False
  | _, fr, st => ∃ r, resA P rs fr st = some r ∧ Q r st

section
variable {P : Program} {B : Base} {M M' : List ME} {L : Nat → Nat} {n : Nat} {fr : Fr} {st st' : St} {a : Act} {w w' : World}

def resS (tmps : Array Value) : ResultVar → Sem Value
  | .tmp t => pure (tmps.getD t undef)
  | .cell a t => do loadVar t (← asAddr (tmps.getD a undef))

theorem resV_sound (R : Rel P B M L n fr st a w) {r : ResultVar} {v : Value} (h : resV P fr st r = some v) : ∃ u, (resS a.tmps r).run P w = .ok u w ∧ VR M v u := by
  cases r with
  | tmp t =>
    simp only [resV] at h
    split at h
    · cases h
    · rename_i hl
      simp only [Option.some.injEq] at h; subst h
      exact ⟨_, rfl, (R.env t).vr (by simpa using hl)⟩
  | cell ad t =>
    simp only [resV] at h
    obtain ⟨u, hr, hv⟩ := loadA_sound R (R.env ad) h
    refine ⟨u, ?_, hv⟩
    have hx : ∀ x : Value, (Instr.loadAt t x).run P w = .ok u w → (do loadVar t (← asAddr x) : Sem Value).run P w = .ok u w := by
      intro x hx
      cases x with
      | pointer p =>
        cases p with
        | none => simp [Instr.loadAt, Instr.sureAddr] at hx
        | some ad => simpa [Instr.loadAt, Instr.sureAddr, asAddr] using hx
      | _ => simp [Instr.loadAt, Instr.sureAddr] at hx
    exact hx _ hr

theorem resL_sound (R : Rel P B M L n fr st a w) : ∀ {rs : List ResultVar} {vs : List Value}, resL P fr st rs = some vs →
    ∃ us : List Value, (rs.mapM (resS a.tmps)).run P w = .ok us w ∧ us.length = vs.length ∧ ∀ (i : Nat) x y, vs[i]? = some x → us[i]? = some y → VR M x y := by
  intro rs
  induction rs with
  | nil => intro vs h; simp only [resL, Option.some.injEq] at h; subst h; exact ⟨[], by simp, rfl, by simp⟩
  | cons r rs ih =>
    intro vs h
    simp only [resL] at h
    split at h
    · cases h
    · rename_i v hv
      split at h
      · cases h
      · rename_i vs' hvs
        simp only [Option.some.injEq] at h; subst h
        obtain ⟨u, hu, hvr⟩ := resV_sound R hv
        obtain ⟨us, hus, hl, hr⟩ := ih hvs
        refine ⟨u :: us, ?_, by simp [hl], fun i x y hx hy => ?_⟩
        · simp only [List.mapM_cons, Sem.run_bind, hu, Result.andThen_ok, hus, Sem.run_pure]
        · cases i with
          | zero => simp only [List.getElem?_cons_zero, Option.some.injEq] at hx hy; subst hx; subst hy; exact hvr
          | succ i => exact hr i x y (by simpa using hx) (by simpa using hy)

theorem resA_sound (R : Rel P B M L n fr st a w) {fn : Func} {rs : List ResultVar} (hrs : fn.results = rs.toArray) {v : Value} (h : resA P rs fr st = some v) : ∃ u, (results fn a.tmps).run P w = .ok u w ∧ VR M v u := by
  have hres : results fn a.tmps = (do let vs ← rs.toArray.mapM (resS a.tmps); pure (if h : vs.size = 1 then vs[0] else .tuple vs)) := by
    unfold results
    rw [hrs]
    rfl
  have hmm : rs.toArray.mapM (resS a.tmps) = (do let l ← rs.mapM (resS a.tmps); pure l.toArray) := by
    rw [List.mapM_toArray, map_eq_pure_bind]
  rw [hres, hmm]
  unfold resA at h
  split at h
  · rename_i v' hl
    simp only [Option.some.injEq] at h; subst h
    obtain ⟨us, hus, hl', hr⟩ := resL_sound R hl
    obtain ⟨u, rfl⟩ : ∃ u, us = [u] := by
      match us, hl' with
      | [u], _ => exact ⟨u, rfl⟩
    refine ⟨u, ?_, hr 0 _ _ rfl rfl⟩
    simp only [Sem.run_bind, Sem.run_pure, hus, Result.andThen_ok]
    rfl
  · rename_i vs hne hl
    simp only [Option.some.injEq] at h; subst h
    obtain ⟨us, hus, hl', hr⟩ := resL_sound R hl
    have hne1 : us.length ≠ 1 := by
      intro e
      rw [hl'] at e
      obtain ⟨x, rfl⟩ := List.length_eq_one_iff.1 e
      exact hne x rfl
    refine ⟨.tuple us.toArray, ?_, .tup _ _ (by simp [hl']) fun i x y hx hy => hr i x y (by simpa using hx) (by simpa using hy)⟩
    simp only [Sem.run_bind, Sem.run_pure, hus, Result.andThen_ok]
    have : ¬ (us.toArray.size = 1) := by simpa using hne1
    simp only [this, dite_false]
  · cases h

theorem argEnv_rel {args : List Value} {vals : Array Value} (hv : VL M args vals) (k : Nat) (loc : Nat → Nat × List Value) (t : Nat) : VF M L loc (argEnv args t) ((vals ++ Array.replicate k undef).getD t undef) := by
  unfold argEnv
  rcases Nat.lt_or_ge t args.length with h | h
  · have h2 : t < vals.size := by rw [← hv.len]; exact h
    have e1 : args.getD t undef = args[t] := by simp [h]
    have e2 : (vals ++ Array.replicate k undef).getD t undef = vals[t] := by
      simp only [Array.getD_eq_getD_getElem?]
      rw [Array.getElem?_append_left h2, Array.getElem?_eq_getElem h2]; rfl
    rw [e1, e2]
    exact (hv.rel t _ _ (List.getElem?_eq_getElem h) (Array.getElem?_eq_getElem h2)).vf
  · have e1 : args.getD t undef = undef := by simp [h]
    have e2 : (vals ++ Array.replicate k undef).getD t undef = undef := by
      simp only [Array.getD_eq_getD_getElem?]
      rw [Array.getElem?_append_right (by rw [← hv.len]; exact h)]
      rw [Array.getElem?_replicate]
      split <;> rfl
    rw [e1, e2]
    exact VR.vf (.tup _ _ rfl (by simp))

/-- A function's contract, out of its body's walk. -/
theorem CallS_of_W {f : FuncId} {fn : Func} {c : Code} {args : List Value} {rs : List ResultVar} {Q : Value → St → Prop} (H : List Tmp) (n : Nat)
    (hf : P.funcs[f]? = some fn) (hnm : (fn.name == "runtime.NumGoroutine") = false) (hb : fn.body = some c) (hn : fn.ntmps = n) (hrs : fn.results = rs.toArray) (hlen : args.length ≤ n)
    (h : W P H n c (Fin P rs Q) ⟨argEnv args, fun _ => (0, [])⟩ st) : CallS P f args st Q := by
  refine ⟨⟨fn, hf, hnm, by rw [hb]; rfl⟩, fun M w vals hH hV => calls_of_wp hf hb ?_⟩
  have R : Rel P ⟨w, M, st⟩ M (fun _ => 0) n ⟨argEnv args, fun _ => (0, [])⟩ st { tmps := vals ++ Array.replicate (fn.ntmps - vals.size) undef, defers := [] } w :=
    ⟨rfl, by simp only [Array.size_append, Array.size_replicate, hn, ← hV.len]; omega, argEnv_rel hV _ _, fun s hs => absurd rfl hs, fun s t hs => absurd rfl hs, fun s hs => absurd rfl hs, hH⟩
  refine wp_mono (h _ M _ _ w R) fun e a' w' ⟨x, fr', st', M', L', he, q, R'⟩ => ?_
  subst he
  have fin : (∃ r, resA P rs fr' st' = some r ∧ Q r st') → a'.defers = [] ∧ ∃ v, (results fn a'.tmps).run P w' = .ok v w' ∧ ∃ r v' st' M', Ending.returned v = .returned v' ∧ Q r st' ∧ VR M' r v' ∧ HR P ⟨w, M, st⟩ M' st' w' := by
    rintro ⟨r, hr, hq⟩
    obtain ⟨u, hu, hv⟩ := resA_sound R' hrs hr
    exact ⟨R'.defers, u, hu, r, u, st', M', rfl, hq, hv, R'.heap⟩
  cases x with
  | normal => exact fin q
  | ret => exact fin q
  | exit id => exact q.elim

end

/-! Regions that draw their order. -/

def isPure : Op → Bool
  | .move _ | .assign _ | .pick .. | .binOp .. | .unOp .. | .index .. | .slice .. | .indexAddr .. | .field .. | .extract .. | .build .. => true
  | .call { callee := .builtin .len, .. } => true
  | _ => false
def isRd : Op → Bool
  | .load .. | .fieldAddr .. | .nilCheck _ | .convert .. => true
  | _ => false
def isAllocL (A H : List Tmp) (o : Oper) : Bool := match o.op, o.dst with
  | .alloc _, some d => A.contains d && !H.contains d
  | _, _ => false
def isMake : Op → Bool
  | .buildSlice .. | .makeSlice .. => true
  | _ => false

def deps (l : List Oper) (i : Nat) : List Nat := match l[i]? with
  | some o => (o.after.toList.filter (Region.binds .any)).map (·.on)
  | none => []
def ancT (l : List Oper) : List (List Nat) :=
  (List.range l.length).foldl (fun acc i => acc ++ [((deps l i).flatMap fun d => d :: acc.getD d []).eraseDups]) []
def swapOk (A H : List Tmp) (l : List Oper) (p q : Nat × Bool) : Bool :=
  match l[p.1]?, l[q.1]? with
  | some a, some x => a.apart l.toArray x && (
      isPure a.op
      || isRd a.op && (isPure x.op || isRd x.op || isAllocL A H x || isMake x.op || ((callOf x.op).isSome && q.2))
      || isAllocL A H a && (isPure x.op || isRd x.op || isAllocL A H x || (callOf x.op).isSome))
  | _, _ => false
def pairsOk (A H : List Tmp) (l : List Oper) (T : List (List Nat)) : List (Nat × Bool) → Bool
  | [] => true
  | p :: rest => rest.all (fun q => (T.getD q.1 []).contains p.1 || swapOk A H l p q) && pairsOk A H l T rest
def topoOk (l : List Oper) : List Nat → List (Nat × Bool) → Bool
  | _, [] => true
  | seen, p :: rest => (deps l p.1).all (fun d => seen.contains d) && topoOk l (p.1 :: seen) rest
def tabOk (l : List Oper) (T : List (List Nat)) : Bool :=
  (List.range l.length).all fun i => (T.getD i []).all fun a => (deps l i).contains a || (deps l i).any fun d => decide (d < i) && (T.getD d []).contains a
def nodupB : List Nat → Bool
  | [] => true
  | x :: xs => !xs.contains x && nodupB xs
/-- The order in which we walk a region, and what is asked of it. -/
def chkD (A H : List Tmp) (l : List Oper) (π : List (Nat × Bool)) : Bool :=
  (π.length == l.length && nodupB (π.map (·.1))) && (List.range l.length).all (fun i => π.any fun p => p.1 == i) && π.all (fun p => decide (p.1 < l.length)) && tabOk l (ancT l) && topoOk l [] π && pairsOk A H l (ancT l) π
def pickOps (l : List Oper) (π : List (Nat × Bool)) : List (Oper × Bool) := π.filterMap fun p => (l[p.1]?).map fun o => (o, p.2)

end Go.Proofs.Ytdijnohbbgbklaa.AM
