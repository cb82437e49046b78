/- Regions that draw their order: the swap, and all orders. -/
import Derived.Test.YtdijnohbbgbklaaH11
namespace Go.Proofs.Ytdijnohbbgbklaa.AM
open Go
set_option linter.unusedVariables false
set_option linter.unusedSimpArgs false

section
variable {P : Program} {A H : List Tmp} {G : Nat → Option Tmp}

theorem ev_put {env : Nat → Value} {loc loc' : Nat → Nat × List Value} {d : Option Tmp} {v : Value} {y : Operand} (h : ∀ t, d = some t → y ≠ .tmp t) : Fr.ev ⟨put env d v, loc⟩ y = Fr.ev ⟨env, loc'⟩ y := by
  cases d with
  | none => cases y <;> rfl
  | some d =>
    cases y with
    | tmp t => exact upd_ne _ _ _ _ (fun e => h d rfl (e ▸ rfl))
    | _ => rfl
theorem put_comm (env : Nat → Value) {d e : Option Tmp} (u v : Value) (h : ∀ t, d = some t → e ≠ some t) : put (put env d u) e v = put (put env e v) d u := by
  cases d with
  | none => rfl
  | some d =>
    cases e with
    | none => rfl
    | some e =>
      funext j
      have hne : d ≠ e := fun he => h d rfl (he ▸ rfl)
      simp only [put_some, upd]
      by_cases h1 : j = e
      · subst h1; simp [Ne.symm hne]
      · simp [h1]

theorem mem_looks {ops : Array Oper} {o : Oper} {t : Tmp} (h : Operand.tmp t ∈ o.op.operands) : t ∈ o.looksAt ops := by
  unfold Oper.looksAt
  simp only [List.mem_append, List.mem_filterMap]
  exact .inl ⟨.tmp t, by simpa using h, rfl⟩

theorem evalVal_apart {ops : Array Oper} {a x : Oper} (hap : a.apart ops x = true) {env : Nat → Value} {u : Value} {loc loc' : Nat → Nat × List Value} {st : St} :
    evalVal P A a.op (Fr.ev ⟨put env x.dst u, loc'⟩) loc st = evalVal P A a.op (Fr.ev ⟨env, loc⟩) loc st := by
  refine evalVal_congr fun y hy => ev_put fun t ht e => ?_
  subst e
  exact (Oper.apart_spec hap).2.2 t ht (mem_looks hy)

theorem wanted_none {a : Oper} {env : Nat → Value} (h : a.guard.isNone = true) : wantedA G env a = some true := by
  unfold wantedA
  cases hg : a.guard with
  | none => rfl
  | some q => rw [hg] at h; cases h

/-- What an operation without a guard does, told of whatever follows. -/
theorem WOps_cons {o : Oper} {x : Bool} {rest : List (Oper × Bool)} {K : Fr → St → Prop} {fr : Fr} {st : St} (hg : o.guard.isNone = true) :
    WOps P A H G ((o, x) :: rest) K fr st = match callOf o.op with
      | some (f, args) => ∃ g, fr.ev f = .func (.func g) #[] #[] ∧ args.all (fun y => !isLoc (fr.ev y)) = true ∧ CallS P g (args.toList.map fr.ev) st fun r st' => (x = true → Ext st st') ∧ WOps P A H G rest K ⟨put fr.env o.dst r, fr.loc⟩ st'
      | none => match stepVal P A H o fr st with
        | some (v, l, s) => WOps P A H G rest K ⟨put fr.env o.dst v, l⟩ s
        | none => False := by
  conv => lhs; unfold WOps
  rw [wanted_none hg]
  rfl

theorem callOf_operands {o : Op} {f : Operand} {args : Array Operand} (h : callOf o = some (f, args)) : (∀ y ∈ args, y ∈ o.operands) ∧ f ∈ o.operands := by
  unfold callOf at h
  split at h
  · simp only [Option.some.injEq, Prod.mk.injEq] at h
    obtain ⟨rfl, rfl⟩ := h
    constructor
    · intro y hy; simp [Op.operands, Call.operands, hy]
    · simp [Op.operands, Call.operands]
  · cases h

theorem callOf_eval {o : Op} {f : Operand} {args : Array Operand} (h : callOf o = some (f, args)) : isPure o = false ∧ isRd o = false := by
  unfold callOf at h
  split at h
  · exact ⟨rfl, rfl⟩
  · cases h

theorem evalEff_none {o : Oper} (ho : isPure o.op = true ∨ isRd o.op = true) {ρ : Operand → Value} {loc : Nat → Nat × List Value} {st : St} : evalEff P H o ρ loc st = none := by
  obtain ⟨dst, op, type, pos, after, guard⟩ := o
  cases op with
  | call c =>
    obtain ⟨callee, args, ts⟩ := c
    cases callee with
    | value f => rfl
    | invoke r m => rfl
    | builtin bi =>
      cases bi with
      | append => rcases ho with ho | ho <;> cases ho
      | _ => rfl
  | alloc | box | buildSlice | store | makeSlice => rcases ho with ho | ho <;> cases ho
  | _ => rfl

theorem stepVal_pure {o : Oper} {fr : Fr} {st : St} {v : Value} {l : Nat → Nat × List Value} {s : St} (ho : isPure o.op = true ∨ isRd o.op = true) (h : stepVal P A H o fr st = some (v, l, s)) :
    evalVal P A o.op fr.ev fr.loc st = some v ∧ l = fr.loc ∧ s = st := by
  unfold stepVal at h
  split at h
  · rename_i u hu
    simp only [Option.some.injEq, Prod.mk.injEq] at h
    obtain ⟨rfl, rfl, rfl⟩ := h
    exact ⟨hu, rfl, rfl⟩
  · rw [evalEff_none ho] at h
    cases h
theorem stepVal_of {o : Oper} {fr : Fr} {st : St} {v : Value} (h : evalVal P A o.op fr.ev fr.loc st = some v) : stepVal P A H o fr st = some (v, fr.loc, st) := by
  unfold stepVal; rw [h]

theorem allocL_spec {o : Oper} (h : isAllocL A H o = true) : ∃ t d, o.op = .alloc t ∧ o.dst = some d ∧ d ∈ A ∧ H.contains d = false ∧ callOf o.op = none := by
  unfold isAllocL at h
  split at h
  · rename_i t d hop hd
    simp only [Bool.and_eq_true, Bool.not_eq_true'] at h
    exact ⟨t, d, hop, hd, by simpa using h.1, h.2, by rw [hop]; rfl⟩
  · cases h
theorem stepVal_alloc {o : Oper} {t : TypeId} {d : Tmp} (hop : o.op = .alloc t) (hd : o.dst = some d) (hH : H.contains d = false) {fr : Fr} {st : St} :
    stepVal P A H o fr st = (zeroA P t).map fun z => (.pointer (some ⟨d, 0, some ((fr.loc d).1 + 1)⟩), upd fr.loc d ((fr.loc d).1 + 1, z), st) := by
  unfold stepVal
  rw [hop]
  simp only [evalVal, evalEff, hop, hd]
  cases hz : zeroA P t with
  | none => rfl
  | some z => simp only [allocA, hH, Bool.false_eq_true, if_false, Option.map_some]

theorem make_spec {o : Oper} (h : isMake o.op = true) {fr : Fr} {st : St} {v : Value} {l : Nat → Nat × List Value} {s : St} (hs : stepVal P A H o fr st = some (v, l, s)) : l = fr.loc ∧ Ext st s := by
  obtain ⟨dst, op, type, pos, after, guard⟩ := o
  unfold stepVal at hs
  cases op <;> simp only [isMake, Bool.false_eq_true] at h <;> simp only [evalVal, evalEff] at hs
  case buildSlice t len parts =>
    split at hs
    · split at hs
      · split at hs
        · simp only [Option.map_eq_some_iff, Prod.mk.injEq] at hs
          obtain ⟨cs, _, _, rfl, rfl⟩ := hs
          exact ⟨rfl, Ext.app _ _⟩
        · cases hs
      · cases hs
    · cases hs
  case makeSlice t ln cp =>
    split at hs
    · split at hs
      · split at hs
        · simp only [Option.some.injEq, Prod.mk.injEq] at hs
          obtain ⟨_, rfl, rfl⟩ := hs
          exact ⟨rfl, Ext.app _ _⟩
        · cases hs
      · cases hs
    · cases hs

theorem upd_comm {α : Type} (f : Nat → α) {d e : Nat} (u v : α) (h : d ≠ e) : upd (upd f d u) e v = upd (upd f e v) d u := by
  funext j
  simp only [upd]
  by_cases h1 : j = e
  · subst h1; simp [Ne.symm h]
  · simp [h1]

theorem make_congr {o : Oper} (h : isMake o.op = true) {ρ ρ' : Operand → Value} {loc : Nat → Nat × List Value} {st : St} (hρ : ∀ y ∈ o.op.operands, ρ' y = ρ y) : evalEff P H o ρ' loc st = evalEff P H o ρ loc st := by
  obtain ⟨dst, op, type, pos, after, guard⟩ := o
  cases op <;> simp only [isMake, Bool.false_eq_true] at h <;> simp only [Op.operands] at hρ <;> simp only [evalEff]
  case buildSlice t len parts =>
    have e1 : (parts.map fun (i, x) => (i, ρ' x)) = (parts.map fun (i, x) => (i, ρ x)) := Array.map_congr_left fun p hp => by
      obtain ⟨i, x⟩ := p
      simp only [hρ x (by simp; exact ⟨i, hp⟩)]
    have e2 : (parts.all fun p => okv (ρ' p.2)) = (parts.all fun p => okv (ρ p.2)) := by
      rw [← Array.all_toList, ← Array.all_toList, Bool.eq_iff_iff, List.all_eq_true, List.all_eq_true]
      constructor
      · intro hh p hp; have := hh p hp; rw [hρ p.2 (by simp; exact ⟨p.1, by simpa using hp⟩)] at this; exact this
      · intro hh p hp; rw [hρ p.2 (by simp; exact ⟨p.1, by simpa using hp⟩)]; exact hh p hp
    rw [e1, e2]
  case makeSlice t ln cp => rw [hρ ln (by simp), hρ cp (by simp)]

theorem stepVal_congr {o : Oper} {fr fr' : Fr} {st : St} (hl : fr'.loc = fr.loc) (hρ : ∀ y ∈ o.op.operands, fr'.ev y = fr.ev y) : stepVal P A H o fr' st = stepVal P A H o fr st := by
  unfold stepVal
  rw [hl, evalVal_congr hρ]
  have : evalEff P H o fr'.ev fr.loc st = evalEff P H o fr.ev fr.loc st := by
    by_cases hm : isMake o.op = true
    · exact make_congr hm hρ
    · obtain ⟨dst, op, type, pos, after, guard⟩ := o
      cases op <;> simp only [Op.operands] at hρ <;> simp only [evalEff]
      case box t x => rw [hρ x (by simp)]
      case store t x v => rw [hρ x (by simp), hρ v (by simp)]
      case buildSlice => exact absurd rfl hm
      case makeSlice => exact absurd rfl hm
      case call c =>
        obtain ⟨callee, args, ts⟩ := c
        cases callee with
        | value f => rfl
        | invoke r m => rfl
        | builtin bi =>
          cases bi <;> first | rfl | skip
          simp only
          cases h0 : args[0]? with
          | none => cases ts[0]? <;> cases ts[1]? <;> rfl
          | some s =>
            cases h1 : args[1]? with
            | none => cases ts[0]? <;> cases ts[1]? <;> rfl
            | some x =>
              have e1 := hρ s (by simp [Call.operands]; exact Array.mem_of_getElem? h0)
              have e2 := hρ x (by simp [Call.operands]; exact Array.mem_of_getElem? h1)
              cases ts[0]? <;> cases ts[1]? <;> simp only [e1, e2]
  rw [this]

theorem make_none {o : Op} (h : isMake o = true) : callOf o = none ∧ ∀ (ρ : Operand → Value) (loc : Nat → Nat × List Value) (st : St), evalVal P A o ρ loc st = none := by
  cases o <;> simp only [isMake, Bool.false_eq_true] at h <;> exact ⟨rfl, fun _ _ _ => rfl⟩

/-- Two neighbours change places. -/
theorem WOps_swap {ops : Array Oper} {a x : Oper} {fa fx : Bool} {rest : List (Oper × Bool)} {K : Fr → St → Prop} {fr : Fr} {st : St} (hap : a.apart ops x = true) (hga : a.guard.isNone = true) (hgx : x.guard.isNone = true)
    (hcl : isPure a.op = true
      ∨ isRd a.op = true ∧ (isPure x.op = true ∨ isRd x.op = true ∨ isAllocL A H x = true ∨ isMake x.op = true ∨ (callOf x.op).isSome = true ∧ fx = true)
      ∨ isAllocL A H a = true ∧ (isPure x.op = true ∨ isRd x.op = true ∨ isAllocL A H x = true ∨ (callOf x.op).isSome = true))
    (h : WOps P A H G ((a, fa) :: (x, fx) :: rest) K fr st) : WOps P A H G ((x, fx) :: (a, fa) :: rest) K fr st := by
  obtain ⟨env, loc⟩ := fr
  have sp := Oper.apart_spec hap
  have hxa : ∀ (u : Value) (l l' : Nat → Nat × List Value) y, y ∈ x.op.operands → Fr.ev ⟨put env a.dst u, l⟩ y = Fr.ev ⟨env, l'⟩ y := fun u l l' y hy => ev_put fun t ht e => by
    subst e; exact sp.1 t ht (mem_looks hy)
  -- the call of x, over another frame
  have xcall : ∀ {f : Operand} {args : Array Operand}, callOf x.op = some (f, args) → ∀ (u : Value) (l l' : Nat → Nat × List Value), (args.toList.map (Fr.ev ⟨put env a.dst u, l⟩) = args.toList.map (Fr.ev ⟨env, l'⟩)) ∧ Fr.ev ⟨put env a.dst u, l⟩ f = Fr.ev ⟨env, l'⟩ f ∧ (args.all (fun y => !isLoc (Fr.ev ⟨put env a.dst u, l⟩ y)) = args.all (fun y => !isLoc (Fr.ev ⟨env, l'⟩ y))) := by
    intro f args hc u l l'
    obtain ⟨h1, h2⟩ := callOf_operands hc
    refine ⟨List.map_congr_left fun y hy => hxa u l l' y (h1 y (by simpa using hy)), hxa u l l' f h2, ?_⟩
    rw [← Array.all_toList, ← Array.all_toList, Bool.eq_iff_iff, List.all_eq_true, List.all_eq_true]
    constructor
    · intro hh y hy; have := hh y hy; rw [hxa u l l' y (h1 y (by simpa using hy))] at this; exact this
    · intro hh y hy; rw [hxa u l l' y (h1 y (by simpa using hy))]; exact hh y hy
  by_cases hal : isAllocL A H a = true
  · -- a local box
    obtain ⟨t, d, hop, hd, hdA, hdH, hcn⟩ := allocL_spec hal
    have hcl' : isPure x.op = true ∨ isRd x.op = true ∨ isAllocL A H x = true ∨ (callOf x.op).isSome = true := by
      rcases hcl with h1 | ⟨h1, _⟩ | ⟨_, h2⟩
      · rw [hop] at h1; cases h1
      · rw [hop] at h1; cases h1
      · exact h2
    rw [WOps_cons hga, hcn] at h
    simp only at h
    rw [stepVal_alloc hop hd hdH] at h
    cases hz : zeroA P t with
    | none => rw [hz] at h; exact h.elim
    | some z =>
      rw [hz] at h
      simp only [Option.map_some] at h
      -- the way on, behind x
      have back : ∀ (v : Value) (l : Nat → Nat × List Value) (s : St), (l d).1 = (loc d).1 → WOps P A H G rest K ⟨put (put env a.dst (.pointer (some ⟨d, 0, some ((loc d).1 + 1)⟩))) x.dst v, upd l d ((loc d).1 + 1, z)⟩ s → WOps P A H G ((a, fa) :: rest) K ⟨put env x.dst v, l⟩ s := by
        intro v l s hl hh
        rw [WOps_cons hga, hcn]
        simp only
        rw [stepVal_alloc hop hd hdH, hz]
        simp only [Option.map_some, hl]
        rw [put_comm _ _ _ sp.2.1] at hh
        exact hh
      rw [WOps_cons hgx] at h ⊢
      cases hc : callOf x.op with
      | some fa' =>
        obtain ⟨f, args⟩ := fa'
        rw [hc] at h
        simp only at h ⊢
        obtain ⟨e1, e2, e3⟩ := xcall hc (.pointer (some ⟨d, 0, some ((loc d).1 + 1)⟩)) (upd loc d ((loc d).1 + 1, z)) loc
        obtain ⟨g, h1, h2, h3⟩ := h
        rw [e2] at h1; rw [e3] at h2; rw [e1] at h3
        exact ⟨g, h1, h2, h3.mono fun r st' ⟨q1, q2⟩ => ⟨q1, back r loc st' rfl q2⟩⟩
      | none =>
        rw [hc] at h
        simp only at h ⊢
        rcases hcl' with hp | hr | hl | hcs
        · split at h
          · rename_i v l s hs
            obtain ⟨q1, q2, q3⟩ := stepVal_pure (.inl hp) hs
            subst q2; subst q3
            have q1' : evalVal P A x.op (Fr.ev ⟨env, loc⟩) loc s = some v := by
              have := evalVal_rd (loc' := loc) (st' := s) (.inl hp) q1
              rw [← this]; exact (evalVal_congr fun y hy => hxa _ _ _ y hy).symm
            rw [stepVal_of (fr := ⟨env, loc⟩) q1']
            exact back v loc s rfl h
          · exact h.elim
        · split at h
          · rename_i v l s hs
            obtain ⟨q1, q2, q3⟩ := stepVal_pure (.inr hr) hs
            subst q2; subst q3
            have q1' : evalVal P A x.op (Fr.ev ⟨env, loc⟩) loc s = some v := by
              have := evalVal_rd (loc' := loc) (st' := s) (.inr ⟨hr, fun b hb => (upd_ne _ _ _ _ (fun e => hb (e ▸ hdA))).symm, Ext.refl s⟩) q1
              rw [← this]; exact (evalVal_congr fun y hy => hxa _ _ _ y hy).symm
            rw [stepVal_of (fr := ⟨env, loc⟩) q1']
            exact back v loc s rfl h
          · exact h.elim
        · obtain ⟨t2, d2, hop2, hd2, hdA2, hdH2, hcn2⟩ := allocL_spec hl
          have hne : d2 ≠ d := fun e => sp.2.1 d hd (by rw [hd2, e])
          rw [stepVal_alloc hop2 hd2 hdH2] at h ⊢
          cases hz2 : zeroA P t2 with
          | none => rw [hz2] at h; exact h.elim
          | some z2 =>
            rw [hz2] at h
            simp only [Option.map_some, upd_ne _ _ _ _ hne] at h ⊢
            refine back _ _ _ (by rw [upd_ne _ _ _ _ (Ne.symm hne)]) ?_
            rw [upd_comm _ _ _ hne]
            exact h
        · rw [hc] at hcs; cases hcs
  · -- a plain operation, or a read
    have hpr : isPure a.op = true ∨ isRd a.op = true := by
      rcases hcl with h1 | ⟨h1, _⟩ | ⟨h1, _⟩
      · exact .inl h1
      · exact .inr h1
      · exact absurd h1 hal
    have hcn : callOf a.op = none := by
      cases hc : callOf a.op with
      | none => rfl
      | some q =>
        obtain ⟨f, args⟩ := q
        obtain ⟨e1, e2⟩ := callOf_eval hc
        rcases hpr with h1 | h1
        · rw [e1] at h1; cases h1
        · rw [e2] at h1; cases h1
    rw [WOps_cons hga, hcn] at h
    simp only at h
    split at h
    · rename_i va l s hs
      obtain ⟨q1, q2, q3⟩ := stepVal_pure hpr hs
      replace q2 := q2.symm; replace q3 := q3.symm
      subst q2; subst q3
      simp only at h q1
      -- the way on, behind x
      have back : ∀ (v : Value) (l : Nat → Nat × List Value) (s' : St), (isPure a.op = true ∨ (∀ b, b ∉ A → l b = loc b) ∧ Ext st s') → WOps P A H G rest K ⟨put (put env a.dst va) x.dst v, l⟩ s' → WOps P A H G ((a, fa) :: rest) K ⟨put env x.dst v, l⟩ s' := by
        intro v l s' hl hh
        rw [WOps_cons hga, hcn]
        simp only
        have e : evalVal P A a.op (Fr.ev ⟨put env x.dst v, l⟩) l s' = some va := by
          rw [evalVal_apart hap]
          refine (evalVal_congr (ρ := Fr.ev ⟨env, loc⟩) fun y _ => by cases y <;> rfl).trans ?_
          refine evalVal_rd ?_ q1
          rcases hl with h1 | ⟨h1, h2⟩
          · exact .inl h1
          · rcases hpr with h3 | h3
            · exact .inl h3
            · exact .inr ⟨h3, h1, h2⟩
        rw [stepVal_of e]
        rw [put_comm _ _ _ sp.2.1] at hh
        exact hh
      rw [WOps_cons hgx] at h ⊢
      cases hc : callOf x.op with
      | some fa' =>
        obtain ⟨f, args⟩ := fa'
        rw [hc] at h
        simp only at h ⊢
        obtain ⟨e1, e2, e3⟩ := xcall hc va loc loc
        obtain ⟨g, h1, h2, h3⟩ := h
        rw [e2] at h1; rw [e3] at h2; rw [e1] at h3
        have hfx : isPure a.op = true ∨ fx = true := by
          rcases hcl with h1 | ⟨_, h2⟩ | ⟨h1, _⟩
          · exact .inl h1
          · obtain ⟨e1, e2⟩ := callOf_eval hc
            rcases h2 with h | h | h | h | h
            · rw [e1] at h; cases h
            · rw [e2] at h; cases h
            · obtain ⟨_, _, _, _, _, _, hcn2⟩ := allocL_spec h; rw [hc] at hcn2; cases hcn2
            · have := (make_none (P := P) (A := A) h).1; rw [hc] at this; cases this
            · exact .inr h.2
          · exact absurd h1 hal
        refine ⟨g, h1, h2, h3.mono fun r st' ⟨p1, p2⟩ => ⟨p1, back r loc st' ?_ p2⟩⟩
        rcases hfx with h | h
        · exact .inl h
        · exact .inr ⟨fun _ _ => rfl, p1 h⟩
      | none =>
        rw [hc] at h
        simp only at h ⊢
        by_cases hxpr : isPure x.op = true ∨ isRd x.op = true
        · split at h
          · rename_i v l s' hs'
            obtain ⟨r1, r2, r3⟩ := stepVal_pure hxpr hs'
            replace r2 := r2.symm; replace r3 := r3.symm
            subst r2; subst r3
            have r1' : evalVal P A x.op (Fr.ev ⟨env, loc⟩) loc st = some v := by
              rw [← r1]; exact (evalVal_congr fun y hy => hxa _ _ _ y hy).symm
            rw [stepVal_of (fr := ⟨env, loc⟩) r1']
            exact back v loc st (.inr ⟨fun _ _ => rfl, Ext.refl _⟩) h
          · exact h.elim
        · by_cases hxl : isAllocL A H x = true
          · obtain ⟨t2, d2, hop2, hd2, hdA2, hdH2, hcn2⟩ := allocL_spec hxl
            rw [stepVal_alloc hop2 hd2 hdH2] at h ⊢
            cases hz2 : zeroA P t2 with
            | none => rw [hz2] at h; exact h.elim
            | some z2 =>
              rw [hz2] at h
              simp only [Option.map_some] at h ⊢
              exact back _ _ _ (.inr ⟨fun b hb => upd_ne _ _ _ _ (fun e => hb (e ▸ hdA2)), Ext.refl _⟩) h
          · by_cases hxm : isMake x.op = true
            · split at h
              · rename_i v l s' hs'
                obtain ⟨r1, r2⟩ := make_spec hxm hs'
                replace r1 := r1.symm
                subst r1
                have e : stepVal P A H x ⟨env, loc⟩ st = some (v, loc, s') := by
                  unfold stepVal at hs' ⊢
                  rw [(make_none hxm).2] at hs' ⊢
                  simp only at hs' ⊢
                  rw [← hs']; exact (make_congr hxm fun y hy => hxa _ _ _ y hy).symm
                rw [e]
                exact back v loc s' (.inr ⟨fun _ _ => rfl, r2⟩) h
              · exact h.elim
            · -- any other effect: a is plain
              have hp : isPure a.op = true := by
                rcases hcl with h1 | ⟨_, h2⟩ | ⟨h1, _⟩
                · exact h1
                · rcases h2 with h | h | h | h | h
                  · exact absurd (.inl h) hxpr
                  · exact absurd (.inr h) hxpr
                  · exact absurd h hxl
                  · exact absurd h hxm
                  · rw [hc] at h; cases h.1
                · exact absurd h1 hal
              split at h
              · rename_i v l s' hs'
                have e : stepVal P A H x ⟨env, loc⟩ st = some (v, l, s') := by
                  rw [← hs']
                  exact (stepVal_congr (fr := ⟨put env a.dst va, loc⟩) (fr' := ⟨env, loc⟩) rfl fun y hy => (hxa _ _ _ y hy).symm)
                rw [e]
                exact back v l s' (.inl hp) h
              · exact h.elim
    · exact h.elim

/-! Guards. -/
/-- An operation whose guard is known. -/
def resolveO (o : Oper) (b : Bool) : Oper := if b then { o with guard := none } else { o with guard := none, op := .assign (.const undef) }
theorem resolve_guard {o : Oper} {b : Bool} : (resolveO o b).guard.isNone = true := by cases b <;> rfl
theorem resolve_dst {o : Oper} {b : Bool} : (resolveO o b).dst = o.dst := by cases b <;> rfl
theorem WOps_resolve {o : Oper} {b x : Bool} {rest : List (Oper × Bool)} {K : Fr → St → Prop} {env : Nat → Value} {loc : Nat → Nat × List Value} {st : St} (h : wantedA G env o = some b) :
    WOps P A H G ((o, x) :: rest) K ⟨env, loc⟩ st ↔ WOps P A H G ((resolveO o b, x) :: rest) K ⟨env, loc⟩ st := by
  cases b with
  | true =>
    rw [WOps_cons (o := resolveO o true) rfl]
    conv => lhs; unfold WOps
    simp only [h]
    rfl
  | false =>
    rw [WOps_cons (o := resolveO o false) rfl]
    conv => lhs; unfold WOps
    simp only [h]
    have e1 : callOf (resolveO o false).op = none := rfl
    have hu : Fr.ev ⟨env, loc⟩ (.const undef) = undef := by
      show (if AM.flat undef then undef else AM.junk) = undef
      rw [if_pos (by simp [undef, AM.flat])]
    have e2 : stepVal P A H (resolveO o false) ⟨env, loc⟩ st = some (undef, loc, st) := by
      show (match some (Fr.ev ⟨env, loc⟩ (.const undef)) with
        | some v => some (v, loc, st)
        | none => evalEff P H (resolveO o false) (Fr.ev ⟨env, loc⟩) loc st) = _
      rw [hu]
    simp only [e1, e2]
    rfl
theorem looks_resolve {ops : Array Oper} {o : Oper} {b : Bool} {t : Tmp} (h : t ∈ (resolveO o b).looksAt ops) : t ∈ o.looksAt ops := by
  cases b with
  | true =>
    unfold resolveO Oper.looksAt at h
    unfold Oper.looksAt
    simp only [if_true, List.append_nil] at h
    exact List.mem_append_left _ h
  | false =>
    unfold resolveO Oper.looksAt at h
    simp only [Bool.false_eq_true, if_false, Op.operands, List.append_nil, List.mem_filterMap] at h
    obtain ⟨y, hy, he⟩ := h
    simp at hy
    subst hy
    cases he
theorem apart_resolve {ops : Array Oper} {a x : Oper} {b c : Bool} (h : a.apart ops x = true) : (resolveO a b).apart ops (resolveO x c) = true := by
  obtain ⟨h1, h2, h3⟩ := Oper.apart_spec h
  unfold Oper.apart
  rw [resolve_dst, resolve_dst]
  rw [Bool.and_eq_true]
  constructor
  · cases hd : a.dst with
    | none => rfl
    | some d =>
      have g1 : ((resolveO x c).looksAt ops).contains d = false := by
        rw [Bool.eq_false_iff]
        intro hc
        exact h1 d hd (looks_resolve (by simpa using hc))
      have g2 : (x.dst != some d) = true := by simpa using h2 d hd
      show (!((resolveO x c).looksAt ops).contains d && x.dst != some d) = true
      rw [g1, g2]; rfl
  · cases hd : x.dst with
    | none => rfl
    | some d =>
      have g1 : ((resolveO a b).looksAt ops).contains d = false := by
        rw [Bool.eq_false_iff]
        intro hc
        exact h3 d hd (looks_resolve (by simpa using hc))
      show (!((resolveO a b).looksAt ops).contains d) = true
      rw [g1]; rfl
theorem wanted_put {ops : Array Oper} (hG : ∀ j, G j = (ops[j]?).bind (·.dst)) {o : Oper} {d : Option Tmp} {v : Value} {env : Nat → Value} (h : ∀ t, d = some t → t ∉ o.looksAt ops) : wantedA G (put env d v) o = wantedA G env o := by
  unfold wantedA
  cases hg : o.guard with
  | none => rfl
  | some q =>
    obtain ⟨j, want⟩ := q
    simp only
    cases hj : G j with
    | none => rfl
    | some t =>
      have ht : t ∈ o.looksAt ops := by
        unfold Oper.looksAt
        rw [hg]
        refine List.mem_append_right _ ?_
        show t ∈ ((ops[j]?).bind (·.dst)).toList
        rw [← hG j, hj]
        simp
      have e : put env d v t = env t := by
        cases d with
        | none => rfl
        | some d =>
          show upd env d v t = env t
          exact upd_ne _ _ _ _ fun e => h d rfl (e ▸ ht)
      simp only [e]
theorem WOps_tailE {o : Oper} {x : Bool} {R R' : List (Oper × Bool)} {K : Fr → St → Prop} {fr : Fr} {st : St} (hR : ∀ v l s, WOps P A H G R K ⟨put fr.env o.dst v, l⟩ s → WOps P A H G R' K ⟨put fr.env o.dst v, l⟩ s) (h : WOps P A H G ((o, x) :: R) K fr st) : WOps P A H G ((o, x) :: R') K fr st := by
  unfold WOps at h ⊢
  split at h
  · exact h.elim
  · exact hR _ _ _ h
  · split at h
    · obtain ⟨g, h1, h2, h3⟩ := h
      exact ⟨g, h1, h2, h3.mono fun r st' ⟨q1, q2⟩ => ⟨q1, hR _ _ _ q2⟩⟩
    · split at h
      · exact hR _ _ _ h
      · exact h.elim
/-- Two neighbours change places, guarded or not. -/
theorem WOps_swapG {ops : Array Oper} (hG : ∀ j, G j = (ops[j]?).bind (·.dst)) {a x : Oper} {fa fx : Bool} {rest : List (Oper × Bool)} {K : Fr → St → Prop} {fr : Fr} {st : St} (hap : a.apart ops x = true)
    (hcl : isPure a.op = true
      ∨ isRd a.op = true ∧ (isPure x.op = true ∨ isRd x.op = true ∨ isAllocL A H x = true ∨ isMake x.op = true ∨ (callOf x.op).isSome = true ∧ fx = true)
      ∨ isAllocL A H a = true ∧ (isPure x.op = true ∨ isRd x.op = true ∨ isAllocL A H x = true ∨ (callOf x.op).isSome = true))
    (h : WOps P A H G ((a, fa) :: (x, fx) :: rest) K fr st) : WOps P A H G ((x, fx) :: (a, fa) :: rest) K fr st := by
  obtain ⟨env, loc⟩ := fr
  obtain ⟨s1, s2, s3⟩ := Oper.apart_spec hap
  have hca : callOf a.op = none := by
    cases hc : callOf a.op with
    | none => rfl
    | some q =>
      obtain ⟨g1, g2⟩ := callOf_eval hc
      rcases hcl with h | ⟨h, _⟩ | ⟨h, _⟩
      · rw [g1] at h; cases h
      · rw [g2] at h; cases h
      · obtain ⟨_, _, _, _, _, _, h6⟩ := allocL_spec h; rw [hc] at h6; cases h6
  cases ha : wantedA G env a with
  | none => unfold WOps at h; rw [ha] at h; exact h.elim
  | some b =>
    have h1 := (WOps_resolve ha).1 h
    have hwx : ∀ v, wantedA G (put env a.dst v) x = wantedA G env x := fun v => wanted_put hG s1
    have hwa : ∀ v, wantedA G (put env x.dst v) a = wantedA G env a := fun v => wanted_put hG s3
    cases hx : wantedA G env x with
    | none =>
      exfalso
      have hdead : ∀ v l s, ¬ WOps P A H G ((x, fx) :: rest) K ⟨put env a.dst v, l⟩ s := fun v l s hh => by
        unfold WOps at hh
        rw [hwx, hx] at hh
        exact hh
      rw [WOps_cons (o := resolveO a b) resolve_guard] at h1
      have hc2 : callOf (resolveO a b).op = none := by cases b; rfl; exact hca
      rw [hc2] at h1
      simp only [resolve_dst] at h1
      split at h1
      · exact hdead _ _ _ h1
      · exact h1
    | some c =>
      have h2 : WOps P A H G ((resolveO a b, fa) :: (resolveO x c, fx) :: rest) K ⟨env, loc⟩ st := WOps_tailE (fun v l s hh => by
        rw [resolve_dst] at hh ⊢
        exact (WOps_resolve (by rw [hwx]; exact hx)).1 hh) h1
      have h3 := WOps_swap (apart_resolve hap) resolve_guard resolve_guard (by
        cases b with
        | false => exact .inl rfl
        | true =>
          cases c with
          | true => exact hcl
          | false =>
            rcases hcl with h | ⟨h, _⟩ | ⟨h, _⟩
            · exact .inl h
            · exact .inr (.inl ⟨h, .inl rfl⟩)
            · exact .inr (.inr ⟨h, .inl rfl⟩)) h2
      have h4 : WOps P A H G ((resolveO x c, fx) :: (a, fa) :: rest) K ⟨env, loc⟩ st := WOps_tailE (fun v l s hh => by
        rw [resolve_dst] at hh ⊢
        exact (WOps_resolve (by rw [hwa]; exact ha)).2 hh) h3
      exact (WOps_resolve hx).2 h4

end
end Go.Proofs.Ytdijnohbbgbklaa.AM
