/- Regions that draw their order: one order, walked, stands for all. -/
import Derived.Test.YtdijnohbbgbklaaH10
namespace Go.Proofs.Ytdijnohbbgbklaa.AM
open Go
set_option linter.unusedVariables false
set_option linter.unusedSimpArgs false

theorem cellAt_mono {A : List Tmp} {loc loc' : Nat → Nat × List Value} {st st' : St} {b j : Nat} {sp : Option Nat} {v : Value} (hl : ∀ b, b ∉ A → loc' b = loc b) (hs : Ext st st')
    (h : cellAt A loc st b sp j = some v) : cellAt A loc' st' b sp j = some v := by
  cases sp with
  | some ver =>
    simp only [cellAt] at h ⊢
    split at h
    · rename_i hc
      rw [hl b hc.2.2, if_pos hc]; exact h
    · cases h
  | none =>
    simp only [cellAt, cell] at h ⊢
    split at h
    · rename_i blk hb; rw [hs b blk hb]; exact h
    · cases h
theorem okPtr_mono {A : List Tmp} {loc loc' : Nat → Nat × List Value} {b : Nat} {sp : Option Nat} (hl : ∀ b, b ∉ A → loc' b = loc b) (h : okPtr A loc b sp = true) : okPtr A loc' b sp = true := by
  cases sp with
  | some ver =>
    simp only [okPtr, decide_eq_true_eq] at h ⊢
    rw [hl b h.2.2]; exact h
  | none => rfl
theorem cellsFrom_mono {f g : Nat → Option Value} (h : ∀ j v, f j = some v → g j = some v) : ∀ {n o : Nat} {cs : List Value}, cellsFrom f o n = some cs → cellsFrom g o n = some cs := by
  intro n o cs hc
  exact cellsFrom_of (cellsFrom_len hc) fun j v hj => h _ _ (cellsFrom_get hc j v hj)

theorem evalVal_rd {P : Program} {A : List Tmp} {o : Op} {ρ : Operand → Value} {loc loc' : Nat → Nat × List Value} {st st' : St} {v : Value} (ho : isPure o = true ∨ isRd o = true ∧ (∀ b, b ∉ A → loc' b = loc b) ∧ Ext st st')
    (h : evalVal P A o ρ loc st = some v) : evalVal P A o ρ loc' st' = some v := by
  rcases ho with hp | ⟨hr, hl, hs⟩
  · cases o <;> simp only [isPure, Bool.false_eq_true] at hp <;> first
      | exact h
      | skip
    case call c =>
      obtain ⟨callee, args, ts⟩ := c
      cases callee with
      | value f => cases hp
      | invoke r m => cases hp
      | builtin bi => cases bi <;> first | exact h | cases hp
  · cases o <;> simp only [isRd, Bool.false_eq_true] at hr
    case load t x =>
      simp only [evalVal, loadA] at h ⊢
      split at h
      · split at h
        · rename_i hag hsz
          split at h
          · rename_i cs hcs
            split at h
            · rename_i hok
              rw [cellsFrom_mono (fun j v hj => cellAt_mono hl hs hj) hcs]
              simp only [okPtr_mono hl hok, if_true]; exact h
            · cases h
          · cases h
        · exact cellAt_mono hl hs h
        · cases h
      · cases h
    case fieldAddr t x f =>
      simp only [evalVal] at h ⊢
      split at h
      · split at h
        · split at h
          · rename_i hok; simp only [okPtr_mono hl hok, if_true]; exact h
          · cases h
        · cases h
      · cases h
    case nilCheck x =>
      simp only [evalVal] at h ⊢
      split at h
      · rename_i b o sp hx
        split at h
        · rename_i hok; simp only [okPtr_mono hl hok, if_true]; exact h
        · cases h
      · cases h
    case convert src dst x =>
      simp only [evalVal] at h ⊢
      split at h
      · rename_i hf; rw [if_pos hf]; exact h
      · rename_i hf
        rw [if_neg hf]
        split at h
        · rename_i e b o n k hus hud hx
          split at h
          · split at h
            · rename_i cs hcs
              rw [cellsFrom_mono (fun j v hj => cellAt_mono hl hs hj) hcs]; exact h
            · cases h
          · cases h
        · cases h

/-- The operands alone count. -/
theorem evalVal_congr {P : Program} {A : List Tmp} {o : Op} {ρ ρ' : Operand → Value} {loc : Nat → Nat × List Value} {st : St} (h : ∀ y ∈ o.operands, ρ' y = ρ y) : evalVal P A o ρ' loc st = evalVal P A o ρ loc st := by
  cases o <;> simp only [Op.operands] at h <;> simp only [evalVal]
  case move x => rw [h x (by simp)]
  case assign x => rw [h x (by simp)]
  case pick c a b => rw [h c (by simp), h a (by simp), h b (by simp)]
  case binOp op t x y u => rw [h x (by simp), h y (by simp)]
  case unOp op t x => rw [h x (by simp)]
  case convert s d x => rw [h x (by simp)]
  case index t x i => rw [h x (by simp), h i (by simp)]
  case slice t x lo hi mx =>
    have e1 : lo.map ρ' = lo.map ρ := by
      cases lo with
      | none => rfl
      | some l => simp only [Option.map_some]; rw [h l (by simp)]
    have e2 : hi.map ρ' = hi.map ρ := by
      cases hi with
      | none => rfl
      | some l => simp only [Option.map_some]; rw [h l (by simp)]
    have e3 : (lo.all fun l => flat (ρ' l)) = (lo.all fun l => flat (ρ l)) := by
      cases lo with
      | none => rfl
      | some l => simp only [Option.all_some]; rw [h l (by simp)]
    have e4 : (hi.all fun l => flat (ρ' l)) = (hi.all fun l => flat (ρ l)) := by
      cases hi with
      | none => rfl
      | some l => simp only [Option.all_some]; rw [h l (by simp)]
    rw [h x (by simp), e1, e2, e3, e4]
  case fieldAddr t x f => rw [h x (by simp)]
  case nilCheck x => rw [h x (by simp)]
  case indexAddr t x i => rw [h x (by simp), h i (by simp)]
  case load t x => rw [h x (by simp)]
  case field t x f => rw [h x (by simp)]
  case build t parts =>
    have e1 : (parts.map fun (i, x) => (i, ρ' x)) = (parts.map fun (i, x) => (i, ρ x)) := Array.map_congr_left fun p hp => by
      obtain ⟨i, x⟩ := p
      simp only [h x (by simp; exact ⟨i, hp⟩)]
    have e2 : (parts.all fun p => okv (ρ' p.2)) = (parts.all fun p => okv (ρ p.2)) := by
      rw [← Array.all_toList, ← Array.all_toList, Bool.eq_iff_iff, List.all_eq_true, List.all_eq_true]
      constructor
      · intro hh p hp; have := hh p hp; rw [h p.2 (by simp; exact ⟨p.1, by simpa using hp⟩)] at this; exact this
      · intro hh p hp; rw [h p.2 (by simp; exact ⟨p.1, by simpa using hp⟩)]; exact hh p hp
    rw [e1, e2]
  case extract x i => rw [h x (by simp)]
  case call c =>
    obtain ⟨callee, args, ts⟩ := c
    cases callee with
    | value f => rfl
    | invoke r m => rfl
    | builtin bi =>
      cases bi <;> first | rfl | skip
      case max =>
        have e : args.toList.map ρ' = args.toList.map ρ := List.map_congr_left fun y hy => h y (by simp [Call.operands]; simpa using hy)
        simp only [e]
      simp only
      cases ht : ts[0]? with
      | none => rfl
      | some t =>
        cases hx : args[0]? with
        | none => rfl
        | some x =>
          simp only
          rw [h x (by simp [Call.operands]; exact Array.mem_of_getElem? hx)]

end Go.Proofs.Ytdijnohbbgbklaa.AM
