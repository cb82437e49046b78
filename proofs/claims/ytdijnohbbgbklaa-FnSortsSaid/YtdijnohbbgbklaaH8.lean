/- evalEff is sound; a slot is written. -/
import Derived.Test.YtdijnohbbgbklaaH7
import Derived.IntWalk
namespace Go.Proofs.Ytdijnohbbgbklaa.AM
open Go
set_option linter.unusedVariables false
set_option linter.unusedSimpArgs false

section
variable {P : Program} {B : Base} {M M' : List ME} {L : Nat → Nat} {n : Nat} {fr : Fr} {st st' : St} {a : Act} {w w' : World}

theorem CR.pad {xs : List Value} {c : Array Value} (h : CR M xs c) (rest : Array Value) : CR M xs (c ++ rest) := fun j x hx => by
  obtain ⟨h1, y, h2, h3⟩ := h j x hx
  exact ⟨h1, y, by rw [Array.getElem?_append_left (Array.getElem?_eq_some_iff.1 h2).1]; exact h2, h3⟩

theorem zrow_prefix (z : List Value) {j k : Nat} (h : j ≤ k) : ∃ r, (zrow z k) = zrow z j ++ r := ⟨(zrow z k).drop j, by rw [← zrow_take z h, List.take_append_drop]⟩

theorem rowA_sound {e : TypeId} {len : Nat} {row : List Value} (h : rowA P e len = some row) : ∃ sz, szA P e = some (sz + 1) ∧ len * (sz + 1) ≤ 2 ^ 24 ∧ (∀ x ∈ row, flat1 x = true) ∧ ∃ z zv : List Value, zeroA P e = some z ∧ z.length = sz + 1 ∧ row = zrow z (len * (sz + 1)) := by
  unfold rowA at h
  split at h
  · rename_i z sz hz hsz
    split at h
    · rename_i hc
      simp only [Option.some.injEq] at h; subst h
      obtain ⟨zv, hzr, hze, hzf⟩ := run_zeroValue hz
      exact ⟨sz, hsz, hc.2, zrow_flat hzf (by omega) _, z, [], hz, hc.1, rfl⟩
    · cases h
  · cases h

theorem foldl_size (off : Nat) : ∀ (l : List (Value × Nat)) (c : Array Value), (l.foldl (fun cs (c, j) => cs.setIfInBounds (off + j) c) c).size = c.size := by
  intro l
  induction l with
  | nil => intro c; rfl
  | cons q l ih => intro c; rw [List.foldl_cons, ih]; simp
theorem fill_size (place : Nat → Option (Nat × Nat)) : ∀ (ps : List (Nat × Value)) (c d : Array Value), Instr.fill place c ps = some d → d.size = c.size := by
  intro ps
  induction ps with
  | nil => intro c d h; simp only [Instr.fill, Option.some.injEq] at h; subst h; rfl
  | cons p ps ih =>
    intro c d h
    obtain ⟨pi, pv⟩ := p
    simp only [Instr.fill] at h
    split at h
    · cases h
    · split at h
      · cases h
      · rw [ih _ _ h, ← Array.foldl_toList]
        exact foldl_size _ _ _

theorem evalEff_sound (R : Rel P B M L n fr st a w) {H : List Tmp} {o : Oper} {v : Value} {loc' : Nat → Nat × List Value} (h : evalEff P H o fr.ev fr.loc st = some (v, loc', st')) : EffOk P B n fr a w o v loc' st' := by
  obtain ⟨dst, op, type, pos, after, guard⟩ := o
  unfold EffOk
  cases op <;> simp only [evalEff, reduceCtorEq] at h
  case alloc t =>
    split at h
    · rename_i d z hz
      simp only [Option.some.injEq] at h
      obtain ⟨zv, hzr, hze, hzf⟩ := run_zeroValue hz
      obtain ⟨M', L', hv, hR⟩ := allocA_sound R (c := z.toArray) (by simp) (CR.of_flat hzf) h
      refine ⟨_, _, _, M', L', ?_, .inl rfl, hv, hR⟩
      simp only [execOp, Instr.alloc, Sem.run_bind, hzr, Result.andThen_ok, Sem.run_pure, newVar, newRow, run_newObj, hze]
      rfl
    · cases h
  case box t x =>
    split at h
    · rename_i d
      split at h
      · rename_i hok
        simp only [Option.some.injEq] at h
        have har := ((R.ev x).vr (okv_loc hok)).cells (okv_tup hok)
        obtain ⟨M', L', hv, hR⟩ := allocA_sound R (c := (a.eval x).cells) (by simp [har.size]) (CR.of_ar har) h
        refine ⟨_, _, _, M', L', ?_, .inl rfl, hv, hR⟩
        simp only [execOp, Instr.box, Sem.run_bind, Result.andThen_ok, Sem.run_pure, newVar, newRow, run_newObj]
        rfl
      · cases h
    · cases h
  case store t x u =>
    cases hs : storeA P t (fr.ev x) (fr.ev u) fr.loc st with
    | none => simp [hs] at h
    | some r =>
      obtain ⟨l1, s1⟩ := r
      simp only [hs, Option.map_some, Option.some.injEq, Prod.mk.injEq] at h
      obtain ⟨rfl, rfl, rfl⟩ := h
      obtain ⟨w', hr, hR⟩ := storeA_sound R (R.ev x) (R.ev u) hs
      refine ⟨.skip, undef, w', M, L, ?_, .inr ⟨rfl, rfl⟩, VR.vf (.tup _ _ rfl (by simp)), hR⟩
      simp [execOp, hr]
  case buildSlice t len parts =>
    split at h
    · rename_i e he
      split at h
      · rename_i row sz' hrow hsz'
        split at h
        · rename_i hok
          cases hf : Instr.fill (fun i => some (i * sz', sz')) row.toArray (parts.map fun (i, x) => (i, fr.ev x)).toList with
          | none => rw [hf] at h; cases h
          | some cs =>
            simp only [hf, Option.map_some, Option.some.injEq, Prod.mk.injEq] at h
            obtain ⟨rfl, rfl, rfl⟩ := h
            obtain ⟨sz, hsz, hlim, hrf, z, _, hz, hzl, hrz⟩ := rowA_sound hrow
            rw [hsz'] at hsz
            obtain rfl := Option.some.inj hsz
            obtain ⟨zv, hzr, hze, hzf⟩ := run_zeroValue hz
            obtain ⟨i, hi, hisz, hcells, _⟩ := szA_info hsz'
            have hfill := fill_ar (M := M) (fun i => some (i * (sz + 1), sz + 1)) (AR.of_flat (cs := row.toArray) (by simpa using hrf)) (ps := (parts.map fun (i, x) => (i, fr.ev x)).toList) (qs := (parts.map fun (i, x) => (i, a.eval x)).toList) (by simp) (by
                intro j p q hp hq
                simp only [Array.toList_map, List.getElem?_map, Option.map_eq_some_iff] at hp hq
                obtain ⟨⟨i1, x1⟩, h1, rfl⟩ := hp
                obtain ⟨⟨i2, x2⟩, h2, rfl⟩ := hq
                rw [h1] at h2
                simp only [Option.some.injEq, Prod.mk.injEq] at h2
                obtain ⟨rfl, rfl⟩ := h2
                have hm : (i1, x1) ∈ parts := by
                  have := List.mem_of_getElem? h1
                  simpa using this
                have hov := (Array.all_eq_true'.1 hok) (i1, x1) hm
                exact ⟨rfl, (R.ev x1).vr (okv_loc hov), okv_tup hov⟩) hf
            obtain ⟨ds, hd, har⟩ := hfill
            have hR := R.alloc cs.toList ds e (by simp [har.size]) (CR.of_ar har)
            have hsize : cs.size = len * (sz + 1) := by
              rw [fill_size _ _ _ _ hf, hrz]
              simp [zrow_len]
            have hm := get_last M (⟨w.heap.size, ds.size, P.cellsOf e, true⟩ : ME)
            rw [R.heap.len] at hm
            refine ⟨.value (.slice (some ⟨w.heap.size, 0, none⟩) len len), _, w.alloc (.cells ds e (0, 0)), _, L, ?_, .inl rfl, VR.vf (VR.sl (M := M ++ [⟨w.heap.size, ds.size, P.cellsOf e, true⟩]) _ 0 0 len len len _ hm (Nat.le_refl _) (.inl ⟨rfl, fun _ _ => ?_⟩)), hR⟩
            · have hlim' : ¬ (len * (sz + 1) > 2 ^ 24) := by omega
              simp only [execOp, Instr.buildSlice, Sem.run_bind, run_underlying (elemA_eq he), Result.andThen_ok, run_sizeOf hsz', hlim', if_false, Sem.run_pure]
              by_cases h0 : len * (sz + 1) = 0
              · have hrow2 : (Array.range (len * (sz + 1))).map (fun i => (#[] : Array Value)[i % (#[] : Array Value).size]!) = row.toArray := by rw [hrz, h0]; simp [zrow]
                rw [if_pos h0]
                simp only [Sem.run_bind, Sem.run_pure, Result.andThen_ok, hrow2, hd, newRow, run_newObj]
                rfl
              · have hrow2 : (Array.range (len * (sz + 1))).map (fun i => z.toArray[i % z.toArray.size]!) = row.toArray := by rw [hrz]; exact zrow_arr z _
                rw [if_neg h0]
                simp only [Sem.run_bind, hzr, Sem.run_pure, Result.andThen_ok, hze, hrow2, hd, newRow, run_newObj]
                rfl
            · simp only [hcells, ← har.size, hsize]; exact Nat.le_refl _
        · cases h
      · cases h
    · cases h
  case makeSlice t l c =>
    split at h
    · rename_i e ln cp he hl hc
      split at h
      · rename_i z sz by_ hz hsz hby
        split at h
        · rename_i hcond
          obtain ⟨c1, c2, c3, c4, c5⟩ := hcond
          simp only [Option.some.injEq, Prod.mk.injEq] at h
          obtain ⟨rfl, rfl, rfl⟩ := h
          obtain ⟨zv, hzr, hze, hzf⟩ := run_zeroValue hz
          obtain ⟨i, hi, hisz, hcells, hib⟩ := szA_info hsz
          replace hcells : P.cellsOf e = sz + 1 := hcells
          have hbytes := hib by_ hby
          have el : a.eval l = .int .i64 ln := by have := R.ev l; rw [hl] at this; exact this.flat rfl
          have ec : a.eval c = .int .i64 cp := by have := R.ev c; rw [hc] at this; exact this.flat rfl
          have wl : IntKind.i64.wrap ln = ln := IntWalk.i64_in _ (by omega)
          have wc : IntKind.i64.wrap cp = cp := IntWalk.i64_in _ (by omega)
          obtain ⟨r, hr⟩ := zrow_prefix z (show ln.toNat * (sz + 1) ≤ cp.toNat * (sz + 1) from Nat.mul_le_mul_right _ (by omega))
          have hcr : CR M (zrow z (ln.toNat * (sz + 1))) (zrow z (cp.toNat * (sz + 1))).toArray := by
            rw [hr]
            have := (CR.of_flat (M := M) (zrow_flat hzf (by omega) (ln.toNat * (sz + 1)))).pad r.toArray
            simpa using this
          have hR := R.alloc (zrow z (ln.toNat * (sz + 1))) (zrow z (cp.toNat * (sz + 1))).toArray e (by simp only [List.size_toArray, zrow_len]; exact Nat.mul_le_mul_right _ (by omega)) hcr
          have hm := get_last M (⟨w.heap.size, (zrow z (cp.toNat * (sz + 1))).toArray.size, P.cellsOf e, true⟩ : ME)
          rw [R.heap.len] at hm
          refine ⟨.value (.slice (some ⟨w.heap.size, 0, none⟩) ln.toNat cp.toNat), _, w.alloc (.cells (zrow z (cp.toNat * (sz + 1))).toArray e (0, 0)), _, L, ?_, .inl rfl, VR.vf (VR.sl (M := M ++ [_]) _ 0 0 _ _ cp.toNat _ hm (by omega) (.inl ⟨rfl, fun _ _ => ?_⟩)), hR⟩
          · have hb : (decide (cp < 0) || decide ((i.bytes : Int) * cp > 2 ^ 48)) = false := by
              simp only [Bool.or_eq_false_iff, decide_eq_false_iff_not]
              constructor
              · omega
              · rw [hbytes]; omega
            have hcond2 : ((decide (cp < 0) || decide ((i.bytes : Int) * cp > 2 ^ 48)) || decide (ln < 0) || decide (ln > cp)) = false := by
              rw [hb]; simp only [Bool.false_or, Bool.or_eq_false_iff, decide_eq_false_iff_not]; omega
            have hti : ∀ w, (typeInfo e).run P w = .ok i w := fun w => by simp [typeInfo, hi]
            simp only [execOp, el, ec, Instr.makeSlice, Sem.run_bind, run_underlying (elemA_eq he), asInt, asIntOf, Result.andThen_ok, Sem.run_pure, hti, wl, wc]
            rw [if_neg (by rw [hcond2]; simp)]
            simp only [Sem.run_bind, run_askRoom, Result.andThen_ok, run_sizeOf hsz, Sem.run_pure]
            by_cases h0 : cp.toNat * (sz + 1) = 0
            · have hrow2 : (Array.range (cp.toNat * (sz + 1))).map (fun i => (#[] : Array Value)[i % (#[] : Array Value).size]!) = (zrow z (cp.toNat * (sz + 1))).toArray := by rw [h0]; simp [zrow]
              rw [if_pos h0]
              simp only [Sem.run_bind, Sem.run_pure, Result.andThen_ok, hrow2, newRow, run_newObj]
              rfl
            · have hrow2 : (Array.range (cp.toNat * (sz + 1))).map (fun i => z.toArray[i % z.toArray.size]!) = (zrow z (cp.toNat * (sz + 1))).toArray := zrow_arr z _
              rw [if_neg h0]
              simp only [Sem.run_bind, hzr, Sem.run_pure, Result.andThen_ok, hze, hrow2, newRow, run_newObj]
              rfl
          · simp only [List.size_toArray, zrow_len, hcells]; exact Nat.le_refl _
        · cases h
      · cases h
    · cases h
  case call c =>
    obtain ⟨callee, args, ts⟩ := c
    cases callee with
    | value f => simp at h
    | invoke r m => simp at h
    | builtin bi =>
      cases bi <;> simp only [reduceCtorEq] at h
      split at h
      · rename_i t u s x ht hu hs hx
        cases ha : appendA P t u (fr.ev s) (fr.ev x) st with
        | none => simp [ha] at h
        | some r =>
          obtain ⟨v1, s1⟩ := r
          simp only [ha, Option.map_some, Option.some.injEq, Prod.mk.injEq] at h
          obtain ⟨rfl, rfl, rfl⟩ := h
          obtain ⟨v', w', M', hr, hv, hR⟩ := appendA_sound (ty := type) R (R.ev s) (R.ev x) ha
          refine ⟨.value v', v', w', M', L, ?_, .inl rfl, hv.vf, hR⟩
          have e0 : (args.map a.eval)[0]? = some (a.eval s) := by simp [hs]
          have e1 : (args.map a.eval)[1]? = some (a.eval x) := by simp [hx]
          have hap : ∀ (ar : Array Value) (tt : Array TypeId), ar[0]? = some (a.eval s) → ar[1]? = some (a.eval x) → tt[0]? = some t → tt[1]? = some u → (Builtin.append_ tt type ar).run P w = .ok v' w' := by
            intro ar tt h0 h1 h2 h3
            have e : Builtin.append_ tt type ar = Builtin.append_ #[t, u] type #[a.eval s, a.eval x] := by
              unfold Builtin.append_
              simp only [h0, h1, h2, h3, List.getElem?_toArray, List.getElem?_cons_zero, List.getElem?_cons_succ]
            rw [e]; exact hr
          simp only [execOp, resolve, invoke, builtin, Sem.run_bind, Sem.run_pure, Result.andThen_ok, hap _ _ e0 e1 ht hu]
      · cases h

/-- A slot is written. -/
theorem Rel.put (R : Rel P B M L n fr st a w) {d : Option Tmp} {v v' : Value} (hv : VF M L fr.loc v v') (hd : ∀ t, d = some t → t < n) : Rel P B M L n ⟨put fr.env d v, fr.loc⟩ st (a.put d v') w := by
  cases d with
  | none => exact R
  | some d =>
    have hdn := hd d rfl
    refine ⟨R.defers, by simp [Act.put, R.size], fun t => ?_, R.loc, R.locInj, R.locOut, R.heap⟩
    simp only [put_some, Act.put]
    by_cases e : t = d
    · subst e
      rw [upd_same]
      have : (a.tmps.setIfInBounds t v').getD t undef = v' := by simp [Array.getD, R.size, hdn]
      rw [this]; exact hv
    · rw [upd_ne _ _ _ _ e]
      have : (a.tmps.setIfInBounds d v').getD t undef = a.tmps.getD t undef := by
        simp only [Array.getD_eq_getD_getElem?, Array.getElem?_setIfInBounds_ne (Ne.symm e)]
      rw [this]; exact R.env t

end
end Go.Proofs.Ytdijnohbbgbklaa.AM
