/- The operations that change nothing do in the world what the abstract machine says. -/
import Derived.Test.YtdijnohbbgbklaaH2
import Derived.Laws.Cover3
import Derived.Lib.SliceRun
import Derived.WideLaws
namespace Go.Proofs.Ytdijnohbbgbklaa.AM
open Go
set_option linter.unusedVariables false
set_option linter.unusedSimpArgs false

section
variable {P : Program} {B : Base} {M : List ME} {L : Nat → Nat} {n : Nat} {fr : Fr} {st : St} {a : Act} {w : World}

theorem VF.flat {loc : Nat → Nat × List Value} {v v' : Value} (h : VF M L loc v v') (hf : AM.flat v = true) : v' = v := by
  have hn : isLoc v = false := by
    unfold isLoc
    split
    · simp [AM.flat, flat1] at hf
    · rfl
  exact (h.vr hn).flat_eq hf

theorem VF.agg_ {loc : Nat → Nat × List Value} {cs : Array Value} {v' : Value} (h : VF M L loc (.agg cs) v') :
    ∃ ys, v' = .agg ys ∧ cs.size = ys.size ∧ (∀ (i : Nat) x, cs[i]? = some x → one x = true) ∧ (∀ (i : Nat) x y, cs[i]? = some x → ys[i]? = some y → VR M x y) := by
  have h' : VR M (.agg cs) v' := h
  cases h' with
  | fl _ hf => cases hf
  | agg _ ys hs h1 hh => exact ⟨ys, rfl, hs, h1, hh⟩
theorem VF.tup_ {loc : Nat → Nat × List Value} {cs : Array Value} {v' : Value} (h : VF M L loc (.tuple cs) v') :
    ∃ ys, v' = .tuple ys ∧ cs.size = ys.size ∧ (∀ (i : Nat) x y, cs[i]? = some x → ys[i]? = some y → VR M x y) := by
  have h' : VR M (.tuple cs) v' := h
  cases h' with
  | fl _ hf => cases hf
  | tup _ ys hs hh => exact ⟨ys, rfl, hs, hh⟩
theorem VF.sl_ {loc : Nat → Nat × List Value} {b o n k : Nat} {v' : Value} (h : VF M L loc (.slice (some ⟨b, o, none⟩) n k) v') :
    ∃ m o' c, M[b]? = some m ∧ n ≤ c ∧ (o' = o ∧ (o = 0 → m.ap = true → c * m.sz ≤ m.n) ∨ c = 0) ∧ v' = .slice (some ⟨m.b, o', none⟩) n c := by
  have h' : VR M (.slice (some ⟨b, o, none⟩) n k) v' := h
  cases h' with
  | fl _ hf => cases hf
  | sl i o o' n k c m hm hn hc => exact ⟨m, o', c, hm, hn, hc, rfl⟩
theorem addr_add (g o d : Nat) : (⟨g, o, none⟩ : Addr).add d = ⟨g, o + d, none⟩ := by unfold Addr.add; split <;> simp_all

theorem loadA_sound (R : Rel P B M L n fr st a w) {A : List Tmp} {t : TypeId} {v v' x : Value} (hv : VF M L fr.loc v v') (h : loadA P A t v fr.loc st = some x) :
    ∃ y, (Instr.loadAt t v').run P w = .ok y w ∧ VR M x y := by
  unfold loadA at h
  split at h
  · rename_i b o sp
    split at h
    · rename_i sz hag hsz
      split at h
      · rename_i cs hcs
        split at h
        · rename_i hok
          simp only [Option.some.injEq] at h
          subst h
          obtain ⟨g, rfl, hg⟩ := R.pointer hv hok
          have hcell := fun j x (hx : cs[j]? = some x) => R.cell (hg (o + j)) (cellsFrom_get hcs j x hx)
          obtain ⟨ys, hyl, hy1, hy2⟩ := row_exists (w := w) (M := M) (g := g) (o := o) hcell
          refine ⟨.agg ys.toArray, ?_, agg_of_row (fun j x hx => (hcell j x hx).1) hyl hy2⟩
          have hl := cellsFrom_len hcs
          have hld := run_loadCells_list (P := P) w ⟨g, o, none⟩ ys hy1
          rw [hyl, hl] at hld
          simp [Instr.loadAt, Instr.sureAddr, loadVar, run_isAgg hag, run_sizeOf hsz, hld]
        · cases h
      · cases h
    · rename_i hag
      have hok := okPtr_of_cellAt h
      obtain ⟨g, rfl, hg⟩ := R.pointer hv hok
      obtain ⟨h1, y, hy, hvr⟩ := R.cell (hg o) h
      refine ⟨y, ?_, hvr⟩
      simp [Instr.loadAt, Instr.sureAddr, loadVar, run_isAgg hag, hy]
    · cases h
  · cases h

theorem sliceA_sound {loc : Nat → Nat × List Value} {t : TypeId} {x x' v : Value} {lo hi : Option Value} (hx : VF M L loc x x') (h : sliceA P t x lo hi = some v) :
    ∃ y, (Instr.sliceAt t x' lo hi none).run P w = .ok y w ∧ VR M v y := by
  unfold sliceA at h
  split at h
  · rename_i b o n k
    split at h
    · rename_i e he
      split at h
      · rename_i sz hsz
        split at h
        · rename_i hh ll hhi hlo
          split at h
          · rename_i hc
            obtain ⟨h1, h2, h3⟩ := hc
            simp only [Option.some.injEq] at h
            subst h
            obtain ⟨m, o', c, hm, hnc, hoc, rfl⟩ := hx.sl_
            have he' := elemA_eq he
            have hH : ∀ w, (match hi with | some v => Instr.sliceBound v c .sliceAcap | none => pure n : Sem Nat).run P w = .ok hh.toNat w := by
              intro w
              cases hi with
              | none => simp only [Option.some.injEq] at hhi; subst hhi; simp
              | some v =>
                cases v <;> simp only [Option.some.injEq, reduceCtorEq] at hhi
                subst hhi
                simp only [Instr.sliceBound, asIntOf, Sem.run_bind, Sem.run_pure, Result.andThen_ok]
                rw [if_pos ⟨by omega, by omega⟩]
                rfl
            have hL : ∀ w, (match lo with | some v => Instr.sliceBound v hh.toNat .sliceB | none => pure 0 : Sem Nat).run P w = .ok ll.toNat w := by
              intro w
              cases lo with
              | none => simp only [Option.some.injEq] at hlo; subst hlo; simp
              | some v =>
                cases v <;> simp only [Option.some.injEq, reduceCtorEq] at hlo
                subst hlo
                simp only [Instr.sliceBound, asIntOf, Sem.run_bind, Sem.run_pure, Result.andThen_ok]
                rw [if_pos ⟨by omega, by omega⟩]
                rfl
            have hB : ∀ w, (Instr.sliceBounds true n c lo hi none).run P w = .ok (ll.toNat, hh.toNat, c) w := by
              intro w
              unfold Instr.sliceBounds
              simp only [Sem.run_bind, Sem.run_pure, Result.andThen_ok]
              cases hi with
              | none =>
                have hH' := hH w
                simp only [Sem.run_pure, Result.ok.injEq, and_true] at hH'
                have hL' := hL w
                cases lo with
                | none =>
                  simp only [Sem.run_pure, Result.ok.injEq, and_true] at hL'
                  simp [hH', hL']
                | some v =>
                  have hL' := hL w
                  simp only at hL'
                  simp only [Option.isSome_none, Bool.false_eq_true, if_false, if_true, hH', Sem.run_bind, Sem.run_pure, Result.andThen_ok]
                  simp [hL']
              | some v =>
                have hH' := hH w
                simp only at hH'
                cases lo with
                | none =>
                  have hL' := hL w
                  simp only [Sem.run_pure, Result.ok.injEq, and_true] at hL'
                  simp [hH', hL', Result.andThen]
                | some v =>
                  have hL' := hL w
                  simp only at hL'
                  simp [hH', hL', Result.andThen]
            have hrun : (Instr.sliceAt t (.slice (some ⟨m.b, o', none⟩) n c) lo hi none).run P w = .ok (.slice (if c = ll.toNat then some ⟨m.b, o', none⟩ else some ((⟨m.b, o', none⟩ : Addr).add (ll.toNat * (sz + 1)))) (hh.toNat - ll.toNat) (c - ll.toNat)) w := by
              unfold Instr.sliceAt
              simp only [Sem.run_bind, run_underlying he', Result.andThen_ok]
              unfold Instr.slice
              simp only [Sem.run_bind, run_underlying he', Result.andThen_ok, hB, run_sizeOf hsz, Sem.run_pure, Option.map_some]
            refine ⟨_, hrun, ?_⟩
            by_cases hcl : c = ll.toNat
            · rw [if_pos hcl]
              exact VR.sl b _ _ _ _ _ m hm (by omega) (.inr (by omega))
            · rw [if_neg hcl, addr_add]
              refine VR.sl b _ _ _ _ _ m hm (by omega) (.inl ⟨?_, ?_⟩)
              · rcases hoc with ⟨rfl, _⟩ | h0
                · rfl
                · omega
              · intro h0 hap
                have hl0 : ll.toNat = 0 := by
                  rcases Nat.eq_zero_or_pos ll.toNat with h | h
                  · exact h
                  · have := Nat.mul_pos h (show 0 < sz + 1 by omega); omega
                rcases hoc with ⟨rfl, hx⟩ | h0'
                · rw [hl0]; exact hx (by omega) hap
                · omega
          · cases h
        · cases h
      · cases h
    · cases h
  · cases h

theorem bytesOf_eq : ∀ {cs : List Value} {ns : List Int}, bytesOf cs = some ns → cs = ns.map (Value.int .u8) := by
  intro cs
  induction cs with
  | nil => intro ns h; simp only [bytesOf, Option.some.injEq] at h; subst h; rfl
  | cons c r ih =>
    intro ns h
    unfold bytesOf at h
    split at h
    · rename_i h0; cases h0
    · rename_i n r' heq
      injection heq with e1 e2
      subst e1; subst e2
      cases hb : bytesOf r with
      | none => simp [hb] at h
      | some x => simp only [hb, Option.map_some, Option.some.injEq] at h; subst h; simp [ih hb]
    · cases h

theorem list_flat_eq : ∀ {cs ys : List Value}, ys.length = cs.length → (∀ (j : Nat) x y, cs[j]? = some x → ys[j]? = some y → VR M x y) → (∀ x ∈ cs, flat1 x = true) → ys = cs := by
  intro cs ys hl h hf
  apply List.ext_getElem hl
  intro i h1 h2
  exact (h i cs[i] ys[i] (List.getElem?_eq_getElem h2) (List.getElem?_eq_getElem h1)).flat1_eq (hf _ (List.getElem_mem h2))

theorem eqNilI_sound {loc : Nat → Nat × List Value} {op : BinOp} {t : TypeId} {xo yo : Operand} {x y x' y' v : Value} (hx : VF M L loc x x') (hy : VF M L loc y y') (h : eqNilI P t op x y = some v) :
    (do eqGuard op t xo yo x' y'; Go.binOp op t x' y' : Sem Value).run P w = .ok v w ∧ AM.flat v = true := by
  unfold eqNilI at h
  split at h
  · rename_i m u p hu
    simp only [Option.some.injEq] at h
    subst h
    obtain rfl := hy.flat rfl
    have hx' : VR M (.iface u p) x' := hx.vr rfl
    have hm : P.underlying t = some (.interface (P.methodsAt t)) := by rw [hu]; simp [Program.methodsAt, hu]
    cases hx' with
    | fl _ hf => cases hf
    | ifc _ _ p' _ =>
      refine ⟨?_, rfl⟩
      simp [eqGuard, run_eql_held_nil w t u p' hm]
  · rename_i m u p hu
    simp only [Option.some.injEq] at h
    subst h
    obtain rfl := hy.flat rfl
    have hx' : VR M (.iface u p) x' := hx.vr rfl
    have hm : P.underlying t = some (.interface (P.methodsAt t)) := by rw [hu]; simp [Program.methodsAt, hu]
    cases hx' with
    | fl _ hf => cases hf
    | ifc _ _ p' _ =>
      refine ⟨?_, rfl⟩
      simp [eqGuard, run_neq_held_nil w t u p' hm]
  · cases h
theorem eqNil_sound {loc : Nat → Nat × List Value} {op : BinOp} {t e : TypeId} {xo yo : Operand} {x y x' y' v : Value} (hx : VF M L loc x x') (hy : VF M L loc y y') (he : elemA P t = some e) (h : eqNil op x y = some v) :
    (do eqGuard op t xo yo x' y'; Go.binOp op t x' y' : Sem Value).run P w = .ok v w ∧ AM.flat v = true := by
  have he' := elemA_eq he
  unfold eqNil at h
  split at h
  · rename_i ad n k
    simp only [Option.some.injEq] at h
    subst h
    obtain rfl := hy.flat rfl
    have hx' : VR M (.slice (some ad) n k) x' := hx.vr rfl
    cases hx' with
    | fl _ hf => cases hf
    | sl i o o' n k c m hm hn hc =>
      refine ⟨?_, rfl⟩
      simp [eqGuard, Lib.run_eql_slice_nil w t e _ _ _ _ _ he']
    | emp a =>
      refine ⟨?_, rfl⟩
      simp [eqGuard, Lib.run_eql_slice_nil w t e _ _ _ _ _ he']
  · rename_i ad n k
    simp only [Option.some.injEq] at h
    subst h
    obtain rfl := hy.flat rfl
    have hx' : VR M (.slice (some ad) n k) x' := hx.vr rfl
    cases hx' with
    | fl _ hf => cases hf
    | sl i o o' n k c m hm hn hc =>
      refine ⟨?_, rfl⟩
      simp [eqGuard, run_neq_slice_nil w t e _ _ _ he']
    | emp a =>
      refine ⟨?_, rfl⟩
      simp [eqGuard, run_neq_slice_nil w t e _ _ _ he']
  · cases h

end
end Go.Proofs.Ytdijnohbbgbklaa.AM
