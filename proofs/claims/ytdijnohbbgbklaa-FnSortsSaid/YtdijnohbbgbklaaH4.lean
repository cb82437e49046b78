/- evalVal is sound. -/
import Derived.Test.YtdijnohbbgbklaaH3
namespace Go.Proofs.Ytdijnohbbgbklaa.AM
open Go
set_option linter.unusedVariables false
set_option linter.unusedSimpArgs false

section
variable {P : Program} {B : Base} {M : List ME} {L : Nat → Nat} {n : Nat} {fr : Fr} {st : St} {a : Act} {w : World}

theorem map_ev_eq (R : Rel P B M L n fr st a w) {lo : Option Operand} (h : (lo.all fun l => AM.flat (fr.ev l)) = true) : lo.map a.eval = lo.map fr.ev := by
  cases lo with
  | none => rfl
  | some x => simp only [Option.all_some] at h; simp only [Option.map_some]; rw [(R.ev x).flat h]

/-- The bounds of a slice are numbers: they read alike on both sides. -/
theorem sliceA_bounds {x v : Value} {t : TypeId} {lo hi : Option Value} (h : sliceA P t x lo hi = some v) : (∀ v, lo = some v → ∃ k i, v = .int k i) ∧ (∀ v, hi = some v → ∃ k i, v = .int k i) := by
  unfold sliceA at h
  split at h
  · split at h
    · split at h
      · split at h
        · rename_i hh ll hhi hlo
          constructor
          · intro v hv; subst hv; cases v <;> first | exact ⟨_, _, rfl⟩ | (simp at hlo)
          · intro v hv; subst hv; cases v <;> first | exact ⟨_, _, rfl⟩ | (simp at hhi)
        · cases h
      · cases h
    · cases h
  · cases h

theorem run_zeroValue {t : TypeId} {z : List Value} (h : zeroA P t = some z) : ∃ zv : Value, (∀ w, (zeroValue t).run P w = .ok zv w) ∧ zv.cells = z.toArray ∧ ∀ x ∈ z, flat1 x = true := by
  unfold zeroA at h
  split at h
  · rename_i i hi
    split at h
    · rename_i zv hz
      split at h
      · rename_i hf
        simp only [Option.some.injEq] at h; subst h
        refine ⟨zv, fun w => by simp [zeroValue, typeInfo, hi, hz], by simp, fun x hx => ?_⟩
        rw [Array.all_eq_true'] at hf
        exact hf x (by simpa using hx)
      · cases h
    · cases h
  · cases h

theorem okv_loc {v : Value} (h : okv v = true) : isLoc v = false := by
  unfold isLoc
  split
  · simp [okv] at h
  · rfl
theorem okv_tup {v : Value} (h : okv v = true) : ∀ vs, v ≠ .tuple vs := by
  intro vs e; subst e; simp [okv] at h

/-- Two rows of cells, one beside the other. -/
structure AR (M : List ME) (cs ds : Array Value) : Prop where
  size : cs.size = ds.size
  one : ∀ (i : Nat) x, cs[i]? = some x → AM.one x = true
  rel : ∀ (i : Nat) x y, cs[i]? = some x → ds[i]? = some y → VR M x y
theorem AR.agg {cs ds : Array Value} (h : AR M cs ds) : VR M (.agg cs) (.agg ds) := .agg _ _ h.size h.one h.rel
theorem AR.of_flat {cs : Array Value} (h : ∀ x ∈ cs, flat1 x = true) : AR M cs cs :=
  ⟨rfl, fun i x hx => flat1_one (h x (Array.mem_of_getElem? hx)), fun i x y hx hy => by rw [hx] at hy; obtain rfl := Option.some.inj hy; exact .fl _ (h x (Array.mem_of_getElem? hx))⟩
theorem AR.set {cs ds : Array Value} (h : AR M cs ds) {x y : Value} (hxy : VR M x y) (h1 : AM.one x = true) (i : Nat) : AR M (cs.setIfInBounds i x) (ds.setIfInBounds i y) := by
  refine ⟨by simp [h.size], fun j u hu => ?_, fun j u v hu hv => ?_⟩
  · rw [Array.getElem?_setIfInBounds] at hu
    split at hu
    · split at hu
      · obtain rfl := Option.some.inj hu; exact h1
      · cases hu
    · exact h.one j u hu
  · rw [Array.getElem?_setIfInBounds] at hu hv
    split at hu
    · rename_i he
      rw [if_pos he] at hv
      split at hu
      · split at hv
        · obtain rfl := Option.some.inj hu; obtain rfl := Option.some.inj hv; exact hxy
        · cases hv
      · cases hu
    · rename_i he
      rw [if_neg he] at hv
      exact h.rel j u v hu hv
theorem AR.foldl : ∀ (xs ys : List Value) (k off : Nat) (cs ds : Array Value), AR M cs ds → xs.length = ys.length → (∀ (j : Nat) x y, xs[j]? = some x → ys[j]? = some y → VR M x y ∧ AM.one x = true) →
    AR M ((xs.zipIdx k).foldl (fun cs (c, j) => cs.setIfInBounds (off + j) c) cs) ((ys.zipIdx k).foldl (fun cs (c, j) => cs.setIfInBounds (off + j) c) ds) := by
  intro xs
  induction xs with
  | nil => intro ys k off cs ds h hl hv; obtain rfl := List.eq_nil_of_length_eq_zero hl.symm; exact h
  | cons x xs ih =>
    intro ys k off cs ds h hl hv
    cases ys with
    | nil => simp at hl
    | cons y ys =>
      simp only [List.zipIdx_cons, List.foldl_cons]
      have h0 := hv 0 x y rfl rfl
      exact ih ys (k + 1) off _ _ (h.set h0.1 h0.2 _) (by simpa using hl) fun j u v hu hv' => hv (j + 1) u v (by simpa using hu) (by simpa using hv')

theorem VR.cells {v v' : Value} (h : VR M v v') (ht : ∀ vs, v ≠ .tuple vs) : AR M v.cells v'.cells := by
  have single : ∀ {v v' : Value}, VR M v v' → AM.one v = true → AR M #[v] #[v'] := fun {v v'} h h1 => by
    refine ⟨rfl, fun i x hx => ?_, fun i x y hx hy => ?_⟩
    · cases i with
      | zero => simp only [List.getElem?_toArray, List.getElem?_cons_zero, Option.some.injEq] at hx; subst hx; exact h1
      | succ i => simp at hx
    · cases i with
      | zero => simp only [List.getElem?_toArray, List.getElem?_cons_zero, Option.some.injEq] at hx hy; subst hx; subst hy; exact h
      | succ i => simp at hx
  cases h with
  | fl _ hf => 
    have h1 := flat1_one hf
    have : v.cells = #[v] := by cases v <;> first | rfl | cases hf
    rw [this]
    exact single (.fl _ hf) h1
  | ptr i o m h => exact single (.ptr i o m h) rfl
  | sl i o o' n k c m h hn hc => exact single (.sl i o o' n k c m h hn hc) rfl
  | emp a => exact single (.emp a) rfl
  | agg xs ys hs h1 h => exact ⟨hs, h1, h⟩
  | tup xs ys hs h => exact absurd rfl (ht xs)
  | ifc t u u' h => exact single (.ifc t u u' h) rfl

theorem fill_ar (place : Nat → Option (Nat × Nat)) : ∀ {ps qs : List (Nat × Value)} {cs ds : Array Value}, AR M cs ds → ps.length = qs.length →
    (∀ (j : Nat) p q, ps[j]? = some p → qs[j]? = some q → p.1 = q.1 ∧ VR M p.2 q.2 ∧ ∀ vs, p.2 ≠ .tuple vs) → ∀ {es : Array Value}, Instr.fill place cs ps = some es → ∃ fs, Instr.fill place ds qs = some fs ∧ AR M es fs := by
  intro ps
  induction ps with
  | nil =>
    intro qs cs ds h hl hv es he
    obtain rfl := List.eq_nil_of_length_eq_zero hl.symm
    simp only [Instr.fill, Option.some.injEq] at he; subst he
    exact ⟨ds, rfl, h⟩
  | cons p ps ih =>
    intro qs cs ds h hl hv es he
    cases qs with
    | nil => simp at hl
    | cons q qs =>
      obtain ⟨i, v⟩ := p
      obtain ⟨i', v'⟩ := q
      obtain ⟨e, hvr, ht⟩ := hv 0 _ _ rfl rfl
      simp only at e hvr ht
      subst e
      have hc := hvr.cells ht
      simp only [Instr.fill] at he ⊢
      split at he
      · cases he
      · rename_i off size hpl
        split at he
        · cases he
        · rename_i hcond
          have hcond' : ¬ ((v'.cells.size ≠ size || off + v'.cells.size > ds.size) = true) := by rw [← hc.size, ← h.size]; exact hcond
          rw [if_neg hcond']
          have hstep : AR M (v.cells.zipIdx.foldl (fun cs (c, j) => cs.setIfInBounds (off + j) c) cs) (v'.cells.zipIdx.foldl (fun cs (c, j) => cs.setIfInBounds (off + j) c) ds) := by
            rw [← Array.foldl_toList, ← Array.foldl_toList, Array.toList_zipIdx, Array.toList_zipIdx]
            refine AR.foldl v.cells.toList v'.cells.toList 0 off cs ds h (by simpa using hc.size) fun j x y hx hy => ?_
            have hx' : v.cells[j]? = some x := by simpa using hx
            have hy' : v'.cells[j]? = some y := by simpa using hy
            exact ⟨hc.rel j x y hx' hy', hc.one j x hx'⟩
          exact ih hstep (by simpa using hl) (fun j p q hp hq => hv (j + 1) p q (by simpa using hp) (by simpa using hq)) he

theorem evalVal_sound (R : Rel P B M L n fr st a w) {A : List Tmp} {o : Oper} {v : Value} (h : evalVal P A o.op fr.ev fr.loc st = some v) :
    ∃ v', (execOp a.eval o).run P w = .ok (.value v') w ∧ VF M L fr.loc v v' := by
  obtain ⟨dst, op, type, pos, after, guard⟩ := o
  simp only at h
  cases op <;> simp only [evalVal, reduceCtorEq] at h
  case move x => simp only [Option.some.injEq] at h; subst h; exact ⟨a.eval x, by simp [execOp], R.ev x⟩
  case assign x => simp only [Option.some.injEq] at h; subst h; exact ⟨a.eval x, by simp [execOp], R.ev x⟩
  case pick c x y =>
    split at h
    · rename_i t hc
      simp only [Option.some.injEq] at h; subst h
      have e : a.eval c = .bool t := by have := R.ev c; rw [hc] at this; exact this.flat rfl
      refine ⟨if t then a.eval x else a.eval y, by simp [execOp, e, asBool], ?_⟩
      cases t
      · exact R.ev y
      · exact R.ev x
    · cases h
  case binOp op t x y yt =>
    split at h
    · rename_i hf
      simp only [Bool.and_eq_true] at hf
      have e1 := (R.ev x).flat hf.1
      have e2 := (R.ev y).flat hf.2
      obtain ⟨hr, hfl⟩ := flatRun_run h w
      refine ⟨v, ?_, (VR.of_flat hfl).vf⟩
      simp only [execOp, e1, e2]
      simp only [Sem.run_bind] at hr ⊢
      rw [hr]; rfl
    · split at h
      · rename_i e he
        obtain ⟨hr, hfl⟩ := eqNil_sound (w := w) (P := P) (xo := x) (yo := y) (R.ev x) (R.ev y) he h
        refine ⟨v, ?_, (VR.of_flat hfl).vf⟩
        simp only [execOp]
        simp only [Sem.run_bind] at hr ⊢
        rw [hr]; rfl
      · obtain ⟨hr, hfl⟩ := eqNilI_sound (w := w) (P := P) (xo := x) (yo := y) (R.ev x) (R.ev y) h
        refine ⟨v, ?_, (VR.of_flat hfl).vf⟩
        simp only [execOp]
        simp only [Sem.run_bind] at hr ⊢
        rw [hr]; rfl
  case unOp op t x =>
    split at h
    · rename_i hf
      have e1 := (R.ev x).flat hf
      obtain ⟨hr, hfl⟩ := flatRun_run h w
      exact ⟨v, by simp [execOp, e1, hr], (VR.of_flat hfl).vf⟩
    · cases h
  case convert src dst x =>
    split at h
    · rename_i hf
      have e1 := (R.ev x).flat hf
      obtain ⟨hr, hfl⟩ := flatRun_run h w
      exact ⟨v, by simp [execOp, e1, hr], (VR.of_flat hfl).vf⟩
    · split at h
      · rename_i e b o n k hs hd hx
        split at h
        · rename_i he
          split at h
          · rename_i cs hcs
            split at h
            · rename_i ns hns
              simp only [Option.some.injEq] at h; subst h
              have hx' := R.ev x
              rw [hx] at hx'
              obtain ⟨m, o', c, hm, hnc, hoc, ex⟩ := hx'.sl_
              refine ⟨_, ?_, VR.vf (.fl _ rfl)⟩
              simp only [execOp, ex, Sem.run_bind]
              rw [run_convert_bytes_string w src dst e _ _ _ hs he hd]
              have hl := cellsFrom_len hcs
              have hcell := fun (j : Nat) x (hx : cs[j]? = some x) => R.cell (o := o) (g := m.b) (VR.vf (VR.ptr b o m hm)) (cellsFrom_get hcs j x hx)
              obtain ⟨ys, hyl, hy1, hy2⟩ := row_exists (w := w) (M := M) (g := m.b) (o := o) hcell
              have hfl : ∀ x ∈ cs, flat1 x = true := by
                rw [bytesOf_eq hns]
                intro x hx
                obtain ⟨i, _, rfl⟩ := List.mem_map.1 hx
                rfl
              have hys := list_flat_eq hyl hy2 hfl
              subst hys
              have hload : (loadCells ⟨m.b, o', none⟩ n).run P w = .ok (ns.map (Value.int .u8)).toArray w := by
                rw [← bytesOf_eq hns, ← hl]
                rcases hoc with ⟨rfl, _⟩ | h0
                · exact run_loadCells_list w _ _ hy1
                · have : ys = [] := List.eq_nil_of_length_eq_zero (by omega)
                  subst this
                  rfl
              rw [run_bytesToString w _ n c ns hload]
              rfl
            · cases h
          · cases h
        · cases h
      · cases h
  case index t x i =>
    split at h
    · rename_i hf
      simp only [Bool.and_eq_true] at hf
      have e1 := (R.ev x).flat hf.1
      have e2 := (R.ev i).flat hf.2
      obtain ⟨hr, hfl⟩ := flatRun_run h w
      exact ⟨v, by simp [execOp, e1, e2, hr], (VR.of_flat hfl).vf⟩
    · cases h
  case slice t x lo hi mx =>
    split at h
    · cases h
    · split at h
      · rename_i hf
        simp only [Bool.and_eq_true] at hf
        have e1 := (R.ev x).flat hf.1.1
        have e2 := map_ev_eq R hf.1.2
        have e3 := map_ev_eq R hf.2
        obtain ⟨hr, hfl⟩ := flatRun_run h w
        exact ⟨v, by simp [execOp, e1, e2, e3, hr], (VR.of_flat hfl).vf⟩
      · obtain ⟨b1, b2⟩ := sliceA_bounds h
        have e2 : lo.map a.eval = lo.map fr.ev := by
          cases lo with
          | none => rfl
          | some l => obtain ⟨k, i, e⟩ := b1 _ rfl; have := R.ev l; rw [e] at this; simp only [Option.map_some, e, this.flat rfl]
        have e3 : hi.map a.eval = hi.map fr.ev := by
          cases hi with
          | none => rfl
          | some l => obtain ⟨k, i, e⟩ := b2 _ rfl; have := R.ev l; rw [e] at this; simp only [Option.map_some, e, this.flat rfl]
        obtain ⟨y, hr, hv⟩ := sliceA_sound (w := w) (R.ev x) h
        refine ⟨y, ?_, hv.vf⟩
        simp [execOp, e2, e3, hr]
  case fieldAddr t x f =>
    split at h
    · rename_i b o sp hx
      split at h
      · rename_i d hd
        split at h
        · rename_i hok
          simp only [Option.some.injEq] at h; subst h
          have hx' := R.ev x
          rw [hx] at hx'
          obtain ⟨g, ex, hg⟩ := R.pointer hx' hok
          refine ⟨.pointer (some ⟨g, o + d, none⟩), ?_, hg (o + d)⟩
          unfold offA at hd
          split at hd
          · rename_i fs hfs
            split at hd
            · rename_i fd hfd
              split at hd
              · rename_i k hsz
                simp only [Option.some.injEq] at hd; subst hd
                simp [execOp, ex, Instr.fieldAt, run_underlying hfs, hfd, Instr.sureAddr, fieldPlace, run_sizeOf hsz, addr_add]
              · cases hd
            · cases hd
          · cases hd
        · cases h
      · cases h
    · cases h
  case nilCheck x =>
    split at h
    · rename_i b o sp hx
      split at h
      · rename_i hok
        simp only [Option.some.injEq] at h; subst h
        have hx' := R.ev x
        rw [hx] at hx' ⊢
        obtain ⟨g, ex, hg⟩ := R.pointer hx' hok
        exact ⟨_, by simp [execOp, ex], hg o⟩
      · cases h
    · cases h
  case indexAddr t x i =>
    split at h
    · rename_i b o n k' kk k e hx hi he
      split at h
      · rename_i sz hsz
        split at h
        · rename_i hc
          simp only [Option.some.injEq] at h; subst h
          have hx' := R.ev x
          rw [hx] at hx'
          obtain ⟨m, o', c, hm, hnc, hoc, ex⟩ := hx'.sl_
          have hi' := R.ev i
          rw [hi] at hi'
          have ei := hi'.flat rfl
          have he' := elemA_eq he
          refine ⟨.pointer (some ⟨m.b, o + k.toNat * sz, none⟩), ?_, VR.vf (.ptr _ _ m hm)⟩
          rcases hoc with ⟨rfl, _⟩ | h0
          · simp [execOp, ex, ei, Instr.indexAt, asIntOf, run_underlying he', run_sizeOf hsz, hc, addr_add]
          · omega
        · cases h
      · cases h
    · cases h
  case load t x =>
    obtain ⟨y, hr, hv⟩ := loadA_sound R (R.ev x) h
    exact ⟨y, by simp [execOp, hr], hv.vf⟩
  case field t x f =>
    have hfield : ∀ (d : Nat) (q : Option Nat) (ys : Array Value) (y : Value), fieldA P t f = some (d, q) → (match q with | some k => y = .agg (ys.extract d (d + k)) | none => ys[d]? = some y) → (Instr.field t (.agg ys) f).run P w = .ok y w := by
      intro d q ys y hq hy
      unfold fieldA at hq
      split at hq
      · rename_i fs hfs
        split at hq
        · rename_i fd hfd
          split at hq
          · rename_i k hag hsz
            simp only [Option.some.injEq, Prod.mk.injEq] at hq
            obtain ⟨rfl, rfl⟩ := hq
            simp only at hy
            subst hy
            simp [Instr.field, run_underlying hfs, hfd, asAgg, part, run_isAgg hag, run_sizeOf hsz]
          · rename_i hag
            simp only [Option.some.injEq, Prod.mk.injEq] at hq
            obtain ⟨rfl, rfl⟩ := hq
            simp only at hy
            simp [Instr.field, run_underlying hfs, hfd, asAgg, part, run_isAgg hag, hy]
          · cases hq
        · cases hq
      · cases hq
    split at h
    · rename_i cs d k hx hq
      have hx' := R.ev x
      rw [hx] at hx'
      obtain ⟨ys, ex, hs, h1, hyy⟩ := hx'.agg_
      split at h
      · rename_i hle
        simp only [Option.some.injEq] at h; subst h
        refine ⟨.agg (ys.extract d (d + k)), ?_, VR.vf (.agg _ _ ?_ ?_ ?_)⟩
        · simp only [execOp, ex, Sem.run_bind, hfield d (some k) ys _ hq rfl]; rfl
        · simp [hs]
        · intro i x hx
          simp only [Array.getElem?_extract] at hx
          split at hx
          · exact h1 _ _ hx
          · cases hx
        · intro i x y hx hy
          simp only [Array.getElem?_extract] at hx hy
          split at hx
          · rename_i hlt
            rw [if_pos (by rw [← hs]; exact hlt)] at hy
            exact hyy _ _ _ hx hy
          · cases hx
      · cases h
    · rename_i cs d hx hq
      have hx' := R.ev x
      rw [hx] at hx'
      obtain ⟨ys, ex, hs, h1, hyy⟩ := hx'.agg_
      have hlt : d < cs.size := (Array.getElem?_eq_some_iff.1 h).1
      refine ⟨ys[d]'(by omega), ?_, VR.vf (hyy _ _ _ h (Array.getElem?_eq_getElem (by omega)))⟩
      simp only [execOp, ex, Sem.run_bind, hfield d none ys _ hq (Array.getElem?_eq_getElem (by omega))]; rfl
    · cases h
  case build t parts =>
    split at h
    · rename_i z pl hb
      split at h
      · rename_i hok
        cases hf : Instr.fill (pl[·]?) z.toArray (parts.map fun (i, x) => (i, fr.ev x)).toList with
        | none => simp only [hf, Option.map_none, reduceCtorEq] at h
        | some cs =>
          simp only [hf, Option.map_some, Option.some.injEq] at h; subst h
          unfold buildA at hb
          split at hb
          · rename_i fs hfs
            split at hb
            · rename_i z' pl' hz hpl
              simp only [Option.some.injEq, Prod.mk.injEq] at hb
              obtain ⟨rfl, rfl⟩ := hb
              obtain ⟨zv, hzr, hze, hzf⟩ := run_zeroValue hz
              have hfill := fill_ar (M := M) (pl'[·]?) (AR.of_flat (cs := z'.toArray) (by simpa using hzf)) (ps := (parts.map fun (i, x) => (i, fr.ev x)).toList) (qs := (parts.map fun (i, x) => (i, a.eval x)).toList) (by simp) (by
                intro j p q hp hq
                simp only [Array.toList_map, List.getElem?_map, Option.map_eq_some_iff] at hp hq
                obtain ⟨⟨i1, x1⟩, h1, rfl⟩ := hp
                obtain ⟨⟨i2, x2⟩, h2, rfl⟩ := hq
                rw [h1] at h2
                simp only [Option.some.injEq, Prod.mk.injEq] at h2
                obtain ⟨rfl, rfl⟩ := h2
                have hm : (i1, x1) ∈ parts := by
                  have := List.mem_of_getElem? h1
                  simpa using this
                have hov := (Array.all_eq_true'.1 hok) (i1, x1) hm
                exact ⟨rfl, (R.ev x1).vr (okv_loc hov), okv_tup hov⟩) hf
              obtain ⟨ds, hd, har⟩ := hfill
              refine ⟨.agg ds, ?_, VR.vf har.agg⟩
              simp only [execOp, Instr.build, Sem.run_bind, hzr, Result.andThen_ok, run_underlying hfs, pureRun_run hpl, hze, hd, Sem.run_pure]
            · cases hb
          · cases hb
      · cases h
    · cases h
  case extract x i =>
    split at h
    · rename_i vs hx
      have hx' := R.ev x
      rw [hx] at hx'
      obtain ⟨ys, ex, hs, hyy⟩ := hx'.tup_
      have hlt : i < vs.size := (Array.getElem?_eq_some_iff.1 h).1
      refine ⟨ys[i]'(by omega), ?_, VR.vf (hyy _ _ _ h (Array.getElem?_eq_getElem (by omega)))⟩
      simp [execOp, ex, Instr.extract, Array.getElem?_eq_getElem (show i < ys.size by omega)]
    · cases h
  case call c =>
    obtain ⟨callee, args, ts⟩ := c
    cases callee with
    | value f => simp at h
    | invoke r m => simp at h
    | builtin bi =>
      cases bi <;> simp only [reduceCtorEq] at h
      case max =>
        obtain ⟨l⟩ := args
        simp only at h
        match l, h with
        | [x, y], h =>
          simp only [List.map_cons, List.map_nil] at h
          have hx' := R.ev x
          have hy' := R.ev y
          generalize fr.ev x = vx at h hx'
          generalize fr.ev y = vy at h hy'
          unfold maxV at h
          split at h
          · rename_i k p k2 q hl
            simp only [List.cons.injEq, and_true] at hl
            obtain ⟨rfl, rfl⟩ := hl
            simp only [Option.some.injEq] at h; subst h
            have ex := hx'.flat rfl
            have ey := hy'.flat rfl
            refine ⟨_, ?_, VR.vf (.fl _ rfl)⟩
            simp only [execOp, resolve, invoke, builtin, Sem.run_bind, Sem.run_pure, Result.andThen_ok]
            simp [ex, ey, Go.run_max_int2]
          · cases h
        | [], h => simp [maxV] at h
        | [_], h => simp [maxV] at h
        | _ :: _ :: _ :: _, h => simp [maxV] at h
      split at h
      · rename_i t x ht hx0
        have hga : (args.map a.eval)[0]? = some (a.eval x) := by simp [hx0]
        split at h
        · rename_i s hu hx
          simp only [Option.some.injEq] at h; subst h
          have hx' := R.ev x
          rw [hx] at hx'
          have ex := hx'.flat rfl
          refine ⟨_, ?_, VR.vf (.fl _ rfl)⟩
          simp only [execOp, resolve, invoke, builtin, Sem.run_bind, Sem.run_pure, Result.andThen_ok, Builtin.len_, ht, hga]
          simp [run_underlying hu, ex, goInt]
        · rename_i e ad nn k hu hx
          simp only [Option.some.injEq] at h; subst h
          have hx' := R.ev x
          rw [hx] at hx'
          have hv := hx'.vr rfl
          refine ⟨_, ?_, VR.vf (.fl _ rfl)⟩
          generalize he : a.eval x = ax at hv
          rw [he] at hga
          have hlen : ∃ ad' k', ax = .slice ad' nn k' := by
            cases hv with
            | fl _ hf => exact ⟨_, _, rfl⟩
            | sl i o o' n k c m hm hn hc => exact ⟨_, _, rfl⟩
            | emp a => exact ⟨_, _, rfl⟩
          obtain ⟨ad', k', rfl⟩ := hlen
          simp only [execOp, resolve, invoke, builtin, Sem.run_bind, Sem.run_pure, Result.andThen_ok, Builtin.len_, ht, hga]
          simp [run_underlying hu, goInt]
        · cases h
      · cases h

end
end Go.Proofs.Ytdijnohbbgbklaa.AM
