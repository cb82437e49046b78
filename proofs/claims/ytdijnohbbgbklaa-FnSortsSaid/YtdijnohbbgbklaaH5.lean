/- How the tie between store and world goes on when memory is made or written. -/
import Derived.Test.YtdijnohbbgbklaaH4
namespace Go.Proofs.Ytdijnohbbgbklaa.AM
open Go
set_option linter.unusedVariables false
set_option linter.unusedSimpArgs false

section
variable {P : Program} {B : Base} {M M' : List ME} {L : Nat → Nat} {n : Nat} {fr : Fr} {st st' : St} {a : Act} {w w' : World}

def Mono (M M' : List ME) : Prop := ∀ (i : Nat) m, M[i]? = some m → M'[i]? = some m
theorem Mono.refl (M : List ME) : Mono M M := fun _ _ h => h
theorem Mono.app (M : List ME) (x : List ME) : Mono M (M ++ x) := fun i m h => by
  rw [List.getElem?_append_left (List.getElem?_eq_some_iff.1 h).1]; exact h
theorem Mono.trans {M₁ M₂ M₃ : List ME} (h : Mono M₁ M₂) (h' : Mono M₂ M₃) : Mono M₁ M₃ := fun i m hm => h' i m (h i m hm)
theorem CRs.mono {s : Nat} {xs : List Value} {c : Array Value} (hM : Mono M M') (h : CRs s M xs c) : CRs s M' xs c := fun j x hx => (h j x hx).imp id fun ⟨h1, y, hy, hv⟩ => ⟨h1, y, hy, hv.mono hM⟩
theorem CR.mono {xs : List Value} {c : Array Value} (hM : Mono M M') (h : CR M xs c) : CR M' xs c := fun j x hx => let ⟨h1, y, hy, hv⟩ := h j x hx; ⟨h1, y, hy, hv.mono hM⟩
theorem VF.mono {loc : Nat → Nat × List Value} {v v' : Value} (hM : Mono M M') (h : VF M L loc v v') : VF M' L loc v v' := by
  cases hl : isLoc v with
  | false => exact ((h.vr hl).mono hM).vf
  | true =>
    unfold isLoc at hl
    split at hl
    · exact h
    · cases hl

/-- A step that touches the heap of blocks alone. -/
theorem Rel.heapStep (R : Rel P B M L n fr st a w) (hM : Mono M M') (hH : HR P B M' st' w') (hsz : w.heap.size ≤ w'.heap.size)
    (hk : ∀ k, k < w.heap.size → (∀ (i : Nat) m, M[i]? = some m → m.b ≠ k) → w'.heap[k]? = w.heap[k]?)
    (hnew : ∀ (i : Nat) m, M'[i]? = some m → (∃ (j : Nat) (m0 : ME), M[j]? = some m0 ∧ m0.b = m.b) ∨ w.heap.size ≤ m.b) : Rel P B M' L n fr st' a w' := by
  refine ⟨R.defers, R.size, fun t => (R.env t).mono hM, fun s hs => ?_, R.locInj, fun s hs i m hm e => ?_, hH⟩
  · obtain ⟨c, ty, h1, h2, h3, h4, h5⟩ := R.loc s hs
    exact ⟨c, ty, (hk _ h5 (R.locOut s hs)).trans h1, h2, h3.mono hM, h4, by omega⟩
  · obtain ⟨c, ty, h1, h2, h3, h4, h5⟩ := R.loc s hs
    rcases hnew i m hm with ⟨j, m0, hj, hb⟩ | h
    · exact R.locOut s hs j m0 hj (hb.trans e)
    · omega

theorem HR.drew (h : HR P B M st w) : HR P B M st w.drew := ⟨h.len, h.pre, h.blk, h.inj, h.lt, h.old, h.ro, h.os, h.tape, h.output, h.size, h.frame, h.tab, h.cov⟩
theorem Rel.drew (R : Rel P B M L n fr st a w) : Rel P B M L n fr st a w.drew := ⟨R.defers, R.size, R.env, R.loc, R.locInj, R.locOut, R.heap.drew⟩
theorem Rel.drewAt (R : Rel P B M L n fr st a w) : Rel P B M L n fr st a { w with drawn := w.drawn + 1 } := R.drew

theorem alloc_new (w : World) (o : Obj) : (w.alloc o).heap[w.heap.size]? = some o := Go.heap_alloc_new w o
theorem alloc_old (w : World) (o : Obj) {k : Nat} (h : k < w.heap.size) : (w.alloc o).heap[k]? = w.heap[k]? := Go.heap_alloc_old w o k h

/-- A new block. -/
theorem HR.alloc (h : HR P B M st w) (cells : List Value) (c : Array Value) (ty : TypeId) (hl : cells.length ≤ c.size) (hc : CR M cells c) :
    HR P B (M ++ [⟨w.heap.size, c.size, P.cellsOf ty, true⟩]) (st ++ [⟨cells, ty, 0⟩]) (w.alloc (.cells c ty (0, 0))) := by
  have hM := Mono.app M [⟨w.heap.size, c.size, P.cellsOf ty, true⟩]
  have get : ∀ (i : Nat) b m, (st ++ [(⟨cells, ty, 0⟩ : Blk)])[i]? = some b → (M ++ [(⟨w.heap.size, c.size, P.cellsOf ty, true⟩ : ME)])[i]? = some m →
      (st[i]? = some b ∧ M[i]? = some m ∧ i < st.length) ∨ (i = st.length ∧ b = ⟨cells, ty, 0⟩ ∧ m = ⟨w.heap.size, c.size, P.cellsOf ty, true⟩) := by
    intro i b m hb hm
    rcases Nat.lt_or_ge i st.length with hi | hi
    · rw [List.getElem?_append_left hi] at hb
      rw [List.getElem?_append_left (by rw [h.len]; exact hi)] at hm
      exact .inl ⟨hb, hm, hi⟩
    · rw [List.getElem?_append_right hi] at hb
      rw [List.getElem?_append_right (by rw [h.len]; exact hi)] at hm
      have : i - st.length = 0 := by
        rcases Nat.eq_zero_or_pos (i - st.length) with h | h
        · exact h
        · rw [List.getElem?_eq_none (by simp; omega)] at hb; cases hb
      rw [this] at hb
      rw [h.len, this] at hm
      simp only [List.getElem?_cons_zero, Option.some.injEq] at hb hm
      exact .inr ⟨by omega, hb.symm, hm.symm⟩
  have getM : ∀ (i : Nat) m, (M ++ [(⟨w.heap.size, c.size, P.cellsOf ty, true⟩ : ME)])[i]? = some m → M[i]? = some m ∨ m = ⟨w.heap.size, c.size, P.cellsOf ty, true⟩ := by
    intro i m hm
    rcases Nat.lt_or_ge i M.length with hi | hi
    · rw [List.getElem?_append_left hi] at hm; exact .inl hm
    · rw [List.getElem?_append_right hi] at hm
      have hmem := List.mem_of_getElem? hm
      simp only [List.mem_singleton] at hmem
      exact .inr hmem
  refine ⟨by simp [h.len], fun i m hm => hM i m (h.pre i m hm), ?_, ?_, ?_, ?_, ?_, h.os, h.tape, h.output, by have := h.size; simp; omega, ?_, h.tab, h.cov⟩
  · intro i b m hb hm hst hfar
    rcases get i b m hb hm with ⟨hb, hm, hi⟩ | ⟨rfl, rfl, rfl⟩
    · obtain ⟨c', h1, h2, h3, h4, h5⟩ := h.blk i b m hb hm hst hfar
      exact ⟨c', h1.to (alloc_old w _ (h.lt i m hm)), h2, h3, h4.mono hM, h5⟩
    · exact ⟨c, HasC.of (alloc_new w _), rfl, hl, (hc.mono hM).s, fun _ => ⟨rfl, rfl⟩⟩
  · intro i j b b' m m' hb hb' hs hs' hm hm' e
    rcases get i b m hb hm with ⟨hb, hm, hi⟩ | ⟨rfl, rfl, rfl⟩ <;> rcases get j b' m' hb' hm' with ⟨hb', hm', hj⟩ | ⟨rfl, rfl, rfl⟩
    · exact h.inj i j b b' m m' hb hb' hs hs' hm hm' e
    · have := h.lt i m hm; simp only at e; omega
    · have := h.lt j m' hm'; simp only at e; omega
    · rfl
  · intro i m hm
    rcases getM i m hm with hm | rfl
    · have := h.lt i m hm; simp; omega
    · simp
  · intro i m hm hlt
    rcases getM i m hm with hm | rfl
    · exact h.old i m hm hlt
    · have := h.size; simp only at hlt; omega
  · intro i b m hb hs hm
    obtain ⟨h1, h2⟩ := h.ro i b m hb hs hm
    have hi : i < st.length := (List.getElem?_eq_some_iff.1 h1).1
    exact ⟨by rw [List.getElem?_append_left hi]; exact h1, (alloc_old w _ (h.lt i m (h.pre i m hm))).trans h2⟩
  · intro k hk hkm
    exact (alloc_old w _ (by have := h.size; omega)).trans (h.frame k hk hkm)

theorem Rel.alloc (R : Rel P B M L n fr st a w) (cells : List Value) (c : Array Value) (ty : TypeId) (hl : cells.length ≤ c.size) (hc : CR M cells c) :
    Rel P B (M ++ [⟨w.heap.size, c.size, P.cellsOf ty, true⟩]) L n fr (st ++ [⟨cells, ty, 0⟩]) a (w.alloc (.cells c ty (0, 0))) := by
  refine R.heapStep (Mono.app _ _) (R.heap.alloc cells c ty hl hc) (by simp) (fun k hk _ => alloc_old w _ hk) fun i m hm => ?_
  rcases Nat.lt_or_ge i M.length with hi | hi
  · rw [List.getElem?_append_left hi] at hm; exact .inl ⟨i, m, hm, rfl⟩
  · rw [List.getElem?_append_right hi] at hm
    have hmem := List.mem_of_getElem? hm
    simp only [List.mem_singleton] at hmem
    subst hmem
    exact .inr (Nat.le_refl _)

/-- A block that is given up. -/
theorem HR.kill (h : HR P B M st w) {i : Nat} {b : Blk} (hb : st[i]? = some b) (hs : b.stat = 0) : HR P B M (st.set i { b with stat := 2 }) w := by
  have get : ∀ (j : Nat) x, (st.set i { b with stat := 2 })[j]? = some x → x.stat ≠ 2 → st[j]? = some x := by
    intro j x hx hne
    rw [List.getElem?_set] at hx
    split at hx
    · split at hx
      · simp only [Option.some.injEq] at hx; subst hx; exact absurd rfl hne
      · cases hx
    · exact hx
  refine ⟨by simp [h.len], h.pre, fun j x m hx hm hne => h.blk j x m (get j x hx hne) hm hne, fun j k x y m m' hx hy hn hn' => h.inj j k x y m m' (get j x hx hn) (get k y hy hn') hn hn', h.lt, h.old, ?_, h.os, h.tape, h.output, h.size, h.frame, h.tab, h.cov⟩
  intro j x m hx hst hm
  obtain ⟨h1, h2⟩ := h.ro j x m hx hst hm
  refine ⟨?_, h2⟩
  rw [List.getElem?_set]
  split
  · rename_i e; subst e; rw [hb] at h1; obtain rfl := Option.some.inj h1; omega
  · exact h1

/-- A store into a live block. -/
theorem HR.set (h : HR P B M st w) {i : Nat} {b : Blk} {m : ME} {c : Array Value} (hb : st[i]? = some b) (hm : M[i]? = some m) (hs : b.stat = 0)
    (hw : w.heap[m.b]? = some (.cells c b.ty (0, 0))) (cells : List Value) (c' : Array Value) (hsz : c'.size = c.size) (hl : cells.length ≤ m.n) (hc : CR M cells c') :
    HR P B M (st.set i { b with cells := cells }) (w.setRow m.b c') := by
  have hcs : c.size = m.n := by
    obtain ⟨c0, h1, h2, _⟩ := h.blk i b m hb hm (by omega) (fun e => by have := e.1; omega)
    replace h1 := h1.live hs; rw [hw] at h1; injection h1 with h1; injection h1 with h1; rw [h1]; exact h2
  have hap := (h.blk i b m hb hm (by omega) (fun e => by have := e.1; omega))
  obtain ⟨c0, _, _, _, _, hap⟩ := hap
  have hi : i < st.length := (List.getElem?_eq_some_iff.1 hb).1
  have get : ∀ (j : Nat) x, (st.set i { b with cells := cells })[j]? = some x → (j ≠ i ∧ st[j]? = some x) ∨ (j = i ∧ x = { b with cells := cells }) := by
    intro j x hx
    rw [List.getElem?_set] at hx
    split at hx
    · rename_i e
      simp only [Option.some.injEq] at hx; exact .inr ⟨e.symm, hx.symm⟩
    · rename_i e; exact .inl ⟨fun e' => e e'.symm, hx⟩
  have other : ∀ (j : Nat) x m', st[j]? = some x → M[j]? = some m' → x.stat ≠ 2 → j ≠ i → (w.setRow m.b c').heap[m'.b]? = w.heap[m'.b]? := by
    intro j x m' hx hm' hne hji
    refine setRow_other w m.b m'.b c' fun e => hji ?_
    exact h.inj j i x b m' m hx hb hne (by omega) hm' hm e
  refine ⟨by simp [h.len], h.pre, ?_, ?_, fun j m' hm' => by simpa using h.lt j m' hm', h.old, ?_, h.os, h.tape, h.output, by simpa using h.size, ?_, h.tab, h.cov⟩
  · intro j x m' hx hm' hne hfar
    rcases get j x hx with ⟨hji, hx⟩ | ⟨rfl, rfl⟩
    · obtain ⟨c1, h1, h2⟩ := h.blk j x m' hx hm' hne hfar
      exact ⟨c1, h1.to (other j x m' hx hm' hne hji), h2⟩
    · rw [hm] at hm'; obtain rfl := Option.some.inj hm'
      exact ⟨c', HasC.of (setRow_heap w m.b c c' b.ty (0, 0) hw), by omega, hl, hc.s, hap⟩
  · intro j k x y m1 m2 hx hy hn hn' h1 h2 e
    have fix : ∀ (j : Nat) x, (st.set i { b with cells := cells })[j]? = some x → x.stat ≠ 2 → ∃ x', st[j]? = some x' ∧ x'.stat ≠ 2 := by
      intro j x hx hn
      rcases get j x hx with ⟨hji, hx⟩ | ⟨rfl, rfl⟩
      · exact ⟨x, hx, hn⟩
      · exact ⟨b, hb, by omega⟩
    obtain ⟨x', hx', hn1⟩ := fix j x hx hn
    obtain ⟨y', hy', hn2⟩ := fix k y hy hn'
    exact h.inj j k x' y' m1 m2 hx' hy' hn1 hn2 h1 h2 e
  · intro j x m' hx hst hm'
    obtain ⟨h1, h2⟩ := h.ro j x m' hx hst hm'
    have hji : j ≠ i := by intro e; subst e; rw [hb] at h1; obtain rfl := Option.some.inj h1; omega
    refine ⟨by rw [List.getElem?_set, if_neg (fun e => hji e.symm)]; exact h1, ?_⟩
    exact (other j x m' h1 (h.pre j m' hm') (by omega) hji).trans h2
  · intro k hk hkm
    have hlt := h.size
    refine (setRow_other w m.b k c' fun e => ?_).trans (h.frame k hk hkm)
    subst e
    obtain ⟨j, m', hj, hb'⟩ := h.old i m hm hk
    exact hkm j m' hj hb'

/-- A block that grows in place under a new number. -/
theorem HR.regrow (h : HR P B M st w) {i : Nat} {b : Blk} {m : ME} {c : Array Value} (hb : st[i]? = some b) (hm : M[i]? = some m) (hs : b.stat = 0)
    (hw : w.heap[m.b]? = some (.cells c b.ty (0, 0))) (cells : List Value) (c' : Array Value) (hsz : c'.size = c.size) (hl : cells.length ≤ m.n) (hc : CR M cells c') :
    HR P B (M ++ [m]) (st.set i { b with stat := 2 } ++ [⟨cells, b.ty, 0⟩]) (w.setRow m.b c') := by
  have h0 := h.set hb hm hs hw cells c' hsz hl hc
  have hi : i < st.length := (List.getElem?_eq_some_iff.1 hb).1
  have hb0 : (st.set i { b with cells := cells })[i]? = some { b with cells := cells } := by rw [List.getElem?_set, if_pos rfl, if_pos hi]
  have h1 := h0.kill hb0 hs
  rw [List.set_set] at h1
  obtain ⟨c0, hw0, hs0, hl0, hc0, hap0⟩ := h0.blk i _ m hb0 hm (by simp only; omega) (fun e => by have := e.1; simp only at this; omega)
  have hM := Mono.app M [m]
  have hlen : (st.set i { b with stat := 2 }).length = st.length := by simp
  have get : ∀ (j : Nat) x, (st.set i { b with stat := 2 } ++ [(⟨cells, b.ty, 0⟩ : Blk)])[j]? = some x → x.stat ≠ 2 →
      (j ≠ i ∧ j < st.length ∧ (st.set i { cells := cells, ty := b.ty, stat := 2 })[j]? = some x) ∨ (j = st.length ∧ x = ⟨cells, b.ty, 0⟩) := by
    intro j x hx hn
    rcases Nat.lt_or_ge j st.length with hj | hj
    · rw [List.getElem?_append_left (by simpa using hj), List.getElem?_set] at hx
      split at hx
      · rename_i e
        simp only [Option.some.injEq] at hx; subst hx; exact absurd rfl hn
      · rename_i e
        refine .inl ⟨fun e' => e e'.symm, hj, ?_⟩
        rw [List.getElem?_set, if_neg e]; exact hx
    · rw [List.getElem?_append_right (by simpa using hj)] at hx
      have hmem := List.mem_of_getElem? hx
      simp only [List.mem_singleton] at hmem
      have : j - (st.set i { b with stat := 2 }).length = 0 := by
        rcases Nat.eq_zero_or_pos (j - (st.set i { b with stat := 2 }).length) with h | h
        · exact h
        · rw [List.getElem?_eq_none (by simp only [List.length_singleton]; omega)] at hx; cases hx
      exact .inr ⟨by omega, hmem⟩
  have getM : ∀ (j : Nat) m', (M ++ [m])[j]? = some m' → (j < st.length ∧ M[j]? = some m') ∨ (st.length ≤ j ∧ m' = m) := by
    intro j m' hm'
    rcases Nat.lt_or_ge j M.length with hj | hj
    · rw [List.getElem?_append_left hj] at hm'; exact .inl ⟨by rw [← h.len]; exact hj, hm'⟩
    · rw [List.getElem?_append_right hj] at hm'
      have hmem := List.mem_of_getElem? hm'
      simp only [List.mem_singleton] at hmem
      exact .inr ⟨by rw [← h.len]; exact hj, hmem⟩
  refine ⟨by simp [h.len], fun j m' hm' => hM j m' (h.pre j m' hm'), ?_, ?_, ?_, ?_, ?_, h.os, h.tape, h.output, by simpa using h.size, h0.frame, h.tab, h.cov⟩
  · intro j x m' hx hm' hn hfar
    rcases get j x hx hn with ⟨hji, hj, hx⟩ | ⟨rfl, rfl⟩
    · rcases getM j m' hm' with ⟨_, hm'⟩ | ⟨hge, _⟩
      · obtain ⟨c1, q1, q2, q3, q4, q5⟩ := h1.blk j x m' hx hm' hn hfar
        exact ⟨c1, q1, q2, q3, q4.mono hM, q5⟩
      · omega
    · rcases getM st.length m' hm' with ⟨hlt, _⟩ | ⟨_, rfl⟩
      · omega
      · exact ⟨c0, HasC.of (hw0.live hs), hs0, hl0, ((hc0.cr (by simp only; omega)).mono hM).s, fun _ => hap0 hs⟩
  · intro j k x y m1 m2 hx hy hn hn' q1 q2 e
    rcases get j x hx hn with ⟨hji, hj, hx⟩ | ⟨rfl, rfl⟩ <;> rcases get k y hy hn' with ⟨hki, hk, hy⟩ | ⟨rfl, rfl⟩
    · rcases getM j m1 q1 with ⟨_, q1⟩ | ⟨hge, _⟩ <;> rcases getM k m2 q2 with ⟨_, q2⟩ | ⟨hge', _⟩ <;> first
        | exact h1.inj j k x y m1 m2 hx hy hn hn' q1 q2 e
        | omega
    · rcases getM j m1 q1 with ⟨_, q1'⟩ | ⟨hge, _⟩
      · rcases getM st.length m2 q2 with ⟨hlt, _⟩ | ⟨_, rfl⟩
        · omega
        · have hx' : (st.set i { b with cells := cells })[j]? = some x := by
            rw [List.getElem?_set, if_neg (fun e => hji e.symm)] at hx ⊢; exact hx
          exact absurd (h0.inj j i x _ m1 m2 hx' hb0 hn (by simp only; omega) q1' hm e) hji
      · omega
    · rcases getM k m2 q2 with ⟨_, q2'⟩ | ⟨hge, _⟩
      · rcases getM st.length m1 q1 with ⟨hlt, _⟩ | ⟨_, rfl⟩
        · omega
        · have hy' : (st.set i { b with cells := cells })[k]? = some y := by
            rw [List.getElem?_set, if_neg (fun e => hki e.symm)] at hy ⊢; exact hy
          exact absurd (h0.inj i k _ y m1 m2 hb0 hy' (by simp only; omega) hn' hm q2' e).symm hki
      · omega
    · rfl
  · intro j m' hm'
    rcases getM j m' hm' with ⟨_, hm'⟩ | ⟨_, rfl⟩
    · exact h0.lt j m' hm'
    · exact h0.lt i m' hm
  · intro j m' hm' hlt
    rcases getM j m' hm' with ⟨_, hm'⟩ | ⟨_, rfl⟩
    · exact h.old j m' hm' hlt
    · exact h.old i m' hm hlt
  · intro j x m' hx hst hm'
    obtain ⟨q1, q2⟩ := h1.ro j x m' hx hst hm'
    have hj : j < st.length := by have := (List.getElem?_eq_some_iff.1 q1).1; simpa using this
    refine ⟨?_, q2⟩
    rw [List.getElem?_append_left (by simpa using hj)]
    rw [List.getElem?_set] at q1 ⊢
    split
    · rename_i e; rw [if_pos e, if_pos hi] at q1; simp only [Option.some.injEq] at q1; subst q1; simp only at hst; omega
    · rename_i e; rw [if_neg e] at q1; exact q1

end
end Go.Proofs.Ytdijnohbbgbklaa.AM
