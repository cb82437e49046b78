/- Contracts of the library, lifted: a world that grows; a block of which nothing is told. -/
import Derived.Test.YtibcegfhllkdgaaDoorD7
namespace Go.Proofs.YtibcegfhllkdgaaDoor.AM
open Go Go.Proofs
set_option linter.unusedVariables false
set_option linter.unusedSimpArgs false

theorem HR.below {P : Program} {B : Base} {M : List ME} {st : St} {w w' : World} (h : HR P B M st w) (k : Go.RowKit.Below w.heap.size w w') : HR P B M st w' := by
  refine ⟨h.len, h.pre, fun i b m hb hm hs hfar => ?_, h.inj, fun i m hm => Nat.lt_of_lt_of_le (h.lt i m hm) k.size, h.old, fun i b m hb hs hm => ?_, k.os.trans h.os, k.tape.trans h.tape, k.output.trans h.output, Nat.le_trans h.size k.size, fun q hq hqm => ?_, h.tab, h.cov⟩
  · obtain ⟨c, h1, h2⟩ := h.blk i b m hb hm hs hfar
    exact ⟨c, h1.to (k.block _ (h.lt i m hm)), h2⟩
  · obtain ⟨h1, h2⟩ := h.ro i b m hb hs hm
    exact ⟨h1, (k.block _ (h.lt i m (h.pre i m hm))).trans h2⟩
  · exact (k.block q (Nat.lt_of_lt_of_le hq h.size)).trans (h.frame q hq hqm)
/-- A block of which nothing is told. -/
def farB : Blk := ⟨[], 0, 1⟩
theorem HR.far {P : Program} {B : Base} {M : List ME} {st : St} {w : World} {N n : Nat} (h : HR P B M st w) (hn : ∀ (i : Nat) m, M[i]? = some m → m.b < n) (h1 : n ≤ N) (h2 : N < w.heap.size) (h3 : B.w0.heap.size ≤ N) : HR P B (M ++ [⟨N, 0, 0, false⟩]) (st ++ [farB]) w := by
  have getM : ∀ (i : Nat) m, (M ++ [(⟨N, 0, 0, false⟩ : ME)])[i]? = some m → M[i]? = some m ∨ (i = st.length ∧ m = ⟨N, 0, 0, false⟩) := fun i m hm => by
    rcases Nat.lt_or_ge i M.length with hi | hi
    · rw [List.getElem?_append_left hi] at hm; exact .inl hm
    · rw [List.getElem?_append_right hi] at hm
      have h4 := (List.getElem?_eq_some_iff.1 hm).1
      simp only [List.length_singleton] at h4
      have h5 : i - M.length = 0 := by omega
      rw [h5] at hm
      simp only [List.getElem?_cons_zero, Option.some.injEq] at hm
      exact .inr ⟨by have := h.len; omega, hm.symm⟩
  have getS : ∀ (i : Nat) b, (st ++ [farB])[i]? = some b → st[i]? = some b ∨ (i = st.length ∧ b = farB) := fun i b hb => by
    rcases Nat.lt_or_ge i st.length with hi | hi
    · rw [List.getElem?_append_left hi] at hb; exact .inl hb
    · rw [List.getElem?_append_right hi] at hb
      have h4 := (List.getElem?_eq_some_iff.1 hb).1
      simp only [List.length_singleton] at h4
      have h5 : i - st.length = 0 := by omega
      rw [h5] at hb
      simp only [List.getElem?_cons_zero, Option.some.injEq] at hb
      exact .inr ⟨by omega, hb.symm⟩
  have hM := Mono.app M [(⟨N, 0, 0, false⟩ : ME)]
  have hin : ∀ (i : Nat) b m, st[i]? = some b → (M ++ [(⟨N, 0, 0, false⟩ : ME)])[i]? = some m → M[i]? = some m := fun i b m hb hm => by
    rcases getM i m hm with h4 | ⟨h4, _⟩
    · exact h4
    · have := (List.getElem?_eq_some_iff.1 hb).1; omega
  refine ⟨by simp [h.len], fun i m hm => hM i m (h.pre i m hm), fun i b m hb hm hs hfar => ?_, fun i j b b' m m' hb hb' hs hs' hm hm' e => ?_, fun i m hm => ?_, fun i m hm hlt => ?_, fun i b m hb hs hm => ?_, h.os, h.tape, h.output, h.size, h.frame, h.tab, h.cov⟩
  · rcases getS i b hb with hb | ⟨_, rfl⟩
    · obtain ⟨c, q1, q2, q3, q4, q5⟩ := h.blk i b m hb (hin i b m hb hm) hs hfar
      exact ⟨c, q1, q2, q3, q4.mono hM, q5⟩
    · exact absurd ⟨rfl, rfl⟩ hfar
  · rcases getS i b hb with hb | ⟨rfl, rfl⟩ <;> rcases getS j b' hb' with hb' | ⟨rfl, rfl⟩
    · exact h.inj i j b b' m m' hb hb' hs hs' (hin i b m hb hm) (hin j b' m' hb' hm') e
    · have h4 := hn i m (hin i b m hb hm)
      rcases getM st.length m' hm' with h5 | ⟨_, h5⟩
      · have := (List.getElem?_eq_some_iff.1 h5).1; have := h.len; omega
      · subst h5; simp only at e; omega
    · have h4 := hn j m' (hin j b' m' hb' hm')
      rcases getM st.length m hm with h5 | ⟨_, h5⟩
      · have := (List.getElem?_eq_some_iff.1 h5).1; have := h.len; omega
      · subst h5; simp only at e; omega
    · rfl
  · rcases getM i m hm with h4 | ⟨_, rfl⟩
    · exact h.lt i m h4
    · exact h2
  · rcases getM i m hm with h4 | ⟨_, rfl⟩
    · exact h.old i m h4 hlt
    · simp only at hlt; omega
  · obtain ⟨q1, q2⟩ := h.ro i b m hb hs hm
    exact ⟨by rw [List.getElem?_append_left (List.getElem?_eq_some_iff.1 q1).1]; exact q1, q2⟩
theorem VL.one' {M : List ME} {s : Value} {vals : Array Value} (h : VL M [s] vals) : ∃ v, vals = #[v] ∧ VR M s v := by
  have hl := h.len
  obtain ⟨l⟩ := vals
  match l, hl with
  | [v], _ => exact ⟨v, rfl, h.rel 0 s v rfl rfl⟩
theorem VL.two' {M : List ME} {s t : Value} {vals : Array Value} (h : VL M [s, t] vals) : ∃ v u, vals = #[v, u] ∧ VR M s v ∧ VR M t u := by
  have hl := h.len
  obtain ⟨l⟩ := vals
  match l, hl with
  | [v, u], _ => exact ⟨v, u, rfl, h.rel 0 s v rfl rfl, h.rel 1 t u rfl rfl⟩
end Go.Proofs.YtibcegfhllkdgaaDoor.AM
