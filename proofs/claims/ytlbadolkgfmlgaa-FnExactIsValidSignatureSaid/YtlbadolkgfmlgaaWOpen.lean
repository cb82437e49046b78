import Derived.Test.YtlbadolkgfmlgaaWWords
import Derived.ChangeArms
import Derived.DataReads
/-! What a row's argument reads as: out of the reader's word ('trod') a kind's own fact. -/
namespace Go.Proofs.YtlbadolkgfmlgaaW.PrintWords
open Go.RowKit
theorem add_add_ (a : Addr) (i j : Nat) : (a.add i).add j = a.add (i + j) := by
  unfold Addr.add
  by_cases h1 : i = 0 <;> by_cases h2 : j = 0 <;> simp [h1, h2, Nat.add_assoc]
namespace Kd
theorem open_row {H : Type} {enc : TypeId × Value → H} {P : Program} {w : World} {sp : Nat → Bool} {α : Type} {d : Kd α} {G : α → Prop} {t e : TypeId} (ht : P.underlying t = some (.slice e)) (hc : P.cellsOf e = d.sz) {fuel : Nat} {cs : List Value} {x : DataW H × List MemPlace}
    (h : DataW.trod enc P w 0 sp true fuel t cs = some x) (hel : ∀ n cs y, n < fuel → DataW.trod enc P w 0 sp true n e cs = some y → ∃ z, d.K w z cs ∧ G z) :
    ∃ A c, ∃ xs : List α, cs = [.slice A xs.length c] ∧ xs.length ≤ c ∧ c ≤ maxLen ∧ d.C w A xs.length xs ∧ ∀ z, z ∈ xs → G z := by
  rcases DataW.trod_slice ht h with ⟨rfl, _⟩ | ⟨a, len, cap, elems, rest, n, rfl, rfl, rfl, _, hl, hm, hlen, hel2, _, _⟩
  · exact ⟨none, 0, [], rfl, Nat.le_refl _, Nat.zero_le _, C_nil d w, by simp⟩
  · simp only [hc] at hel2
    have each : ∀ i : Fin len, ∃ z, G z ∧ ∃ c, d.K w z c ∧ c.length = d.sz ∧ ∀ j u, c[j]? = some u → w.cell? (a.add (i.1 * d.sz + j)) = some u := by
      intro i
      have hi := hel2 i.1 i.2
      have hlt : i.1 < elems.length := by rw [hlen]; exact i.2
      rw [List.getElem?_eq_getElem hlt, Option.bind_eq_some_iff] at hi
      obtain ⟨c, hcs, hy⟩ := hi
      obtain ⟨z, hz, hG⟩ := hel n c _ (Nat.lt_succ_self n) hy
      obtain ⟨_, hcl, hcc⟩ := World.cells?_some hcs
      refine ⟨z, hG, c, hz, hcl, fun j u hu => ?_⟩
      have hj : j < d.sz := by have := (List.getElem?_eq_some_iff.1 hu).1; omega
      rw [← add_add_, hcc j hj, hu]
    have hlen3 : (List.ofFn fun i : Fin len => Classical.choose (each i)).length = len := List.length_ofFn
    refine ⟨some a, cap, List.ofFn fun i : Fin len => Classical.choose (each i), by rw [hlen3], by rw [hlen3]; exact hl, hm, ?_, ?_⟩
    · refine ⟨rfl, by rw [hlen3]; have : maxLen = 9223372036854775807 := rfl; omega, fun _ => ⟨a, rfl, fun j p hj => ?_⟩⟩
      have hjl : j < len := by have := (List.getElem?_eq_some_iff.1 hj).1; rwa [hlen3] at this
      obtain ⟨_, c, h1, h2, h3⟩ := Classical.choose_spec (each ⟨j, hjl⟩)
      have hp : Classical.choose (each ⟨j, hjl⟩) = p := by
        have := (List.getElem?_eq_some_iff.1 hj).2
        rw [List.getElem_ofFn] at this
        exact this
      rw [hp] at h1
      exact ⟨c, h2, h1, h3⟩
    · intro z hz
      rw [List.mem_ofFn] at hz
      obtain ⟨i, rfl⟩ := hz
      exact (Classical.choose_spec (each i)).1
theorem open_int_ {H : Type} {enc : TypeId × Value → H} {P : Program} {w : World} {sp : Nat → Bool} {t : TypeId} {k : IntKind} (ht : P.underlying t = some (.int k)) {fuel : Nat} {cs : List Value} {x : DataW H × List MemPlace} (h : DataW.trod enc P w 0 sp true fuel t cs = some x) : ∃ z, (Kd.int k).K w z cs ∧ (Lit.int k z).wf = true := by
  obtain ⟨n, rfl, _, hw⟩ := DataW.trod_int ht h
  exact ⟨n, rfl, hw⟩
theorem open_string_ {H : Type} {enc : TypeId × Value → H} {P : Program} {w : World} {sp : Nat → Bool} {t : TypeId} (ht : P.underlying t = some .string) {fuel : Nat} {cs : List Value} {x : DataW H × List MemPlace} (h : DataW.trod enc P w 0 sp true fuel t cs = some x) : ∃ z, Kd.string.K w z cs ∧ z.size ≤ maxLen := by
  obtain ⟨n, rfl, _, hw⟩ := DataW.trod_string ht h
  exact ⟨n, rfl, hw⟩
theorem open_bool_ {H : Type} {enc : TypeId × Value → H} {P : Program} {w : World} {sp : Nat → Bool} {t : TypeId} (ht : P.underlying t = some .bool) {fuel : Nat} {cs : List Value} {x : DataW H × List MemPlace} (h : DataW.trod enc P w 0 sp true fuel t cs = some x) : ∃ z, Kd.bool.K w z cs ∧ True := by
  obtain ⟨n, rfl, _⟩ := DataW.trod_bool ht h
  exact ⟨n, rfl, trivial⟩
end Kd
/-- A list of one, two, .. is its members. -/
theorem list_1 {α : Type} {l : List α} (h : l.length = 1) : ∃ a, l = [a] := by
  match l, h with
  | [a], _ => exact ⟨a, rfl⟩
theorem list_S {α : Type} {l : List α} {n : Nat} (h : l.length = n + 1) : ∃ a l2, l = a :: l2 ∧ l2.length = n := by
  match l, h with
  | a :: l2, h => exact ⟨a, l2, rfl, by simpa using h⟩
end Go.Proofs.YtlbadolkgfmlgaaW.PrintWords
