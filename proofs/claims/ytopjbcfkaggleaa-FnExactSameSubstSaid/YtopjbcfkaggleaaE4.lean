/- Arguments: rows of bindings. -/
import Derived.Test.YtopjbcfkaggleaaE1
import Derived.Test.YtopjbcfkaggleaaDB
namespace Go.Proofs.Ytopjbcfkaggleaa.AM
open Go Go.Proofs
set_option linter.unusedVariables false
def LensB (b : Bnd) : Prop := Lens b.tm ∧ b.nm.size ≤ maxLen
set_option maxRecDepth 100000 in
theorem open_bind {H : Type} {enc : TypeId × Value → H} {w : World} (fuel : Nat) (cs : List Value) (x : DataW H × List MemPlace) (h : DataW.trod enc Try.prog w 0 (fun _ => true) true fuel 33 cs = some x) :
    ∃ b : Bnd, EncB (absS w) b (cs.map (absV w.heap.size)) ∧ LensB b ∧ ∀ c ∈ cs, Told w c := by
  obtain ⟨xs, n, hfu, rfl, hl, hxl, hf⟩ := DataW.trod_struct Try.underlying33 h
  have hl : cs.length = 5 := hl.trans (by kernel_rfl)
  have hxl : xs.length = 2 := hxl
  obtain ⟨e0, r0, rfl, l0⟩ := list_S hl
  obtain ⟨e1, r1, rfl, l1⟩ := list_S l0
  obtain ⟨e2, r2, rfl, l2⟩ := list_S l1
  obtain ⟨e3, r3, rfl, l3⟩ := list_S l2
  obtain ⟨e4, r4, rfl, l4⟩ := list_S l3
  obtain rfl := List.eq_nil_of_length_eq_zero l4
  have q0 : DataW.trod enc Try.prog w 0 (fun _ => true) true n 9 [e0] = some (xs[0]'(by omega)) := (hf 0 _ rfl).trans (List.getElem?_eq_getElem (by omega))
  obtain ⟨z0, K0, g0⟩ := toldA_str Try.underlying9 q0
  obtain ⟨rfl⟩ : e0 = _ := (List.cons.inj K0).1
  have q1 : DataW.trod enc Try.prog w 0 (fun _ => true) true n 31 [e1, e2, e3, e4] = some (xs[1]'(by omega)) := (hf 1 _ rfl).trans (List.getElem?_eq_getElem (by omega))
  obtain ⟨t, hE, hG, hT⟩ := open_term n _ _ q1
  refine ⟨⟨z0, t⟩, ⟨_, rfl, hE⟩, ⟨hG, g0⟩, fun c hc => ?_⟩
  rcases List.mem_cons.1 hc with rfl | hc
  · rfl
  · exact hT c hc
theorem open_binds {H : Type} {enc : TypeId × Value → H} {w : World} (fuel : Nat) (cs : List Value) (x : DataW H × List MemPlace) (h : DataW.trod enc Try.prog w 0 (fun _ => true) true fuel 22 cs = some x) :
    ∃ s, ∃ xs : List Bnd, cs = [s] ∧ Told w s ∧ Rw (absS w) xs (absV w.heap.size s) ∧ xs.length ≤ maxLen ∧ ∀ z ∈ xs, LensB z :=
  open_rowA (E := Kind.enc (α := Bnd) (absS w)) (G := LensB) (sz := 5) Try.underlying22 (by kernel_rfl) (by omega) h fun n_ cs_ y_ hn_ hy_ => open_bind n_ cs_ y_ hy_
end Go.Proofs.Ytopjbcfkaggleaa.AM
