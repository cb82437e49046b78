/- Arguments: guards. -/
import Derived.Test.YtignnikajjjdpaaE1
import Derived.Test.YtignnikajjjdpaaK6
namespace Go.Proofs.Ytignnikajjjdpaa.AM
open Go Go.Proofs
set_option linter.unusedVariables false
set_option maxRecDepth 100000 in
theorem open_guard {H : Type} {enc : TypeId × Value → H} {w : World} (fuel : Nat) (cs : List Value) (x : DataW H × List MemPlace) (h : DataW.trod enc Try.prog w 0 (fun _ => true) true fuel 26 cs = some x) :
    ∃ g : Grd, EncG (absS w) g (cs.map (absV w.heap.size)) ∧ LensG g ∧ ∀ c ∈ cs, Told w c := by
  obtain ⟨xs, n, hfu, rfl, hl, hxl, hf⟩ := DataW.trod_struct Try.underlying26 h
  have hl : cs.length = 9 := hl.trans (by kernel_rfl)
  have hxl : xs.length = 3 := hxl
  obtain ⟨e0, r0, rfl, l0⟩ := list_S hl
  obtain ⟨e1, r1, rfl, l1⟩ := list_S l0
  obtain ⟨e2, r2, rfl, l2⟩ := list_S l1
  obtain ⟨e3, r3, rfl, l3⟩ := list_S l2
  obtain ⟨e4, r4, rfl, l4⟩ := list_S l3
  obtain ⟨e5, r5, rfl, l5⟩ := list_S l4
  obtain ⟨e6, r6, rfl, l6⟩ := list_S l5
  obtain ⟨e7, r7, rfl, l7⟩ := list_S l6
  obtain ⟨e8, r8, rfl, l8⟩ := list_S l7
  obtain rfl := List.eq_nil_of_length_eq_zero l8
  have q0 : DataW.trod enc Try.prog w 0 (fun _ => true) true n 3 [e0] = some (xs[0]'(by omega)) := (hf 0 _ rfl).trans (List.getElem?_eq_getElem (by omega))
  obtain ⟨z0, K0, g0⟩ := toldA_int Try.underlying3 q0
  obtain ⟨rfl⟩ : e0 = _ := (List.cons.inj K0).1
  have q1 : DataW.trod enc Try.prog w 0 (fun _ => true) true n 24 [e1, e2, e3, e4] = some (xs[1]'(by omega)) := (hf 1 _ rfl).trans (List.getElem?_eq_getElem (by omega))
  obtain ⟨t1, hE1, hG1, hT1⟩ := open_term n _ _ q1
  have q2 : DataW.trod enc Try.prog w 0 (fun _ => true) true n 24 [e5, e6, e7, e8] = some (xs[2]'(by omega)) := (hf 2 _ rfl).trans (List.getElem?_eq_getElem (by omega))
  obtain ⟨t2, hE2, hG2, hT2⟩ := open_term n _ _ q2
  refine ⟨⟨z0, t1, t2⟩, ⟨_, _, rfl, hE1, hE2⟩, ⟨hG1, hG2⟩, fun c hc => ?_⟩
  have hc : c = .int .i64 z0 ∨ c ∈ [e1, e2, e3, e4] ∨ c ∈ [e5, e6, e7, e8] := by
    simp only [List.mem_cons, List.not_mem_nil, or_false] at hc ⊢
    rcases hc with h | h | h | h | h | h | h | h | h <;> simp [h]
  rcases hc with rfl | hc | hc
  · rfl
  · exact hT1 c hc
  · exact hT2 c hc
end Go.Proofs.Ytignnikajjjdpaa.AM
