-- Written by this session's own program (mp.py) for this claim.
import Derived.Test.YtghngiekkkeohaaF0
import Derived.Test.YtghngiekkkeohaaWOpen
namespace Go.Proofs.Ytghngiekkkeohaa.F
open Go.RowKit Go.Proofs.YtghngiekkkeohaaW.PrintWords Go.Proofs.YtghngiekkkeohaaW.PrintLast Go.Proofs.YtghngiekkkeohaaW.PrintMore
attribute [local go_sem] binOp_string_gtr_ binOp_string_geq_ binOp_string_leq_ max2_int min2_int max_two min_two max_three min_three max_four min_four   -- for this text's walks alone
set_option linter.unusedVariables false
set_option linter.unusedSimpArgs false


open Go.Proofs.YtghngiekkkeohaaW.PrintWords
inductive G24 : S24 → Prop
  | mk (x : S24) : ((Lit.int .i64 x.f0).wf = true) → ((Lit.int .i64 x.f1).wf = true) → (x.f2.size ≤ maxLen) → (x.f3.length ≤ maxLen) → (∀ y, y ∈ x.f3 → G24 y) → G24 x
theorem G24.open_ {x : S24} (h : G24 x) : ((Lit.int .i64 x.f0).wf = true) ∧ ((Lit.int .i64 x.f1).wf = true) ∧ (x.f2.size ≤ maxLen) ∧ (x.f3.length ≤ maxLen) ∧ (∀ y, y ∈ x.f3 → G24 y) := by
  cases h with
  | mk _ h0 h1 h2 h3 h4 => exact ⟨h0, h1, h2, h3, h4⟩
set_option maxRecDepth 100000 in
theorem open24 {H : Type} {enc : TypeId × Value → H} {w : World} {sp : Nat → Bool} : ∀ (fuel : Nat) (cs : List Value) (x : DataW H × List MemPlace), DataW.trod enc Try.prog w 0 sp true fuel 24 cs = some x → ∃ z, k24.K w z cs ∧ G24 z := by
  intro fuel
  induction fuel using Nat.strongRecOn with
  | _ fuel ih =>
  intro cs x h
  obtain ⟨xs, n, hfu, rfl, hl, hxl, hf⟩ := DataW.trod_struct Try.underlying24 h
  have hl : cs.length = 4 := hl.trans (by kernel_rfl)
  have hxl : xs.length = 4 := hxl
  obtain ⟨e0, r0, rfl, l0⟩ := list_S hl
  obtain ⟨e1, r1, rfl, l1⟩ := list_S l0
  obtain ⟨e2, r2, rfl, l2⟩ := list_S l1
  obtain ⟨e3, r3, rfl, l3⟩ := list_S l2
  obtain rfl := List.eq_nil_of_length_eq_zero l3
  have q0 : DataW.trod enc Try.prog w 0 sp true n 3 [e0] = some (xs[0]'(by omega)) := (hf 0 _ rfl).trans (List.getElem?_eq_getElem (by omega))
  obtain ⟨z0, K0, g0⟩ := Kd.open_int_ Try.underlying3 q0
  obtain ⟨rfl⟩ : e0 = _ := (List.cons.inj K0).1
  have q1 : DataW.trod enc Try.prog w 0 sp true n 3 [e1] = some (xs[1]'(by omega)) := (hf 1 _ rfl).trans (List.getElem?_eq_getElem (by omega))
  obtain ⟨z1, K1, g1⟩ := Kd.open_int_ Try.underlying3 q1
  obtain ⟨rfl⟩ : e1 = _ := (List.cons.inj K1).1
  have q2 : DataW.trod enc Try.prog w 0 sp true n 9 [e2] = some (xs[2]'(by omega)) := (hf 2 _ rfl).trans (List.getElem?_eq_getElem (by omega))
  obtain ⟨z2, K2, g2⟩ := Kd.open_string_ Try.underlying9 q2
  obtain ⟨rfl⟩ : e2 = _ := (List.cons.inj K2).1
  have q3 : DataW.trod enc Try.prog w 0 sp true n 22 [e3] = some (xs[3]'(by omega)) := (hf 3 _ rfl).trans (List.getElem?_eq_getElem (by omega))
  obtain ⟨A3, c3, z3, ec3, lc3, mc3, C3, g3⟩ := Kd.open_row (d := k24) (G := (fun y => G24 y)) Try.underlying22 (by kernel_rfl) q3 (fun n_ cs_ y_ hn_ hy_ => ih n_ (by omega) _ _ hy_)
  obtain ⟨rfl⟩ : e3 = _ := (List.cons.inj ec3).1
  exact ⟨(⟨z0, z1, z2, z3⟩ : S24), k24_mk w (⟨z0, z1, z2, z3⟩ : S24) lc3 C3, G24.mk _ g0 g1 g2 (Nat.le_trans lc3 mc3) g3⟩
def G33 (x : S33) : Prop := ((Lit.int .i64 x.f0).wf = true) ∧ (G24 x.f1) ∧ (G24 x.f2)
set_option maxRecDepth 100000 in
theorem open33 {H : Type} {enc : TypeId × Value → H} {w : World} {sp : Nat → Bool} : ∀ (fuel : Nat) (cs : List Value) (x : DataW H × List MemPlace), DataW.trod enc Try.prog w 0 sp true fuel 33 cs = some x → ∃ z, k33.K w z cs ∧ G33 z := by
  intro fuel cs x h
  obtain ⟨xs, n, hfu, rfl, hl, hxl, hf⟩ := DataW.trod_struct Try.underlying33 h
  have hl : cs.length = 9 := hl.trans (by kernel_rfl)
  have hxl : xs.length = 3 := hxl
  obtain ⟨e0, r0, rfl, l0⟩ := list_S hl
  obtain ⟨e1, r1, rfl, l1⟩ := list_S l0
  obtain ⟨e2, r2, rfl, l2⟩ := list_S l1
  obtain ⟨e3, r3, rfl, l3⟩ := list_S l2
  obtain ⟨e4, r4, rfl, l4⟩ := list_S l3
  obtain ⟨e5, r5, rfl, l5⟩ := list_S l4
  obtain ⟨e6, r6, rfl, l6⟩ := list_S l5
  obtain ⟨e7, r7, rfl, l7⟩ := list_S l6
  obtain ⟨e8, r8, rfl, l8⟩ := list_S l7
  obtain rfl := List.eq_nil_of_length_eq_zero l8
  have q0 : DataW.trod enc Try.prog w 0 sp true n 3 [e0] = some (xs[0]'(by omega)) := (hf 0 _ rfl).trans (List.getElem?_eq_getElem (by omega))
  obtain ⟨z0, K0, g0⟩ := Kd.open_int_ Try.underlying3 q0
  obtain ⟨rfl⟩ : e0 = _ := (List.cons.inj K0).1
  have q1 : DataW.trod enc Try.prog w 0 sp true n 24 [e1, e2, e3, e4] = some (xs[1]'(by omega)) := (hf 1 _ rfl).trans (List.getElem?_eq_getElem (by omega))
  obtain ⟨z1, K1, g1⟩ := open24 _ _ _ q1
  have q2 : DataW.trod enc Try.prog w 0 sp true n 24 [e5, e6, e7, e8] = some (xs[2]'(by omega)) := (hf 2 _ rfl).trans (List.getElem?_eq_getElem (by omega))
  obtain ⟨z2, K2, g2⟩ := open24 _ _ _ q2
  obtain ⟨B1_3, b1_3, ek1, lb1_3, Cb1_3⟩ := k24_open K1
  simp only [List.cons.injEq, and_true] at ek1
  obtain ⟨rfl, rfl, rfl, rfl⟩ := ek1
  obtain ⟨B2_3, b2_3, ek2, lb2_3, Cb2_3⟩ := k24_open K2
  simp only [List.cons.injEq, and_true] at ek2
  obtain ⟨rfl, rfl, rfl, rfl⟩ := ek2
  exact ⟨(⟨z0, z1, z2⟩ : S33), k33_mk w (⟨z0, z1, z2⟩ : S33) lb1_3 Cb1_3 lb2_3 Cb2_3, ⟨g0, g1, g2⟩⟩
end Go.Proofs.Ytghngiekkkeohaa.F
