-- Written by this session's own program (mp.py) for this claim.
import Derived.Test.YtdgjddkibiffnaaF0
import Derived.Test.YtdgjddkibiffnaaWOpen
namespace Go.Proofs.Ytdgjddkibiffnaa.F
open Go.RowKit Go.Proofs.YtdgjddkibiffnaaW.PrintWords Go.Proofs.YtdgjddkibiffnaaW.PrintLast Go.Proofs.YtdgjddkibiffnaaW.PrintMore
attribute [local go_sem] binOp_string_gtr_ binOp_string_geq_ binOp_string_leq_ max2_int min2_int max_two min_two max_three min_three max_four min_four   -- for this text's walks alone
set_option linter.unusedVariables false
set_option linter.unusedSimpArgs false


open Go.Proofs.YtdgjddkibiffnaaW.PrintWords
def G140 (x : S140) : Prop := (x.f0.size ≤ maxLen) ∧ (x.f1.length ≤ maxLen) ∧ (∀ y, y ∈ x.f1 → y.size ≤ maxLen) ∧ (x.f2.size ≤ maxLen)
set_option maxRecDepth 100000 in
theorem open140 {H : Type} {enc : TypeId × Value → H} {w : World} {sp : Nat → Bool} : ∀ (fuel : Nat) (cs : List Value) (x : DataW H × List MemPlace), DataW.trod enc Try.prog w 0 sp true fuel 140 cs = some x → ∃ z, k140.K w z cs ∧ G140 z := by
  intro fuel cs x h
  obtain ⟨xs, n, hfu, rfl, hl, hxl, hf⟩ := DataW.trod_struct Try.underlying140 h
  have hl : cs.length = 3 := hl.trans (by kernel_rfl)
  have hxl : xs.length = 3 := hxl
  obtain ⟨e0, r0, rfl, l0⟩ := list_S hl
  obtain ⟨e1, r1, rfl, l1⟩ := list_S l0
  obtain ⟨e2, r2, rfl, l2⟩ := list_S l1
  obtain rfl := List.eq_nil_of_length_eq_zero l2
  have q0 : DataW.trod enc Try.prog w 0 sp true n 9 [e0] = some (xs[0]'(by omega)) := (hf 0 _ rfl).trans (List.getElem?_eq_getElem (by omega))
  obtain ⟨z0, K0, g0⟩ := Kd.open_string_ Try.underlying9 q0
  obtain ⟨rfl⟩ : e0 = _ := (List.cons.inj K0).1
  have q1 : DataW.trod enc Try.prog w 0 sp true n 63 [e1] = some (xs[1]'(by omega)) := (hf 1 _ rfl).trans (List.getElem?_eq_getElem (by omega))
  obtain ⟨A1, c1, z1, ec1, lc1, mc1, C1, g1⟩ := Kd.open_row (d := Kd.string) (G := (fun y => y.size ≤ maxLen)) Try.underlying63 (by kernel_rfl) q1 (fun n_ cs_ y_ hn_ hy_ => Kd.open_string_ Try.underlying9 hy_)
  obtain ⟨rfl⟩ : e1 = _ := (List.cons.inj ec1).1
  have q2 : DataW.trod enc Try.prog w 0 sp true n 9 [e2] = some (xs[2]'(by omega)) := (hf 2 _ rfl).trans (List.getElem?_eq_getElem (by omega))
  obtain ⟨z2, K2, g2⟩ := Kd.open_string_ Try.underlying9 q2
  obtain ⟨rfl⟩ : e2 = _ := (List.cons.inj K2).1
  exact ⟨(⟨z0, z1, z2⟩ : S140), k140_mk w (⟨z0, z1, z2⟩ : S140) lc1 C1, ⟨g0, (Nat.le_trans lc1 mc1), g1, g2⟩⟩
def G66 (x : S66) : Prop := (x.f0.length ≤ maxLen) ∧ (∀ y, y ∈ x.f0 → y.size ≤ maxLen) ∧ (x.f1.length ≤ maxLen) ∧ (∀ y, y ∈ x.f1 → G140 y)
set_option maxRecDepth 100000 in
theorem open66 {H : Type} {enc : TypeId × Value → H} {w : World} {sp : Nat → Bool} : ∀ (fuel : Nat) (cs : List Value) (x : DataW H × List MemPlace), DataW.trod enc Try.prog w 0 sp true fuel 66 cs = some x → ∃ z, k66.K w z cs ∧ G66 z := by
  intro fuel cs x h
  obtain ⟨xs, n, hfu, rfl, hl, hxl, hf⟩ := DataW.trod_struct Try.underlying66 h
  have hl : cs.length = 2 := hl.trans (by kernel_rfl)
  have hxl : xs.length = 2 := hxl
  obtain ⟨e0, r0, rfl, l0⟩ := list_S hl
  obtain ⟨e1, r1, rfl, l1⟩ := list_S l0
  obtain rfl := List.eq_nil_of_length_eq_zero l1
  have q0 : DataW.trod enc Try.prog w 0 sp true n 63 [e0] = some (xs[0]'(by omega)) := (hf 0 _ rfl).trans (List.getElem?_eq_getElem (by omega))
  obtain ⟨A0, c0, z0, ec0, lc0, mc0, C0, g0⟩ := Kd.open_row (d := Kd.string) (G := (fun y => y.size ≤ maxLen)) Try.underlying63 (by kernel_rfl) q0 (fun n_ cs_ y_ hn_ hy_ => Kd.open_string_ Try.underlying9 hy_)
  obtain ⟨rfl⟩ : e0 = _ := (List.cons.inj ec0).1
  have q1 : DataW.trod enc Try.prog w 0 sp true n 64 [e1] = some (xs[1]'(by omega)) := (hf 1 _ rfl).trans (List.getElem?_eq_getElem (by omega))
  obtain ⟨A1, c1, z1, ec1, lc1, mc1, C1, g1⟩ := Kd.open_row (d := k140) (G := (fun y => G140 y)) Try.underlying64 (by kernel_rfl) q1 (fun n_ cs_ y_ hn_ hy_ => open140 _ _ _ hy_)
  obtain ⟨rfl⟩ : e1 = _ := (List.cons.inj ec1).1
  exact ⟨(⟨z0, z1⟩ : S66), k66_mk w (⟨z0, z1⟩ : S66) lc0 C0 lc1 C1, ⟨(Nat.le_trans lc0 mc0), g0, (Nat.le_trans lc1 mc1), g1⟩⟩
inductive G24 : S24 → Prop
  | mk (x : S24) : ((Lit.int .i64 x.f0).wf = true) → ((Lit.int .i64 x.f1).wf = true) → (x.f2.size ≤ maxLen) → (x.f3.length ≤ maxLen) → (∀ y, y ∈ x.f3 → G24 y) → G24 x
theorem G24.open_ {x : S24} (h : G24 x) : ((Lit.int .i64 x.f0).wf = true) ∧ ((Lit.int .i64 x.f1).wf = true) ∧ (x.f2.size ≤ maxLen) ∧ (x.f3.length ≤ maxLen) ∧ (∀ y, y ∈ x.f3 → G24 y) := by
  cases h with
  | mk _ h0 h1 h2 h3 h4 => exact ⟨h0, h1, h2, h3, h4⟩
set_option maxRecDepth 100000 in
theorem open24 {H : Type} {enc : TypeId × Value → H} {w : World} {sp : Nat → Bool} : ∀ (fuel : Nat) (cs : List Value) (x : DataW H × List MemPlace), DataW.trod enc Try.prog w 0 sp true fuel 24 cs = some x → ∃ z, k24.K w z cs ∧ G24 z := by
  intro fuel
  induction fuel using Nat.strongRecOn with
  | _ fuel ih =>
  intro cs x h
  obtain ⟨xs, n, hfu, rfl, hl, hxl, hf⟩ := DataW.trod_struct Try.underlying24 h
  have hl : cs.length = 4 := hl.trans (by kernel_rfl)
  have hxl : xs.length = 4 := hxl
  obtain ⟨e0, r0, rfl, l0⟩ := list_S hl
  obtain ⟨e1, r1, rfl, l1⟩ := list_S l0
  obtain ⟨e2, r2, rfl, l2⟩ := list_S l1
  obtain ⟨e3, r3, rfl, l3⟩ := list_S l2
  obtain rfl := List.eq_nil_of_length_eq_zero l3
  have q0 : DataW.trod enc Try.prog w 0 sp true n 3 [e0] = some (xs[0]'(by omega)) := (hf 0 _ rfl).trans (List.getElem?_eq_getElem (by omega))
  obtain ⟨z0, K0, g0⟩ := Kd.open_int_ Try.underlying3 q0
  obtain ⟨rfl⟩ : e0 = _ := (List.cons.inj K0).1
  have q1 : DataW.trod enc Try.prog w 0 sp true n 3 [e1] = some (xs[1]'(by omega)) := (hf 1 _ rfl).trans (List.getElem?_eq_getElem (by omega))
  obtain ⟨z1, K1, g1⟩ := Kd.open_int_ Try.underlying3 q1
  obtain ⟨rfl⟩ : e1 = _ := (List.cons.inj K1).1
  have q2 : DataW.trod enc Try.prog w 0 sp true n 9 [e2] = some (xs[2]'(by omega)) := (hf 2 _ rfl).trans (List.getElem?_eq_getElem (by omega))
  obtain ⟨z2, K2, g2⟩ := Kd.open_string_ Try.underlying9 q2
  obtain ⟨rfl⟩ : e2 = _ := (List.cons.inj K2).1
  have q3 : DataW.trod enc Try.prog w 0 sp true n 22 [e3] = some (xs[3]'(by omega)) := (hf 3 _ rfl).trans (List.getElem?_eq_getElem (by omega))
  obtain ⟨A3, c3, z3, ec3, lc3, mc3, C3, g3⟩ := Kd.open_row (d := k24) (G := (fun y => G24 y)) Try.underlying22 (by kernel_rfl) q3 (fun n_ cs_ y_ hn_ hy_ => ih n_ (by omega) _ _ hy_)
  obtain ⟨rfl⟩ : e3 = _ := (List.cons.inj ec3).1
  exact ⟨(⟨z0, z1, z2, z3⟩ : S24), k24_mk w (⟨z0, z1, z2, z3⟩ : S24) lc3 C3, G24.mk _ g0 g1 g2 (Nat.le_trans lc3 mc3) g3⟩
def G113 (x : S113) : Prop := (x.f0.size ≤ maxLen) ∧ (x.f1.size ≤ maxLen)
set_option maxRecDepth 100000 in
theorem open113 {H : Type} {enc : TypeId × Value → H} {w : World} {sp : Nat → Bool} : ∀ (fuel : Nat) (cs : List Value) (x : DataW H × List MemPlace), DataW.trod enc Try.prog w 0 sp true fuel 113 cs = some x → ∃ z, k113.K w z cs ∧ G113 z := by
  intro fuel cs x h
  obtain ⟨xs, n, hfu, rfl, hl, hxl, hf⟩ := DataW.trod_struct Try.underlying113 h
  have hl : cs.length = 2 := hl.trans (by kernel_rfl)
  have hxl : xs.length = 2 := hxl
  obtain ⟨e0, r0, rfl, l0⟩ := list_S hl
  obtain ⟨e1, r1, rfl, l1⟩ := list_S l0
  obtain rfl := List.eq_nil_of_length_eq_zero l1
  have q0 : DataW.trod enc Try.prog w 0 sp true n 9 [e0] = some (xs[0]'(by omega)) := (hf 0 _ rfl).trans (List.getElem?_eq_getElem (by omega))
  obtain ⟨z0, K0, g0⟩ := Kd.open_string_ Try.underlying9 q0
  obtain ⟨rfl⟩ : e0 = _ := (List.cons.inj K0).1
  have q1 : DataW.trod enc Try.prog w 0 sp true n 9 [e1] = some (xs[1]'(by omega)) := (hf 1 _ rfl).trans (List.getElem?_eq_getElem (by omega))
  obtain ⟨z1, K1, g1⟩ := Kd.open_string_ Try.underlying9 q1
  obtain ⟨rfl⟩ : e1 = _ := (List.cons.inj K1).1
  exact ⟨(⟨z0, z1⟩ : S113), k113_mk w (⟨z0, z1⟩ : S113) , ⟨g0, g1⟩⟩
end Go.Proofs.Ytdgjddkibiffnaa.F
