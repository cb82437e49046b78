-- Written by this session's own program (mp.py) for this claim.
import Derived.Test.YtghngiekkkeohaaRows
import Derived.Test.YtghngiekkkeohaaFlawsFnExactEqualGuard
import Derived.Test.YtghngiekkkeohaaFO
import Derived.Test.YtghngiekkkeohaaPureFnExactEqualGuard
import Derived.WalkKit
import Derived.ProofKit
import Derived.OpenShut
import Derived.ShutString
import Derived.ChangeOld
import Derived.Below
import Derived.SizedLaws
namespace Go.Proofs.Ytghngiekkkeohaa.fnExactEqualGuard
open Go.ChangeShapes Go.WideShapes Go.ChangeAt Go.RowKit Go.Proofs.Ytghngiekkkeohaa.F Go.Proofs.YtghngiekkkeohaaW.PrintWords
open Go.ChangeMaps (open_string shut_string)
set_option linter.unusedVariables false
set_option linter.unusedSimpArgs false
theorem own : ownKnob Try.prog.godebug = none := by kernel_rfl
theorem laidOut : laidOutB Try.prog = true := by kernel_rfl
set_option maxRecDepth 100000 in
theorem lifted (os : Os) (started : os.Started) (H : Type) (enc : TypeId × Value → H) :
    ReturnsInHanded {} Try.checked os 4 .any (Rows.fnExactEqualGuardSpec.pre6 enc Try.prog Try.f4 Rows.fnExactEqualGuardRow.domain false) (Rows.fnExactEqualGuardSpec.post enc Try.prog Try.f4 false true false false) := by
  refine returnsInHanded_of_change_sized (C := Try.checked) own started (by kernel_rfl) Try.func4
    (ChangeSpec.witness6 (enc := enc) (C := Try.checked) false ⟨#[], #[.agg #[.int .i64 0, .int .i64 0, .int .i64 0, .string ByteArray.empty, .slice none 0 0, .int .i64 0, .int .i64 0, .string ByteArray.empty, .slice none 0 0], .agg #[.int .i64 0, .int .i64 0, .int .i64 0, .string ByteArray.empty, .slice none 0 0, .int .i64 0, .int .i64 0, .string ByteArray.empty, .slice none 0 0]], []⟩ 8 (by kernel_rfl) (by kernel_rfl) (by kernel_rfl) (by kernel_rfl)) ?_
  intro W base args ds gs before hval0 hW hcnd hsz0 _
  have hsz : (DataW.weightsEach Try.prog (Try.f4.params.toList ++ Rows.fnExactEqualGuardSpec.plain.varTypes Try.prog) (ds ++ gs)).all (· ≤ reachBytes) = true := hsz0
  have hval : ∀ (j : Nat) t v, Try.f4.params[j]? = some t → args[j]? = some v → Value.okWide Try.prog W .any base t v := hval0
  have hW' := hW
  obtain ⟨p, q, hA0, hV, rfl, hfz, hnd⟩ := hW
  have hA : DataW.TrodAll enc Try.prog W 0 (fun _ => true) true Try.f4.params.toList args.toList ds p := hA0
  rw [Try.params4] at hA hval hsz
  obtain ⟨v0, vs0, d0, ds0, p0, q0, hargs, rfl, rfl, h0, r0⟩ := trodAll_cons hA
  obtain ⟨v1, vs1, d1, ds1, p1, q1, rfl, rfl, rfl, h1, r1⟩ := trodAll_cons r0
  obtain ⟨rfl, rfl, rfl⟩ := trodAll_nil r1
  obtain rfl : args = #[v0, v1] := by cases args; simp_all
  obtain ⟨rfl, rfl⟩ := trodVars_none hV
  have k0 := h0
  have lt0 : ∀ x ∈ p0, x.block < W.heap.size := by obtain ⟨m, hm⟩ := k0; exact DataW.trod_lt m _ _ _ hm
  obtain ⟨cs0, rfl, hs0⟩ := okWide_struct Try.underlying33 (hval 0 33 v0 rfl rfl)
  obtain ⟨fuel0, hf0⟩ := h0
  obtain ⟨z0, K0, g0⟩ := open33 fuel0 _ _ hf0
  obtain ⟨A0_4, c0_4, A0_8, c0_8, ek0, l0_4, C0_4, l0_8, C0_8⟩ := k33_open K0
  obtain rfl : cs0 = #[.int .i64 z0.f0, .int .i64 z0.f1.f0, .int .i64 z0.f1.f1, .string z0.f1.f2, .slice A0_4 z0.f1.f3.length c0_4, .int .i64 z0.f2.f0, .int .i64 z0.f2.f1, .string z0.f2.f2, .slice A0_8 z0.f2.f3.length c0_8] := Array.toList_inj.1 ek0
  have k1 := h1
  have lt1 : ∀ x ∈ p1, x.block < W.heap.size := by obtain ⟨m, hm⟩ := k1; exact DataW.trod_lt m _ _ _ hm
  obtain ⟨cs1, rfl, hs1⟩ := okWide_struct Try.underlying33 (hval 1 33 v1 rfl rfl)
  obtain ⟨fuel1, hf1⟩ := h1
  obtain ⟨z1, K1, g1⟩ := open33 fuel1 _ _ hf1
  obtain ⟨A1_4, c1_4, A1_8, c1_8, ek1, l1_4, C1_4, l1_8, C1_8⟩ := k33_open K1
  obtain rfl : cs1 = #[.int .i64 z1.f0, .int .i64 z1.f1.f0, .int .i64 z1.f1.f1, .string z1.f1.f2, .slice A1_4 z1.f1.f3.length c1_4, .int .i64 z1.f2.f0, .int .i64 z1.f2.f1, .string z1.f2.f2, .slice A1_8 z1.f2.f3.length c1_8] := Array.toList_inj.1 ek1
  obtain ⟨k, h⟩ := Pure.FnExactEqualGuard z0 z1 g0 g1
  clear hA0 hval0 hsz0 hsz
  refine (laws_FnExactEqualGuard.calls k z0.f0 z0.f1.f0 z0.f1.f1 z0.f1.f2 _ _ z0.f1.f3 z0.f2.f0 z0.f2.f1 z0.f2.f2 _ _ z0.f2.f3 z1.f0 z1.f1.f0 z1.f1.f1 z1.f1.f2 _ _ z1.f1.f3 z1.f2.f0 z1.f2.f1 z1.f2.f2 _ _ z1.f2.f3 W C0_4 l0_4 C0_8 l0_8 C1_4 l1_4 C1_8 l1_8 h).mono fun e W' ⟨he, bel0⟩ => ?_
  have bel : Below W.heap.size W W' := bel0
  subst he
  exact ⟨_, rfl, _, _, _, [], _, [], hW', trodAll_mk1 (shut_bool Try.underlying4 _), (trodAll_cons_mk (Below.trod laidOut (by kernel_rfl) (of_decide_eq_true (by kernel_rfl)) k0 bel lt0) (trodAll_cons_mk (Below.trod laidOut (by kernel_rfl) (of_decide_eq_true (by kernel_rfl)) k1 bel lt1) trodAll_mk0)), rfl, bel.frame _, fun h => by cases h⟩
theorem over : Rows.fnExactEqualGuardRow.holds Try.pinned (OpenSpec.ofChange Rows.fnExactEqualGuardSpec) :=
  OpenClaim.holds_of_wide 4 Try.f4 rfl rfl rfl rfl rfl rfl rfl ⟨rfl, rfl, rfl, rfl, rfl⟩ rfl rfl rfl rfl rfl (by kernel_rfl) Try.func4 (by kernel_rfl)
    (of_decide_eq_true (by kernel_rfl)) (by unfold Func.isWrapper; first | (rw [if_pos (by decide +kernel)]; kernel_rfl) | (rw [if_neg (by decide +kernel)]; exact ⟨rfl, rfl⟩))
    (fun os started H enc _ => lifted os started H enc)
theorem proved : Rows.FnExactEqualGuardSaid := over
#print axioms proved
end Go.Proofs.Ytghngiekkkeohaa.fnExactEqualGuard
namespace Go.Proofs.Ytghngiekkkeohaa
/-- The row, under a short name, for the claim. -/
theorem fnExactEqualGuard_holds : Rows.FnExactEqualGuardSaid := fnExactEqualGuard.proved
end Go.Proofs.Ytghngiekkkeohaa
