-- Written by this session's own program (mp.py) for this claim.
import Derived.Test.YtdgjddkibiffnaaF0
import Derived.Test.YtdgjddkibiffnaaShelf
import Derived.Test.YtdgjddkibiffnaaWSort
namespace Go.Proofs.Ytdgjddkibiffnaa.F
open Go.RowKit Go.Proofs.YtdgjddkibiffnaaW.PrintWords Go.Proofs.YtdgjddkibiffnaaW.PrintLast Go.Proofs.YtdgjddkibiffnaaW.PrintMore
attribute [local go_sem] binOp_string_gtr_ binOp_string_geq_ binOp_string_leq_ max2_int min2_int max_two min_two max_three min_three max_four min_four   -- for this text's walks alone
set_option linter.unusedVariables false
set_option linter.unusedSimpArgs false

/-! ### slices_Sort_string_string: function 111 -/
-- IMPORT Shelf
-- IMPORT WSort
def slices_Sort_string_string.f (l0 : List ByteArray) : Option (List ByteArray) := if l0.length < 4611686018427387904 then some (sortB l0) else none
theorem slices_Sort_string_string.calls (P0_ : Nat → Prop) (u9000_ : Value) (l0 : List ByteArray) (r1 : List ByteArray) (w0 w : World) (hB : Below w0.heap.size w0 w) (ho0 : Kd.R Kd.string 9 w w0.heap.size P0_ u9000_ l0) (h : slices_Sort_string_string.f l0 = some r1) :
    Calls Try.prog 111 #[u9000_] w fun e w' => e = .returned (.tuple #[]) ∧ Kd.R Kd.string 9 w' w0.heap.size (fun k_ => (P0_ k_ ∨ w.heap.size ≤ k_)) u9000_ r1 ∧ Below w0.heap.size w0 w' ∧ Kept w w' (fun k_ => P0_ k_) := by
  unfold slices_Sort_string_string.f at h
  by_cases hlen : l0.length < 4611686018427387904
  · rw [if_pos hlen] at h
    obtain rfl := Option.some.inj h
    rcases Nat.eq_zero_or_pos l0.length with hz | hp
    · have hl : l0 = [] := List.eq_nil_of_length_eq_zero hz
      subst hl
      obtain ⟨A0, c0, rfl⟩ := Kd.R_slice ho0
      refine (Try.slices_Sort_string_none A0 c0 w).mono fun e w' ⟨he, hw⟩ => ?_
      subst hw
      exact ⟨he, Kd.R_mono (by simpa [sortB, chs, unchs] using ho0) (fun k_ hk => .inl hk), hB, Kept.refl _ _⟩
    · obtain ⟨g, cap, rfl, hb, hlt, _⟩ := Kd.R_form ho0 hp
      have hs := Try.slices_Sort_string g 0 cap (chs l0) w (holds_of_R ho0) hlt (by rw [chs_length]; exact hlen)
      rw [chs_length] at hs
      refine hs.mono fun e w' ⟨he, q, os, hw⟩ => ?_
      have hok : P0_ g := ho0.1 g rfl
      have hg := put_grown w g q ((chs l0).mergeSort fun x y => decide (x ≤ y)).toArray os
      rw [← hw] at hg
      have hR := R_put_row (q := q) ((chs l0).mergeSort fun x y => decide (x ≤ y)) [] os ho0 (by simp [List.length_mergeSort, chs_length]) hok
      rw [List.append_nil, ← hw] at hR
      have hl := sortB_length l0
      refine ⟨he, Kd.R_mono (ok := P0_) ?_ (fun k_ hk => .inl hk), hB.grown hg hB.size (fun k e => by injection e with e; omega), Kept.of_grown hg (Kept.refl _ _) (fun k e => .inl (by injection e with e; subst e; exact hok))⟩
      rw [← hl]
      exact hR
  · rw [if_neg hlen] at h
    cases h

end Go.Proofs.Ytdgjddkibiffnaa.F
