-- Written by this session's own program (mp.py) for this claim.
import Derived.Test.YtghngiekkkeohaaF0
import Derived.Test.YtghngiekkkeohaaShelf
import Derived.Test.YtghngiekkkeohaaWJoin
namespace Go.Proofs.Ytghngiekkkeohaa.F
open Go.RowKit Go.Proofs.YtghngiekkkeohaaW.PrintWords Go.Proofs.YtghngiekkkeohaaW.PrintLast Go.Proofs.YtghngiekkkeohaaW.PrintMore
attribute [local go_sem] binOp_string_gtr_ binOp_string_geq_ binOp_string_leq_ max2_int min2_int max_two min_two max_three min_three max_four min_four   -- for this text's walks alone
set_option linter.unusedVariables false
set_option linter.unusedSimpArgs false

/-! ### strings_Join: function 64 -/
-- IMPORT Shelf
-- IMPORT WJoin
def strings_Join.f (l0 : List ByteArray) (a1 : ByteArray) : Option (ByteArray) := if l0.length ≤ 140737488355328 ∧ (joinB l0 a1).size ≤ 140737488355328 then some (joinB l0 a1) else none
theorem strings_Join.calls (A0 : Option Addr) (c0 : Nat) (l0 : List ByteArray) (a1 : ByteArray) (r : ByteArray) (w : World) (hr0 : Kd.C Kd.string w A0 l0.length l0) (hc0 : l0.length ≤ c0) (h : strings_Join.f l0 a1 = some r) :
    Calls Try.prog 64 #[.slice A0 l0.length c0, .string a1] w fun e w' => e = .returned (.string r) ∧ Below w.heap.size w w' := by
  unfold strings_Join.f at h
  by_cases hlen : l0.length ≤ 140737488355328 ∧ (joinB l0 a1).size ≤ 140737488355328
  · rw [if_pos hlen] at h
    obtain rfl := Option.some.inj h
    rcases Nat.eq_zero_or_pos l0.length with hz | hp
    · have hl : l0 = [] := List.eq_nil_of_length_eq_zero hz
      subst hl
      refine (Try.strings_Join_none A0 c0 a1 w).mono fun e w' ⟨he, hw⟩ => ?_
      subst hw
      exact ⟨he, Below.refl _ _⟩
    · obtain ⟨bk, o, rfl, hb, hc⟩ := Kd.C_cells hr0 hp
      refine (Try.strings_Join bk o c0 l0 a1 w hc hb hlen.1 hc0 ?_).mono fun e w' h => h
      have := hlen.2
      unfold joinB at this
      simpa [ByteArray.size] using this
  · rw [if_neg hlen] at h
    cases h

end Go.Proofs.Ytghngiekkkeohaa.F
