-- Written by this session's own program (mp.py) for this claim.
import Derived.Test.YtjkjlkpfmfnikaaF0
namespace Go.Proofs.Ytjkjlkpfmfnikaa.F
open Go.RowKit Go.Proofs.YtjkjlkpfmfnikaaW.PrintWords Go.Proofs.YtjkjlkpfmfnikaaW.PrintLast Go.Proofs.YtjkjlkpfmfnikaaW.PrintMore
attribute [local go_sem] binOp_string_gtr_ binOp_string_geq_ binOp_string_leq_ max2_int min2_int max_two min_two max_three min_three max_four min_four   -- for this text's walks alone
set_option linter.unusedVariables false
set_option linter.unusedSimpArgs false

/-! ### cmp_isNaN_string: function 68 -/
def cmp_isNaN_string.f (a0 : ByteArray) : Option (Bool) := some (a0.toList != a0.toList)
set_option maxHeartbeats 8000000 in
set_option maxRecDepth 100000 in
theorem cmp_isNaN_string.calls (a0 : ByteArray) (r : Bool) (w : World) (h : cmp_isNaN_string.f a0 = some r) :
    Calls Try.prog 68 #[.string a0] w fun e w' => e = .returned (.bool r) ∧ Drawn0 w w' := by
  have H : (some (a0.toList != a0.toList)) = some r := h
  clear h
  obtain rfl := Option.some.inj H
  go_enter Try.func68, Try.ntmps68
  go_wp2
  go_ret
  exact ⟨by first | rfl | (simp; done) | (simp [*]; done), by repeat (first | exact Drawn0.refl _ | apply Drawn0.step)⟩

end Go.Proofs.Ytjkjlkpfmfnikaa.F
