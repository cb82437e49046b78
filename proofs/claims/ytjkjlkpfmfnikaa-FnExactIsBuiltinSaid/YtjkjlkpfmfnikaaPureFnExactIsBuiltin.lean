import Derived.Test.YtjkjlkpfmfnikaaPuBase
import Derived.Test.YtjkjlkpfmfnikaaFO
import Derived.Test.YtjkjlkpfmfnikaaFlawsFnExactIsBuiltin
namespace Go.Proofs.Ytjkjlkpfmfnikaa.Pure
open Go.RowKit Go.Proofs.Ytjkjlkpfmfnikaa.F Go.Proofs.Ytjkjlkpfmfnikaa.Pu Go.Proofs.YtjkjlkpfmfnikaaW.PrintWords Go.Proofs.YtjkjlkpfmfnikaaW.PrintLast

theorem FnExactIsBuiltin : ∀ (a0 : ByteArray), (a0.size ≤ maxLen) → laws_FnExactIsBuiltin.f a0 = some true := by
  intro a h
  have e : spec_IsBuiltin.f a = impl_IsBuiltin.f a := rfl
  unfold laws_FnExactIsBuiltin.f
  split
  · rfl
  · rw [e]
    obtain ⟨b, hb⟩ : ∃ b, impl_IsBuiltin.f a = some b := by
      unfold impl_IsBuiltin.f
      split
      · exact ⟨_, rfl⟩
      · split
        · exact ⟨_, rfl⟩
        · exact ⟨_, rfl⟩
    rw [hb]
    simp

end Go.Proofs.Ytjkjlkpfmfnikaa.Pure
