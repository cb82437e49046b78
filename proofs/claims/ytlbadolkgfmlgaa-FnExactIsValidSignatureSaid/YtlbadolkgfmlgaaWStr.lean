import Derived.Laws.Strings
import Derived.Test.YtlbadolkgfmlgaaWWords
/-! The order of strings, as the printed texts spell it. -/
namespace Go.Proofs.YtlbadolkgfmlgaaW.PrintWords
theorem bytesLess_turn : ∀ x y : List UInt8, (!(Op.bytesLess x y || x == y)) = Op.bytesLess y x
  | [], [] => by simp [Op.bytesLess]
  | _ :: _, [] => by simp [Op.bytesLess]
  | [], _ :: _ => by simp [Op.bytesLess]
  | a :: x, b :: y => by
    have ih := bytesLess_turn x y
    rw [Op.bytesLess, Op.bytesLess]
    by_cases h1 : a = b
    · subst h1
      have hn : ¬ a < a := by rw [UInt8.lt_iff_toNat_lt]; omega
      simp [hn, ← ih]
    · have hne : a.toNat ≠ b.toNat := fun e => h1 (UInt8.toNat_inj.1 e)
      have h2 : (b == a) = false := by simpa using fun e => h1 e.symm
      by_cases h3 : a < b
      · have h4 : ¬ b < a := by rw [UInt8.lt_iff_toNat_lt] at *; omega
        simp [h3, h4, h2]
      · have h4 : b < a := by rw [UInt8.lt_iff_toNat_lt] at *; omega
        simp [h1, h3, h4]
theorem binOp_string_gtr_ (t : TypeId) (a b : ByteArray) : binOp .gtr t (.string a) (.string b) = pure (.bool (Op.bytesLess b.toList a.toList)) := by
  simp only [binOp, Op.stringOp]
  rw [← bytesLess_turn a.toList b.toList]
theorem binOp_string_geq_ (t : TypeId) (a b : ByteArray) : binOp .geq t (.string a) (.string b) = pure (.bool (!(Op.bytesLess a.toList b.toList))) := by simp [binOp, Op.stringOp]
theorem binOp_string_leq_ (t : TypeId) (a b : ByteArray) : binOp .leq t (.string a) (.string b) = pure (.bool (!(Op.bytesLess b.toList a.toList))) := by
  simp only [binOp, Op.stringOp]
  rw [← bytesLess_turn a.toList b.toList]
  simp
end Go.Proofs.YtlbadolkgfmlgaaW.PrintWords
