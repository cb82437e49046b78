/- The facts of this program's types, for the walks. -/
import Derived.Test.YtojpgicdhflhpaaA17
import Derived.Test.YtojpgicdhflhpaaProg
namespace Go.Proofs.Ytojpgicdhflhpaa.AM
open Go Go.Proofs
theorem mixed : Try.prog.follows .mixedOrders = true := by kernel_rfl
theorem ag22 : aggA Try.prog 22 = some false := by kernel_rfl
theorem ag3 : aggA Try.prog 3 = some false := by kernel_rfl
theorem ag5 : aggA Try.prog 5 = some false := by kernel_rfl
theorem ag62 : aggA Try.prog 62 = some false := by kernel_rfl
theorem ag9 : aggA Try.prog 9 = some false := by kernel_rfl
theorem bu42 : buildA Try.prog 42 = some ([.slice none 0 0, .int .i64 0, .int .i64 0], #[(0, 1), (1, 1), (2, 1)]) := by kernel_rfl
theorem by9 : bytA Try.prog 9 = some 16 := by kernel_rfl
theorem el22 : elemA Try.prog 22 = some 5 := by kernel_rfl
theorem el24 : elemA Try.prog 24 = some 9 := by kernel_rfl
theorem of42_0 : offA Try.prog 42 0 = some 0 := by kernel_rfl
theorem of42_1 : offA Try.prog 42 1 = some 1 := by kernel_rfl
theorem of42_2 : offA Try.prog 42 2 = some 2 := by kernel_rfl
theorem ro9_0 : rowA Try.prog 9 0 = some [] := by kernel_rfl
theorem ro9_1 : rowA Try.prog 9 1 = some [.string ⟨#[]⟩] := by kernel_rfl
theorem ro9_14 : rowA Try.prog 9 14 = some [.string ⟨#[]⟩, .string ⟨#[]⟩, .string ⟨#[]⟩, .string ⟨#[]⟩, .string ⟨#[]⟩, .string ⟨#[]⟩, .string ⟨#[]⟩, .string ⟨#[]⟩, .string ⟨#[]⟩, .string ⟨#[]⟩, .string ⟨#[]⟩, .string ⟨#[]⟩, .string ⟨#[]⟩, .string ⟨#[]⟩] := by kernel_rfl
theorem sz22 : szA Try.prog 22 = some 1 := by kernel_rfl
theorem sz3 : szA Try.prog 3 = some 1 := by kernel_rfl
theorem sz5 : szA Try.prog 5 = some 1 := by kernel_rfl
theorem sz62 : szA Try.prog 62 = some 1 := by kernel_rfl
theorem sz9 : szA Try.prog 9 = some 1 := by kernel_rfl
theorem ze3 : zeroA Try.prog 3 = some [.int .i64 0] := by kernel_rfl
theorem ze62 : zeroA Try.prog 62 = some [.int .u64 0] := by kernel_rfl
theorem ze9 : zeroA Try.prog 9 = some [.string ⟨#[]⟩] := by kernel_rfl
end Go.Proofs.Ytojpgicdhflhpaa.AM
