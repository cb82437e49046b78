/- The facts of this program's types, for the walks. -/
import Derived.Test.YtefnmpbkfalpoaaA17
import Derived.Test.YtefnmpbkfalpoaaProg
namespace Go.Proofs.Ytefnmpbkfalpoaa.AM
open Go Go.Proofs
theorem mixed : Try.prog.follows .mixedOrders = true := by kernel_rfl
theorem ag22 : aggA Try.prog 22 = some false := by kernel_rfl
theorem ag23 : aggA Try.prog 23 = some false := by kernel_rfl
theorem ag25 : aggA Try.prog 25 = some true := by kernel_rfl
theorem ag28 : aggA Try.prog 28 = some true := by kernel_rfl
theorem ag31 : aggA Try.prog 31 = some false := by kernel_rfl
theorem ag33 : aggA Try.prog 33 = some true := by kernel_rfl
theorem ag50 : aggA Try.prog 50 = some true := by kernel_rfl
theorem ag9 : aggA Try.prog 9 = some false := by kernel_rfl
theorem bu28 : buildA Try.prog 28 = some ([.string ⟨#[]⟩, .slice none 0 0, .string ⟨#[]⟩], #[(0, 1), (1, 1), (2, 1)]) := by kernel_rfl
theorem by28 : bytA Try.prog 28 = some 56 := by kernel_rfl
theorem by9 : bytA Try.prog 9 = some 16 := by kernel_rfl
theorem el22 : elemA Try.prog 22 = some 9 := by kernel_rfl
theorem el23 : elemA Try.prog 23 = some 50 := by kernel_rfl
theorem el31 : elemA Try.prog 31 = some 28 := by kernel_rfl
theorem el53 : elemA Try.prog 53 = some 5 := by kernel_rfl
theorem of25_0 : offA Try.prog 25 0 = some 0 := by kernel_rfl
theorem of25_1 : offA Try.prog 25 1 = some 1 := by kernel_rfl
theorem of28_0 : offA Try.prog 28 0 = some 0 := by kernel_rfl
theorem of28_1 : offA Try.prog 28 1 = some 1 := by kernel_rfl
theorem of28_2 : offA Try.prog 28 2 = some 2 := by kernel_rfl
theorem of33_0 : offA Try.prog 33 0 = some 0 := by kernel_rfl
theorem of33_1 : offA Try.prog 33 1 = some 1 := by kernel_rfl
theorem of50_0 : offA Try.prog 50 0 = some 0 := by kernel_rfl
theorem of50_1 : offA Try.prog 50 1 = some 1 := by kernel_rfl
theorem of50_2 : offA Try.prog 50 2 = some 2 := by kernel_rfl
theorem ro5_1 : rowA Try.prog 5 1 = some [.int .u8 0] := by kernel_rfl
theorem ro9_0 : rowA Try.prog 9 0 = some [] := by kernel_rfl
theorem ro9_2 : rowA Try.prog 9 2 = some [.string ⟨#[]⟩, .string ⟨#[]⟩] := by kernel_rfl
theorem sz22 : szA Try.prog 22 = some 1 := by kernel_rfl
theorem sz23 : szA Try.prog 23 = some 1 := by kernel_rfl
theorem sz25 : szA Try.prog 25 = some 2 := by kernel_rfl
theorem sz28 : szA Try.prog 28 = some 3 := by kernel_rfl
theorem sz31 : szA Try.prog 31 = some 1 := by kernel_rfl
theorem sz33 : szA Try.prog 33 = some 2 := by kernel_rfl
theorem sz5 : szA Try.prog 5 = some 1 := by kernel_rfl
theorem sz50 : szA Try.prog 50 = some 3 := by kernel_rfl
theorem sz9 : szA Try.prog 9 = some 1 := by kernel_rfl
theorem ze28 : zeroA Try.prog 28 = some [.string ⟨#[]⟩, .slice none 0 0, .string ⟨#[]⟩] := by kernel_rfl
theorem ze33 : zeroA Try.prog 33 = some [.slice none 0 0, .slice none 0 0] := by kernel_rfl
theorem ze9 : zeroA Try.prog 9 = some [.string ⟨#[]⟩] := by kernel_rfl
end Go.Proofs.Ytefnmpbkfalpoaa.AM
