/- The facts of this program's types, for the walks. -/
import Derived.Test.YtgcimhplmnhjhaaA17
import Derived.Test.YtgcimhplmnhjhaaProg
namespace Go.Proofs.Ytgcimhplmnhjhaa.AM
open Go Go.Proofs
theorem mixed : Try.prog.follows .mixedOrders = true := by kernel_rfl
theorem ag22 : aggA Try.prog 22 = some false := by kernel_rfl
theorem ag24 : aggA Try.prog 24 = some true := by kernel_rfl
theorem ag28 : aggA Try.prog 28 = some false := by kernel_rfl
theorem ag3 : aggA Try.prog 3 = some false := by kernel_rfl
theorem ag30 : aggA Try.prog 30 = some true := by kernel_rfl
theorem ag62 : aggA Try.prog 62 = some false := by kernel_rfl
theorem ag9 : aggA Try.prog 9 = some false := by kernel_rfl
theorem by30 : bytA Try.prog 30 = some 56 := by kernel_rfl
theorem by9 : bytA Try.prog 9 = some 16 := by kernel_rfl
theorem el22 : elemA Try.prog 22 = some 24 := by kernel_rfl
theorem el26 : elemA Try.prog 26 = some 9 := by kernel_rfl
theorem el28 : elemA Try.prog 28 = some 30 := by kernel_rfl
theorem el45 : elemA Try.prog 45 = some 5 := by kernel_rfl
theorem of24_0 : offA Try.prog 24 0 = some 0 := by kernel_rfl
theorem of24_1 : offA Try.prog 24 1 = some 1 := by kernel_rfl
theorem of24_2 : offA Try.prog 24 2 = some 2 := by kernel_rfl
theorem of24_3 : offA Try.prog 24 3 = some 3 := by kernel_rfl
theorem of30_0 : offA Try.prog 30 0 = some 0 := by kernel_rfl
theorem of30_1 : offA Try.prog 30 1 = some 1 := by kernel_rfl
theorem of30_2 : offA Try.prog 30 2 = some 2 := by kernel_rfl
theorem of30_3 : offA Try.prog 30 3 = some 3 := by kernel_rfl
theorem ro5_1 : rowA Try.prog 5 1 = some [.int .u8 0] := by kernel_rfl
theorem ro9_0 : rowA Try.prog 9 0 = some [] := by kernel_rfl
theorem ro9_1 : rowA Try.prog 9 1 = some [.string ⟨#[]⟩] := by kernel_rfl
theorem sz22 : szA Try.prog 22 = some 1 := by kernel_rfl
theorem sz24 : szA Try.prog 24 = some 4 := by kernel_rfl
theorem sz28 : szA Try.prog 28 = some 1 := by kernel_rfl
theorem sz3 : szA Try.prog 3 = some 1 := by kernel_rfl
theorem sz30 : szA Try.prog 30 = some 4 := by kernel_rfl
theorem sz5 : szA Try.prog 5 = some 1 := by kernel_rfl
theorem sz62 : szA Try.prog 62 = some 1 := by kernel_rfl
theorem sz9 : szA Try.prog 9 = some 1 := by kernel_rfl
theorem ze3 : zeroA Try.prog 3 = some [.int .i64 0] := by kernel_rfl
theorem ze30 : zeroA Try.prog 30 = some [.int .i64 0, .int .i64 0, .string ⟨#[]⟩, .slice none 0 0] := by kernel_rfl
theorem ze62 : zeroA Try.prog 62 = some [.int .u64 0] := by kernel_rfl
theorem ze9 : zeroA Try.prog 9 = some [.string ⟨#[]⟩] := by kernel_rfl
end Go.Proofs.Ytgcimhplmnhjhaa.AM
