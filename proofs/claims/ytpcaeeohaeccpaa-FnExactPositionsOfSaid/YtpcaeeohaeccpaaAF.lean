/- The facts of this program's types, for the walks. -/
import Derived.Test.YtpcaeeohaeccpaaA17
import Derived.Test.YtpcaeeohaeccpaaProg
namespace Go.Proofs.Ytpcaeeohaeccpaa.AM
open Go Go.Proofs
theorem mixed : Try.prog.follows .mixedOrders = true := by kernel_rfl
theorem ag22 : aggA Try.prog 22 = some false := by kernel_rfl
theorem ag24 : aggA Try.prog 24 = some true := by kernel_rfl
theorem ag28 : aggA Try.prog 28 = some false := by kernel_rfl
theorem ag3 : aggA Try.prog 3 = some false := by kernel_rfl
theorem ag30 : aggA Try.prog 30 = some true := by kernel_rfl
theorem ag39 : aggA Try.prog 39 = some false := by kernel_rfl
theorem ag9 : aggA Try.prog 9 = some false := by kernel_rfl
theorem by3 : bytA Try.prog 3 = some 8 := by kernel_rfl
theorem by30 : bytA Try.prog 30 = some 56 := by kernel_rfl
theorem by39 : bytA Try.prog 39 = some 24 := by kernel_rfl
theorem el22 : elemA Try.prog 22 = some 24 := by kernel_rfl
theorem el26 : elemA Try.prog 26 = some 39 := by kernel_rfl
theorem el28 : elemA Try.prog 28 = some 30 := by kernel_rfl
theorem el39 : elemA Try.prog 39 = some 3 := by kernel_rfl
theorem el48 : elemA Try.prog 48 = some 5 := by kernel_rfl
theorem of24_0 : offA Try.prog 24 0 = some 0 := by kernel_rfl
theorem of24_1 : offA Try.prog 24 1 = some 1 := by kernel_rfl
theorem of24_2 : offA Try.prog 24 2 = some 2 := by kernel_rfl
theorem of24_3 : offA Try.prog 24 3 = some 3 := by kernel_rfl
theorem of30_0 : offA Try.prog 30 0 = some 0 := by kernel_rfl
theorem of30_1 : offA Try.prog 30 1 = some 1 := by kernel_rfl
theorem of30_2 : offA Try.prog 30 2 = some 2 := by kernel_rfl
theorem of30_3 : offA Try.prog 30 3 = some 3 := by kernel_rfl
theorem ro3_0 : rowA Try.prog 3 0 = some [] := by kernel_rfl
theorem ro3_1 : rowA Try.prog 3 1 = some [.int .i64 0] := by kernel_rfl
theorem ro39_0 : rowA Try.prog 39 0 = some [] := by kernel_rfl
theorem ro39_1 : rowA Try.prog 39 1 = some [.slice none 0 0] := by kernel_rfl
theorem ro5_1 : rowA Try.prog 5 1 = some [.int .u8 0] := by kernel_rfl
theorem sz22 : szA Try.prog 22 = some 1 := by kernel_rfl
theorem sz24 : szA Try.prog 24 = some 4 := by kernel_rfl
theorem sz28 : szA Try.prog 28 = some 1 := by kernel_rfl
theorem sz3 : szA Try.prog 3 = some 1 := by kernel_rfl
theorem sz30 : szA Try.prog 30 = some 4 := by kernel_rfl
theorem sz39 : szA Try.prog 39 = some 1 := by kernel_rfl
theorem sz5 : szA Try.prog 5 = some 1 := by kernel_rfl
theorem sz9 : szA Try.prog 9 = some 1 := by kernel_rfl
theorem ze3 : zeroA Try.prog 3 = some [.int .i64 0] := by kernel_rfl
theorem ze30 : zeroA Try.prog 30 = some [.int .i64 0, .int .i64 0, .string ⟨#[]⟩, .slice none 0 0] := by kernel_rfl
theorem ze39 : zeroA Try.prog 39 = some [.slice none 0 0] := by kernel_rfl
end Go.Proofs.Ytpcaeeohaeccpaa.AM
