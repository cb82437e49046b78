/- The facts of this program's types, for the walks. -/
import Derived.Test.YtnmighmkkchccaaA17
import Derived.Test.YtnmighmkkchccaaProg
namespace Go.Proofs.Ytnmighmkkchccaa.AM
open Go Go.Proofs
theorem mixed : Try.prog.follows .mixedOrders = true := by kernel_rfl
theorem ag3 : aggA Try.prog 3 = some false := by kernel_rfl
theorem ag31 : aggA Try.prog 31 = some false := by kernel_rfl
theorem ag33 : aggA Try.prog 33 = some true := by kernel_rfl
theorem ag35 : aggA Try.prog 35 = some true := by kernel_rfl
theorem ag36 : aggA Try.prog 36 = some false := by kernel_rfl
theorem ag38 : aggA Try.prog 38 = some true := by kernel_rfl
theorem ag40 : aggA Try.prog 40 = some true := by kernel_rfl
theorem ag9 : aggA Try.prog 9 = some false := by kernel_rfl
theorem bu38 : buildA Try.prog 38 = some ([.int .i64 0, .int .i64 0, .string ⟨#[]⟩, .slice none 0 0], #[(0, 1), (1, 1), (2, 1), (3, 1)]) := by kernel_rfl
theorem bu40 : buildA Try.prog 40 = some ([.string ⟨#[]⟩, .int .i64 0, .int .i64 0, .string ⟨#[]⟩, .slice none 0 0], #[(0, 1), (1, 4)]) := by kernel_rfl
theorem by38 : bytA Try.prog 38 = some 56 := by kernel_rfl
theorem by40 : bytA Try.prog 40 = some 72 := by kernel_rfl
theorem el22 : elemA Try.prog 22 = some 35 := by kernel_rfl
theorem el24 : elemA Try.prog 24 = some 40 := by kernel_rfl
theorem el31 : elemA Try.prog 31 = some 33 := by kernel_rfl
theorem el36 : elemA Try.prog 36 = some 38 := by kernel_rfl
theorem el54 : elemA Try.prog 54 = some 5 := by kernel_rfl
theorem of33_0 : offA Try.prog 33 0 = some 0 := by kernel_rfl
theorem of33_1 : offA Try.prog 33 1 = some 1 := by kernel_rfl
theorem of33_2 : offA Try.prog 33 2 = some 2 := by kernel_rfl
theorem of33_3 : offA Try.prog 33 3 = some 3 := by kernel_rfl
theorem of35_0 : offA Try.prog 35 0 = some 0 := by kernel_rfl
theorem of35_1 : offA Try.prog 35 1 = some 1 := by kernel_rfl
theorem of38_0 : offA Try.prog 38 0 = some 0 := by kernel_rfl
theorem of38_1 : offA Try.prog 38 1 = some 1 := by kernel_rfl
theorem of38_2 : offA Try.prog 38 2 = some 2 := by kernel_rfl
theorem of38_3 : offA Try.prog 38 3 = some 3 := by kernel_rfl
theorem of40_0 : offA Try.prog 40 0 = some 0 := by kernel_rfl
theorem of40_1 : offA Try.prog 40 1 = some 1 := by kernel_rfl
theorem ro38_0 : rowA Try.prog 38 0 = some [] := by kernel_rfl
theorem ro38_1 : rowA Try.prog 38 1 = some [.int .i64 0, .int .i64 0, .string ⟨#[]⟩, .slice none 0 0] := by kernel_rfl
theorem ro40_0 : rowA Try.prog 40 0 = some [] := by kernel_rfl
theorem ro40_1 : rowA Try.prog 40 1 = some [.string ⟨#[]⟩, .int .i64 0, .int .i64 0, .string ⟨#[]⟩, .slice none 0 0] := by kernel_rfl
theorem ro5_1 : rowA Try.prog 5 1 = some [.int .u8 0] := by kernel_rfl
theorem sz3 : szA Try.prog 3 = some 1 := by kernel_rfl
theorem sz31 : szA Try.prog 31 = some 1 := by kernel_rfl
theorem sz33 : szA Try.prog 33 = some 4 := by kernel_rfl
theorem sz35 : szA Try.prog 35 = some 5 := by kernel_rfl
theorem sz36 : szA Try.prog 36 = some 1 := by kernel_rfl
theorem sz38 : szA Try.prog 38 = some 4 := by kernel_rfl
theorem sz40 : szA Try.prog 40 = some 5 := by kernel_rfl
theorem sz5 : szA Try.prog 5 = some 1 := by kernel_rfl
theorem sz9 : szA Try.prog 9 = some 1 := by kernel_rfl
theorem ze38 : zeroA Try.prog 38 = some [.int .i64 0, .int .i64 0, .string ⟨#[]⟩, .slice none 0 0] := by kernel_rfl
theorem ze40 : zeroA Try.prog 40 = some [.string ⟨#[]⟩, .int .i64 0, .int .i64 0, .string ⟨#[]⟩, .slice none 0 0] := by kernel_rfl
end Go.Proofs.Ytnmighmkkchccaa.AM
