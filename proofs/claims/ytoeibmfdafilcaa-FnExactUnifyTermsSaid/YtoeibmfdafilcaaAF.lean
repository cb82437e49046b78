/- The facts of this program's types, for the walks. -/
import Derived.Test.YtoeibmfdafilcaaA17
import Derived.Test.YtoeibmfdafilcaaProg
namespace Go.Proofs.Ytoeibmfdafilcaa.AM
open Go Go.Proofs
theorem mixed : Try.prog.follows .mixedOrders = true := by kernel_rfl
theorem ag22 : aggA Try.prog 22 = some false := by kernel_rfl
theorem ag24 : aggA Try.prog 24 = some true := by kernel_rfl
theorem ag26 : aggA Try.prog 26 = some false := by kernel_rfl
theorem ag29 : aggA Try.prog 29 = some false := by kernel_rfl
theorem ag3 : aggA Try.prog 3 = some false := by kernel_rfl
theorem ag31 : aggA Try.prog 31 = some true := by kernel_rfl
theorem ag49 : aggA Try.prog 49 = some true := by kernel_rfl
theorem ag54 : aggA Try.prog 54 = some true := by kernel_rfl
theorem ag9 : aggA Try.prog 9 = some false := by kernel_rfl
theorem ag91 : aggA Try.prog 91 = some false := by kernel_rfl
theorem bu31 : buildA Try.prog 31 = some ([.int .i64 0, .int .i64 0, .string ⟨#[]⟩, .slice none 0 0], #[(0, 1), (1, 1), (2, 1), (3, 1)]) := by kernel_rfl
theorem bu41 : buildA Try.prog 41 = some ([.slice none 0 0, .slice none 0 0, .slice none 0 0], #[(0, 1), (1, 1), (2, 1)]) := by kernel_rfl
theorem bu49 : buildA Try.prog 49 = some ([.int .i64 0, .int .i64 0, .string ⟨#[]⟩, .slice none 0 0, .int .i64 0, .int .i64 0, .string ⟨#[]⟩, .slice none 0 0], #[(0, 4), (4, 4)]) := by kernel_rfl
theorem bu54 : buildA Try.prog 54 = some ([.string ⟨#[]⟩, .int .i64 0, .int .i64 0, .string ⟨#[]⟩, .slice none 0 0], #[(0, 1), (1, 4)]) := by kernel_rfl
theorem by31 : bytA Try.prog 31 = some 56 := by kernel_rfl
theorem by49 : bytA Try.prog 49 = some 112 := by kernel_rfl
theorem by54 : bytA Try.prog 54 = some 72 := by kernel_rfl
theorem by9 : bytA Try.prog 9 = some 16 := by kernel_rfl
theorem el22 : elemA Try.prog 22 = some 24 := by kernel_rfl
theorem el26 : elemA Try.prog 26 = some 54 := by kernel_rfl
theorem el29 : elemA Try.prog 29 = some 31 := by kernel_rfl
theorem el45 : elemA Try.prog 45 = some 9 := by kernel_rfl
theorem el50 : elemA Try.prog 50 = some 49 := by kernel_rfl
theorem el68 : elemA Try.prog 68 = some 5 := by kernel_rfl
theorem of24_0 : offA Try.prog 24 0 = some 0 := by kernel_rfl
theorem of24_1 : offA Try.prog 24 1 = some 1 := by kernel_rfl
theorem of24_2 : offA Try.prog 24 2 = some 2 := by kernel_rfl
theorem of24_3 : offA Try.prog 24 3 = some 3 := by kernel_rfl
theorem of31_0 : offA Try.prog 31 0 = some 0 := by kernel_rfl
theorem of31_1 : offA Try.prog 31 1 = some 1 := by kernel_rfl
theorem of31_2 : offA Try.prog 31 2 = some 2 := by kernel_rfl
theorem of31_3 : offA Try.prog 31 3 = some 3 := by kernel_rfl
theorem of41_0 : offA Try.prog 41 0 = some 0 := by kernel_rfl
theorem of41_1 : offA Try.prog 41 1 = some 1 := by kernel_rfl
theorem of41_2 : offA Try.prog 41 2 = some 2 := by kernel_rfl
theorem of49_0 : offA Try.prog 49 0 = some 0 := by kernel_rfl
theorem of49_1 : offA Try.prog 49 1 = some 4 := by kernel_rfl
theorem of54_0 : offA Try.prog 54 0 = some 0 := by kernel_rfl
theorem of54_1 : offA Try.prog 54 1 = some 1 := by kernel_rfl
theorem ro31_0 : rowA Try.prog 31 0 = some [] := by kernel_rfl
theorem ro31_1 : rowA Try.prog 31 1 = some [.int .i64 0, .int .i64 0, .string ⟨#[]⟩, .slice none 0 0] := by kernel_rfl
theorem ro49_1 : rowA Try.prog 49 1 = some [.int .i64 0, .int .i64 0, .string ⟨#[]⟩, .slice none 0 0, .int .i64 0, .int .i64 0, .string ⟨#[]⟩, .slice none 0 0] := by kernel_rfl
theorem ro5_1 : rowA Try.prog 5 1 = some [.int .u8 0] := by kernel_rfl
theorem ro54_0 : rowA Try.prog 54 0 = some [] := by kernel_rfl
theorem ro54_1 : rowA Try.prog 54 1 = some [.string ⟨#[]⟩, .int .i64 0, .int .i64 0, .string ⟨#[]⟩, .slice none 0 0] := by kernel_rfl
theorem ro9_0 : rowA Try.prog 9 0 = some [] := by kernel_rfl
theorem ro9_1 : rowA Try.prog 9 1 = some [.string ⟨#[]⟩] := by kernel_rfl
theorem sz22 : szA Try.prog 22 = some 1 := by kernel_rfl
theorem sz24 : szA Try.prog 24 = some 4 := by kernel_rfl
theorem sz26 : szA Try.prog 26 = some 1 := by kernel_rfl
theorem sz29 : szA Try.prog 29 = some 1 := by kernel_rfl
theorem sz3 : szA Try.prog 3 = some 1 := by kernel_rfl
theorem sz31 : szA Try.prog 31 = some 4 := by kernel_rfl
theorem sz49 : szA Try.prog 49 = some 8 := by kernel_rfl
theorem sz5 : szA Try.prog 5 = some 1 := by kernel_rfl
theorem sz54 : szA Try.prog 54 = some 5 := by kernel_rfl
theorem sz9 : szA Try.prog 9 = some 1 := by kernel_rfl
theorem sz91 : szA Try.prog 91 = some 1 := by kernel_rfl
theorem ze3 : zeroA Try.prog 3 = some [.int .i64 0] := by kernel_rfl
theorem ze31 : zeroA Try.prog 31 = some [.int .i64 0, .int .i64 0, .string ⟨#[]⟩, .slice none 0 0] := by kernel_rfl
theorem ze49 : zeroA Try.prog 49 = some [.int .i64 0, .int .i64 0, .string ⟨#[]⟩, .slice none 0 0, .int .i64 0, .int .i64 0, .string ⟨#[]⟩, .slice none 0 0] := by kernel_rfl
theorem ze54 : zeroA Try.prog 54 = some [.string ⟨#[]⟩, .int .i64 0, .int .i64 0, .string ⟨#[]⟩, .slice none 0 0] := by kernel_rfl
theorem ze9 : zeroA Try.prog 9 = some [.string ⟨#[]⟩] := by kernel_rfl
theorem ze91 : zeroA Try.prog 91 = some [.int .u64 0] := by kernel_rfl
end Go.Proofs.Ytoeibmfdafilcaa.AM
