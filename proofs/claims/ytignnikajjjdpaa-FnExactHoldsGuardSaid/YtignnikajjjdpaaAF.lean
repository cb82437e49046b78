/- The facts of this program's types, for the walks. -/
import Derived.Test.YtignnikajjjdpaaA17
import Derived.Test.YtignnikajjjdpaaProg
namespace Go.Proofs.Ytignnikajjjdpaa.AM
open Go Go.Proofs
theorem mixed : Try.prog.follows .mixedOrders = true := by kernel_rfl
theorem ag22 : aggA Try.prog 22 = some false := by kernel_rfl
theorem ag24 : aggA Try.prog 24 = some true := by kernel_rfl
theorem ag26 : aggA Try.prog 26 = some true := by kernel_rfl
theorem ag29 : aggA Try.prog 29 = some false := by kernel_rfl
theorem ag3 : aggA Try.prog 3 = some false := by kernel_rfl
theorem ag31 : aggA Try.prog 31 = some true := by kernel_rfl
theorem ag33 : aggA Try.prog 33 = some true := by kernel_rfl
theorem ag9 : aggA Try.prog 9 = some false := by kernel_rfl
theorem bu31 : buildA Try.prog 31 = some ([.int .i64 0, .int .i64 0, .string ⟨#[]⟩, .slice none 0 0], #[(0, 1), (1, 1), (2, 1), (3, 1)]) := by kernel_rfl
theorem by31 : bytA Try.prog 31 = some 56 := by kernel_rfl
theorem by9 : bytA Try.prog 9 = some 16 := by kernel_rfl
theorem el22 : elemA Try.prog 22 = some 24 := by kernel_rfl
theorem el29 : elemA Try.prog 29 = some 31 := by kernel_rfl
theorem el46 : elemA Try.prog 46 = some 9 := by kernel_rfl
theorem of24_0 : offA Try.prog 24 0 = some 0 := by kernel_rfl
theorem of24_1 : offA Try.prog 24 1 = some 1 := by kernel_rfl
theorem of24_2 : offA Try.prog 24 2 = some 2 := by kernel_rfl
theorem of24_3 : offA Try.prog 24 3 = some 3 := by kernel_rfl
theorem of26_0 : offA Try.prog 26 0 = some 0 := by kernel_rfl
theorem of26_1 : offA Try.prog 26 1 = some 1 := by kernel_rfl
theorem of26_2 : offA Try.prog 26 2 = some 5 := by kernel_rfl
theorem of31_0 : offA Try.prog 31 0 = some 0 := by kernel_rfl
theorem of31_1 : offA Try.prog 31 1 = some 1 := by kernel_rfl
theorem of31_2 : offA Try.prog 31 2 = some 2 := by kernel_rfl
theorem of31_3 : offA Try.prog 31 3 = some 3 := by kernel_rfl
theorem of33_0 : offA Try.prog 33 0 = some 0 := by kernel_rfl
theorem of33_1 : offA Try.prog 33 1 = some 1 := by kernel_rfl
theorem of33_2 : offA Try.prog 33 2 = some 5 := by kernel_rfl
theorem ro31_1 : rowA Try.prog 31 1 = some [.int .i64 0, .int .i64 0, .string ⟨#[]⟩, .slice none 0 0] := by kernel_rfl
theorem ro9_0 : rowA Try.prog 9 0 = some [] := by kernel_rfl
theorem ro9_1 : rowA Try.prog 9 1 = some [.string ⟨#[]⟩] := by kernel_rfl
theorem sz22 : szA Try.prog 22 = some 1 := by kernel_rfl
theorem sz24 : szA Try.prog 24 = some 4 := by kernel_rfl
theorem sz26 : szA Try.prog 26 = some 9 := by kernel_rfl
theorem sz29 : szA Try.prog 29 = some 1 := by kernel_rfl
theorem sz3 : szA Try.prog 3 = some 1 := by kernel_rfl
theorem sz31 : szA Try.prog 31 = some 4 := by kernel_rfl
theorem sz33 : szA Try.prog 33 = some 9 := by kernel_rfl
theorem sz9 : szA Try.prog 9 = some 1 := by kernel_rfl
theorem ze31 : zeroA Try.prog 31 = some [.int .i64 0, .int .i64 0, .string ⟨#[]⟩, .slice none 0 0] := by kernel_rfl
theorem ze33 : zeroA Try.prog 33 = some [.int .i64 0, .int .i64 0, .int .i64 0, .string ⟨#[]⟩, .slice none 0 0, .int .i64 0, .int .i64 0, .string ⟨#[]⟩, .slice none 0 0] := by kernel_rfl
theorem ze9 : zeroA Try.prog 9 = some [.string ⟨#[]⟩] := by kernel_rfl
end Go.Proofs.Ytignnikajjjdpaa.AM
