/- The facts of this program's types, for the walks. -/
import Derived.Test.YtmefdjhclepoeaaA17
import Derived.Test.YtmefdjhclepoeaaProg
namespace Go.Proofs.Ytmefdjhclepoeaa.AM
open Go Go.Proofs
theorem mixed : Try.prog.follows .mixedOrders = true := by kernel_rfl
theorem ag22 : aggA Try.prog 22 = some false := by kernel_rfl
theorem ag24 : aggA Try.prog 24 = some true := by kernel_rfl
theorem ag26 : aggA Try.prog 26 = some false := by kernel_rfl
theorem ag28 : aggA Try.prog 28 = some true := by kernel_rfl
theorem ag3 : aggA Try.prog 3 = some false := by kernel_rfl
theorem ag9 : aggA Try.prog 9 = some false := by kernel_rfl
theorem bu28 : buildA Try.prog 28 = some ([.int .i64 0, .int .i64 0, .string ⟨#[]⟩, .slice none 0 0], #[(0, 1), (1, 1), (2, 1), (3, 1)]) := by kernel_rfl
theorem by28 : bytA Try.prog 28 = some 56 := by kernel_rfl
theorem el22 : elemA Try.prog 22 = some 24 := by kernel_rfl
theorem el26 : elemA Try.prog 26 = some 28 := by kernel_rfl
theorem el44 : elemA Try.prog 44 = some 5 := by kernel_rfl
theorem of24_0 : offA Try.prog 24 0 = some 0 := by kernel_rfl
theorem of24_1 : offA Try.prog 24 1 = some 1 := by kernel_rfl
theorem of24_2 : offA Try.prog 24 2 = some 2 := by kernel_rfl
theorem of24_3 : offA Try.prog 24 3 = some 3 := by kernel_rfl
theorem of28_0 : offA Try.prog 28 0 = some 0 := by kernel_rfl
theorem of28_1 : offA Try.prog 28 1 = some 1 := by kernel_rfl
theorem of28_2 : offA Try.prog 28 2 = some 2 := by kernel_rfl
theorem of28_3 : offA Try.prog 28 3 = some 3 := by kernel_rfl
theorem ro28_1 : rowA Try.prog 28 1 = some [.int .i64 0, .int .i64 0, .string ⟨#[]⟩, .slice none 0 0] := by kernel_rfl
theorem ro5_1 : rowA Try.prog 5 1 = some [.int .u8 0] := by kernel_rfl
theorem sz22 : szA Try.prog 22 = some 1 := by kernel_rfl
theorem sz24 : szA Try.prog 24 = some 4 := by kernel_rfl
theorem sz26 : szA Try.prog 26 = some 1 := by kernel_rfl
theorem sz28 : szA Try.prog 28 = some 4 := by kernel_rfl
theorem sz3 : szA Try.prog 3 = some 1 := by kernel_rfl
theorem sz5 : szA Try.prog 5 = some 1 := by kernel_rfl
theorem sz9 : szA Try.prog 9 = some 1 := by kernel_rfl
theorem ze28 : zeroA Try.prog 28 = some [.int .i64 0, .int .i64 0, .string ⟨#[]⟩, .slice none 0 0] := by kernel_rfl
end Go.Proofs.Ytmefdjhclepoeaa.AM
