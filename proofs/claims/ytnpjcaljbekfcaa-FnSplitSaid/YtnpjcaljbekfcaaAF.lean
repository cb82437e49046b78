/- The facts of this program's types, for the walks. -/
import Derived.Test.YtnpjcaljbekfcaaA17
import Derived.Test.YtnpjcaljbekfcaaProg
namespace Go.Proofs.Ytnpjcaljbekfcaa.AM
open Go Go.Proofs
theorem mixed : Try.prog.follows .mixedOrders = true := by kernel_rfl
theorem ag22 : aggA Try.prog 22 = some false := by kernel_rfl
theorem ag3 : aggA Try.prog 3 = some false := by kernel_rfl
theorem ag37 : aggA Try.prog 37 = some false := by kernel_rfl
theorem ag5 : aggA Try.prog 5 = some false := by kernel_rfl
theorem ag9 : aggA Try.prog 9 = some false := by kernel_rfl
theorem bu35 : buildA Try.prog 35 = some ([.slice none 0 0, .int .i64 0, .int .i64 0], #[(0, 1), (1, 1), (2, 1)]) := by kernel_rfl
theorem by5 : bytA Try.prog 5 = some 1 := by kernel_rfl
theorem by9 : bytA Try.prog 9 = some 16 := by kernel_rfl
theorem el22 : elemA Try.prog 22 = some 5 := by kernel_rfl
theorem el26 : elemA Try.prog 26 = some 9 := by kernel_rfl
theorem el33 : elemA Try.prog 33 = some 3 := by kernel_rfl
theorem of35_0 : offA Try.prog 35 0 = some 0 := by kernel_rfl
theorem of35_1 : offA Try.prog 35 1 = some 1 := by kernel_rfl
theorem of35_2 : offA Try.prog 35 2 = some 2 := by kernel_rfl
theorem of39_0 : offA Try.prog 39 0 = some 0 := by kernel_rfl
theorem of39_1 : offA Try.prog 39 1 = some 1 := by kernel_rfl
theorem ro3_2 : rowA Try.prog 3 2 = some [.int .i64 0, .int .i64 0] := by kernel_rfl
theorem ro5_1 : rowA Try.prog 5 1 = some [.int .u8 0] := by kernel_rfl
theorem ro9_0 : rowA Try.prog 9 0 = some [] := by kernel_rfl
theorem ro9_1 : rowA Try.prog 9 1 = some [.string ⟨#[]⟩] := by kernel_rfl
theorem ro9_6 : rowA Try.prog 9 6 = some [.string ⟨#[]⟩, .string ⟨#[]⟩, .string ⟨#[]⟩, .string ⟨#[]⟩, .string ⟨#[]⟩, .string ⟨#[]⟩] := by kernel_rfl
theorem sz22 : szA Try.prog 22 = some 1 := by kernel_rfl
theorem sz3 : szA Try.prog 3 = some 1 := by kernel_rfl
theorem sz37 : szA Try.prog 37 = some 1 := by kernel_rfl
theorem sz5 : szA Try.prog 5 = some 1 := by kernel_rfl
theorem sz9 : szA Try.prog 9 = some 1 := by kernel_rfl
theorem ze39 : zeroA Try.prog 39 = some [.pointer none, .slice none 0 0] := by kernel_rfl
theorem ze5 : zeroA Try.prog 5 = some [.int .u8 0] := by kernel_rfl
theorem ze9 : zeroA Try.prog 9 = some [.string ⟨#[]⟩] := by kernel_rfl
end Go.Proofs.Ytnpjcaljbekfcaa.AM
