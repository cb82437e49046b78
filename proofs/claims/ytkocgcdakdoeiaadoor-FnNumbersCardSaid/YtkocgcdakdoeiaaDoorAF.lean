/- The facts of this program's types, for the walks. -/
import Derived.Test.YtkocgcdakdoeiaaDoorA17
import Derived.Test.YtkocgcdakdoeiaaDoorProg
namespace Go.Proofs.YtkocgcdakdoeiaaDoor.AM
open Go Go.Proofs
theorem mixed : Tryd.prog.follows .mixedOrders = true := by kernel_rfl
theorem ag22 : aggA Tryd.prog 22 = some false := by kernel_rfl
theorem ag3 : aggA Tryd.prog 3 = some false := by kernel_rfl
theorem ag43 : aggA Tryd.prog 43 = some false := by kernel_rfl
theorem ag5 : aggA Tryd.prog 5 = some false := by kernel_rfl
theorem ag50 : aggA Tryd.prog 50 = some false := by kernel_rfl
theorem ag9 : aggA Tryd.prog 9 = some false := by kernel_rfl
theorem bu41 : buildA Tryd.prog 41 = some ([.slice none 0 0, .int .i64 0, .int .i64 0], #[(0, 1), (1, 1), (2, 1)]) := by kernel_rfl
theorem bu72 : buildA Tryd.prog 72 = some ([.string ⟨#[]⟩, .string ⟨#[]⟩, .nilIface], #[(0, 1), (1, 1), (2, 1)]) := by kernel_rfl
theorem bu80 : buildA Tryd.prog 80 = some ([.string ⟨#[]⟩], #[(0, 1)]) := by kernel_rfl
theorem by5 : bytA Tryd.prog 5 = some 1 := by kernel_rfl
theorem el22 : elemA Tryd.prog 22 = some 5 := by kernel_rfl
theorem el35 : elemA Tryd.prog 35 = some 9 := by kernel_rfl
theorem el39 : elemA Tryd.prog 39 = some 3 := by kernel_rfl
theorem of41_0 : offA Tryd.prog 41 0 = some 0 := by kernel_rfl
theorem of41_1 : offA Tryd.prog 41 1 = some 1 := by kernel_rfl
theorem of41_2 : offA Tryd.prog 41 2 = some 2 := by kernel_rfl
theorem ro3_12 : rowA Tryd.prog 3 12 = some [.int .i64 0, .int .i64 0, .int .i64 0, .int .i64 0, .int .i64 0, .int .i64 0, .int .i64 0, .int .i64 0, .int .i64 0, .int .i64 0, .int .i64 0, .int .i64 0] := by kernel_rfl
theorem ro5_1 : rowA Tryd.prog 5 1 = some [.int .u8 0] := by kernel_rfl
theorem ro9_12 : rowA Tryd.prog 9 12 = some [.string ⟨#[]⟩, .string ⟨#[]⟩, .string ⟨#[]⟩, .string ⟨#[]⟩, .string ⟨#[]⟩, .string ⟨#[]⟩, .string ⟨#[]⟩, .string ⟨#[]⟩, .string ⟨#[]⟩, .string ⟨#[]⟩, .string ⟨#[]⟩, .string ⟨#[]⟩] := by kernel_rfl
theorem sz22 : szA Tryd.prog 22 = some 1 := by kernel_rfl
theorem sz3 : szA Tryd.prog 3 = some 1 := by kernel_rfl
theorem sz43 : szA Tryd.prog 43 = some 1 := by kernel_rfl
theorem sz5 : szA Tryd.prog 5 = some 1 := by kernel_rfl
theorem sz50 : szA Tryd.prog 50 = some 1 := by kernel_rfl
theorem sz9 : szA Tryd.prog 9 = some 1 := by kernel_rfl
theorem ze49 : zeroA Tryd.prog 49 = some [.int .u8 0, .int .u8 0, .int .u8 0, .int .u8 0, .int .u8 0, .int .u8 0, .int .u8 0, .int .u8 0, .int .u8 0, .int .u8 0, .int .u8 0, .int .u8 0, .int .u8 0, .int .u8 0, .int .u8 0, .int .u8 0, .int .u8 0, .int .u8 0, .int .u8 0, .int .u8 0, .int .u8 0, .int .u8 0, .int .u8 0, .int .u8 0] := by kernel_rfl
theorem ze5 : zeroA Tryd.prog 5 = some [.int .u8 0] := by kernel_rfl
theorem ze65 : zeroA Tryd.prog 65 = some [.int .u8 0, .int .u8 0, .int .u8 0, .int .u8 0, .int .u8 0, .int .u8 0, .int .u8 0, .int .u8 0, .int .u8 0, .int .u8 0, .int .u8 0, .int .u8 0, .int .u8 0, .int .u8 0, .int .u8 0, .int .u8 0, .int .u8 0, .int .u8 0, .int .u8 0, .int .u8 0, .int .u8 0, .int .u8 0, .int .u8 0, .int .u8 0, .int .u8 0, .int .u8 0, .int .u8 0, .int .u8 0, .int .u8 0, .int .u8 0, .int .u8 0, .int .u8 0, .int .u8 0, .int .u8 0, .int .u8 0, .int .u8 0, .int .u8 0, .int .u8 0, .int .u8 0, .int .u8 0, .int .u8 0, .int .u8 0, .int .u8 0, .int .u8 0, .int .u8 0, .int .u8 0, .int .u8 0, .int .u8 0, .int .u8 0, .int .u8 0, .int .u8 0, .int .u8 0, .int .u8 0, .int .u8 0, .int .u8 0, .int .u8 0, .int .u8 0, .int .u8 0, .int .u8 0, .int .u8 0, .int .u8 0, .int .u8 0, .int .u8 0, .int .u8 0, .int .u8 0] := by kernel_rfl
end Go.Proofs.YtkocgcdakdoeiaaDoor.AM
