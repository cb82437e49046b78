/- The facts of this program's types, for the walks. -/
import Derived.Test.YtlmbmplhdfgmfaaDoorA17
import Derived.Test.YtlmbmplhdfgmfaaDoorProg
namespace Go.Proofs.YtlmbmplhdfgmfaaDoor.AM
open Go Go.Proofs
theorem mixed : Tryd.prog.follows .mixedOrders = true := by kernel_rfl
theorem ag22 : aggA Tryd.prog 22 = some false := by kernel_rfl
theorem ag24 : aggA Tryd.prog 24 = some true := by kernel_rfl
theorem ag3 : aggA Tryd.prog 3 = some false := by kernel_rfl
theorem ag4 : aggA Tryd.prog 4 = some false := by kernel_rfl
theorem ag5 : aggA Tryd.prog 5 = some false := by kernel_rfl
theorem ag58 : aggA Tryd.prog 58 = some false := by kernel_rfl
theorem ag70 : aggA Tryd.prog 70 = some false := by kernel_rfl
theorem ag9 : aggA Tryd.prog 9 = some false := by kernel_rfl
theorem bu24 : buildA Tryd.prog 24 = some ([.int .i64 0, .int .i64 0, .string ⟨#[]⟩, .slice none 0 0], #[(0, 1), (1, 1), (2, 1), (3, 1)]) := by kernel_rfl
theorem bu32 : buildA Tryd.prog 32 = some ([.string ⟨#[]⟩, .int .i64 0, .bool false], #[(0, 1), (1, 1), (2, 1)]) := by kernel_rfl
theorem bu37 : buildA Tryd.prog 37 = some ([.string ⟨#[]⟩], #[(0, 1)]) := by kernel_rfl
theorem bu76 : buildA Tryd.prog 76 = some ([.string ⟨#[]⟩, .string ⟨#[]⟩, .nilIface], #[(0, 1), (1, 1), (2, 1)]) := by kernel_rfl
theorem bu87 : buildA Tryd.prog 87 = some ([.string ⟨#[]⟩], #[(0, 1)]) := by kernel_rfl
theorem by24 : bytA Tryd.prog 24 = some 56 := by kernel_rfl
theorem by5 : bytA Tryd.prog 5 = some 1 := by kernel_rfl
theorem el22 : elemA Tryd.prog 22 = some 24 := by kernel_rfl
theorem el54 : elemA Tryd.prog 54 = some 5 := by kernel_rfl
theorem of24_0 : offA Tryd.prog 24 0 = some 0 := by kernel_rfl
theorem of24_1 : offA Tryd.prog 24 1 = some 1 := by kernel_rfl
theorem of24_2 : offA Tryd.prog 24 2 = some 2 := by kernel_rfl
theorem of24_3 : offA Tryd.prog 24 3 = some 3 := by kernel_rfl
theorem of32_0 : offA Tryd.prog 32 0 = some 0 := by kernel_rfl
theorem of32_1 : offA Tryd.prog 32 1 = some 1 := by kernel_rfl
theorem of32_2 : offA Tryd.prog 32 2 = some 2 := by kernel_rfl
theorem of37_0 : offA Tryd.prog 37 0 = some 0 := by kernel_rfl
theorem ro24_1 : rowA Tryd.prog 24 1 = some [.int .i64 0, .int .i64 0, .string ⟨#[]⟩, .slice none 0 0] := by kernel_rfl
theorem ro5_1 : rowA Tryd.prog 5 1 = some [.int .u8 0] := by kernel_rfl
theorem sz22 : szA Tryd.prog 22 = some 1 := by kernel_rfl
theorem sz24 : szA Tryd.prog 24 = some 4 := by kernel_rfl
theorem sz3 : szA Tryd.prog 3 = some 1 := by kernel_rfl
theorem sz4 : szA Tryd.prog 4 = some 1 := by kernel_rfl
theorem sz5 : szA Tryd.prog 5 = some 1 := by kernel_rfl
theorem sz58 : szA Tryd.prog 58 = some 1 := by kernel_rfl
theorem sz70 : szA Tryd.prog 70 = some 1 := by kernel_rfl
theorem sz9 : szA Tryd.prog 9 = some 1 := by kernel_rfl
theorem ze24 : zeroA Tryd.prog 24 = some [.int .i64 0, .int .i64 0, .string ⟨#[]⟩, .slice none 0 0] := by kernel_rfl
theorem ze5 : zeroA Tryd.prog 5 = some [.int .u8 0] := by kernel_rfl
theorem ze78 : zeroA Tryd.prog 78 = some [.int .u8 0, .int .u8 0, .int .u8 0, .int .u8 0, .int .u8 0, .int .u8 0, .int .u8 0, .int .u8 0, .int .u8 0, .int .u8 0, .int .u8 0, .int .u8 0, .int .u8 0, .int .u8 0, .int .u8 0, .int .u8 0, .int .u8 0, .int .u8 0, .int .u8 0, .int .u8 0, .int .u8 0, .int .u8 0, .int .u8 0, .int .u8 0] := by kernel_rfl
theorem ze92 : zeroA Tryd.prog 92 = some [.int .u8 0, .int .u8 0, .int .u8 0, .int .u8 0, .int .u8 0, .int .u8 0, .int .u8 0, .int .u8 0, .int .u8 0, .int .u8 0, .int .u8 0, .int .u8 0, .int .u8 0, .int .u8 0, .int .u8 0, .int .u8 0, .int .u8 0, .int .u8 0, .int .u8 0, .int .u8 0, .int .u8 0, .int .u8 0, .int .u8 0, .int .u8 0, .int .u8 0, .int .u8 0, .int .u8 0, .int .u8 0, .int .u8 0, .int .u8 0, .int .u8 0, .int .u8 0, .int .u8 0, .int .u8 0, .int .u8 0, .int .u8 0, .int .u8 0, .int .u8 0, .int .u8 0, .int .u8 0, .int .u8 0, .int .u8 0, .int .u8 0, .int .u8 0, .int .u8 0, .int .u8 0, .int .u8 0, .int .u8 0, .int .u8 0, .int .u8 0, .int .u8 0, .int .u8 0, .int .u8 0, .int .u8 0, .int .u8 0, .int .u8 0, .int .u8 0, .int .u8 0, .int .u8 0, .int .u8 0, .int .u8 0, .int .u8 0, .int .u8 0, .int .u8 0, .int .u8 0] := by kernel_rfl
end Go.Proofs.YtlmbmplhdfgmfaaDoor.AM
