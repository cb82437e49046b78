/- The facts of this program's types, for the walks. -/
import Derived.Test.YtfbhlpbapldakaaDoorA17
import Derived.Test.YtfbhlpbapldakaaDoorProg
namespace Go.Proofs.YtfbhlpbapldakaaDoor.AM
open Go Go.Proofs
theorem mixed : Tryd.prog.follows .mixedOrders = true := by kernel_rfl
theorem ag3 : aggA Tryd.prog 3 = some false := by kernel_rfl
theorem ag30 : aggA Tryd.prog 30 = some false := by kernel_rfl
theorem ag31 : aggA Tryd.prog 31 = some false := by kernel_rfl
theorem ag43 : aggA Tryd.prog 43 = some false := by kernel_rfl
theorem ag5 : aggA Tryd.prog 5 = some false := by kernel_rfl
theorem ag9 : aggA Tryd.prog 9 = some false := by kernel_rfl
theorem by3 : bytA Tryd.prog 3 = some 8 := by kernel_rfl
theorem by5 : bytA Tryd.prog 5 = some 1 := by kernel_rfl
theorem by9 : bytA Tryd.prog 9 = some 16 := by kernel_rfl
theorem el22 : elemA Tryd.prog 22 = some 3 := by kernel_rfl
theorem el27 : elemA Tryd.prog 27 = some 9 := by kernel_rfl
theorem el30 : elemA Tryd.prog 30 = some 5 := by kernel_rfl
theorem of33_0 : offA Tryd.prog 33 0 = some 0 := by kernel_rfl
theorem of33_1 : offA Tryd.prog 33 1 = some 1 := by kernel_rfl
theorem ro5_0 : rowA Tryd.prog 5 0 = some [] := by kernel_rfl
theorem ro5_1 : rowA Tryd.prog 5 1 = some [.int .u8 0] := by kernel_rfl
theorem ro9_0 : rowA Tryd.prog 9 0 = some [] := by kernel_rfl
theorem ro9_1 : rowA Tryd.prog 9 1 = some [.string ⟨#[]⟩] := by kernel_rfl
theorem sz3 : szA Tryd.prog 3 = some 1 := by kernel_rfl
theorem sz30 : szA Tryd.prog 30 = some 1 := by kernel_rfl
theorem sz31 : szA Tryd.prog 31 = some 1 := by kernel_rfl
theorem sz43 : szA Tryd.prog 43 = some 1 := by kernel_rfl
theorem sz5 : szA Tryd.prog 5 = some 1 := by kernel_rfl
theorem sz9 : szA Tryd.prog 9 = some 1 := by kernel_rfl
theorem ze3 : zeroA Tryd.prog 3 = some [.int .i64 0] := by kernel_rfl
theorem ze33 : zeroA Tryd.prog 33 = some [.pointer none, .slice none 0 0] := by kernel_rfl
theorem ze42 : zeroA Tryd.prog 42 = some [.int .u8 0, .int .u8 0, .int .u8 0, .int .u8 0, .int .u8 0, .int .u8 0, .int .u8 0, .int .u8 0, .int .u8 0, .int .u8 0, .int .u8 0, .int .u8 0, .int .u8 0, .int .u8 0, .int .u8 0, .int .u8 0, .int .u8 0, .int .u8 0, .int .u8 0, .int .u8 0, .int .u8 0, .int .u8 0, .int .u8 0, .int .u8 0] := by kernel_rfl
theorem ze5 : zeroA Tryd.prog 5 = some [.int .u8 0] := by kernel_rfl
theorem ze55 : zeroA Tryd.prog 55 = some [.int .u8 0, .int .u8 0, .int .u8 0, .int .u8 0, .int .u8 0, .int .u8 0, .int .u8 0, .int .u8 0, .int .u8 0, .int .u8 0, .int .u8 0, .int .u8 0, .int .u8 0, .int .u8 0, .int .u8 0, .int .u8 0, .int .u8 0, .int .u8 0, .int .u8 0, .int .u8 0, .int .u8 0, .int .u8 0, .int .u8 0, .int .u8 0, .int .u8 0, .int .u8 0, .int .u8 0, .int .u8 0, .int .u8 0, .int .u8 0, .int .u8 0, .int .u8 0, .int .u8 0, .int .u8 0, .int .u8 0, .int .u8 0, .int .u8 0, .int .u8 0, .int .u8 0, .int .u8 0, .int .u8 0, .int .u8 0, .int .u8 0, .int .u8 0, .int .u8 0, .int .u8 0, .int .u8 0, .int .u8 0, .int .u8 0, .int .u8 0, .int .u8 0, .int .u8 0, .int .u8 0, .int .u8 0, .int .u8 0, .int .u8 0, .int .u8 0, .int .u8 0, .int .u8 0, .int .u8 0, .int .u8 0, .int .u8 0, .int .u8 0, .int .u8 0, .int .u8 0] := by kernel_rfl
theorem ze9 : zeroA Tryd.prog 9 = some [.string ⟨#[]⟩] := by kernel_rfl
end Go.Proofs.YtfbhlpbapldakaaDoor.AM
