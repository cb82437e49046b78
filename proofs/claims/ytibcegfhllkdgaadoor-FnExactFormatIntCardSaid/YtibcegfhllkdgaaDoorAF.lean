/- The facts of this program's types, for the walks. -/
import Derived.Test.YtibcegfhllkdgaaDoorA17
import Derived.Test.YtibcegfhllkdgaaDoorProg
namespace Go.Proofs.YtibcegfhllkdgaaDoor.AM
open Go Go.Proofs
theorem mixed : Tryd.prog.follows .mixedOrders = true := by kernel_rfl
theorem ag27 : aggA Tryd.prog 27 = some false := by kernel_rfl
theorem ag5 : aggA Tryd.prog 5 = some false := by kernel_rfl
theorem by5 : bytA Tryd.prog 5 = some 1 := by kernel_rfl
theorem el24 : elemA Tryd.prog 24 = some 5 := by kernel_rfl
theorem ro5_1 : rowA Tryd.prog 5 1 = some [.int .u8 0] := by kernel_rfl
theorem sz27 : szA Tryd.prog 27 = some 1 := by kernel_rfl
theorem sz5 : szA Tryd.prog 5 = some 1 := by kernel_rfl
theorem ze26 : zeroA Tryd.prog 26 = some [.int .u8 0, .int .u8 0, .int .u8 0, .int .u8 0, .int .u8 0, .int .u8 0, .int .u8 0, .int .u8 0, .int .u8 0, .int .u8 0, .int .u8 0, .int .u8 0, .int .u8 0, .int .u8 0, .int .u8 0, .int .u8 0, .int .u8 0, .int .u8 0, .int .u8 0, .int .u8 0, .int .u8 0, .int .u8 0, .int .u8 0, .int .u8 0] := by kernel_rfl
theorem ze36 : zeroA Tryd.prog 36 = some [.int .u8 0, .int .u8 0, .int .u8 0, .int .u8 0, .int .u8 0, .int .u8 0, .int .u8 0, .int .u8 0, .int .u8 0, .int .u8 0, .int .u8 0, .int .u8 0, .int .u8 0, .int .u8 0, .int .u8 0, .int .u8 0, .int .u8 0, .int .u8 0, .int .u8 0, .int .u8 0, .int .u8 0, .int .u8 0, .int .u8 0, .int .u8 0, .int .u8 0, .int .u8 0, .int .u8 0, .int .u8 0, .int .u8 0, .int .u8 0, .int .u8 0, .int .u8 0, .int .u8 0, .int .u8 0, .int .u8 0, .int .u8 0, .int .u8 0, .int .u8 0, .int .u8 0, .int .u8 0, .int .u8 0, .int .u8 0, .int .u8 0, .int .u8 0, .int .u8 0, .int .u8 0, .int .u8 0, .int .u8 0, .int .u8 0, .int .u8 0, .int .u8 0, .int .u8 0, .int .u8 0, .int .u8 0, .int .u8 0, .int .u8 0, .int .u8 0, .int .u8 0, .int .u8 0, .int .u8 0, .int .u8 0, .int .u8 0, .int .u8 0, .int .u8 0, .int .u8 0] := by kernel_rfl
theorem ze5 : zeroA Tryd.prog 5 = some [.int .u8 0] := by kernel_rfl
end Go.Proofs.YtibcegfhllkdgaaDoor.AM
