/- The facts of this program's types, for the walks. -/
import Derived.Test.YtnjihobgidkckaaDoorA17
import Derived.Test.YtnjihobgidkckaaDoorProg
namespace Go.Proofs.YtnjihobgidkckaaDoor.AM
open Go Go.Proofs
theorem mixed : Tryd.prog.follows .mixedOrders = true := by kernel_rfl
theorem ag22 : aggA Tryd.prog 22 = some false := by kernel_rfl
theorem ag24 : aggA Tryd.prog 24 = some true := by kernel_rfl
theorem ag27 : aggA Tryd.prog 27 = some false := by kernel_rfl
theorem ag29 : aggA Tryd.prog 29 = some true := by kernel_rfl
theorem ag3 : aggA Tryd.prog 3 = some false := by kernel_rfl
theorem ag43 : aggA Tryd.prog 43 = some false := by kernel_rfl
theorem ag47 : aggA Tryd.prog 47 = some false := by kernel_rfl
theorem ag5 : aggA Tryd.prog 5 = some false := by kernel_rfl
theorem ag60 : aggA Tryd.prog 60 = some false := by kernel_rfl
theorem ag9 : aggA Tryd.prog 9 = some false := by kernel_rfl
theorem by29 : bytA Tryd.prog 29 = some 56 := by kernel_rfl
theorem by5 : bytA Tryd.prog 5 = some 1 := by kernel_rfl
theorem by9 : bytA Tryd.prog 9 = some 16 := by kernel_rfl
theorem el22 : elemA Tryd.prog 22 = some 24 := by kernel_rfl
theorem el27 : elemA Tryd.prog 27 = some 29 := by kernel_rfl
theorem el40 : elemA Tryd.prog 40 = some 9 := by kernel_rfl
theorem el43 : elemA Tryd.prog 43 = some 5 := by kernel_rfl
theorem of24_0 : offA Tryd.prog 24 0 = some 0 := by kernel_rfl
theorem of24_1 : offA Tryd.prog 24 1 = some 1 := by kernel_rfl
theorem of24_2 : offA Tryd.prog 24 2 = some 2 := by kernel_rfl
theorem of24_3 : offA Tryd.prog 24 3 = some 3 := by kernel_rfl
theorem of29_0 : offA Tryd.prog 29 0 = some 0 := by kernel_rfl
theorem of29_1 : offA Tryd.prog 29 1 = some 1 := by kernel_rfl
theorem of29_2 : offA Tryd.prog 29 2 = some 2 := by kernel_rfl
theorem of29_3 : offA Tryd.prog 29 3 = some 3 := by kernel_rfl
theorem of49_0 : offA Tryd.prog 49 0 = some 0 := by kernel_rfl
theorem of49_1 : offA Tryd.prog 49 1 = some 1 := by kernel_rfl
theorem ro5_1 : rowA Tryd.prog 5 1 = some [.int .u8 0] := by kernel_rfl
theorem ro9_1 : rowA Tryd.prog 9 1 = some [.string ⟨#[]⟩] := by kernel_rfl
theorem sz22 : szA Tryd.prog 22 = some 1 := by kernel_rfl
theorem sz24 : szA Tryd.prog 24 = some 4 := by kernel_rfl
theorem sz27 : szA Tryd.prog 27 = some 1 := by kernel_rfl
theorem sz29 : szA Tryd.prog 29 = some 4 := by kernel_rfl
theorem sz3 : szA Tryd.prog 3 = some 1 := by kernel_rfl
theorem sz43 : szA Tryd.prog 43 = some 1 := by kernel_rfl
theorem sz47 : szA Tryd.prog 47 = some 1 := by kernel_rfl
theorem sz5 : szA Tryd.prog 5 = some 1 := by kernel_rfl
theorem sz60 : szA Tryd.prog 60 = some 1 := by kernel_rfl
theorem sz9 : szA Tryd.prog 9 = some 1 := by kernel_rfl
theorem ze29 : zeroA Tryd.prog 29 = some [.int .i64 0, .int .i64 0, .string ⟨#[]⟩, .slice none 0 0] := by kernel_rfl
theorem ze49 : zeroA Tryd.prog 49 = some [.pointer none, .slice none 0 0] := by kernel_rfl
theorem ze5 : zeroA Tryd.prog 5 = some [.int .u8 0] := by kernel_rfl
theorem ze59 : zeroA Tryd.prog 59 = some [.int .u8 0, .int .u8 0, .int .u8 0, .int .u8 0, .int .u8 0, .int .u8 0, .int .u8 0, .int .u8 0, .int .u8 0, .int .u8 0, .int .u8 0, .int .u8 0, .int .u8 0, .int .u8 0, .int .u8 0, .int .u8 0, .int .u8 0, .int .u8 0, .int .u8 0, .int .u8 0, .int .u8 0, .int .u8 0, .int .u8 0, .int .u8 0] := by kernel_rfl
theorem ze72 : zeroA Tryd.prog 72 = some [.int .u8 0, .int .u8 0, .int .u8 0, .int .u8 0, .int .u8 0, .int .u8 0, .int .u8 0, .int .u8 0, .int .u8 0, .int .u8 0, .int .u8 0, .int .u8 0, .int .u8 0, .int .u8 0, .int .u8 0, .int .u8 0, .int .u8 0, .int .u8 0, .int .u8 0, .int .u8 0, .int .u8 0, .int .u8 0, .int .u8 0, .int .u8 0, .int .u8 0, .int .u8 0, .int .u8 0, .int .u8 0, .int .u8 0, .int .u8 0, .int .u8 0, .int .u8 0, .int .u8 0, .int .u8 0, .int .u8 0, .int .u8 0, .int .u8 0, .int .u8 0, .int .u8 0, .int .u8 0, .int .u8 0, .int .u8 0, .int .u8 0, .int .u8 0, .int .u8 0, .int .u8 0, .int .u8 0, .int .u8 0, .int .u8 0, .int .u8 0, .int .u8 0, .int .u8 0, .int .u8 0, .int .u8 0, .int .u8 0, .int .u8 0, .int .u8 0, .int .u8 0, .int .u8 0, .int .u8 0, .int .u8 0, .int .u8 0, .int .u8 0, .int .u8 0, .int .u8 0] := by kernel_rfl
theorem ze9 : zeroA Tryd.prog 9 = some [.string ⟨#[]⟩] := by kernel_rfl
end Go.Proofs.YtnjihobgidkckaaDoor.AM
