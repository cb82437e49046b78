/- The facts of this program's types, for the walks. -/
import Derived.Test.YtngkedafggfehaaDoorA17
import Derived.Test.YtngkedafggfehaaDoorProg
namespace Go.Proofs.YtngkedafggfehaaDoor.AM
open Go Go.Proofs
theorem mixed : Tryd.prog.follows .mixedOrders = true := by kernel_rfl
theorem ag22 : aggA Tryd.prog 22 = some false := by kernel_rfl
theorem ag24 : aggA Tryd.prog 24 = some true := by kernel_rfl
theorem ag26 : aggA Tryd.prog 26 = some true := by kernel_rfl
theorem ag29 : aggA Tryd.prog 29 = some false := by kernel_rfl
theorem ag3 : aggA Tryd.prog 3 = some false := by kernel_rfl
theorem ag31 : aggA Tryd.prog 31 = some true := by kernel_rfl
theorem ag33 : aggA Tryd.prog 33 = some true := by kernel_rfl
theorem ag5 : aggA Tryd.prog 5 = some false := by kernel_rfl
theorem ag54 : aggA Tryd.prog 54 = some false := by kernel_rfl
theorem ag56 : aggA Tryd.prog 56 = some false := by kernel_rfl
theorem ag69 : aggA Tryd.prog 69 = some false := by kernel_rfl
theorem ag9 : aggA Tryd.prog 9 = some false := by kernel_rfl
theorem by31 : bytA Tryd.prog 31 = some 56 := by kernel_rfl
theorem by5 : bytA Tryd.prog 5 = some 1 := by kernel_rfl
theorem by9 : bytA Tryd.prog 9 = some 16 := by kernel_rfl
theorem el22 : elemA Tryd.prog 22 = some 24 := by kernel_rfl
theorem el29 : elemA Tryd.prog 29 = some 31 := by kernel_rfl
theorem el46 : elemA Tryd.prog 46 = some 9 := by kernel_rfl
theorem el54 : elemA Tryd.prog 54 = some 5 := by kernel_rfl
theorem of24_0 : offA Tryd.prog 24 0 = some 0 := by kernel_rfl
theorem of24_1 : offA Tryd.prog 24 1 = some 1 := by kernel_rfl
theorem of24_2 : offA Tryd.prog 24 2 = some 2 := by kernel_rfl
theorem of24_3 : offA Tryd.prog 24 3 = some 3 := by kernel_rfl
theorem of26_0 : offA Tryd.prog 26 0 = some 0 := by kernel_rfl
theorem of26_1 : offA Tryd.prog 26 1 = some 1 := by kernel_rfl
theorem of26_2 : offA Tryd.prog 26 2 = some 5 := by kernel_rfl
theorem of31_0 : offA Tryd.prog 31 0 = some 0 := by kernel_rfl
theorem of31_1 : offA Tryd.prog 31 1 = some 1 := by kernel_rfl
theorem of31_2 : offA Tryd.prog 31 2 = some 2 := by kernel_rfl
theorem of31_3 : offA Tryd.prog 31 3 = some 3 := by kernel_rfl
theorem of33_0 : offA Tryd.prog 33 0 = some 0 := by kernel_rfl
theorem of33_1 : offA Tryd.prog 33 1 = some 1 := by kernel_rfl
theorem of33_2 : offA Tryd.prog 33 2 = some 5 := by kernel_rfl
theorem of58_0 : offA Tryd.prog 58 0 = some 0 := by kernel_rfl
theorem of58_1 : offA Tryd.prog 58 1 = some 1 := by kernel_rfl
theorem ro5_1 : rowA Tryd.prog 5 1 = some [.int .u8 0] := by kernel_rfl
theorem ro9_1 : rowA Tryd.prog 9 1 = some [.string ⟨#[]⟩] := by kernel_rfl
theorem ro9_3 : rowA Tryd.prog 9 3 = some [.string ⟨#[]⟩, .string ⟨#[]⟩, .string ⟨#[]⟩] := by kernel_rfl
theorem ro9_4 : rowA Tryd.prog 9 4 = some [.string ⟨#[]⟩, .string ⟨#[]⟩, .string ⟨#[]⟩, .string ⟨#[]⟩] := by kernel_rfl
theorem sz22 : szA Tryd.prog 22 = some 1 := by kernel_rfl
theorem sz24 : szA Tryd.prog 24 = some 4 := by kernel_rfl
theorem sz26 : szA Tryd.prog 26 = some 9 := by kernel_rfl
theorem sz29 : szA Tryd.prog 29 = some 1 := by kernel_rfl
theorem sz3 : szA Tryd.prog 3 = some 1 := by kernel_rfl
theorem sz31 : szA Tryd.prog 31 = some 4 := by kernel_rfl
theorem sz33 : szA Tryd.prog 33 = some 9 := by kernel_rfl
theorem sz5 : szA Tryd.prog 5 = some 1 := by kernel_rfl
theorem sz54 : szA Tryd.prog 54 = some 1 := by kernel_rfl
theorem sz56 : szA Tryd.prog 56 = some 1 := by kernel_rfl
theorem sz69 : szA Tryd.prog 69 = some 1 := by kernel_rfl
theorem sz9 : szA Tryd.prog 9 = some 1 := by kernel_rfl
theorem ze31 : zeroA Tryd.prog 31 = some [.int .i64 0, .int .i64 0, .string ⟨#[]⟩, .slice none 0 0] := by kernel_rfl
theorem ze33 : zeroA Tryd.prog 33 = some [.int .i64 0, .int .i64 0, .int .i64 0, .string ⟨#[]⟩, .slice none 0 0, .int .i64 0, .int .i64 0, .string ⟨#[]⟩, .slice none 0 0] := by kernel_rfl
theorem ze5 : zeroA Tryd.prog 5 = some [.int .u8 0] := by kernel_rfl
theorem ze58 : zeroA Tryd.prog 58 = some [.pointer none, .slice none 0 0] := by kernel_rfl
theorem ze68 : zeroA Tryd.prog 68 = some [.int .u8 0, .int .u8 0, .int .u8 0, .int .u8 0, .int .u8 0, .int .u8 0, .int .u8 0, .int .u8 0, .int .u8 0, .int .u8 0, .int .u8 0, .int .u8 0, .int .u8 0, .int .u8 0, .int .u8 0, .int .u8 0, .int .u8 0, .int .u8 0, .int .u8 0, .int .u8 0, .int .u8 0, .int .u8 0, .int .u8 0, .int .u8 0] := by kernel_rfl
theorem ze81 : zeroA Tryd.prog 81 = some [.int .u8 0, .int .u8 0, .int .u8 0, .int .u8 0, .int .u8 0, .int .u8 0, .int .u8 0, .int .u8 0, .int .u8 0, .int .u8 0, .int .u8 0, .int .u8 0, .int .u8 0, .int .u8 0, .int .u8 0, .int .u8 0, .int .u8 0, .int .u8 0, .int .u8 0, .int .u8 0, .int .u8 0, .int .u8 0, .int .u8 0, .int .u8 0, .int .u8 0, .int .u8 0, .int .u8 0, .int .u8 0, .int .u8 0, .int .u8 0, .int .u8 0, .int .u8 0, .int .u8 0, .int .u8 0, .int .u8 0, .int .u8 0, .int .u8 0, .int .u8 0, .int .u8 0, .int .u8 0, .int .u8 0, .int .u8 0, .int .u8 0, .int .u8 0, .int .u8 0, .int .u8 0, .int .u8 0, .int .u8 0, .int .u8 0, .int .u8 0, .int .u8 0, .int .u8 0, .int .u8 0, .int .u8 0, .int .u8 0, .int .u8 0, .int .u8 0, .int .u8 0, .int .u8 0, .int .u8 0, .int .u8 0, .int .u8 0, .int .u8 0, .int .u8 0, .int .u8 0] := by kernel_rfl
theorem ze9 : zeroA Tryd.prog 9 = some [.string ⟨#[]⟩] := by kernel_rfl
end Go.Proofs.YtngkedafggfehaaDoor.AM
