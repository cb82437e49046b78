/- The facts of this program's types, for the walks. -/
import Derived.Test.YtpkjgjomiikofaaDoorA17
import Derived.Test.YtpkjgjomiikofaaDoorProg
namespace Go.Proofs.YtpkjgjomiikofaaDoor.AM
open Go Go.Proofs
theorem mixed : Tryd.prog.follows .mixedOrders = true := by kernel_rfl
theorem ag22 : aggA Tryd.prog 22 = some false := by kernel_rfl
theorem ag24 : aggA Tryd.prog 24 = some false := by kernel_rfl
theorem ag26 : aggA Tryd.prog 26 = some true := by kernel_rfl
theorem ag3 : aggA Tryd.prog 3 = some false := by kernel_rfl
theorem ag4 : aggA Tryd.prog 4 = some false := by kernel_rfl
theorem ag5 : aggA Tryd.prog 5 = some false := by kernel_rfl
theorem ag78 : aggA Tryd.prog 78 = some false := by kernel_rfl
theorem ag83 : aggA Tryd.prog 83 = some false := by kernel_rfl
theorem ag9 : aggA Tryd.prog 9 = some false := by kernel_rfl
theorem ag91 : aggA Tryd.prog 91 = some false := by kernel_rfl
theorem bu116 : buildA Tryd.prog 116 = some ([.string ⟨#[]⟩, .string ⟨#[]⟩, .nilIface], #[(0, 1), (1, 1), (2, 1)]) := by kernel_rfl
theorem bu122 : buildA Tryd.prog 122 = some ([.string ⟨#[]⟩], #[(0, 1)]) := by kernel_rfl
theorem bu26 : buildA Tryd.prog 26 = some ([.int .i64 0, .int .i64 0, .string ⟨#[]⟩, .slice none 0 0], #[(0, 1), (1, 1), (2, 1), (3, 1)]) := by kernel_rfl
theorem bu39 : buildA Tryd.prog 39 = some ([.string ⟨#[]⟩], #[(0, 1)]) := by kernel_rfl
theorem bu49 : buildA Tryd.prog 49 = some ([.string ⟨#[]⟩, .int .i64 0, .bool false], #[(0, 1), (1, 1), (2, 1)]) := by kernel_rfl
theorem bu58 : buildA Tryd.prog 58 = some ([.slice none 0 0, .int .i64 0, .int .i64 0], #[(0, 1), (1, 1), (2, 1)]) := by kernel_rfl
theorem by26 : bytA Tryd.prog 26 = some 56 := by kernel_rfl
theorem by5 : bytA Tryd.prog 5 = some 1 := by kernel_rfl
theorem by9 : bytA Tryd.prog 9 = some 16 := by kernel_rfl
theorem el22 : elemA Tryd.prog 22 = some 5 := by kernel_rfl
theorem el24 : elemA Tryd.prog 24 = some 26 := by kernel_rfl
theorem el46 : elemA Tryd.prog 46 = some 9 := by kernel_rfl
theorem el53 : elemA Tryd.prog 53 = some 3 := by kernel_rfl
theorem of26_0 : offA Tryd.prog 26 0 = some 0 := by kernel_rfl
theorem of26_1 : offA Tryd.prog 26 1 = some 1 := by kernel_rfl
theorem of26_2 : offA Tryd.prog 26 2 = some 2 := by kernel_rfl
theorem of26_3 : offA Tryd.prog 26 3 = some 3 := by kernel_rfl
theorem of39_0 : offA Tryd.prog 39 0 = some 0 := by kernel_rfl
theorem of49_0 : offA Tryd.prog 49 0 = some 0 := by kernel_rfl
theorem of49_1 : offA Tryd.prog 49 1 = some 1 := by kernel_rfl
theorem of49_2 : offA Tryd.prog 49 2 = some 2 := by kernel_rfl
theorem of58_0 : offA Tryd.prog 58 0 = some 0 := by kernel_rfl
theorem of58_1 : offA Tryd.prog 58 1 = some 1 := by kernel_rfl
theorem of58_2 : offA Tryd.prog 58 2 = some 2 := by kernel_rfl
theorem of80_0 : offA Tryd.prog 80 0 = some 0 := by kernel_rfl
theorem of80_1 : offA Tryd.prog 80 1 = some 1 := by kernel_rfl
theorem ro26_0 : rowA Tryd.prog 26 0 = some [] := by kernel_rfl
theorem ro26_1 : rowA Tryd.prog 26 1 = some [.int .i64 0, .int .i64 0, .string ⟨#[]⟩, .slice none 0 0] := by kernel_rfl
theorem ro26_2 : rowA Tryd.prog 26 2 = some [.int .i64 0, .int .i64 0, .string ⟨#[]⟩, .slice none 0 0, .int .i64 0, .int .i64 0, .string ⟨#[]⟩, .slice none 0 0] := by kernel_rfl
theorem ro3_3 : rowA Tryd.prog 3 3 = some [.int .i64 0, .int .i64 0, .int .i64 0] := by kernel_rfl
theorem ro5_1 : rowA Tryd.prog 5 1 = some [.int .u8 0] := by kernel_rfl
theorem ro9_1 : rowA Tryd.prog 9 1 = some [.string ⟨#[]⟩] := by kernel_rfl
theorem ro9_2 : rowA Tryd.prog 9 2 = some [.string ⟨#[]⟩, .string ⟨#[]⟩] := by kernel_rfl
theorem ro9_3 : rowA Tryd.prog 9 3 = some [.string ⟨#[]⟩, .string ⟨#[]⟩, .string ⟨#[]⟩] := by kernel_rfl
theorem ro9_4 : rowA Tryd.prog 9 4 = some [.string ⟨#[]⟩, .string ⟨#[]⟩, .string ⟨#[]⟩, .string ⟨#[]⟩] := by kernel_rfl
theorem ro9_8 : rowA Tryd.prog 9 8 = some [.string ⟨#[]⟩, .string ⟨#[]⟩, .string ⟨#[]⟩, .string ⟨#[]⟩, .string ⟨#[]⟩, .string ⟨#[]⟩, .string ⟨#[]⟩, .string ⟨#[]⟩] := by kernel_rfl
theorem sz22 : szA Tryd.prog 22 = some 1 := by kernel_rfl
theorem sz24 : szA Tryd.prog 24 = some 1 := by kernel_rfl
theorem sz26 : szA Tryd.prog 26 = some 4 := by kernel_rfl
theorem sz3 : szA Tryd.prog 3 = some 1 := by kernel_rfl
theorem sz4 : szA Tryd.prog 4 = some 1 := by kernel_rfl
theorem sz5 : szA Tryd.prog 5 = some 1 := by kernel_rfl
theorem sz78 : szA Tryd.prog 78 = some 1 := by kernel_rfl
theorem sz83 : szA Tryd.prog 83 = some 1 := by kernel_rfl
theorem sz9 : szA Tryd.prog 9 = some 1 := by kernel_rfl
theorem sz91 : szA Tryd.prog 91 = some 1 := by kernel_rfl
theorem ze109 : zeroA Tryd.prog 109 = some [.int .u8 0, .int .u8 0, .int .u8 0, .int .u8 0, .int .u8 0, .int .u8 0, .int .u8 0, .int .u8 0, .int .u8 0, .int .u8 0, .int .u8 0, .int .u8 0, .int .u8 0, .int .u8 0, .int .u8 0, .int .u8 0, .int .u8 0, .int .u8 0, .int .u8 0, .int .u8 0, .int .u8 0, .int .u8 0, .int .u8 0, .int .u8 0, .int .u8 0, .int .u8 0, .int .u8 0, .int .u8 0, .int .u8 0, .int .u8 0, .int .u8 0, .int .u8 0, .int .u8 0, .int .u8 0, .int .u8 0, .int .u8 0, .int .u8 0, .int .u8 0, .int .u8 0, .int .u8 0, .int .u8 0, .int .u8 0, .int .u8 0, .int .u8 0, .int .u8 0, .int .u8 0, .int .u8 0, .int .u8 0, .int .u8 0, .int .u8 0, .int .u8 0, .int .u8 0, .int .u8 0, .int .u8 0, .int .u8 0, .int .u8 0, .int .u8 0, .int .u8 0, .int .u8 0, .int .u8 0, .int .u8 0, .int .u8 0, .int .u8 0, .int .u8 0, .int .u8 0] := by kernel_rfl
theorem ze26 : zeroA Tryd.prog 26 = some [.int .i64 0, .int .i64 0, .string ⟨#[]⟩, .slice none 0 0] := by kernel_rfl
theorem ze5 : zeroA Tryd.prog 5 = some [.int .u8 0] := by kernel_rfl
theorem ze80 : zeroA Tryd.prog 80 = some [.pointer none, .slice none 0 0] := by kernel_rfl
theorem ze9 : zeroA Tryd.prog 9 = some [.string ⟨#[]⟩] := by kernel_rfl
theorem ze90 : zeroA Tryd.prog 90 = some [.int .u8 0, .int .u8 0, .int .u8 0, .int .u8 0, .int .u8 0, .int .u8 0, .int .u8 0, .int .u8 0, .int .u8 0, .int .u8 0, .int .u8 0, .int .u8 0, .int .u8 0, .int .u8 0, .int .u8 0, .int .u8 0, .int .u8 0, .int .u8 0, .int .u8 0, .int .u8 0, .int .u8 0, .int .u8 0, .int .u8 0, .int .u8 0] := by kernel_rfl
end Go.Proofs.YtpkjgjomiikofaaDoor.AM
