/- The facts of this program's types, for the walks. -/
import Derived.Test.YtkohkdlbjbbegaaDoorA17
import Derived.Test.YtkohkdlbjbbegaaDoorProg
namespace Go.Proofs.YtkohkdlbjbbegaaDoor.AM
open Go Go.Proofs
theorem mixed : Tryd.prog.follows .mixedOrders = true := by kernel_rfl
theorem ag22 : aggA Tryd.prog 22 = some false := by kernel_rfl
theorem ag24 : aggA Tryd.prog 24 = some false := by kernel_rfl
theorem ag26 : aggA Tryd.prog 26 = some true := by kernel_rfl
theorem ag3 : aggA Tryd.prog 3 = some false := by kernel_rfl
theorem ag33 : aggA Tryd.prog 33 = some false := by kernel_rfl
theorem ag5 : aggA Tryd.prog 5 = some false := by kernel_rfl
theorem ag62 : aggA Tryd.prog 62 = some false := by kernel_rfl
theorem ag76 : aggA Tryd.prog 76 = some false := by kernel_rfl
theorem ag9 : aggA Tryd.prog 9 = some false := by kernel_rfl
theorem bu26 : buildA Tryd.prog 26 = some ([.int .i64 0, .int .i64 0, .string ⟨#[]⟩, .slice none 0 0], #[(0, 1), (1, 1), (2, 1), (3, 1)]) := by kernel_rfl
theorem bu56 : buildA Tryd.prog 56 = some ([.slice none 0 0, .int .i64 0, .int .i64 0], #[(0, 1), (1, 1), (2, 1)]) := by kernel_rfl
theorem by26 : bytA Tryd.prog 26 = some 56 := by kernel_rfl
theorem by3 : bytA Tryd.prog 3 = some 8 := by kernel_rfl
theorem by33 : bytA Tryd.prog 33 = some 24 := by kernel_rfl
theorem by5 : bytA Tryd.prog 5 = some 1 := by kernel_rfl
theorem by9 : bytA Tryd.prog 9 = some 16 := by kernel_rfl
theorem el22 : elemA Tryd.prog 22 = some 5 := by kernel_rfl
theorem el24 : elemA Tryd.prog 24 = some 26 := by kernel_rfl
theorem el28 : elemA Tryd.prog 28 = some 33 := by kernel_rfl
theorem el33 : elemA Tryd.prog 33 = some 3 := by kernel_rfl
theorem el44 : elemA Tryd.prog 44 = some 9 := by kernel_rfl
theorem of26_0 : offA Tryd.prog 26 0 = some 0 := by kernel_rfl
theorem of26_1 : offA Tryd.prog 26 1 = some 1 := by kernel_rfl
theorem of26_2 : offA Tryd.prog 26 2 = some 2 := by kernel_rfl
theorem of26_3 : offA Tryd.prog 26 3 = some 3 := by kernel_rfl
theorem of56_0 : offA Tryd.prog 56 0 = some 0 := by kernel_rfl
theorem of56_1 : offA Tryd.prog 56 1 = some 1 := by kernel_rfl
theorem of56_2 : offA Tryd.prog 56 2 = some 2 := by kernel_rfl
theorem of64_0 : offA Tryd.prog 64 0 = some 0 := by kernel_rfl
theorem of64_1 : offA Tryd.prog 64 1 = some 1 := by kernel_rfl
theorem ro26_0 : rowA Tryd.prog 26 0 = some [] := by kernel_rfl
theorem ro26_1 : rowA Tryd.prog 26 1 = some [.int .i64 0, .int .i64 0, .string ⟨#[]⟩, .slice none 0 0] := by kernel_rfl
theorem ro26_2 : rowA Tryd.prog 26 2 = some [.int .i64 0, .int .i64 0, .string ⟨#[]⟩, .slice none 0 0, .int .i64 0, .int .i64 0, .string ⟨#[]⟩, .slice none 0 0] := by kernel_rfl
theorem ro3_0 : rowA Tryd.prog 3 0 = some [] := by kernel_rfl
theorem ro3_1 : rowA Tryd.prog 3 1 = some [.int .i64 0] := by kernel_rfl
theorem ro3_3 : rowA Tryd.prog 3 3 = some [.int .i64 0, .int .i64 0, .int .i64 0] := by kernel_rfl
theorem ro33_0 : rowA Tryd.prog 33 0 = some [] := by kernel_rfl
theorem ro33_1 : rowA Tryd.prog 33 1 = some [.slice none 0 0] := by kernel_rfl
theorem ro5_0 : rowA Tryd.prog 5 0 = some [] := by kernel_rfl
theorem ro5_1 : rowA Tryd.prog 5 1 = some [.int .u8 0] := by kernel_rfl
theorem ro9_0 : rowA Tryd.prog 9 0 = some [] := by kernel_rfl
theorem ro9_1 : rowA Tryd.prog 9 1 = some [.string ⟨#[]⟩] := by kernel_rfl
theorem ro9_2 : rowA Tryd.prog 9 2 = some [.string ⟨#[]⟩, .string ⟨#[]⟩] := by kernel_rfl
theorem ro9_3 : rowA Tryd.prog 9 3 = some [.string ⟨#[]⟩, .string ⟨#[]⟩, .string ⟨#[]⟩] := by kernel_rfl
theorem ro9_4 : rowA Tryd.prog 9 4 = some [.string ⟨#[]⟩, .string ⟨#[]⟩, .string ⟨#[]⟩, .string ⟨#[]⟩] := by kernel_rfl
theorem sz22 : szA Tryd.prog 22 = some 1 := by kernel_rfl
theorem sz24 : szA Tryd.prog 24 = some 1 := by kernel_rfl
theorem sz26 : szA Tryd.prog 26 = some 4 := by kernel_rfl
theorem sz3 : szA Tryd.prog 3 = some 1 := by kernel_rfl
theorem sz33 : szA Tryd.prog 33 = some 1 := by kernel_rfl
theorem sz5 : szA Tryd.prog 5 = some 1 := by kernel_rfl
theorem sz62 : szA Tryd.prog 62 = some 1 := by kernel_rfl
theorem sz76 : szA Tryd.prog 76 = some 1 := by kernel_rfl
theorem sz9 : szA Tryd.prog 9 = some 1 := by kernel_rfl
theorem ze26 : zeroA Tryd.prog 26 = some [.int .i64 0, .int .i64 0, .string ⟨#[]⟩, .slice none 0 0] := by kernel_rfl
theorem ze3 : zeroA Tryd.prog 3 = some [.int .i64 0] := by kernel_rfl
theorem ze33 : zeroA Tryd.prog 33 = some [.slice none 0 0] := by kernel_rfl
theorem ze5 : zeroA Tryd.prog 5 = some [.int .u8 0] := by kernel_rfl
theorem ze64 : zeroA Tryd.prog 64 = some [.pointer none, .slice none 0 0] := by kernel_rfl
theorem ze75 : zeroA Tryd.prog 75 = some [.int .u8 0, .int .u8 0, .int .u8 0, .int .u8 0, .int .u8 0, .int .u8 0, .int .u8 0, .int .u8 0, .int .u8 0, .int .u8 0, .int .u8 0, .int .u8 0, .int .u8 0, .int .u8 0, .int .u8 0, .int .u8 0, .int .u8 0, .int .u8 0, .int .u8 0, .int .u8 0, .int .u8 0, .int .u8 0, .int .u8 0, .int .u8 0] := by kernel_rfl
theorem ze88 : zeroA Tryd.prog 88 = some [.int .u8 0, .int .u8 0, .int .u8 0, .int .u8 0, .int .u8 0, .int .u8 0, .int .u8 0, .int .u8 0, .int .u8 0, .int .u8 0, .int .u8 0, .int .u8 0, .int .u8 0, .int .u8 0, .int .u8 0, .int .u8 0, .int .u8 0, .int .u8 0, .int .u8 0, .int .u8 0, .int .u8 0, .int .u8 0, .int .u8 0, .int .u8 0, .int .u8 0, .int .u8 0, .int .u8 0, .int .u8 0, .int .u8 0, .int .u8 0, .int .u8 0, .int .u8 0, .int .u8 0, .int .u8 0, .int .u8 0, .int .u8 0, .int .u8 0, .int .u8 0, .int .u8 0, .int .u8 0, .int .u8 0, .int .u8 0, .int .u8 0, .int .u8 0, .int .u8 0, .int .u8 0, .int .u8 0, .int .u8 0, .int .u8 0, .int .u8 0, .int .u8 0, .int .u8 0, .int .u8 0, .int .u8 0, .int .u8 0, .int .u8 0, .int .u8 0, .int .u8 0, .int .u8 0, .int .u8 0, .int .u8 0, .int .u8 0, .int .u8 0, .int .u8 0, .int .u8 0] := by kernel_rfl
theorem ze9 : zeroA Tryd.prog 9 = some [.string ⟨#[]⟩] := by kernel_rfl
end Go.Proofs.YtkohkdlbjbbegaaDoor.AM
