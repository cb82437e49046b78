/- The facts of this program's types, for the walks. -/
import Derived.Test.YtfckojbllbdejaaA17
import Derived.Test.YtfckojbllbdejaaProg
namespace Go.Proofs.Ytfckojbllbdejaa.AM
open Go Go.Proofs
theorem mixed : Try.prog.follows .mixedOrders = true := by kernel_rfl
theorem ag22 : aggA Try.prog 22 = some false := by kernel_rfl
theorem ag24 : aggA Try.prog 24 = some false := by kernel_rfl
theorem ag26 : aggA Try.prog 26 = some true := by kernel_rfl
theorem ag3 : aggA Try.prog 3 = some false := by kernel_rfl
theorem ag31 : aggA Try.prog 31 = some true := by kernel_rfl
theorem ag5 : aggA Try.prog 5 = some false := by kernel_rfl
theorem ag9 : aggA Try.prog 9 = some false := by kernel_rfl
theorem bu26 : buildA Try.prog 26 = some ([.int .i64 0, .int .i64 0, .string ⟨#[]⟩, .slice none 0 0], #[(0, 1), (1, 1), (2, 1), (3, 1)]) := by kernel_rfl
theorem bu31 : buildA Try.prog 31 = some ([.int .i64 0, .int .i64 0, .int .i64 0, .string ⟨#[]⟩, .slice none 0 0, .int .i64 0, .int .i64 0, .string ⟨#[]⟩, .slice none 0 0], #[(0, 1), (1, 4), (5, 4)]) := by kernel_rfl
theorem bu51 : buildA Try.prog 51 = some ([.slice none 0 0, .int .i64 0, .int .i64 0], #[(0, 1), (1, 1), (2, 1)]) := by kernel_rfl
theorem by26 : bytA Try.prog 26 = some 56 := by kernel_rfl
theorem by9 : bytA Try.prog 9 = some 16 := by kernel_rfl
theorem el22 : elemA Try.prog 22 = some 5 := by kernel_rfl
theorem el24 : elemA Try.prog 24 = some 26 := by kernel_rfl
theorem el42 : elemA Try.prog 42 = some 3 := by kernel_rfl
theorem el45 : elemA Try.prog 45 = some 9 := by kernel_rfl
theorem of26_0 : offA Try.prog 26 0 = some 0 := by kernel_rfl
theorem of26_1 : offA Try.prog 26 1 = some 1 := by kernel_rfl
theorem of26_2 : offA Try.prog 26 2 = some 2 := by kernel_rfl
theorem of26_3 : offA Try.prog 26 3 = some 3 := by kernel_rfl
theorem of31_0 : offA Try.prog 31 0 = some 0 := by kernel_rfl
theorem of31_1 : offA Try.prog 31 1 = some 1 := by kernel_rfl
theorem of31_2 : offA Try.prog 31 2 = some 5 := by kernel_rfl
theorem of51_0 : offA Try.prog 51 0 = some 0 := by kernel_rfl
theorem of51_1 : offA Try.prog 51 1 = some 1 := by kernel_rfl
theorem of51_2 : offA Try.prog 51 2 = some 2 := by kernel_rfl
theorem ro26_0 : rowA Try.prog 26 0 = some [] := by kernel_rfl
theorem ro26_1 : rowA Try.prog 26 1 = some [.int .i64 0, .int .i64 0, .string ⟨#[]⟩, .slice none 0 0] := by kernel_rfl
theorem ro26_2 : rowA Try.prog 26 2 = some [.int .i64 0, .int .i64 0, .string ⟨#[]⟩, .slice none 0 0, .int .i64 0, .int .i64 0, .string ⟨#[]⟩, .slice none 0 0] := by kernel_rfl
theorem ro3_3 : rowA Try.prog 3 3 = some [.int .i64 0, .int .i64 0, .int .i64 0] := by kernel_rfl
theorem ro9_0 : rowA Try.prog 9 0 = some [] := by kernel_rfl
theorem ro9_1 : rowA Try.prog 9 1 = some [.string ⟨#[]⟩] := by kernel_rfl
theorem ro9_2 : rowA Try.prog 9 2 = some [.string ⟨#[]⟩, .string ⟨#[]⟩] := by kernel_rfl
theorem ro9_3 : rowA Try.prog 9 3 = some [.string ⟨#[]⟩, .string ⟨#[]⟩, .string ⟨#[]⟩] := by kernel_rfl
theorem ro9_4 : rowA Try.prog 9 4 = some [.string ⟨#[]⟩, .string ⟨#[]⟩, .string ⟨#[]⟩, .string ⟨#[]⟩] := by kernel_rfl
theorem sz22 : szA Try.prog 22 = some 1 := by kernel_rfl
theorem sz24 : szA Try.prog 24 = some 1 := by kernel_rfl
theorem sz26 : szA Try.prog 26 = some 4 := by kernel_rfl
theorem sz3 : szA Try.prog 3 = some 1 := by kernel_rfl
theorem sz31 : szA Try.prog 31 = some 9 := by kernel_rfl
theorem sz5 : szA Try.prog 5 = some 1 := by kernel_rfl
theorem sz9 : szA Try.prog 9 = some 1 := by kernel_rfl
theorem ze26 : zeroA Try.prog 26 = some [.int .i64 0, .int .i64 0, .string ⟨#[]⟩, .slice none 0 0] := by kernel_rfl
theorem ze31 : zeroA Try.prog 31 = some [.int .i64 0, .int .i64 0, .int .i64 0, .string ⟨#[]⟩, .slice none 0 0, .int .i64 0, .int .i64 0, .string ⟨#[]⟩, .slice none 0 0] := by kernel_rfl
theorem ze9 : zeroA Try.prog 9 = some [.string ⟨#[]⟩] := by kernel_rfl
end Go.Proofs.Ytfckojbllbdejaa.AM
