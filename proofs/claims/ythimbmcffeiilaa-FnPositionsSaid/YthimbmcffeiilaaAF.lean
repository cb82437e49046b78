/- The facts of this program's types, for the walks. -/
import Derived.Test.YthimbmcffeiilaaA17
import Derived.Test.YthimbmcffeiilaaProg
namespace Go.Proofs.Ythimbmcffeiilaa.AM
open Go Go.Proofs
theorem mixed : Try.prog.follows .mixedOrders = true := by kernel_rfl
theorem ag22 : aggA Try.prog 22 = some false := by kernel_rfl
theorem ag24 : aggA Try.prog 24 = some false := by kernel_rfl
theorem ag26 : aggA Try.prog 26 = some true := by kernel_rfl
theorem ag27 : aggA Try.prog 27 = some false := by kernel_rfl
theorem ag3 : aggA Try.prog 3 = some false := by kernel_rfl
theorem ag5 : aggA Try.prog 5 = some false := by kernel_rfl
theorem ag9 : aggA Try.prog 9 = some false := by kernel_rfl
theorem bu26 : buildA Try.prog 26 = some ([.int .i64 0, .int .i64 0, .string ⟨#[]⟩, .slice none 0 0], #[(0, 1), (1, 1), (2, 1), (3, 1)]) := by kernel_rfl
theorem bu41 : buildA Try.prog 41 = some ([.slice none 0 0, .int .i64 0, .int .i64 0], #[(0, 1), (1, 1), (2, 1)]) := by kernel_rfl
theorem by26 : bytA Try.prog 26 = some 56 := by kernel_rfl
theorem by27 : bytA Try.prog 27 = some 24 := by kernel_rfl
theorem by3 : bytA Try.prog 3 = some 8 := by kernel_rfl
theorem el22 : elemA Try.prog 22 = some 5 := by kernel_rfl
theorem el24 : elemA Try.prog 24 = some 26 := by kernel_rfl
theorem el27 : elemA Try.prog 27 = some 3 := by kernel_rfl
theorem el47 : elemA Try.prog 47 = some 9 := by kernel_rfl
theorem el50 : elemA Try.prog 50 = some 27 := by kernel_rfl
theorem of26_0 : offA Try.prog 26 0 = some 0 := by kernel_rfl
theorem of26_1 : offA Try.prog 26 1 = some 1 := by kernel_rfl
theorem of26_2 : offA Try.prog 26 2 = some 2 := by kernel_rfl
theorem of26_3 : offA Try.prog 26 3 = some 3 := by kernel_rfl
theorem of41_0 : offA Try.prog 41 0 = some 0 := by kernel_rfl
theorem of41_1 : offA Try.prog 41 1 = some 1 := by kernel_rfl
theorem of41_2 : offA Try.prog 41 2 = some 2 := by kernel_rfl
theorem ro26_0 : rowA Try.prog 26 0 = some [] := by kernel_rfl
theorem ro26_1 : rowA Try.prog 26 1 = some [.int .i64 0, .int .i64 0, .string ⟨#[]⟩, .slice none 0 0] := by kernel_rfl
theorem ro26_2 : rowA Try.prog 26 2 = some [.int .i64 0, .int .i64 0, .string ⟨#[]⟩, .slice none 0 0, .int .i64 0, .int .i64 0, .string ⟨#[]⟩, .slice none 0 0] := by kernel_rfl
theorem ro27_0 : rowA Try.prog 27 0 = some [] := by kernel_rfl
theorem ro27_1 : rowA Try.prog 27 1 = some [.slice none 0 0] := by kernel_rfl
theorem ro3_0 : rowA Try.prog 3 0 = some [] := by kernel_rfl
theorem ro3_1 : rowA Try.prog 3 1 = some [.int .i64 0] := by kernel_rfl
theorem ro3_3 : rowA Try.prog 3 3 = some [.int .i64 0, .int .i64 0, .int .i64 0] := by kernel_rfl
theorem ro9_2 : rowA Try.prog 9 2 = some [.string ⟨#[]⟩, .string ⟨#[]⟩] := by kernel_rfl
theorem ro9_3 : rowA Try.prog 9 3 = some [.string ⟨#[]⟩, .string ⟨#[]⟩, .string ⟨#[]⟩] := by kernel_rfl
theorem ro9_4 : rowA Try.prog 9 4 = some [.string ⟨#[]⟩, .string ⟨#[]⟩, .string ⟨#[]⟩, .string ⟨#[]⟩] := by kernel_rfl
theorem sz22 : szA Try.prog 22 = some 1 := by kernel_rfl
theorem sz24 : szA Try.prog 24 = some 1 := by kernel_rfl
theorem sz26 : szA Try.prog 26 = some 4 := by kernel_rfl
theorem sz27 : szA Try.prog 27 = some 1 := by kernel_rfl
theorem sz3 : szA Try.prog 3 = some 1 := by kernel_rfl
theorem sz5 : szA Try.prog 5 = some 1 := by kernel_rfl
theorem sz9 : szA Try.prog 9 = some 1 := by kernel_rfl
theorem ze26 : zeroA Try.prog 26 = some [.int .i64 0, .int .i64 0, .string ⟨#[]⟩, .slice none 0 0] := by kernel_rfl
theorem ze27 : zeroA Try.prog 27 = some [.slice none 0 0] := by kernel_rfl
theorem ze3 : zeroA Try.prog 3 = some [.int .i64 0] := by kernel_rfl
end Go.Proofs.Ythimbmcffeiilaa.AM
