/- The facts of this program's types, for the walks. -/
import Derived.Test.YtfcnhloknklkaaaA17
import Derived.Test.YtfcnhloknklkaaaProg
namespace Go.Proofs.Ytfcnhloknklkaaa.AM
open Go Go.Proofs
theorem mixed : Try.prog.follows .mixedOrders = true := by kernel_rfl
theorem ag23 : aggA Try.prog 23 = some false := by kernel_rfl
theorem ag25 : aggA Try.prog 25 = some true := by kernel_rfl
theorem ag27 : aggA Try.prog 27 = some true := by kernel_rfl
theorem ag3 : aggA Try.prog 3 = some false := by kernel_rfl
theorem ag30 : aggA Try.prog 30 = some false := by kernel_rfl
theorem ag32 : aggA Try.prog 32 = some true := by kernel_rfl
theorem ag34 : aggA Try.prog 34 = some true := by kernel_rfl
theorem ag46 : aggA Try.prog 46 = some true := by kernel_rfl
theorem ag50 : aggA Try.prog 50 = some true := by kernel_rfl
theorem ag9 : aggA Try.prog 9 = some false := by kernel_rfl
theorem bu32 : buildA Try.prog 32 = some ([.int .i64 0, .int .i64 0, .string ⟨#[]⟩, .slice none 0 0], #[(0, 1), (1, 1), (2, 1), (3, 1)]) := by kernel_rfl
theorem bu34 : buildA Try.prog 34 = some ([.int .i64 0, .int .i64 0, .int .i64 0, .string ⟨#[]⟩, .slice none 0 0, .int .i64 0, .int .i64 0, .string ⟨#[]⟩, .slice none 0 0], #[(0, 1), (1, 4), (5, 4)]) := by kernel_rfl
theorem by32 : bytA Try.prog 32 = some 56 := by kernel_rfl
theorem by50 : bytA Try.prog 50 = some 72 := by kernel_rfl
theorem el22 : elemA Try.prog 22 = some 46 := by kernel_rfl
theorem el23 : elemA Try.prog 23 = some 25 := by kernel_rfl
theorem el30 : elemA Try.prog 30 = some 32 := by kernel_rfl
theorem el36 : elemA Try.prog 36 = some 50 := by kernel_rfl
theorem el64 : elemA Try.prog 64 = some 5 := by kernel_rfl
theorem of25_0 : offA Try.prog 25 0 = some 0 := by kernel_rfl
theorem of25_1 : offA Try.prog 25 1 = some 1 := by kernel_rfl
theorem of25_2 : offA Try.prog 25 2 = some 2 := by kernel_rfl
theorem of25_3 : offA Try.prog 25 3 = some 3 := by kernel_rfl
theorem of27_0 : offA Try.prog 27 0 = some 0 := by kernel_rfl
theorem of27_1 : offA Try.prog 27 1 = some 1 := by kernel_rfl
theorem of27_2 : offA Try.prog 27 2 = some 5 := by kernel_rfl
theorem of32_0 : offA Try.prog 32 0 = some 0 := by kernel_rfl
theorem of32_1 : offA Try.prog 32 1 = some 1 := by kernel_rfl
theorem of32_2 : offA Try.prog 32 2 = some 2 := by kernel_rfl
theorem of32_3 : offA Try.prog 32 3 = some 3 := by kernel_rfl
theorem of34_0 : offA Try.prog 34 0 = some 0 := by kernel_rfl
theorem of34_1 : offA Try.prog 34 1 = some 1 := by kernel_rfl
theorem of34_2 : offA Try.prog 34 2 = some 5 := by kernel_rfl
theorem of46_0 : offA Try.prog 46 0 = some 0 := by kernel_rfl
theorem of46_1 : offA Try.prog 46 1 = some 1 := by kernel_rfl
theorem of50_0 : offA Try.prog 50 0 = some 0 := by kernel_rfl
theorem of50_1 : offA Try.prog 50 1 = some 1 := by kernel_rfl
theorem ro32_0 : rowA Try.prog 32 0 = some [] := by kernel_rfl
theorem ro32_1 : rowA Try.prog 32 1 = some [.int .i64 0, .int .i64 0, .string ⟨#[]⟩, .slice none 0 0] := by kernel_rfl
theorem ro5_1 : rowA Try.prog 5 1 = some [.int .u8 0] := by kernel_rfl
theorem sz23 : szA Try.prog 23 = some 1 := by kernel_rfl
theorem sz25 : szA Try.prog 25 = some 4 := by kernel_rfl
theorem sz27 : szA Try.prog 27 = some 9 := by kernel_rfl
theorem sz3 : szA Try.prog 3 = some 1 := by kernel_rfl
theorem sz30 : szA Try.prog 30 = some 1 := by kernel_rfl
theorem sz32 : szA Try.prog 32 = some 4 := by kernel_rfl
theorem sz34 : szA Try.prog 34 = some 9 := by kernel_rfl
theorem sz46 : szA Try.prog 46 = some 5 := by kernel_rfl
theorem sz5 : szA Try.prog 5 = some 1 := by kernel_rfl
theorem sz50 : szA Try.prog 50 = some 5 := by kernel_rfl
theorem sz9 : szA Try.prog 9 = some 1 := by kernel_rfl
theorem ze32 : zeroA Try.prog 32 = some [.int .i64 0, .int .i64 0, .string ⟨#[]⟩, .slice none 0 0] := by kernel_rfl
theorem ze34 : zeroA Try.prog 34 = some [.int .i64 0, .int .i64 0, .int .i64 0, .string ⟨#[]⟩, .slice none 0 0, .int .i64 0, .int .i64 0, .string ⟨#[]⟩, .slice none 0 0] := by kernel_rfl
theorem ze50 : zeroA Try.prog 50 = some [.string ⟨#[]⟩, .int .i64 0, .int .i64 0, .string ⟨#[]⟩, .slice none 0 0] := by kernel_rfl
end Go.Proofs.Ytfcnhloknklkaaa.AM
