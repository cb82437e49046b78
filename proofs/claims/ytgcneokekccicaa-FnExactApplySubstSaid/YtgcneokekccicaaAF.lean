/- The facts of this program's types, for the walks. -/
import Derived.Test.YtgcneokekccicaaA17
import Derived.Test.YtgcneokekccicaaProg
namespace Go.Proofs.Ytgcneokekccicaa.AM
open Go Go.Proofs
theorem mixed : Try.prog.follows .mixedOrders = true := by kernel_rfl
theorem ag23 : aggA Try.prog 23 = some false := by kernel_rfl
theorem ag25 : aggA Try.prog 25 = some true := by kernel_rfl
theorem ag28 : aggA Try.prog 28 = some false := by kernel_rfl
theorem ag3 : aggA Try.prog 3 = some false := by kernel_rfl
theorem ag30 : aggA Try.prog 30 = some true := by kernel_rfl
theorem ag42 : aggA Try.prog 42 = some true := by kernel_rfl
theorem ag47 : aggA Try.prog 47 = some true := by kernel_rfl
theorem ag9 : aggA Try.prog 9 = some false := by kernel_rfl
theorem bu30 : buildA Try.prog 30 = some ([.int .i64 0, .int .i64 0, .string ⟨#[]⟩, .slice none 0 0], #[(0, 1), (1, 1), (2, 1), (3, 1)]) := by kernel_rfl
theorem by30 : bytA Try.prog 30 = some 56 := by kernel_rfl
theorem by47 : bytA Try.prog 47 = some 72 := by kernel_rfl
theorem el22 : elemA Try.prog 22 = some 42 := by kernel_rfl
theorem el23 : elemA Try.prog 23 = some 25 := by kernel_rfl
theorem el28 : elemA Try.prog 28 = some 30 := by kernel_rfl
theorem el32 : elemA Try.prog 32 = some 47 := by kernel_rfl
theorem el56 : elemA Try.prog 56 = some 5 := by kernel_rfl
theorem of25_0 : offA Try.prog 25 0 = some 0 := by kernel_rfl
theorem of25_1 : offA Try.prog 25 1 = some 1 := by kernel_rfl
theorem of25_2 : offA Try.prog 25 2 = some 2 := by kernel_rfl
theorem of25_3 : offA Try.prog 25 3 = some 3 := by kernel_rfl
theorem of30_0 : offA Try.prog 30 0 = some 0 := by kernel_rfl
theorem of30_1 : offA Try.prog 30 1 = some 1 := by kernel_rfl
theorem of30_2 : offA Try.prog 30 2 = some 2 := by kernel_rfl
theorem of30_3 : offA Try.prog 30 3 = some 3 := by kernel_rfl
theorem of42_0 : offA Try.prog 42 0 = some 0 := by kernel_rfl
theorem of42_1 : offA Try.prog 42 1 = some 1 := by kernel_rfl
theorem of47_0 : offA Try.prog 47 0 = some 0 := by kernel_rfl
theorem of47_1 : offA Try.prog 47 1 = some 1 := by kernel_rfl
theorem ro30_0 : rowA Try.prog 30 0 = some [] := by kernel_rfl
theorem ro30_1 : rowA Try.prog 30 1 = some [.int .i64 0, .int .i64 0, .string ⟨#[]⟩, .slice none 0 0] := by kernel_rfl
theorem ro5_1 : rowA Try.prog 5 1 = some [.int .u8 0] := by kernel_rfl
theorem sz23 : szA Try.prog 23 = some 1 := by kernel_rfl
theorem sz25 : szA Try.prog 25 = some 4 := by kernel_rfl
theorem sz28 : szA Try.prog 28 = some 1 := by kernel_rfl
theorem sz3 : szA Try.prog 3 = some 1 := by kernel_rfl
theorem sz30 : szA Try.prog 30 = some 4 := by kernel_rfl
theorem sz42 : szA Try.prog 42 = some 5 := by kernel_rfl
theorem sz47 : szA Try.prog 47 = some 5 := by kernel_rfl
theorem sz5 : szA Try.prog 5 = some 1 := by kernel_rfl
theorem sz9 : szA Try.prog 9 = some 1 := by kernel_rfl
theorem ze30 : zeroA Try.prog 30 = some [.int .i64 0, .int .i64 0, .string ⟨#[]⟩, .slice none 0 0] := by kernel_rfl
theorem ze47 : zeroA Try.prog 47 = some [.string ⟨#[]⟩, .int .i64 0, .int .i64 0, .string ⟨#[]⟩, .slice none 0 0] := by kernel_rfl
end Go.Proofs.Ytgcneokekccicaa.AM
