/- The facts of this program's types, for the walks. -/
import Derived.Test.YtopjbcfkaggleaaA17
import Derived.Test.YtopjbcfkaggleaaProg
namespace Go.Proofs.Ytopjbcfkaggleaa.AM
open Go Go.Proofs
theorem mixed : Try.prog.follows .mixedOrders = true := by kernel_rfl
theorem ag25 : aggA Try.prog 25 = some false := by kernel_rfl
theorem ag29 : aggA Try.prog 29 = some false := by kernel_rfl
theorem ag3 : aggA Try.prog 3 = some false := by kernel_rfl
theorem ag31 : aggA Try.prog 31 = some true := by kernel_rfl
theorem ag33 : aggA Try.prog 33 = some true := by kernel_rfl
theorem ag34 : aggA Try.prog 34 = some false := by kernel_rfl
theorem ag36 : aggA Try.prog 36 = some true := by kernel_rfl
theorem ag39 : aggA Try.prog 39 = some true := by kernel_rfl
theorem ag9 : aggA Try.prog 9 = some false := by kernel_rfl
theorem bu36 : buildA Try.prog 36 = some ([.int .i64 0, .int .i64 0, .string ⟨#[]⟩, .slice none 0 0], #[(0, 1), (1, 1), (2, 1), (3, 1)]) := by kernel_rfl
theorem by36 : bytA Try.prog 36 = some 56 := by kernel_rfl
theorem by39 : bytA Try.prog 39 = some 72 := by kernel_rfl
theorem el22 : elemA Try.prog 22 = some 33 := by kernel_rfl
theorem el25 : elemA Try.prog 25 = some 39 := by kernel_rfl
theorem el29 : elemA Try.prog 29 = some 31 := by kernel_rfl
theorem el34 : elemA Try.prog 34 = some 36 := by kernel_rfl
theorem el50 : elemA Try.prog 50 = some 25 := by kernel_rfl
theorem of31_0 : offA Try.prog 31 0 = some 0 := by kernel_rfl
theorem of31_1 : offA Try.prog 31 1 = some 1 := by kernel_rfl
theorem of31_2 : offA Try.prog 31 2 = some 2 := by kernel_rfl
theorem of31_3 : offA Try.prog 31 3 = some 3 := by kernel_rfl
theorem of33_0 : offA Try.prog 33 0 = some 0 := by kernel_rfl
theorem of33_1 : offA Try.prog 33 1 = some 1 := by kernel_rfl
theorem of36_0 : offA Try.prog 36 0 = some 0 := by kernel_rfl
theorem of36_1 : offA Try.prog 36 1 = some 1 := by kernel_rfl
theorem of36_2 : offA Try.prog 36 2 = some 2 := by kernel_rfl
theorem of36_3 : offA Try.prog 36 3 = some 3 := by kernel_rfl
theorem of39_0 : offA Try.prog 39 0 = some 0 := by kernel_rfl
theorem of39_1 : offA Try.prog 39 1 = some 1 := by kernel_rfl
theorem ro25_2 : rowA Try.prog 25 2 = some [.slice none 0 0, .slice none 0 0] := by kernel_rfl
theorem ro36_0 : rowA Try.prog 36 0 = some [] := by kernel_rfl
theorem ro36_1 : rowA Try.prog 36 1 = some [.int .i64 0, .int .i64 0, .string ⟨#[]⟩, .slice none 0 0] := by kernel_rfl
theorem ro39_0 : rowA Try.prog 39 0 = some [] := by kernel_rfl
theorem sz25 : szA Try.prog 25 = some 1 := by kernel_rfl
theorem sz29 : szA Try.prog 29 = some 1 := by kernel_rfl
theorem sz3 : szA Try.prog 3 = some 1 := by kernel_rfl
theorem sz31 : szA Try.prog 31 = some 4 := by kernel_rfl
theorem sz33 : szA Try.prog 33 = some 5 := by kernel_rfl
theorem sz34 : szA Try.prog 34 = some 1 := by kernel_rfl
theorem sz36 : szA Try.prog 36 = some 4 := by kernel_rfl
theorem sz39 : szA Try.prog 39 = some 5 := by kernel_rfl
theorem sz9 : szA Try.prog 9 = some 1 := by kernel_rfl
theorem ze36 : zeroA Try.prog 36 = some [.int .i64 0, .int .i64 0, .string ⟨#[]⟩, .slice none 0 0] := by kernel_rfl
theorem ze39 : zeroA Try.prog 39 = some [.string ⟨#[]⟩, .int .i64 0, .int .i64 0, .string ⟨#[]⟩, .slice none 0 0] := by kernel_rfl
end Go.Proofs.Ytopjbcfkaggleaa.AM
