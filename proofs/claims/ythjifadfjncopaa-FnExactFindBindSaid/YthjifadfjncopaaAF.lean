/- The facts of this program's types, for the walks. -/
import Derived.Test.YthjifadfjncopaaA17
import Derived.Test.YthjifadfjncopaaProg
namespace Go.Proofs.Ythjifadfjncopaa.AM
open Go Go.Proofs
theorem mixed : Try.prog.follows .mixedOrders = true := by kernel_rfl
theorem ag24 : aggA Try.prog 24 = some false := by kernel_rfl
theorem ag26 : aggA Try.prog 26 = some true := by kernel_rfl
theorem ag3 : aggA Try.prog 3 = some false := by kernel_rfl
theorem ag37 : aggA Try.prog 37 = some false := by kernel_rfl
theorem ag39 : aggA Try.prog 39 = some true := by kernel_rfl
theorem ag41 : aggA Try.prog 41 = some true := by kernel_rfl
theorem ag45 : aggA Try.prog 45 = some true := by kernel_rfl
theorem ag9 : aggA Try.prog 9 = some false := by kernel_rfl
theorem bu26 : buildA Try.prog 26 = some ([.int .i64 0, .int .i64 0, .string ⟨#[]⟩, .slice none 0 0], #[(0, 1), (1, 1), (2, 1), (3, 1)]) := by kernel_rfl
theorem by26 : bytA Try.prog 26 = some 56 := by kernel_rfl
theorem by45 : bytA Try.prog 45 = some 72 := by kernel_rfl
theorem el22 : elemA Try.prog 22 = some 41 := by kernel_rfl
theorem el24 : elemA Try.prog 24 = some 26 := by kernel_rfl
theorem el29 : elemA Try.prog 29 = some 45 := by kernel_rfl
theorem el37 : elemA Try.prog 37 = some 39 := by kernel_rfl
theorem el53 : elemA Try.prog 53 = some 5 := by kernel_rfl
theorem of26_0 : offA Try.prog 26 0 = some 0 := by kernel_rfl
theorem of26_1 : offA Try.prog 26 1 = some 1 := by kernel_rfl
theorem of26_2 : offA Try.prog 26 2 = some 2 := by kernel_rfl
theorem of26_3 : offA Try.prog 26 3 = some 3 := by kernel_rfl
theorem of39_0 : offA Try.prog 39 0 = some 0 := by kernel_rfl
theorem of39_1 : offA Try.prog 39 1 = some 1 := by kernel_rfl
theorem of39_2 : offA Try.prog 39 2 = some 2 := by kernel_rfl
theorem of39_3 : offA Try.prog 39 3 = some 3 := by kernel_rfl
theorem of41_0 : offA Try.prog 41 0 = some 0 := by kernel_rfl
theorem of41_1 : offA Try.prog 41 1 = some 1 := by kernel_rfl
theorem of45_0 : offA Try.prog 45 0 = some 0 := by kernel_rfl
theorem of45_1 : offA Try.prog 45 1 = some 1 := by kernel_rfl
theorem ro26_0 : rowA Try.prog 26 0 = some [] := by kernel_rfl
theorem ro26_1 : rowA Try.prog 26 1 = some [.int .i64 0, .int .i64 0, .string ⟨#[]⟩, .slice none 0 0] := by kernel_rfl
theorem ro5_1 : rowA Try.prog 5 1 = some [.int .u8 0] := by kernel_rfl
theorem sz24 : szA Try.prog 24 = some 1 := by kernel_rfl
theorem sz26 : szA Try.prog 26 = some 4 := by kernel_rfl
theorem sz3 : szA Try.prog 3 = some 1 := by kernel_rfl
theorem sz37 : szA Try.prog 37 = some 1 := by kernel_rfl
theorem sz39 : szA Try.prog 39 = some 4 := by kernel_rfl
theorem sz41 : szA Try.prog 41 = some 5 := by kernel_rfl
theorem sz45 : szA Try.prog 45 = some 5 := by kernel_rfl
theorem sz5 : szA Try.prog 5 = some 1 := by kernel_rfl
theorem sz9 : szA Try.prog 9 = some 1 := by kernel_rfl
theorem ze26 : zeroA Try.prog 26 = some [.int .i64 0, .int .i64 0, .string ⟨#[]⟩, .slice none 0 0] := by kernel_rfl
theorem ze45 : zeroA Try.prog 45 = some [.string ⟨#[]⟩, .int .i64 0, .int .i64 0, .string ⟨#[]⟩, .slice none 0 0] := by kernel_rfl
end Go.Proofs.Ythjifadfjncopaa.AM
