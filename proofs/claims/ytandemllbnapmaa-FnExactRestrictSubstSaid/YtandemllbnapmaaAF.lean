/- The facts of this program's types, for the walks. -/
import Derived.Test.YtandemllbnapmaaA17
import Derived.Test.YtandemllbnapmaaProg
namespace Go.Proofs.Ytandemllbnapmaa.AM
open Go Go.Proofs
theorem mixed : Try.prog.follows .mixedOrders = true := by kernel_rfl
theorem ag3 : aggA Try.prog 3 = some false := by kernel_rfl
theorem ag35 : aggA Try.prog 35 = some false := by kernel_rfl
theorem ag37 : aggA Try.prog 37 = some true := by kernel_rfl
theorem ag39 : aggA Try.prog 39 = some true := by kernel_rfl
theorem ag40 : aggA Try.prog 40 = some false := by kernel_rfl
theorem ag42 : aggA Try.prog 42 = some true := by kernel_rfl
theorem ag46 : aggA Try.prog 46 = some true := by kernel_rfl
theorem ag77 : aggA Try.prog 77 = some false := by kernel_rfl
theorem ag9 : aggA Try.prog 9 = some false := by kernel_rfl
theorem bu42 : buildA Try.prog 42 = some ([.int .i64 0, .int .i64 0, .string ⟨#[]⟩, .slice none 0 0], #[(0, 1), (1, 1), (2, 1), (3, 1)]) := by kernel_rfl
theorem bu46 : buildA Try.prog 46 = some ([.string ⟨#[]⟩, .int .i64 0, .int .i64 0, .string ⟨#[]⟩, .slice none 0 0], #[(0, 1), (1, 4)]) := by kernel_rfl
theorem by42 : bytA Try.prog 42 = some 56 := by kernel_rfl
theorem by46 : bytA Try.prog 46 = some 72 := by kernel_rfl
theorem by9 : bytA Try.prog 9 = some 16 := by kernel_rfl
theorem el22 : elemA Try.prog 22 = some 39 := by kernel_rfl
theorem el23 : elemA Try.prog 23 = some 9 := by kernel_rfl
theorem el26 : elemA Try.prog 26 = some 46 := by kernel_rfl
theorem el35 : elemA Try.prog 35 = some 37 := by kernel_rfl
theorem el40 : elemA Try.prog 40 = some 42 := by kernel_rfl
theorem el57 : elemA Try.prog 57 = some 5 := by kernel_rfl
theorem of37_0 : offA Try.prog 37 0 = some 0 := by kernel_rfl
theorem of37_1 : offA Try.prog 37 1 = some 1 := by kernel_rfl
theorem of37_2 : offA Try.prog 37 2 = some 2 := by kernel_rfl
theorem of37_3 : offA Try.prog 37 3 = some 3 := by kernel_rfl
theorem of39_0 : offA Try.prog 39 0 = some 0 := by kernel_rfl
theorem of39_1 : offA Try.prog 39 1 = some 1 := by kernel_rfl
theorem of42_0 : offA Try.prog 42 0 = some 0 := by kernel_rfl
theorem of42_1 : offA Try.prog 42 1 = some 1 := by kernel_rfl
theorem of42_2 : offA Try.prog 42 2 = some 2 := by kernel_rfl
theorem of42_3 : offA Try.prog 42 3 = some 3 := by kernel_rfl
theorem of46_0 : offA Try.prog 46 0 = some 0 := by kernel_rfl
theorem of46_1 : offA Try.prog 46 1 = some 1 := by kernel_rfl
theorem ro42_0 : rowA Try.prog 42 0 = some [] := by kernel_rfl
theorem ro42_1 : rowA Try.prog 42 1 = some [.int .i64 0, .int .i64 0, .string ⟨#[]⟩, .slice none 0 0] := by kernel_rfl
theorem ro46_0 : rowA Try.prog 46 0 = some [] := by kernel_rfl
theorem ro46_1 : rowA Try.prog 46 1 = some [.string ⟨#[]⟩, .int .i64 0, .int .i64 0, .string ⟨#[]⟩, .slice none 0 0] := by kernel_rfl
theorem ro5_1 : rowA Try.prog 5 1 = some [.int .u8 0] := by kernel_rfl
theorem ro9_0 : rowA Try.prog 9 0 = some [] := by kernel_rfl
theorem ro9_1 : rowA Try.prog 9 1 = some [.string ⟨#[]⟩] := by kernel_rfl
theorem sz3 : szA Try.prog 3 = some 1 := by kernel_rfl
theorem sz35 : szA Try.prog 35 = some 1 := by kernel_rfl
theorem sz37 : szA Try.prog 37 = some 4 := by kernel_rfl
theorem sz39 : szA Try.prog 39 = some 5 := by kernel_rfl
theorem sz40 : szA Try.prog 40 = some 1 := by kernel_rfl
theorem sz42 : szA Try.prog 42 = some 4 := by kernel_rfl
theorem sz46 : szA Try.prog 46 = some 5 := by kernel_rfl
theorem sz5 : szA Try.prog 5 = some 1 := by kernel_rfl
theorem sz77 : szA Try.prog 77 = some 1 := by kernel_rfl
theorem sz9 : szA Try.prog 9 = some 1 := by kernel_rfl
theorem ze3 : zeroA Try.prog 3 = some [.int .i64 0] := by kernel_rfl
theorem ze42 : zeroA Try.prog 42 = some [.int .i64 0, .int .i64 0, .string ⟨#[]⟩, .slice none 0 0] := by kernel_rfl
theorem ze46 : zeroA Try.prog 46 = some [.string ⟨#[]⟩, .int .i64 0, .int .i64 0, .string ⟨#[]⟩, .slice none 0 0] := by kernel_rfl
theorem ze77 : zeroA Try.prog 77 = some [.int .u64 0] := by kernel_rfl
theorem ze9 : zeroA Try.prog 9 = some [.string ⟨#[]⟩] := by kernel_rfl
end Go.Proofs.Ytandemllbnapmaa.AM
