/- The facts of this program's types, for the walks. -/
import Derived.Test.YtdijnohbbgbklaaH17
import Derived.Test.YtdijnohbbgbklaaProg
namespace Go.Proofs.Ytdijnohbbgbklaa.AM
open Go Go.Proofs
theorem mixed : Try.prog.follows .mixedOrders = true := by kernel_rfl
theorem ag103 : aggA Try.prog 103 = some false := by kernel_rfl
theorem ag22 : aggA Try.prog 22 = some false := by kernel_rfl
theorem ag24 : aggA Try.prog 24 = some false := by kernel_rfl
theorem ag25 : aggA Try.prog 25 = some false := by kernel_rfl
theorem ag27 : aggA Try.prog 27 = some true := by kernel_rfl
theorem ag28 : aggA Try.prog 28 = some false := by kernel_rfl
theorem ag3 : aggA Try.prog 3 = some false := by kernel_rfl
theorem ag30 : aggA Try.prog 30 = some true := by kernel_rfl
theorem ag37 : aggA Try.prog 37 = some true := by kernel_rfl
theorem ag5 : aggA Try.prog 5 = some false := by kernel_rfl
theorem ag54 : aggA Try.prog 54 = some true := by kernel_rfl
theorem ag9 : aggA Try.prog 9 = some false := by kernel_rfl
theorem bu27 : buildA Try.prog 27 = some ([.slice none 0 0, .slice none 0 0], #[(0, 1), (1, 1)]) := by kernel_rfl
theorem bu30 : buildA Try.prog 30 = some ([.int .i64 0, .int .i64 0, .string ⟨#[]⟩, .slice none 0 0], #[(0, 1), (1, 1), (2, 1), (3, 1)]) := by kernel_rfl
theorem bu37 : buildA Try.prog 37 = some ([.string ⟨#[]⟩, .string ⟨#[]⟩], #[(0, 1), (1, 1)]) := by kernel_rfl
theorem bu54 : buildA Try.prog 54 = some ([.string ⟨#[]⟩, .slice none 0 0, .string ⟨#[]⟩], #[(0, 1), (1, 1), (2, 1)]) := by kernel_rfl
theorem bu67 : buildA Try.prog 67 = some ([.slice none 0 0, .int .i64 0, .int .i64 0], #[(0, 1), (1, 1), (2, 1)]) := by kernel_rfl
theorem by30 : bytA Try.prog 30 = some 56 := by kernel_rfl
theorem by37 : bytA Try.prog 37 = some 32 := by kernel_rfl
theorem by54 : bytA Try.prog 54 = some 56 := by kernel_rfl
theorem by9 : bytA Try.prog 9 = some 16 := by kernel_rfl
theorem el22 : elemA Try.prog 22 = some 5 := by kernel_rfl
theorem el24 : elemA Try.prog 24 = some 9 := by kernel_rfl
theorem el25 : elemA Try.prog 25 = some 54 := by kernel_rfl
theorem el28 : elemA Try.prog 28 = some 30 := by kernel_rfl
theorem el33 : elemA Try.prog 33 = some 37 := by kernel_rfl
theorem el52 : elemA Try.prog 52 = some 3 := by kernel_rfl
theorem of27_0 : offA Try.prog 27 0 = some 0 := by kernel_rfl
theorem of27_1 : offA Try.prog 27 1 = some 1 := by kernel_rfl
theorem of30_0 : offA Try.prog 30 0 = some 0 := by kernel_rfl
theorem of30_1 : offA Try.prog 30 1 = some 1 := by kernel_rfl
theorem of30_2 : offA Try.prog 30 2 = some 2 := by kernel_rfl
theorem of30_3 : offA Try.prog 30 3 = some 3 := by kernel_rfl
theorem of37_0 : offA Try.prog 37 0 = some 0 := by kernel_rfl
theorem of37_1 : offA Try.prog 37 1 = some 1 := by kernel_rfl
theorem of54_0 : offA Try.prog 54 0 = some 0 := by kernel_rfl
theorem of54_1 : offA Try.prog 54 1 = some 1 := by kernel_rfl
theorem of54_2 : offA Try.prog 54 2 = some 2 := by kernel_rfl
theorem of67_0 : offA Try.prog 67 0 = some 0 := by kernel_rfl
theorem of67_1 : offA Try.prog 67 1 = some 1 := by kernel_rfl
theorem of67_2 : offA Try.prog 67 2 = some 2 := by kernel_rfl
theorem ro3_3 : rowA Try.prog 3 3 = some [.int .i64 0, .int .i64 0, .int .i64 0] := by kernel_rfl
theorem ro3_4 : rowA Try.prog 3 4 = some [.int .i64 0, .int .i64 0, .int .i64 0, .int .i64 0] := by kernel_rfl
theorem ro30_0 : rowA Try.prog 30 0 = some [] := by kernel_rfl
theorem ro30_1 : rowA Try.prog 30 1 = some [.int .i64 0, .int .i64 0, .string ⟨#[]⟩, .slice none 0 0] := by kernel_rfl
theorem ro30_2 : rowA Try.prog 30 2 = some [.int .i64 0, .int .i64 0, .string ⟨#[]⟩, .slice none 0 0, .int .i64 0, .int .i64 0, .string ⟨#[]⟩, .slice none 0 0] := by kernel_rfl
theorem ro37_0 : rowA Try.prog 37 0 = some [] := by kernel_rfl
theorem ro37_1 : rowA Try.prog 37 1 = some [.string ⟨#[]⟩, .string ⟨#[]⟩] := by kernel_rfl
theorem ro37_4 : rowA Try.prog 37 4 = some [.string ⟨#[]⟩, .string ⟨#[]⟩, .string ⟨#[]⟩, .string ⟨#[]⟩, .string ⟨#[]⟩, .string ⟨#[]⟩, .string ⟨#[]⟩, .string ⟨#[]⟩] := by kernel_rfl
theorem ro54_1 : rowA Try.prog 54 1 = some [.string ⟨#[]⟩, .slice none 0 0, .string ⟨#[]⟩] := by kernel_rfl
theorem ro54_7 : rowA Try.prog 54 7 = some [.string ⟨#[]⟩, .slice none 0 0, .string ⟨#[]⟩, .string ⟨#[]⟩, .slice none 0 0, .string ⟨#[]⟩, .string ⟨#[]⟩, .slice none 0 0, .string ⟨#[]⟩, .string ⟨#[]⟩, .slice none 0 0, .string ⟨#[]⟩, .string ⟨#[]⟩, .slice none 0 0, .string ⟨#[]⟩, .string ⟨#[]⟩, .slice none 0 0, .string ⟨#[]⟩, .string ⟨#[]⟩, .slice none 0 0, .string ⟨#[]⟩] := by kernel_rfl
theorem ro9_0 : rowA Try.prog 9 0 = some [] := by kernel_rfl
theorem ro9_1 : rowA Try.prog 9 1 = some [.string ⟨#[]⟩] := by kernel_rfl
theorem ro9_2 : rowA Try.prog 9 2 = some [.string ⟨#[]⟩, .string ⟨#[]⟩] := by kernel_rfl
theorem ro9_3 : rowA Try.prog 9 3 = some [.string ⟨#[]⟩, .string ⟨#[]⟩, .string ⟨#[]⟩] := by kernel_rfl
theorem ro9_4 : rowA Try.prog 9 4 = some [.string ⟨#[]⟩, .string ⟨#[]⟩, .string ⟨#[]⟩, .string ⟨#[]⟩] := by kernel_rfl
theorem ro9_5 : rowA Try.prog 9 5 = some [.string ⟨#[]⟩, .string ⟨#[]⟩, .string ⟨#[]⟩, .string ⟨#[]⟩, .string ⟨#[]⟩] := by kernel_rfl
theorem sz103 : szA Try.prog 103 = some 1 := by kernel_rfl
theorem sz22 : szA Try.prog 22 = some 1 := by kernel_rfl
theorem sz24 : szA Try.prog 24 = some 1 := by kernel_rfl
theorem sz25 : szA Try.prog 25 = some 1 := by kernel_rfl
theorem sz27 : szA Try.prog 27 = some 2 := by kernel_rfl
theorem sz28 : szA Try.prog 28 = some 1 := by kernel_rfl
theorem sz3 : szA Try.prog 3 = some 1 := by kernel_rfl
theorem sz30 : szA Try.prog 30 = some 4 := by kernel_rfl
theorem sz37 : szA Try.prog 37 = some 2 := by kernel_rfl
theorem sz5 : szA Try.prog 5 = some 1 := by kernel_rfl
theorem sz54 : szA Try.prog 54 = some 3 := by kernel_rfl
theorem sz9 : szA Try.prog 9 = some 1 := by kernel_rfl
theorem ze103 : zeroA Try.prog 103 = some [.int .u64 0] := by kernel_rfl
theorem ze27 : zeroA Try.prog 27 = some [.slice none 0 0, .slice none 0 0] := by kernel_rfl
theorem ze3 : zeroA Try.prog 3 = some [.int .i64 0] := by kernel_rfl
theorem ze30 : zeroA Try.prog 30 = some [.int .i64 0, .int .i64 0, .string ⟨#[]⟩, .slice none 0 0] := by kernel_rfl
theorem ze37 : zeroA Try.prog 37 = some [.string ⟨#[]⟩, .string ⟨#[]⟩] := by kernel_rfl
theorem ze54 : zeroA Try.prog 54 = some [.string ⟨#[]⟩, .slice none 0 0, .string ⟨#[]⟩] := by kernel_rfl
theorem ze9 : zeroA Try.prog 9 = some [.string ⟨#[]⟩] := by kernel_rfl
end Go.Proofs.Ytdijnohbbgbklaa.AM
