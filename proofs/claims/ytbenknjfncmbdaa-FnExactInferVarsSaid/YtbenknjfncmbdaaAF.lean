/- The facts of this program's types, for the walks. -/
import Derived.Test.YtbenknjfncmbdaaA17
import Derived.Test.YtbenknjfncmbdaaProg
namespace Go.Proofs.Ytbenknjfncmbdaa.AM
open Go Go.Proofs
theorem mixed : Try.prog.follows .mixedOrders = true := by kernel_rfl
theorem ag22 : aggA Try.prog 22 = some false := by kernel_rfl
theorem ag23 : aggA Try.prog 23 = some false := by kernel_rfl
theorem ag25 : aggA Try.prog 25 = some true := by kernel_rfl
theorem ag26 : aggA Try.prog 26 = some false := by kernel_rfl
theorem ag28 : aggA Try.prog 28 = some true := by kernel_rfl
theorem ag3 : aggA Try.prog 3 = some false := by kernel_rfl
theorem ag34 : aggA Try.prog 34 = some false := by kernel_rfl
theorem ag36 : aggA Try.prog 36 = some true := by kernel_rfl
theorem ag38 : aggA Try.prog 38 = some false := by kernel_rfl
theorem ag40 : aggA Try.prog 40 = some true := by kernel_rfl
theorem ag59 : aggA Try.prog 59 = some true := by kernel_rfl
theorem ag68 : aggA Try.prog 68 = some true := by kernel_rfl
theorem ag69 : aggA Try.prog 69 = some true := by kernel_rfl
theorem ag9 : aggA Try.prog 9 = some false := by kernel_rfl
theorem bu59 : buildA Try.prog 59 = some ([.string ⟨#[]⟩, .string ⟨#[]⟩], #[(0, 1), (1, 1)]) := by kernel_rfl
theorem bu69 : buildA Try.prog 69 = some ([.string ⟨#[]⟩, .slice none 0 0, .string ⟨#[]⟩], #[(0, 1), (1, 1), (2, 1)]) := by kernel_rfl
theorem by40 : bytA Try.prog 40 = some 56 := by kernel_rfl
theorem by59 : bytA Try.prog 59 = some 32 := by kernel_rfl
theorem by69 : bytA Try.prog 69 = some 56 := by kernel_rfl
theorem by9 : bytA Try.prog 9 = some 16 := by kernel_rfl
theorem el22 : elemA Try.prog 22 = some 9 := by kernel_rfl
theorem el23 : elemA Try.prog 23 = some 68 := by kernel_rfl
theorem el26 : elemA Try.prog 26 = some 28 := by kernel_rfl
theorem el31 : elemA Try.prog 31 = some 59 := by kernel_rfl
theorem el34 : elemA Try.prog 34 = some 69 := by kernel_rfl
theorem el38 : elemA Try.prog 38 = some 40 := by kernel_rfl
theorem el75 : elemA Try.prog 75 = some 5 := by kernel_rfl
theorem of25_0 : offA Try.prog 25 0 = some 0 := by kernel_rfl
theorem of25_1 : offA Try.prog 25 1 = some 1 := by kernel_rfl
theorem of28_0 : offA Try.prog 28 0 = some 0 := by kernel_rfl
theorem of28_1 : offA Try.prog 28 1 = some 1 := by kernel_rfl
theorem of28_2 : offA Try.prog 28 2 = some 2 := by kernel_rfl
theorem of28_3 : offA Try.prog 28 3 = some 3 := by kernel_rfl
theorem of36_0 : offA Try.prog 36 0 = some 0 := by kernel_rfl
theorem of36_1 : offA Try.prog 36 1 = some 1 := by kernel_rfl
theorem of40_0 : offA Try.prog 40 0 = some 0 := by kernel_rfl
theorem of40_1 : offA Try.prog 40 1 = some 1 := by kernel_rfl
theorem of40_2 : offA Try.prog 40 2 = some 2 := by kernel_rfl
theorem of40_3 : offA Try.prog 40 3 = some 3 := by kernel_rfl
theorem of59_0 : offA Try.prog 59 0 = some 0 := by kernel_rfl
theorem of59_1 : offA Try.prog 59 1 = some 1 := by kernel_rfl
theorem of68_0 : offA Try.prog 68 0 = some 0 := by kernel_rfl
theorem of68_1 : offA Try.prog 68 1 = some 1 := by kernel_rfl
theorem of68_2 : offA Try.prog 68 2 = some 2 := by kernel_rfl
theorem of69_0 : offA Try.prog 69 0 = some 0 := by kernel_rfl
theorem of69_1 : offA Try.prog 69 1 = some 1 := by kernel_rfl
theorem of69_2 : offA Try.prog 69 2 = some 2 := by kernel_rfl
theorem ro5_1 : rowA Try.prog 5 1 = some [.int .u8 0] := by kernel_rfl
theorem ro59_0 : rowA Try.prog 59 0 = some [] := by kernel_rfl
theorem ro59_1 : rowA Try.prog 59 1 = some [.string ⟨#[]⟩, .string ⟨#[]⟩] := by kernel_rfl
theorem ro9_0 : rowA Try.prog 9 0 = some [] := by kernel_rfl
theorem ro9_2 : rowA Try.prog 9 2 = some [.string ⟨#[]⟩, .string ⟨#[]⟩] := by kernel_rfl
theorem sz22 : szA Try.prog 22 = some 1 := by kernel_rfl
theorem sz23 : szA Try.prog 23 = some 1 := by kernel_rfl
theorem sz25 : szA Try.prog 25 = some 2 := by kernel_rfl
theorem sz26 : szA Try.prog 26 = some 1 := by kernel_rfl
theorem sz28 : szA Try.prog 28 = some 4 := by kernel_rfl
theorem sz3 : szA Try.prog 3 = some 1 := by kernel_rfl
theorem sz34 : szA Try.prog 34 = some 1 := by kernel_rfl
theorem sz36 : szA Try.prog 36 = some 2 := by kernel_rfl
theorem sz38 : szA Try.prog 38 = some 1 := by kernel_rfl
theorem sz40 : szA Try.prog 40 = some 4 := by kernel_rfl
theorem sz5 : szA Try.prog 5 = some 1 := by kernel_rfl
theorem sz59 : szA Try.prog 59 = some 2 := by kernel_rfl
theorem sz68 : szA Try.prog 68 = some 3 := by kernel_rfl
theorem sz69 : szA Try.prog 69 = some 3 := by kernel_rfl
theorem sz9 : szA Try.prog 9 = some 1 := by kernel_rfl
theorem ze36 : zeroA Try.prog 36 = some [.slice none 0 0, .slice none 0 0] := by kernel_rfl
theorem ze40 : zeroA Try.prog 40 = some [.int .i64 0, .int .i64 0, .string ⟨#[]⟩, .slice none 0 0] := by kernel_rfl
theorem ze59 : zeroA Try.prog 59 = some [.string ⟨#[]⟩, .string ⟨#[]⟩] := by kernel_rfl
theorem ze69 : zeroA Try.prog 69 = some [.string ⟨#[]⟩, .slice none 0 0, .string ⟨#[]⟩] := by kernel_rfl
theorem ze9 : zeroA Try.prog 9 = some [.string ⟨#[]⟩] := by kernel_rfl
end Go.Proofs.Ytbenknjfncmbdaa.AM
