/- The facts of this program's types, for the walks. -/
import Derived.Test.YtldnihpkiacgfaaA17
import Derived.Test.YtldnihpkiacgfaaProg
namespace Go.Proofs.Ytldnihpkiacgfaa.AM
open Go Go.Proofs
theorem mixed : Try.prog.follows .mixedOrders = true := by kernel_rfl
theorem ag22 : aggA Try.prog 22 = some false := by kernel_rfl
theorem ag24 : aggA Try.prog 24 = some false := by kernel_rfl
theorem ag25 : aggA Try.prog 25 = some false := by kernel_rfl
theorem ag27 : aggA Try.prog 27 = some true := by kernel_rfl
theorem ag3 : aggA Try.prog 3 = some false := by kernel_rfl
theorem ag31 : aggA Try.prog 31 = some true := by kernel_rfl
theorem ag5 : aggA Try.prog 5 = some false := by kernel_rfl
theorem ag9 : aggA Try.prog 9 = some false := by kernel_rfl
theorem bu27 : buildA Try.prog 27 = some ([.slice none 0 0, .slice none 0 0], #[(0, 1), (1, 1)]) := by kernel_rfl
theorem bu31 : buildA Try.prog 31 = some ([.string ⟨#[]⟩, .slice none 0 0, .string ⟨#[]⟩], #[(0, 1), (1, 1), (2, 1)]) := by kernel_rfl
theorem bu43 : buildA Try.prog 43 = some ([.slice none 0 0, .int .i64 0, .int .i64 0], #[(0, 1), (1, 1), (2, 1)]) := by kernel_rfl
theorem by31 : bytA Try.prog 31 = some 56 := by kernel_rfl
theorem by9 : bytA Try.prog 9 = some 16 := by kernel_rfl
theorem el22 : elemA Try.prog 22 = some 5 := by kernel_rfl
theorem el24 : elemA Try.prog 24 = some 9 := by kernel_rfl
theorem el25 : elemA Try.prog 25 = some 31 := by kernel_rfl
theorem of27_0 : offA Try.prog 27 0 = some 0 := by kernel_rfl
theorem of27_1 : offA Try.prog 27 1 = some 1 := by kernel_rfl
theorem of31_0 : offA Try.prog 31 0 = some 0 := by kernel_rfl
theorem of31_1 : offA Try.prog 31 1 = some 1 := by kernel_rfl
theorem of31_2 : offA Try.prog 31 2 = some 2 := by kernel_rfl
theorem of43_0 : offA Try.prog 43 0 = some 0 := by kernel_rfl
theorem of43_1 : offA Try.prog 43 1 = some 1 := by kernel_rfl
theorem of43_2 : offA Try.prog 43 2 = some 2 := by kernel_rfl
theorem ro31_1 : rowA Try.prog 31 1 = some [.string ⟨#[]⟩, .slice none 0 0, .string ⟨#[]⟩] := by kernel_rfl
theorem ro31_7 : rowA Try.prog 31 7 = some [.string ⟨#[]⟩, .slice none 0 0, .string ⟨#[]⟩, .string ⟨#[]⟩, .slice none 0 0, .string ⟨#[]⟩, .string ⟨#[]⟩, .slice none 0 0, .string ⟨#[]⟩, .string ⟨#[]⟩, .slice none 0 0, .string ⟨#[]⟩, .string ⟨#[]⟩, .slice none 0 0, .string ⟨#[]⟩, .string ⟨#[]⟩, .slice none 0 0, .string ⟨#[]⟩, .string ⟨#[]⟩, .slice none 0 0, .string ⟨#[]⟩] := by kernel_rfl
theorem ro9_0 : rowA Try.prog 9 0 = some [] := by kernel_rfl
theorem ro9_1 : rowA Try.prog 9 1 = some [.string ⟨#[]⟩] := by kernel_rfl
theorem ro9_2 : rowA Try.prog 9 2 = some [.string ⟨#[]⟩, .string ⟨#[]⟩] := by kernel_rfl
theorem ro9_3 : rowA Try.prog 9 3 = some [.string ⟨#[]⟩, .string ⟨#[]⟩, .string ⟨#[]⟩] := by kernel_rfl
theorem ro9_4 : rowA Try.prog 9 4 = some [.string ⟨#[]⟩, .string ⟨#[]⟩, .string ⟨#[]⟩, .string ⟨#[]⟩] := by kernel_rfl
theorem ro9_5 : rowA Try.prog 9 5 = some [.string ⟨#[]⟩, .string ⟨#[]⟩, .string ⟨#[]⟩, .string ⟨#[]⟩, .string ⟨#[]⟩] := by kernel_rfl
theorem sz22 : szA Try.prog 22 = some 1 := by kernel_rfl
theorem sz24 : szA Try.prog 24 = some 1 := by kernel_rfl
theorem sz25 : szA Try.prog 25 = some 1 := by kernel_rfl
theorem sz27 : szA Try.prog 27 = some 2 := by kernel_rfl
theorem sz3 : szA Try.prog 3 = some 1 := by kernel_rfl
theorem sz31 : szA Try.prog 31 = some 3 := by kernel_rfl
theorem sz5 : szA Try.prog 5 = some 1 := by kernel_rfl
theorem sz9 : szA Try.prog 9 = some 1 := by kernel_rfl
theorem ze27 : zeroA Try.prog 27 = some [.slice none 0 0, .slice none 0 0] := by kernel_rfl
theorem ze31 : zeroA Try.prog 31 = some [.string ⟨#[]⟩, .slice none 0 0, .string ⟨#[]⟩] := by kernel_rfl
theorem ze9 : zeroA Try.prog 9 = some [.string ⟨#[]⟩] := by kernel_rfl
end Go.Proofs.Ytldnihpkiacgfaa.AM
