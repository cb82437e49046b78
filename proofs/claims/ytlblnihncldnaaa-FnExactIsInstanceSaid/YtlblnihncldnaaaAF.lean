/- The facts of this program's types, for the walks. -/
import Derived.Test.YtlblnihncldnaaaA17
import Derived.Test.YtlblnihncldnaaaProg
namespace Go.Proofs.Ytlblnihncldnaaa.AM
open Go Go.Proofs
theorem mixed : Try.prog.follows .mixedOrders = true := by kernel_rfl
theorem ag22 : aggA Try.prog 22 = some false := by kernel_rfl
theorem ag24 : aggA Try.prog 24 = some true := by kernel_rfl
theorem ag27 : aggA Try.prog 27 = some false := by kernel_rfl
theorem ag29 : aggA Try.prog 29 = some true := by kernel_rfl
theorem ag3 : aggA Try.prog 3 = some false := by kernel_rfl
theorem ag45 : aggA Try.prog 45 = some true := by kernel_rfl
theorem ag9 : aggA Try.prog 9 = some false := by kernel_rfl
theorem bu29 : buildA Try.prog 29 = some ([.int .i64 0, .int .i64 0, .string ⟨#[]⟩, .slice none 0 0], #[(0, 1), (1, 1), (2, 1), (3, 1)]) := by kernel_rfl
theorem bu45 : buildA Try.prog 45 = some ([.string ⟨#[]⟩, .int .i64 0, .int .i64 0, .string ⟨#[]⟩, .slice none 0 0], #[(0, 1), (1, 4)]) := by kernel_rfl
theorem by29 : bytA Try.prog 29 = some 56 := by kernel_rfl
theorem by45 : bytA Try.prog 45 = some 72 := by kernel_rfl
theorem by9 : bytA Try.prog 9 = some 16 := by kernel_rfl
theorem el22 : elemA Try.prog 22 = some 24 := by kernel_rfl
theorem el27 : elemA Try.prog 27 = some 29 := by kernel_rfl
theorem el33 : elemA Try.prog 33 = some 45 := by kernel_rfl
theorem el40 : elemA Try.prog 40 = some 9 := by kernel_rfl
theorem of24_0 : offA Try.prog 24 0 = some 0 := by kernel_rfl
theorem of24_1 : offA Try.prog 24 1 = some 1 := by kernel_rfl
theorem of24_2 : offA Try.prog 24 2 = some 2 := by kernel_rfl
theorem of24_3 : offA Try.prog 24 3 = some 3 := by kernel_rfl
theorem of29_0 : offA Try.prog 29 0 = some 0 := by kernel_rfl
theorem of29_1 : offA Try.prog 29 1 = some 1 := by kernel_rfl
theorem of29_2 : offA Try.prog 29 2 = some 2 := by kernel_rfl
theorem of29_3 : offA Try.prog 29 3 = some 3 := by kernel_rfl
theorem of45_0 : offA Try.prog 45 0 = some 0 := by kernel_rfl
theorem of45_1 : offA Try.prog 45 1 = some 1 := by kernel_rfl
theorem ro29_0 : rowA Try.prog 29 0 = some [] := by kernel_rfl
theorem ro29_1 : rowA Try.prog 29 1 = some [.int .i64 0, .int .i64 0, .string ⟨#[]⟩, .slice none 0 0] := by kernel_rfl
theorem ro45_0 : rowA Try.prog 45 0 = some [] := by kernel_rfl
theorem ro45_1 : rowA Try.prog 45 1 = some [.string ⟨#[]⟩, .int .i64 0, .int .i64 0, .string ⟨#[]⟩, .slice none 0 0] := by kernel_rfl
theorem ro9_0 : rowA Try.prog 9 0 = some [] := by kernel_rfl
theorem ro9_1 : rowA Try.prog 9 1 = some [.string ⟨#[]⟩] := by kernel_rfl
theorem sz22 : szA Try.prog 22 = some 1 := by kernel_rfl
theorem sz24 : szA Try.prog 24 = some 4 := by kernel_rfl
theorem sz27 : szA Try.prog 27 = some 1 := by kernel_rfl
theorem sz29 : szA Try.prog 29 = some 4 := by kernel_rfl
theorem sz3 : szA Try.prog 3 = some 1 := by kernel_rfl
theorem sz45 : szA Try.prog 45 = some 5 := by kernel_rfl
theorem sz9 : szA Try.prog 9 = some 1 := by kernel_rfl
theorem ze29 : zeroA Try.prog 29 = some [.int .i64 0, .int .i64 0, .string ⟨#[]⟩, .slice none 0 0] := by kernel_rfl
theorem ze45 : zeroA Try.prog 45 = some [.string ⟨#[]⟩, .int .i64 0, .int .i64 0, .string ⟨#[]⟩, .slice none 0 0] := by kernel_rfl
theorem ze9 : zeroA Try.prog 9 = some [.string ⟨#[]⟩] := by kernel_rfl
end Go.Proofs.Ytlblnihncldnaaa.AM
