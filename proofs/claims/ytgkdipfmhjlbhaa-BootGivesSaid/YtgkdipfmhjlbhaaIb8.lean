/- The code of some functions of the program, its types resolved: printed by a program of this claim. -/
import Derived.Test.YtgkdipfmhjlbhaaVc10
import Derived.Test.YtgkdipfmhjlbhaaProg
set_option linter.unusedVariables false
set_option maxRecDepth 100000
namespace Go.Proofs.Ytgkdipfmhjlbhaa.Vc
open Go Go.Proofs

abbrev f_law19_BootGives : Nat := 5
def c_law19_BootGives : Cd :=
 (.seq (.rg [⟨none, [(some 1, .box 24 (.t 0)), (some 2, .mv (.c (.bool false)))]⟩] [1])
 (.seq (.seq (.rga (.held [1] (.op ⟨none, [(some 7, .call 10 [])]⟩ (.op ⟨none, [(some 8, .un .not (.t 7))]⟩ (.op ⟨none, [(some 9, .mv (.t 8))]⟩ (.op ⟨some (9, false), [(some 10, .fldA (.t 1) 0 0)]⟩ (.op ⟨some (9, false), [(some 12, .fldA (.t 1) 1 1)]⟩ (.op ⟨some (9, false), [(some 14, .fldA (.t 1) 3 3)]⟩ (.op ⟨some (9, false), [(some 16, .fldA (.t 1) 4 4)]⟩ (.op ⟨some (9, false), [(some 19, .fldA (.t 1) 0 0)]⟩ (.op ⟨some (9, false), [(some 21, .fldA (.t 1) 1 1)]⟩ (.op ⟨some (9, false), [(some 23, .fldA (.t 1) 3 3)]⟩ (.op ⟨some (9, false), [(some 25, .fldA (.t 1) 4 4)]⟩ (.first ⟨some (9, false), [(some 11, .ld (.t 10) 1 false)]⟩ (.first ⟨some (9, false), [(some 13, .ld (.t 12) 1 false)]⟩ (.first ⟨some (9, false), [(some 15, .ld (.t 14) 1 false)]⟩ (.first ⟨some (9, false), [(some 17, .ld (.t 16) 1 false)]⟩ (.first ⟨some (9, false), [(some 20, .ld (.t 19) 1 false)]⟩ (.first ⟨some (9, false), [(some 22, .ld (.t 21) 1 false)]⟩ (.first ⟨some (9, false), [(some 24, .ld (.t 23) 1 false)]⟩ (.first ⟨some (9, false), [(some 26, .ld (.t 25) 1 false)]⟩ (.op ⟨some (9, false), [(some 18, .call 14 [(.t 11), (.t 13), (.t 15), (.t 17)])]⟩ (.op ⟨some (9, false), [(some 27, .call 16 [(.t 20), (.t 22), (.t 24), (.t 26)])]⟩ (.op ⟨some (9, false), [(some 28, .call 17 [(.t 18), (.t 27)])]⟩ (.op ⟨some (9, false), [(some 29, .un .not (.t 28))]⟩ (.op ⟨none, [(some 30, .pick (.t 9) (.c (.bool true)) (.t 29))]⟩ .done))))))))))))))))))))))))) [1, 30])
 (.ite (.t 30)
 (.seq (.rg [⟨none, [(some 2, .mv (.c (.bool false)))]⟩] [2])
 .ret)
 .skip))
 (.seq (.rg [⟨none, [(some 32, .fldA (.t 1) 0 0), (some 33, .ld (.t 32) 1 false), (some 34, .fldA (.t 1) 1 1), (some 35, .ld (.t 34) 1 false), (some 36, .call 13 [(.t 33), (.t 35)]), (some 31, .mv (.t 36)), (some 37, .ext (.t 31) 0), (some 38, .ext (.t 31) 1), (some 3, .mv (.t 37)), (some 4, .mv (.t 38))]⟩] [1, 3, 4])
 (.seq (.seq (.rg [⟨none, [(some 39, .fldA (.t 1) 0 0), (some 40, .ld (.t 39) 1 false), (some 41, .fldA (.t 1) 1 1), (some 42, .ld (.t 41) 1 false), (some 43, .call 15 [(.t 40), (.t 42)]), (some 5, .mv (.t 43))]⟩] [1, 3, 4, 5])
 (.seq (.rg [⟨none, [(some 44, .mv (.t 4)), (some 45, .mv (.t 5)), (some 46, .bin .neq (.t 44) (.t 45)), (some 47, .mv (.t 46))]⟩, ⟨some (47, false), [(some 48, .mv (.t 3)), (some 49, .eqA true 26 (.t 48) (.c (.pointer none))), (some 50, .mv (.t 5)), (some 51, .bin .eql (.t 50) (.c (.int .i64 0))), (some 52, .eqA true 4 (.t 49) (.t 51))]⟩, ⟨none, [(some 53, .pick (.t 47) (.c (.bool true)) (.t 52))]⟩] [1, 3, 53])
 (.ite (.t 53)
 (.seq (.rg [⟨none, [(some 2, .mv (.c (.bool false)))]⟩] [2])
 .ret)
 .skip)))
 (.seq (.seq (.rg [⟨none, [(some 54, .mv (.t 3)), (some 55, .eqA false 26 (.t 54) (.c (.pointer none)))]⟩] [1, 3, 55])
 (.ite (.t 55)
 (.seq (.rg [⟨none, [(some 2, .mv (.c (.bool true)))]⟩] [2])
 .ret)
 .skip))
 (.seq (.rg [⟨none, [(some 6, .mv (.c (.int .i64 0)))]⟩] [1, 3, 6])
 (.seq (.seq (.rg [⟨none, [(some 56, .fldA (.t 1) 2 2), (some 57, .ld (.t 56) 1 false), (some 58, .fldA (.t 1) 1 1), (some 59, .ld (.t 58) 1 false), (some 60, .bin .eql (.t 57) (.t 59))]⟩] [1, 3, 6, 60])
 (.ite (.t 60)
 (.rg [⟨none, [(some 61, .fldA (.t 1) 3 3), (some 62, .ld (.t 61) 1 false), (some 6, .mv (.t 62))]⟩] [1, 3, 6])
 .skip))
 (.seq (.rga (.held [1] (.op ⟨none, [(some 63, .mv (.t 3))]⟩ (.op ⟨none, [(some 65, .fldA (.t 1) 1 1)]⟩ (.first ⟨none, [(some 66, .ld (.t 65) 1 false)]⟩ (.op ⟨none, [(some 64, .call 11 [(.t 63)])]⟩ (.op ⟨none, [(some 67, .bin .eql (.t 64) (.t 66))]⟩ (.op ⟨none, [(some 68, .mv (.t 67))]⟩ (.op ⟨some (68, true), [(some 69, .mv (.t 3))]⟩ (.op ⟨some (68, true), [(some 70, .fldA (.t 1) 2 2)]⟩ (.op ⟨some (68, true), [(some 72, .fldA (.t 1) 3 3)]⟩ (.op ⟨some (68, true), [(some 74, .fldA (.t 1) 4 4)]⟩ (.op ⟨some (68, true), [(some 77, .fldA (.t 1) 0 0)]⟩ (.op ⟨some (68, true), [(some 79, .fldA (.t 1) 1 1)]⟩ (.op ⟨some (68, true), [(some 81, .mv (.t 6))]⟩ (.op ⟨some (68, true), [(some 82, .fldA (.t 1) 4 4)]⟩ (.first ⟨some (68, true), [(some 71, .ld (.t 70) 1 false)]⟩ (.first ⟨some (68, true), [(some 73, .ld (.t 72) 1 false)]⟩ (.first ⟨some (68, true), [(some 75, .ld (.t 74) 1 false)]⟩ (.first ⟨some (68, true), [(some 78, .ld (.t 77) 1 false)]⟩ (.first ⟨some (68, true), [(some 80, .ld (.t 79) 1 false)]⟩ (.first ⟨some (68, true), [(some 83, .ld (.t 82) 1 false)]⟩ (.op ⟨some (68, true), [(some 76, .call 12 [(.t 69), (.t 71), (.t 73), (.t 75)])]⟩ (.op ⟨some (68, true), [(some 84, .call 16 [(.t 78), (.t 80), (.t 81), (.t 83)])]⟩ (.op ⟨some (68, true), [(some 85, .call 17 [(.t 76), (.t 84)])]⟩ (.op ⟨none, [(some 86, .pick (.t 68) (.t 85) (.c (.bool false)))]⟩ (.op ⟨none, [(some 2, .mv (.t 86))]⟩ .done)))))))))))))))))))))))))) [2])
 .ret))))))))
theorem k_law19_BootGives : Ok Try.prog 5 c_law19_BootGives 87 [(1, 999998), (12, 999998)] [.tmp 2] := Ok.mk' Try.func5 (by kernel_rfl) (by kernel_rfl) (by kernel_rfl)

end Go.Proofs.Ytgkdipfmhjlbhaa.Vc
