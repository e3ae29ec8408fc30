/- The code of some functions of the program, its types resolved: printed by a program of this claim. -/
import Derived.Test.YtgkdipfmhjlbhaaVc10
import Derived.Test.YtgkdipfmhjlbhaaProg
set_option linter.unusedVariables false
set_option maxRecDepth 100000
namespace Go.Proofs.Ytgkdipfmhjlbhaa.Vc
open Go Go.Proofs

abbrev f_law19_BootNone : Nat := 3
def c_law19_BootNone_L0 : Cd :=
 (.seq (.rg [⟨none, [(some 12, .bin .lss (.t 11) (.t 10))]⟩] [1, 9, 10, 11, 12])
 (.seq (.ite (.t 12)
 .skip
 (.exit 0))
 (.seq (.block 1 (.seq (.rg [⟨none, [(some 13, .idxS (.t 9) (.t 11) 1), (some 14, .ld (.t 13) 1 false), (some 4, .mv (.t 14))]⟩] [1, 4, 9, 10, 11])
 (.seq (.rg [⟨none, [(some 15, .mv (.t 4)), (some 16, .call 11 [(.t 15)]), (some 17, .bin .neq (.t 16) (.c (.int .i64 0))), (some 18, .mv (.t 17))]⟩, ⟨some (18, false), [(some 19, .mv (.t 4)), (some 20, .fldA (.t 1) 2 2), (some 21, .ld (.t 20) 1 false), (some 22, .fldA (.t 1) 3 3), (some 23, .ld (.t 22) 1 false), (some 24, .fldA (.t 1) 4 4), (some 25, .ld (.t 24) 1 false), (some 26, .call 12 [(.t 19), (.t 21), (.t 23), (.t 25)]), (some 27, .len (.t 26)), (some 28, .bin .neq (.t 27) (.c (.int .i64 0)))]⟩, ⟨none, [(some 29, .pick (.t 18) (.c (.bool true)) (.t 28))]⟩] [1, 9, 10, 11, 29])
 (.ite (.t 29)
 (.seq (.rg [⟨none, [(some 2, .mv (.c (.bool false)))]⟩] [2])
 .ret)
 .skip))))
 (.rg [⟨none, [(some 30, .bin .add (.t 11) (.c (.int .i64 1))), (some 11, .mv (.t 30))]⟩] [1, 9, 10, 11]))))
def c_law19_BootNone : Cd :=
 (.seq (.rg [⟨none, [(some 1, .box 24 (.t 0)), (some 2, .mv (.c (.bool false)))]⟩] [1])
 (.seq (.seq (.rg [⟨none, [(some 5, .call 10 []), (some 6, .un .not (.t 5))]⟩] [1, 6])
 (.ite (.t 6)
 (.seq (.rg [⟨none, [(some 2, .mv (.c (.bool false)))]⟩] [2])
 .ret)
 .skip))
 (.seq (.seq (.rg [⟨none, [(some 7, .bld (.c (.c (.s (.int .i64 0)) (.c (.s (.slice none 0 0)) .u)) .u) []), (some 8, .box 31 (.t 7)), (none, .gh), (some 9, .bldS 26 1 (.s (.pointer none)) [(.c (.pointer none)), (.t 8)]), (some 10, .len (.t 9)), (some 11, .mv (.c (.int .i64 0)))]⟩] [1, 9, 10, 11])
 (.block 0 (.loop c_law19_BootNone_L0)))
 (.seq (.rg [⟨none, [(some 2, .mv (.c (.bool true)))]⟩] [2])
 .ret))))
theorem k_law19_BootNone : Ok Try.prog 3 c_law19_BootNone 31 [] [.tmp 2] := Ok.mk' Try.func3 (by kernel_rfl) (by kernel_rfl) (by kernel_rfl)

abbrev f_law19_BootLists : Nat := 7
def c_law19_BootLists : Cd :=
 (.seq (.rg [⟨none, [(some 3, .box 43 (.t 1)), (some 4, .mv (.c (.bool false)))]⟩] [0, 3])
 (.seq (.rg [⟨none, [(some 18, .mv (.t 0)), (some 19, .ld (.t 3) 4 true), (some 20, .call 18 [(.t 18), (.t 19)]), (some 17, .mv (.t 20)), (some 21, .ext (.t 17) 0), (some 22, .ext (.t 17) 1), (some 5, .mv (.t 21)), (some 6, .mv (.t 22))]⟩] [0, 3, 5, 6])
 (.seq (.rg [⟨none, [(some 24, .mv (.t 0)), (some 25, .ld (.t 3) 4 true), (some 26, .call 19 [(.t 24), (.t 25)]), (some 23, .mv (.t 26)), (some 27, .ext (.t 23) 0), (some 28, .ext (.t 23) 1), (some 7, .mv (.t 27)), (some 8, .mv (.t 28))]⟩] [0, 5, 6, 7, 8])
 (.seq (.rg [⟨none, [(some 30, .mv (.t 0)), (some 31, .call 20 [(.t 30)]), (some 29, .mv (.t 31)), (some 32, .ext (.t 29) 0), (some 33, .ext (.t 29) 1), (some 9, .mv (.t 32)), (some 10, .mv (.t 33))]⟩] [0, 5, 6, 7, 8, 9, 10])
 (.seq (.rg [⟨none, [(some 35, .mv (.t 0)), (some 36, .call 21 [(.t 35)]), (some 34, .mv (.t 36)), (some 37, .ext (.t 34) 0), (some 38, .ext (.t 34) 1), (some 11, .mv (.t 37)), (some 12, .mv (.t 38))]⟩] [0, 5, 6, 7, 8, 9, 10, 11, 12])
 (.seq (.rg [⟨none, [(some 40, .mv (.t 0)), (some 41, .call 22 [(.t 40)]), (some 39, .mv (.t 41)), (some 42, .ext (.t 39) 0), (some 43, .ext (.t 39) 1), (some 13, .mv (.t 42)), (some 14, .mv (.t 43))]⟩] [0, 5, 6, 7, 8, 9, 10, 11, 12, 13, 14])
 (.seq (.rg [⟨none, [(some 45, .mv (.t 0)), (some 46, .call 23 [(.t 45)]), (some 44, .mv (.t 46)), (some 47, .ext (.t 44) 0), (some 48, .ext (.t 44) 1), (some 15, .mv (.t 47)), (some 16, .mv (.t 48))]⟩] [5, 6, 7, 8, 9, 10, 11, 12, 13, 14, 15, 16])
 (.seq (.rg [⟨none, [(some 49, .call 10 []), (some 50, .mv (.t 49))]⟩, ⟨some (50, true), [(some 51, .mv (.t 6)), (some 52, .mv (.t 8)), (some 53, .eqA false 4 (.t 51) (.t 52))]⟩, ⟨none, [(some 54, .pick (.t 50) (.t 53) (.c (.bool false))), (some 55, .mv (.t 54))]⟩, ⟨some (55, true), [(some 56, .mv (.t 5)), (some 57, .mv (.t 7)), (some 58, .call 17 [(.t 56), (.t 57)])]⟩, ⟨none, [(some 59, .pick (.t 55) (.t 58) (.c (.bool false))), (some 60, .mv (.t 59))]⟩, ⟨some (60, true), [(some 61, .mv (.t 9)), (some 62, .mv (.t 11)), (some 63, .bin .eql (.t 61) (.t 62))]⟩, ⟨none, [(some 64, .pick (.t 60) (.t 63) (.c (.bool false))), (some 65, .mv (.t 64))]⟩, ⟨some (65, true), [(some 66, .mv (.t 10)), (some 67, .mv (.t 12)), (some 68, .bin .eql (.t 66) (.t 67))]⟩, ⟨none, [(some 69, .pick (.t 65) (.t 68) (.c (.bool false))), (some 70, .mv (.t 69))]⟩, ⟨some (70, true), [(some 71, .mv (.t 14)), (some 72, .mv (.t 16)), (some 73, .eqA false 4 (.t 71) (.t 72))]⟩, ⟨none, [(some 74, .pick (.t 70) (.t 73) (.c (.bool false))), (some 75, .mv (.t 74))]⟩, ⟨some (75, true), [(some 76, .mv (.t 13)), (some 77, .mv (.t 15)), (some 78, .call 24 [(.t 76), (.t 77)])]⟩, ⟨none, [(some 79, .pick (.t 75) (.t 78) (.c (.bool false))), (some 4, .mv (.t 79))]⟩] [4])
 .ret))))))))
theorem k_law19_BootLists : Ok Try.prog 7 c_law19_BootLists 80 [] [.tmp 4] := Ok.mk' Try.func7 (by kernel_rfl) (by kernel_rfl) (by kernel_rfl)

abbrev f_law19_BootAdds : Nat := 6
def c_law19_BootAdds_L0 : Cd :=
 (.seq (.rg [⟨none, [(some 22, .bin .lss (.t 21) (.t 20))]⟩] [3, 4, 19, 20, 21, 22])
 (.seq (.ite (.t 22)
 .skip
 (.exit 0))
 (.seq (.block 1 (.seq (.rg [⟨none, [(some 23, .idxS (.t 19) (.t 21) 4), (some 24, .ld (.t 23) 4 true), (some 6, .new 43 (.c (.s (.int .i64 0)) (.c (.s (.int .i64 0)) (.c (.s (.int .i64 0)) (.c (.s (.slice none 0 0)) .u))))), (none, .st (.t 6) (.t 24) 4)]⟩] [3, 4, 6, 19, 20, 21])
 (.seq (.rg [⟨none, [(some 7, .mv (.c (.bool false))), (some 8, .mv (.c (.bool false)))]⟩] [3, 4, 6, 19, 20, 21])
 (.seq (.rg [⟨none, [(some 26, .mv (.t 3)), (some 27, .ld (.t 6) 4 true), (some 28, .call 18 [(.t 26), (.t 27)]), (some 25, .mv (.t 28)), (some 29, .ext (.t 25) 0), (some 30, .ext (.t 25) 1), (some 3, .mv (.t 29)), (some 7, .mv (.t 30))]⟩] [3, 4, 6, 7, 19, 20, 21])
 (.seq (.rg [⟨none, [(some 32, .mv (.t 4)), (some 33, .ld (.t 6) 4 true), (some 34, .call 19 [(.t 32), (.t 33)]), (some 31, .mv (.t 34)), (some 35, .ext (.t 31) 0), (some 36, .ext (.t 31) 1), (some 4, .mv (.t 35)), (some 8, .mv (.t 36))]⟩] [3, 4, 6, 7, 8, 19, 20, 21])
 (.seq (.rg [⟨none, [(some 38, .mv (.t 3)), (some 39, .call 20 [(.t 38)]), (some 37, .mv (.t 39)), (some 40, .ext (.t 37) 0), (some 41, .ext (.t 37) 1), (some 9, .mv (.t 40)), (some 10, .mv (.t 41))]⟩] [3, 4, 6, 7, 8, 9, 10, 19, 20, 21])
 (.seq (.rg [⟨none, [(some 43, .mv (.t 4)), (some 44, .call 21 [(.t 43)]), (some 42, .mv (.t 44)), (some 45, .ext (.t 42) 0), (some 46, .ext (.t 42) 1), (some 11, .mv (.t 45)), (some 12, .mv (.t 46))]⟩] [3, 4, 6, 7, 8, 9, 10, 11, 12, 19, 20, 21])
 (.seq (.rg [⟨none, [(some 48, .mv (.t 3)), (some 49, .call 22 [(.t 48)]), (some 47, .mv (.t 49)), (some 50, .ext (.t 47) 0), (some 51, .ext (.t 47) 1), (some 13, .mv (.t 50)), (some 14, .mv (.t 51))]⟩] [3, 4, 6, 7, 8, 9, 10, 11, 12, 13, 14, 19, 20, 21])
 (.seq (.rg [⟨none, [(some 53, .mv (.t 4)), (some 54, .call 23 [(.t 53)]), (some 52, .mv (.t 54)), (some 55, .ext (.t 52) 0), (some 56, .ext (.t 52) 1), (some 15, .mv (.t 55)), (some 16, .mv (.t 56))]⟩] [3, 4, 6, 7, 8, 9, 10, 11, 12, 13, 14, 15, 16, 19, 20, 21])
 (.seq (.rgq [⟨none, [(some 57, .mv (.t 7)), (some 58, .mv (.t 8)), (some 59, .eqA true 4 (.t 57) (.t 58)), (some 60, .mv (.t 59))]⟩, ⟨some (60, false), [(some 61, .mv (.t 3)), (some 62, .mv (.t 4)), (some 63, .call 17 [(.t 61), (.t 62)]), (some 64, .un .not (.t 63))]⟩, ⟨none, [(some 65, .pick (.t 60) (.c (.bool true)) (.t 64)), (some 66, .mv (.t 65))]⟩, ⟨some (66, false), [(some 67, .mv (.t 9)), (some 68, .mv (.t 11)), (some 69, .bin .neq (.t 67) (.t 68))]⟩, ⟨none, [(some 70, .pick (.t 66) (.c (.bool true)) (.t 69)), (some 71, .mv (.t 70))]⟩, ⟨some (71, false), [(some 72, .mv (.t 10)), (some 73, .mv (.t 12)), (some 74, .bin .neq (.t 72) (.t 73))]⟩, ⟨none, [(some 75, .pick (.t 71) (.c (.bool true)) (.t 74)), (some 76, .mv (.t 75))]⟩, ⟨some (76, false), [(some 77, .mv (.t 14)), (some 78, .mv (.t 16)), (some 79, .eqA true 4 (.t 77) (.t 78))]⟩, ⟨none, [(some 80, .pick (.t 76) (.c (.bool true)) (.t 79)), (some 81, .mv (.t 80))]⟩, ⟨some (81, false), [(some 82, .mv (.t 13)), (some 83, .mv (.t 15)), (some 84, .call 24 [(.t 82), (.t 83)]), (some 85, .un .not (.t 84))]⟩, ⟨none, [(some 86, .pick (.t 81) (.c (.bool true)) (.t 85)), (some 87, .mv (.t 86))]⟩, ⟨some (87, false), [(some 88, .ld (.t 6) 4 true), (some 89, .call 25 [(.t 88)]), (some 90, .ld (.t 6) 4 true)]⟩] [⟨some (87, false), [(some 91, .call 26 [(.t 90)]), (some 92, .eqA true 4 (.t 89) (.t 91))]⟩, ⟨none, [(some 93, .pick (.t 87) (.c (.bool true)) (.t 92))]⟩] [3, 4, 19, 20, 21, 93])
 (.ite (.t 93)
 (.seq (.rg [⟨none, [(some 2, .mv (.c (.bool false)))]⟩] [2])
 .ret)
 .skip)))))))))))
 (.rg [⟨none, [(some 94, .bin .add (.t 21) (.c (.int .i64 1))), (some 21, .mv (.t 94))]⟩] [3, 4, 19, 20, 21]))))
def c_law19_BootAdds : Cd :=
 (.seq (.rg [⟨none, [(some 2, .mv (.c (.bool false)))]⟩] [0])
 (.seq (.seq (.rg [⟨none, [(some 17, .call 10 []), (some 18, .un .not (.t 17))]⟩] [0, 18])
 (.ite (.t 18)
 (.seq (.rg [⟨none, [(some 2, .mv (.c (.bool false)))]⟩] [2])
 .ret)
 .skip))
 (.seq (.rg [⟨none, [(some 3, .mv (.c (.slice none 0 0))), (some 4, .mv (.c (.slice none 0 0)))]⟩] [0, 3, 4])
 (.seq (.seq (.rg [⟨none, [(some 19, .mv (.t 0)), (some 20, .len (.t 19)), (some 21, .mv (.c (.int .i64 0)))]⟩] [3, 4, 19, 20, 21])
 (.block 0 (.loop c_law19_BootAdds_L0)))
 (.seq (.rg [⟨none, [(some 2, .mv (.c (.bool true)))]⟩] [2])
 .ret)))))
theorem k_law19_BootAdds : Ok Try.prog 6 c_law19_BootAdds 95 [(14, 34)] [.tmp 2] := Ok.mk' Try.func6 (by kernel_rfl) (by kernel_rfl) (by kernel_rfl)

end Go.Proofs.Ytgkdipfmhjlbhaa.Vc
