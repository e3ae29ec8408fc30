/- The code of some functions of the program, its types resolved: printed by a program of this claim. -/
import Derived.Test.YtgjgbpnjodhhiaaDoorVc10
import Derived.Test.YtgjgbpnjodhhiaaDoorProg
set_option linter.unusedVariables false
set_option maxRecDepth 100000
namespace Go.Proofs.YtgjgbpnjodhhiaaDoor.Vc
open Go Go.Proofs

abbrev f_law20_PathSplits : Nat := 3
def c_law20_PathSplits : Cd :=
 (.seq (.rg [⟨none, [(some 4, .mv (.c (.bool false)))]⟩] [0, 1])
 (.seq (.rg [⟨none, [(some 14, .mv (.t 0)), (some 15, .call 7 [(.t 14)]), (some 13, .mv (.t 15)), (some 16, .ext (.t 13) 0), (some 17, .ext (.t 13) 1), (some 5, .mv (.t 16)), (some 6, .mv (.t 17))]⟩] [0, 1, 5, 6])
 (.seq (.rg [⟨none, [(some 19, .mv (.t 0)), (some 20, .call 8 [(.t 19)]), (some 18, .mv (.t 20)), (some 21, .ext (.t 18) 0), (some 22, .ext (.t 18) 1), (some 7, .mv (.t 21)), (some 8, .mv (.t 22))]⟩] [1, 5, 6, 7, 8])
 (.seq (.rg [⟨none, [(some 24, .mv (.t 1)), (some 25, .call 9 [(.t 24)]), (some 23, .mv (.t 25)), (some 26, .ext (.t 23) 0), (some 27, .ext (.t 23) 1), (some 9, .mv (.t 26)), (some 10, .mv (.t 27))]⟩] [1, 5, 6, 7, 8, 9, 10])
 (.seq (.rg [⟨none, [(some 29, .mv (.t 1)), (some 30, .call 10 [(.t 29)]), (some 28, .mv (.t 30)), (some 31, .ext (.t 28) 0), (some 32, .ext (.t 28) 1), (some 11, .mv (.t 31)), (some 12, .mv (.t 32))]⟩] [5, 6, 7, 8, 9, 10, 11, 12])
 (.seq (.rg [⟨none, [(some 33, .call 11 []), (some 34, .mv (.t 33))]⟩, ⟨some (34, true), [(some 35, .mv (.t 5)), (some 36, .mv (.t 7)), (some 37, .call 12 [(.t 35), (.t 36)])]⟩, ⟨none, [(some 38, .pick (.t 34) (.t 37) (.c (.bool false))), (some 39, .mv (.t 38))]⟩, ⟨some (39, true), [(some 40, .mv (.t 6)), (some 41, .mv (.t 8)), (some 42, .bin .eql (.t 40) (.t 41))]⟩, ⟨none, [(some 43, .pick (.t 39) (.t 42) (.c (.bool false))), (some 44, .mv (.t 43))]⟩, ⟨some (44, true), [(some 45, .mv (.t 9)), (some 46, .mv (.t 11)), (some 47, .bin .eql (.t 45) (.t 46))]⟩, ⟨none, [(some 48, .pick (.t 44) (.t 47) (.c (.bool false))), (some 49, .mv (.t 48))]⟩, ⟨some (49, true), [(some 50, .mv (.t 10)), (some 51, .mv (.t 12)), (some 52, .bin .eql (.t 50) (.t 51))]⟩, ⟨none, [(some 53, .pick (.t 49) (.t 52) (.c (.bool false))), (some 4, .mv (.t 53))]⟩] [4])
 .ret))))))
theorem k_law20_PathSplits : Ok Tryd.prog 3 c_law20_PathSplits 54 [] [.tmp 4] := Ok.mk' Tryd.func3 (by kernel_rfl) (by kernel_rfl) (by kernel_rfl)

abbrev f_law20_PathBack : Nat := 4
def c_law20_PathBack_R11 : Cd :=
 (.seq (.gh (.rg [⟨none, [(some 47, .mv (.t 0)), (some 48, .call 7 [(.t 47)]), (some 46, .mv (.t 48)), (some 49, .ext (.t 46) 0), (some 50, .ext (.t 46) 1), (some 11, .mv (.t 49)), (some 12, .mv (.t 50))]⟩] [0, 11, 12]))
 (.seq (.seq (.rg [⟨none, [(some 51, .mv (.t 12)), (some 52, .bin .neq (.t 51) (.c (.int .i64 0)))]⟩] [0, 11, 12, 52])
 (.ite (.t 52)
 (.seq (.rg [⟨none, [(some 54, .mv (.t 0)), (some 55, .call 8 [(.t 54)]), (some 53, .mv (.t 55)), (some 56, .ext (.t 53) 0), (some 57, .ext (.t 53) 1), (some 13, .mv (.t 56)), (some 14, .mv (.t 57))]⟩] [12, 14])
 (.seq (.rg [⟨none, [(some 58, .mv (.t 12)), (some 59, .mv (.t 14)), (some 60, .bin .eql (.t 58) (.t 59)), (some 4, .mv (.t 60))]⟩] [4])
 .ret))
 .skip))
 (.seq (.rg [⟨none, [(some 62, .mv (.t 11)), (some 63, .call 9 [(.t 62)]), (some 61, .mv (.t 63)), (some 64, .ext (.t 61) 0), (some 65, .ext (.t 61) 1), (some 15, .mv (.t 64)), (some 12, .mv (.t 65))]⟩] [0, 12, 15])
 (.seq (.rg [⟨none, [(some 66, .mv (.t 12)), (some 67, .bin .eql (.t 66) (.c (.int .i64 0))), (some 68, .mv (.t 67))]⟩, ⟨some (68, true), [(some 69, .mv (.t 15)), (some 70, .mv (.t 0)), (some 71, .bin .eql (.t 69) (.t 70))]⟩, ⟨none, [(some 72, .pick (.t 68) (.t 71) (.c (.bool false))), (some 4, .mv (.t 72))]⟩] [4])
 .ret))))
def c_law20_PathBack : Cd :=
 (.seq (.rg [⟨none, [(some 4, .mv (.c (.bool false)))]⟩] [0, 1])
 (.seq (.seq (.rg [⟨none, [(some 16, .call 11 []), (some 17, .un .not (.t 16))]⟩] [0, 1, 17])
 (.ite (.t 17)
 (.seq (.rg [⟨none, [(some 4, .mv (.c (.bool false)))]⟩] [4])
 .ret)
 .skip))
 (.seq (.seq (.rg [⟨none, [(some 19, .mv (.t 1)), (some 20, .call 9 [(.t 19)]), (some 18, .mv (.t 20)), (some 21, .ext (.t 18) 0), (some 22, .ext (.t 18) 1), (some 5, .mv (.t 21)), (some 6, .mv (.t 22))]⟩] [0, 1, 5, 6])
 (.seq (.rg [⟨none, [(some 23, .mv (.t 6)), (some 24, .bin .eql (.t 23) (.c (.int .i64 0)))]⟩] [0, 1, 5, 6, 24])
 (.ite (.t 24)
 (.seq (.rg [⟨none, [(some 26, .mv (.t 5)), (some 27, .call 7 [(.t 26)]), (some 25, .mv (.t 27)), (some 28, .ext (.t 25) 0), (some 29, .ext (.t 25) 1), (some 7, .mv (.t 28)), (some 8, .mv (.t 29))]⟩] [0, 1, 7, 8])
 (.seq (.rg [⟨none, [(some 30, .mv (.t 8)), (some 31, .bin .neq (.t 30) (.c (.int .i64 0))), (some 32, .mv (.t 31))]⟩, ⟨some (32, false), [(some 33, .mv (.t 1)), (some 34, .mv (.t 7)), (some 35, .call 12 [(.t 33), (.t 34)]), (some 36, .un .not (.t 35))]⟩, ⟨none, [(some 37, .pick (.t 32) (.c (.bool true)) (.t 36))]⟩] [0, 37])
 (.ite (.t 37)
 (.seq (.rg [⟨none, [(some 4, .mv (.c (.bool false)))]⟩] [4])
 .ret)
 .skip)))
 (.seq (.rg [⟨none, [(some 39, .mv (.t 1)), (some 40, .call 10 [(.t 39)]), (some 38, .mv (.t 40)), (some 41, .ext (.t 38) 0), (some 42, .ext (.t 38) 1), (some 9, .mv (.t 41)), (some 10, .mv (.t 42))]⟩] [0, 6, 10])
 (.seq (.rg [⟨none, [(some 43, .mv (.t 10)), (some 44, .mv (.t 6)), (some 45, .bin .neq (.t 43) (.t 44))]⟩] [0, 45])
 (.ite (.t 45)
 (.seq (.rg [⟨none, [(some 4, .mv (.c (.bool false)))]⟩] [4])
 .ret)
 .skip))))))
 c_law20_PathBack_R11)))
theorem k_law20_PathBack : Ok Tryd.prog 4 c_law20_PathBack 73 [] [.tmp 4] := Ok.mk' Tryd.func4 (by kernel_rfl) (by kernel_rfl) (by kernel_rfl)

abbrev f_law20_PathCommon : Nat := 5
def c_law20_PathCommon : Cd :=
 (.seq (.rg [⟨none, [(some 2, .mv (.c (.bool false)))]⟩] [0])
 (.seq (.rg [⟨none, [(some 8, .mv (.t 0)), (some 9, .call 13 [(.t 8)]), (some 7, .mv (.t 9)), (some 10, .ext (.t 7) 0), (some 11, .ext (.t 7) 1), (some 3, .mv (.t 10)), (some 4, .mv (.t 11))]⟩] [0, 3, 4])
 (.seq (.rg [⟨none, [(some 13, .mv (.t 0)), (some 14, .call 14 [(.t 13)]), (some 12, .mv (.t 14)), (some 15, .ext (.t 12) 0), (some 16, .ext (.t 12) 1), (some 5, .mv (.t 15)), (some 6, .mv (.t 16))]⟩] [3, 4, 5, 6])
 (.seq (.rg [⟨none, [(some 17, .call 11 []), (some 18, .mv (.t 17))]⟩, ⟨some (18, true), [(some 19, .mv (.t 3)), (some 20, .mv (.t 5)), (some 21, .bin .eql (.t 19) (.t 20))]⟩, ⟨none, [(some 22, .pick (.t 18) (.t 21) (.c (.bool false))), (some 23, .mv (.t 22))]⟩, ⟨some (23, true), [(some 24, .mv (.t 4)), (some 25, .mv (.t 6)), (some 26, .bin .eql (.t 24) (.t 25))]⟩, ⟨none, [(some 27, .pick (.t 23) (.t 26) (.c (.bool false))), (some 2, .mv (.t 27))]⟩] [2])
 .ret))))
theorem k_law20_PathCommon : Ok Tryd.prog 5 c_law20_PathCommon 28 [] [.tmp 2] := Ok.mk' Tryd.func5 (by kernel_rfl) (by kernel_rfl) (by kernel_rfl)

abbrev f_law20_PathShares : Nat := 6
def c_law20_PathShares_L0 : Cd :=
 (.seq (.rg [⟨none, [(some 44, .bin .lss (.t 43) (.t 42))]⟩] [0, 1, 5, 9, 10, 41, 42, 43, 44])
 (.seq (.ite (.t 44)
 .skip
 (.exit 0))
 (.seq (.block 1 (.seq (.rg [⟨none, [(some 45, .mv (.t 43)), (some 46, .idxS (.t 41) (.t 43) 1), (some 47, .ld (.t 46) 1 false), (some 11, .mv (.t 45)), (some 12, .mv (.t 47))]⟩] [0, 1, 5, 9, 10, 11, 12, 41, 42, 43])
 (.seq (.seq (.rg [⟨none, [(some 48, .mv (.t 12)), (some 49, .mv (.t 5)), (some 50, .call 15 [(.t 48), (.t 49)]), (some 51, .un .not (.t 50))]⟩] [0, 1, 5, 9, 10, 11, 12, 41, 42, 43, 51])
 (.ite (.t 51)
 (.seq (.rg [⟨none, [(some 4, .mv (.c (.bool false)))]⟩] [4])
 .ret)
 .skip))
 (.seq (.rg [⟨none, [(some 53, .mv (.t 12)), (some 54, .call 7 [(.t 53)]), (some 52, .mv (.t 54)), (some 55, .ext (.t 52) 0), (some 56, .ext (.t 52) 1), (some 13, .mv (.t 55)), (some 14, .mv (.t 56))]⟩] [0, 1, 5, 9, 10, 11, 13, 41, 42, 43])
 (.seq (.rg [⟨none, [(some 58, .mv (.t 5)), (some 59, .call 7 [(.t 58)]), (some 57, .mv (.t 59)), (some 60, .ext (.t 57) 0), (some 61, .ext (.t 57) 1), (some 15, .mv (.t 60)), (some 16, .mv (.t 61))]⟩] [0, 1, 5, 9, 10, 11, 13, 15, 41, 42, 43])
 (.block 2 (.seq (.rg [⟨none, [(some 63, .mv (.t 13)), (some 64, .len (.t 63)), (some 65, .mv (.t 15)), (some 66, .len (.t 65)), (some 67, .bin .eql (.t 64) (.t 66)), (some 62, .mv (.t 67))]⟩] [0, 1, 5, 9, 10, 11, 13, 15, 41, 42, 43, 62])
 (.ite (.t 62)
 (.rg [⟨none, [(some 9, .mv (.c (.bool false)))]⟩] [0, 1, 5, 9, 10, 41, 42, 43])
 (.seq (.rg [⟨none, [(some 69, .mv (.t 11)), (some 70, .bin .eql (.t 69) (.c (.int .i64 0))), (some 68, .mv (.t 70))]⟩] [0, 1, 5, 9, 10, 13, 15, 41, 42, 43, 68])
 (.ite (.t 68)
 (.rg [⟨none, [(some 71, .mv (.t 13)), (some 72, .mv (.t 15)), (some 73, .len (.t 72)), (some 74, .idxS (.t 71) (.t 73) 1), (some 75, .ld (.t 74) 1 false), (some 10, .mv (.t 75))]⟩] [0, 1, 5, 9, 10, 41, 42, 43])
 (.seq (.rg [⟨none, [(some 77, .mv (.t 13)), (some 78, .mv (.t 15)), (some 79, .len (.t 78)), (some 80, .idxS (.t 77) (.t 79) 1), (some 81, .ld (.t 80) 1 false), (some 82, .mv (.t 10)), (some 83, .bin .neq (.t 81) (.t 82)), (some 76, .mv (.t 83))]⟩] [0, 1, 5, 9, 10, 41, 42, 43, 76])
 (.ite (.t 76)
 (.rg [⟨none, [(some 9, .mv (.c (.bool false)))]⟩] [0, 1, 5, 9, 10, 41, 42, 43])
 .skip))))))))))))
 (.rg [⟨none, [(some 84, .bin .add (.t 43) (.c (.int .i64 1))), (some 43, .mv (.t 84))]⟩] [0, 1, 5, 9, 10, 41, 42, 43]))))
def c_law20_PathShares_L1 : Cd :=
 (.seq (.seq (.rg [⟨none, [(some 89, .mv (.t 18)), (some 90, .bin .geq (.t 89) (.c (.int .i64 0)))]⟩] [0, 1, 5, 17, 18, 90])
 (.ite (.t 90)
 .skip
 (.exit 3)))
 (.seq (.block 4 (.seq (.rg [⟨none, [(some 93, .mv (.t 17)), (some 94, .mv (.t 0)), (some 95, .mv (.t 18)), (some 96, .idxS (.t 94) (.t 95) 1), (some 97, .ld (.t 96) 1 false), (some 98, .bldS 9 1 (.s (.string ⟨#[]⟩)) [(.t 97)]), (some 99, .app 9 1 16 (.s (.string ⟨#[]⟩)) (.t 93) (.t 98)), (some 17, .mv (.t 99))]⟩] [0, 1, 5, 17, 18])
 (.seq (.rg [⟨none, [(some 100, .mv (.t 18)), (some 101, .mv (.t 1)), (some 102, .bin .eql (.t 100) (.t 101))]⟩] [0, 1, 5, 17, 18, 102])
 (.ite (.t 102)
 (.rg [⟨none, [(some 103, .mv (.t 17)), (some 104, .mv (.t 0)), (some 105, .mv (.t 18)), (some 106, .idxS (.t 104) (.t 105) 1), (some 107, .ld (.t 106) 1 false), (some 108, .bldS 9 1 (.s (.string ⟨#[]⟩)) [(.t 107)]), (some 109, .app 9 1 16 (.s (.string ⟨#[]⟩)) (.t 103) (.t 108)), (some 17, .mv (.t 109))]⟩] [0, 1, 5, 17, 18])
 .skip))))
 (.rg [⟨none, [(some 91, .mv (.t 18)), (some 92, .bin .sub (.t 91) (.c (.int .i64 1))), (some 18, .mv (.t 92))]⟩] [0, 1, 5, 17, 18])))
def c_law20_PathShares : Cd :=
 (.seq (.rg [⟨none, [(some 4, .mv (.c (.bool false)))]⟩] [0, 1])
 (.seq (.seq (.rg [⟨none, [(some 21, .call 11 []), (some 22, .un .not (.t 21))]⟩] [0, 1, 22])
 (.ite (.t 22)
 (.seq (.rg [⟨none, [(some 4, .mv (.c (.bool false)))]⟩] [4])
 .ret)
 .skip))
 (.seq (.rg [⟨none, [(some 24, .mv (.t 0)), (some 25, .call 13 [(.t 24)]), (some 23, .mv (.t 25)), (some 26, .ext (.t 23) 0), (some 27, .ext (.t 23) 1), (some 5, .mv (.t 26)), (some 6, .mv (.t 27))]⟩] [0, 1, 5, 6])
 (.seq (.seq (.rg [⟨none, [(some 28, .mv (.t 6)), (some 29, .bin .neq (.t 28) (.c (.int .i64 0)))]⟩] [0, 1, 5, 6, 29])
 (.ite (.t 29)
 (.seq (.rg [⟨none, [(some 31, .mv (.t 0)), (some 32, .call 14 [(.t 31)]), (some 30, .mv (.t 32)), (some 33, .ext (.t 30) 0), (some 34, .ext (.t 30) 1), (some 7, .mv (.t 33)), (some 8, .mv (.t 34))]⟩] [6, 8])
 (.seq (.rg [⟨none, [(some 35, .mv (.t 6)), (some 36, .mv (.t 8)), (some 37, .bin .eql (.t 35) (.t 36)), (some 4, .mv (.t 37))]⟩] [4])
 .ret))
 .skip))
 (.seq (.rg [⟨none, [(some 38, .mv (.t 0)), (some 39, .len (.t 38)), (some 40, .bin .gtr (.t 39) (.c (.int .i64 0))), (some 9, .mv (.t 40))]⟩] [0, 1, 5, 9])
 (.seq (.rg [⟨none, [(some 10, .mv (.c (.string ⟨#[]⟩)))]⟩] [0, 1, 5, 9, 10])
 (.seq (.seq (.rg [⟨none, [(some 41, .mv (.t 0)), (some 42, .len (.t 41)), (some 43, .mv (.c (.int .i64 0)))]⟩] [0, 1, 5, 9, 10, 41, 42, 43])
 (.block 0 (.loop c_law20_PathShares_L0)))
 (.seq (.seq (.rg [⟨none, [(some 85, .mv (.t 9))]⟩] [0, 1, 5, 85])
 (.ite (.t 85)
 (.seq (.rg [⟨none, [(some 4, .mv (.c (.bool false)))]⟩] [4])
 .ret)
 .skip))
 (.seq (.rg [⟨none, [(some 17, .mv (.c (.slice none 0 0)))]⟩] [0, 1, 5, 17])
 (.seq (.seq (.rg [⟨none, [(none, .gh), (some 86, .mv (.t 0)), (some 87, .len (.t 86)), (some 88, .bin .sub (.t 87) (.c (.int .i64 1))), (some 18, .mv (.t 88))]⟩] [0, 1, 5, 17, 18])
 (.block 3 (.loop c_law20_PathShares_L1)))
 (.seq (.rg [⟨none, [(some 111, .mv (.t 17)), (some 112, .call 13 [(.t 111)]), (some 110, .mv (.t 112)), (some 113, .ext (.t 110) 0), (some 114, .ext (.t 110) 1), (some 19, .mv (.t 113)), (some 20, .mv (.t 114))]⟩] [5, 19, 20])
 (.seq (.rg [⟨none, [(some 115, .mv (.t 20)), (some 116, .bin .eql (.t 115) (.c (.int .i64 0))), (some 117, .mv (.t 116))]⟩, ⟨some (117, true), [(some 118, .mv (.t 5)), (some 119, .mv (.t 19)), (some 120, .bin .eql (.t 118) (.t 119))]⟩, ⟨none, [(some 121, .pick (.t 117) (.t 120) (.c (.bool false))), (some 4, .mv (.t 121))]⟩] [4])
 .ret))))))))))))
theorem k_law20_PathShares : Ok Tryd.prog 6 c_law20_PathShares 122 [] [.tmp 4] := Ok.mk' Tryd.func6 (by kernel_rfl) (by kernel_rfl) (by kernel_rfl)

end Go.Proofs.YtgjgbpnjodhhiaaDoor.Vc
