/- The code of some functions of the program, its types resolved: printed by a program of this claim. -/
import Derived.Test.YtgjgbpnjodhhiaaDoorVc10
import Derived.Test.YtgjgbpnjodhhiaaDoorProg
set_option linter.unusedVariables false
set_option maxRecDepth 100000
namespace Go.Proofs.YtgjgbpnjodhhiaaDoor.Vc
open Go Go.Proofs

abbrev f_law20_begun : Nat := 11
def c_law20_begun : Cd :=
 (.seq (.rg [⟨none, [(some 0, .mv (.c (.bool false)))]⟩] [])
 (.seq (.rg [⟨none, [(some 6, .call 7 [(.c (.string ⟨#[47, 97, 47, 98]⟩))]), (some 5, .mv (.t 6)), (some 7, .ext (.t 5) 0), (some 8, .ext (.t 5) 1), (some 1, .mv (.t 7)), (some 2, .mv (.t 8))]⟩] [1, 2])
 (.seq (.rg [⟨none, [(some 10, .bldS 9 1 (.s (.string ⟨#[]⟩)) [(.c (.string ⟨#[97]⟩)), (.c (.string ⟨#[98]⟩))]), (some 11, .call 9 [(.t 10)]), (some 9, .mv (.t 11)), (some 12, .ext (.t 9) 0), (some 13, .ext (.t 9) 1), (some 3, .mv (.t 12)), (some 4, .mv (.t 13))]⟩] [1, 2, 3, 4])
 (.seq (.rg [⟨none, [(none, .gh), (some 14, .mv (.t 1)), (some 15, .len (.t 14)), (some 16, .bin .eql (.t 15) (.c (.int .i64 2))), (some 17, .mv (.t 16))]⟩, ⟨some (17, true), [(some 18, .mv (.t 1)), (some 19, .idxS (.t 18) (.c (.int .i64 0)) 1), (some 20, .ld (.t 19) 1 false), (some 21, .bin .eql (.t 20) (.c (.string ⟨#[97]⟩)))]⟩, ⟨none, [(some 22, .pick (.t 17) (.t 21) (.c (.bool false))), (some 23, .mv (.t 22))]⟩, ⟨some (23, true), [(some 24, .mv (.t 1)), (some 25, .idxS (.t 24) (.c (.int .i64 1)) 1), (some 26, .ld (.t 25) 1 false), (some 27, .bin .eql (.t 26) (.c (.string ⟨#[98]⟩)))]⟩, ⟨none, [(some 28, .pick (.t 23) (.t 27) (.c (.bool false))), (some 29, .mv (.t 28))]⟩, ⟨some (29, true), [(some 30, .mv (.t 2)), (some 31, .bin .eql (.t 30) (.c (.int .i64 0)))]⟩, ⟨none, [(some 32, .pick (.t 29) (.t 31) (.c (.bool false))), (some 33, .mv (.t 32))]⟩, ⟨some (33, true), [(some 34, .mv (.t 3)), (some 35, .bin .eql (.t 34) (.c (.string ⟨#[47, 97, 47, 98]⟩)))]⟩, ⟨none, [(some 36, .pick (.t 33) (.t 35) (.c (.bool false))), (some 37, .mv (.t 36))]⟩, ⟨some (37, true), [(some 38, .mv (.t 4)), (some 39, .bin .eql (.t 38) (.c (.int .i64 0)))]⟩, ⟨none, [(some 40, .pick (.t 37) (.t 39) (.c (.bool false))), (some 0, .mv (.t 40))]⟩] [0])
 .ret))))
theorem k_law20_begun : Ok Tryd.prog 11 c_law20_begun 41 [] [.tmp 0] := Ok.mk' Tryd.func11 (by kernel_rfl) (by kernel_rfl) (by kernel_rfl)

abbrev f_law20_same : Nat := 12
def c_law20_same_L0 : Cd :=
 (.seq (.rg [⟨none, [(some 14, .bin .lss (.t 13) (.t 12))]⟩] [0, 1, 12, 13, 14])
 (.seq (.ite (.t 14)
 .skip
 (.exit 0))
 (.seq (.block 1 (.seq (.rg [⟨none, [(some 15, .mv (.t 13)), (some 5, .mv (.t 15))]⟩] [0, 1, 5, 12, 13])
 (.seq (.rgq [⟨none, [(some 16, .mv (.t 0)), (some 17, .mv (.t 5)), (some 18, .idxS (.t 16) (.t 17) 1), (some 19, .ld (.t 18) 1 false), (some 20, .mv (.t 1)), (some 21, .mv (.t 5)), (some 22, .idxS (.t 20) (.t 21) 1), (some 23, .ld (.t 22) 1 false)]⟩] [⟨none, [(some 24, .bin .neq (.t 19) (.t 23))]⟩] [0, 1, 12, 13, 24])
 (.ite (.t 24)
 (.seq (.rg [⟨none, [(some 4, .mv (.c (.bool false)))]⟩] [4])
 .ret)
 .skip))))
 (.rg [⟨none, [(some 25, .bin .add (.t 13) (.c (.int .i64 1))), (some 13, .mv (.t 25))]⟩] [0, 1, 12, 13]))))
def c_law20_same : Cd :=
 (.seq (.rg [⟨none, [(some 4, .mv (.c (.bool false)))]⟩] [0, 1])
 (.seq (.seq (.rg [⟨none, [(some 6, .mv (.t 0)), (some 7, .len (.t 6)), (some 8, .mv (.t 1)), (some 9, .len (.t 8)), (some 10, .bin .neq (.t 7) (.t 9))]⟩] [0, 1, 10])
 (.ite (.t 10)
 (.seq (.rg [⟨none, [(some 4, .mv (.c (.bool false)))]⟩] [4])
 .ret)
 .skip))
 (.seq (.seq (.rg [⟨none, [(some 11, .mv (.t 0)), (some 12, .len (.t 11)), (some 13, .mv (.c (.int .i64 0)))]⟩] [0, 1, 12, 13])
 (.block 0 (.loop c_law20_same_L0)))
 (.seq (.rg [⟨none, [(some 4, .mv (.c (.bool true)))]⟩] [4])
 .ret))))
theorem k_law20_same : Ok Tryd.prog 12 c_law20_same 26 [(6, 8)] [.tmp 4] := Ok.mk' Tryd.func12 (by kernel_rfl) (by kernel_rfl) (by kernel_rfl)

abbrev f_law20_starts : Nat := 15
def c_law20_starts : Cd :=
 (.seq (.rg [⟨none, [(some 4, .mv (.c (.bool false)))]⟩] [0, 1])
 (.seq (.rg [⟨none, [(some 10, .mv (.t 0)), (some 11, .call 7 [(.t 10)]), (some 9, .mv (.t 11)), (some 12, .ext (.t 9) 0), (some 13, .ext (.t 9) 1), (some 5, .mv (.t 12)), (some 6, .mv (.t 13))]⟩] [1, 5, 6])
 (.seq (.rg [⟨none, [(some 15, .mv (.t 1)), (some 16, .call 7 [(.t 15)]), (some 14, .mv (.t 16)), (some 17, .ext (.t 14) 0), (some 18, .ext (.t 14) 1), (some 7, .mv (.t 17)), (some 8, .mv (.t 18))]⟩] [5, 6, 7, 8])
 (.seq (.rg [⟨none, [(none, .gh), (none, .gh), (some 19, .mv (.t 6)), (some 20, .bin .eql (.t 19) (.c (.int .i64 0))), (some 21, .mv (.t 20))]⟩, ⟨some (21, true), [(some 22, .mv (.t 8)), (some 23, .bin .eql (.t 22) (.c (.int .i64 0)))]⟩, ⟨none, [(some 24, .pick (.t 21) (.t 23) (.c (.bool false))), (some 25, .mv (.t 24))]⟩, ⟨some (25, true), [(some 26, .mv (.t 7)), (some 27, .len (.t 26)), (some 28, .mv (.t 5)), (some 29, .len (.t 28)), (some 30, .bin .leq (.t 27) (.t 29))]⟩, ⟨none, [(some 31, .pick (.t 25) (.t 30) (.c (.bool false))), (some 32, .mv (.t 31))]⟩, ⟨some (32, true), [(some 33, .mv (.t 5)), (some 34, .mv (.t 7)), (some 35, .len (.t 34)), (some 36, .sl 1 (.t 33) none (some (.t 35))), (some 37, .mv (.t 7)), (some 38, .call 12 [(.t 36), (.t 37)])]⟩, ⟨none, [(some 39, .pick (.t 32) (.t 38) (.c (.bool false))), (some 4, .mv (.t 39))]⟩] [4])
 .ret))))
theorem k_law20_starts : Ok Tryd.prog 15 c_law20_starts 40 [] [.tmp 4] := Ok.mk' Tryd.func15 (by kernel_rfl) (by kernel_rfl) (by kernel_rfl)

abbrev f_path_Common : Nat := 13
def c_path_Common_L0 : Cd :=
 (.seq (.rg [⟨none, [(some 15, .bin .lss (.t 14) (.t 13))]⟩] [4, 12, 13, 14, 15])
 (.seq (.ite (.t 15)
 .skip
 (.exit 0))
 (.seq (.block 1 (.seq (.rg [⟨none, [(some 16, .idxS (.t 12) (.t 14) 1), (some 17, .ld (.t 16) 1 false), (some 6, .mv (.t 17))]⟩] [4, 6, 12, 13, 14])
 (.seq (.rg [⟨none, [(some 19, .mv (.t 6)), (some 20, .call 7 [(.t 19)]), (some 18, .mv (.t 20)), (some 21, .ext (.t 18) 0), (some 22, .ext (.t 18) 1), (some 7, .mv (.t 21)), (some 8, .mv (.t 22))]⟩] [4, 7, 8, 12, 13, 14])
 (.seq (.seq (.rg [⟨none, [(some 23, .mv (.t 8)), (some 24, .bin .neq (.t 23) (.c (.int .i64 0)))]⟩] [4, 7, 8, 12, 13, 14, 24])
 (.ite (.t 24)
 (.seq (.rg [⟨none, [(some 25, .mv (.t 8)), (some 2, .mv (.c (.string ⟨#[]⟩))), (some 3, .mv (.t 25))]⟩] [2, 3])
 .ret)
 .skip))
 (.rg [⟨none, [(some 26, .mv (.t 4)), (some 27, .mv (.t 7)), (some 28, .bldS 22 1 (.s (.slice none 0 0)) [(.t 27)]), (some 29, .app 22 1 24 (.s (.slice none 0 0)) (.t 26) (.t 28)), (some 4, .mv (.t 29))]⟩] [4, 12, 13, 14])))))
 (.rg [⟨none, [(some 30, .bin .add (.t 14) (.c (.int .i64 1))), (some 14, .mv (.t 30))]⟩] [4, 12, 13, 14]))))
def c_path_Common_L1 : Cd :=
 (.seq (.rg [⟨none, [(some 43, .bin .lss (.t 42) (.t 41))]⟩] [4, 9, 40, 41, 42, 43])
 (.seq (.ite (.t 43)
 .skip
 (.exit 4))
 (.seq (.block 5 (.seq (.rg [⟨none, [(some 44, .idxS (.t 40) (.t 42) 1), (some 45, .ld (.t 44) 1 false), (some 11, .mv (.t 45))]⟩] [4, 9, 11, 40, 41, 42])
 (.seq (.rgq [⟨none, [(some 46, .mv (.t 9)), (some 47, .mv (.t 11)), (some 48, .len (.t 47)), (some 49, .bin .geq (.t 46) (.t 48)), (some 50, .mv (.t 49))]⟩, ⟨some (50, false), [(some 51, .mv (.t 11)), (some 52, .mv (.t 9)), (some 53, .idxS (.t 51) (.t 52) 1), (some 54, .ld (.t 53) 1 false), (some 55, .mv (.t 4)), (some 56, .idxS (.t 55) (.c (.int .i64 0)) 1), (some 57, .ld (.t 56) 1 false), (some 58, .mv (.t 9)), (some 59, .idxS (.t 57) (.t 58) 1), (some 60, .ld (.t 59) 1 false)]⟩] [⟨some (50, false), [(some 61, .bin .neq (.t 54) (.t 60))]⟩, ⟨none, [(some 62, .pick (.t 50) (.c (.bool true)) (.t 61))]⟩] [4, 9, 40, 41, 42, 62])
 (.ite (.t 62)
 (.exit 2)
 .skip))))
 (.rg [⟨none, [(some 63, .bin .add (.t 42) (.c (.int .i64 1))), (some 42, .mv (.t 63))]⟩] [4, 9, 40, 41, 42]))))
def c_path_Common_L2 : Cd :=
 (.seq (.seq (.rg [⟨none, [(some 34, .mv (.t 9)), (some 35, .mv (.t 4)), (some 36, .idxS (.t 35) (.c (.int .i64 0)) 1), (some 37, .ld (.t 36) 1 false), (some 38, .len (.t 37)), (some 39, .bin .lss (.t 34) (.t 38))]⟩] [4, 9, 39])
 (.ite (.t 39)
 .skip
 (.exit 2)))
 (.block 3 (.seq (.seq (.rg [⟨none, [(some 40, .mv (.t 4)), (some 41, .len (.t 40)), (some 42, .mv (.c (.int .i64 0)))]⟩] [4, 9, 40, 41, 42])
 (.block 4 (.loop c_path_Common_L1)))
 (.rg [⟨none, [(some 64, .mv (.t 9)), (some 65, .bin .add (.t 64) (.c (.int .i64 1))), (some 9, .mv (.t 65))]⟩] [4, 9]))))
def c_path_Common_R20 : Cd :=
 (.seq (.gh (.rg [⟨none, [(some 66, .mv (.t 4)), (some 67, .idxS (.t 66) (.c (.int .i64 0)) 1), (some 68, .ld (.t 67) 1 false), (none, .gh), (some 69, .mv (.t 9)), (some 70, .sl 1 (.t 68) none (some (.t 69))), (some 71, .call 9 [(.t 70)]), (some 72, .ext (.t 71) 0), (some 73, .ext (.t 71) 1), (some 2, .mv (.t 72)), (some 3, .mv (.t 73))]⟩] [2, 3]))
 .ret)
def c_path_Common : Cd :=
 (.seq (.rg [⟨none, [(some 2, .mv (.c (.string ⟨#[]⟩))), (some 3, .mv (.c (.int .i64 0)))]⟩] [0])
 (.scope (.seq (.rg [⟨none, [(some 4, .mv (.c (.slice none 0 0)))]⟩] [0, 4])
 (.seq (.seq (.rg [⟨none, [(none, .gh), (some 12, .mv (.t 0)), (some 13, .len (.t 12)), (some 14, .mv (.c (.int .i64 0)))]⟩] [4, 12, 13, 14])
 (.block 0 (.loop c_path_Common_L0)))
 (.seq (.seq (.rg [⟨none, [(some 31, .mv (.t 4)), (some 32, .len (.t 31)), (some 33, .bin .eql (.t 32) (.c (.int .i64 0)))]⟩] [4, 33])
 (.ite (.t 33)
 (.seq (.rg [⟨none, [(some 2, .mv (.c (.string ⟨#[47]⟩))), (some 3, .mv (.c (.int .i64 0)))]⟩] [2, 3])
 .ret)
 .skip))
 (.seq (.rg [⟨none, [(some 9, .mv (.c (.int .i64 0)))]⟩] [4, 9])
 (.seq .skip
 (.seq (.block 2 (.loop c_path_Common_L2))
 c_path_Common_R20))))))))
theorem k_path_Common : Ok Tryd.prog 13 c_path_Common 74 [(17, 15)] [.tmp 2, .tmp 3] := Ok.mk' Tryd.func13 (by kernel_rfl) (by kernel_rfl) (by kernel_rfl)

abbrev f_ref20_Common : Nat := 14
def c_ref20_Common_L0 : Cd :=
 (.seq (.seq (.rgq [⟨none, [(some 29, .mv (.t 8)), (some 30, .mv (.t 4)), (some 31, .len (.t 30)), (some 32, .bin .lss (.t 29) (.t 31)), (some 33, .mv (.t 32))]⟩, ⟨some (33, true), [(some 34, .mv (.t 8)), (some 35, .mv (.t 6)), (some 36, .len (.t 35)), (some 37, .bin .lss (.t 34) (.t 36))]⟩, ⟨none, [(some 38, .pick (.t 33) (.t 37) (.c (.bool false))), (some 39, .mv (.t 38))]⟩, ⟨some (39, true), [(some 40, .mv (.t 4)), (some 41, .mv (.t 8)), (some 42, .idxS (.t 40) (.t 41) 1), (some 43, .ld (.t 42) 1 false), (some 44, .mv (.t 6)), (some 45, .mv (.t 8)), (some 46, .idxS (.t 44) (.t 45) 1), (some 47, .ld (.t 46) 1 false)]⟩] [⟨some (39, true), [(some 48, .bin .eql (.t 43) (.t 47))]⟩, ⟨none, [(some 49, .pick (.t 39) (.t 48) (.c (.bool false)))]⟩] [0, 4, 5, 6, 8, 49])
 (.ite (.t 49)
 .skip
 (.exit 2)))
 (.block 3 (.rg [⟨none, [(some 50, .mv (.t 8)), (some 51, .bin .add (.t 50) (.c (.int .i64 1))), (some 8, .mv (.t 51))]⟩] [0, 4, 5, 6, 8])))
def c_ref20_Common_R9 : Cd :=
 (.seq (.gh (.rg [⟨none, [(none, .gh), (some 8, .mv (.c (.int .i64 0)))]⟩] [0, 4, 5, 6, 8]))
 (.seq (.block 2 (.loop c_ref20_Common_L0))
 (.rg [⟨none, [(some 52, .mv (.t 4)), (some 53, .mv (.t 8)), (some 54, .sl 1 (.t 52) none (some (.t 53))), (some 4, .mv (.t 54))]⟩] [0, 4, 5])))
def c_ref20_Common_L1 : Cd :=
 (.seq (.seq (.rg [⟨none, [(some 9, .mv (.t 5)), (some 10, .mv (.t 0)), (some 11, .len (.t 10)), (some 12, .bin .lss (.t 9) (.t 11))]⟩] [0, 4, 5, 12])
 (.ite (.t 12)
 .skip
 (.exit 0)))
 (.seq (.block 1 (.seq (.rg [⟨none, [(some 16, .mv (.t 0)), (some 17, .mv (.t 5)), (some 18, .idxS (.t 16) (.t 17) 1), (some 19, .ld (.t 18) 1 false), (some 20, .call 8 [(.t 19)]), (some 15, .mv (.t 20)), (some 21, .ext (.t 15) 0), (some 22, .ext (.t 15) 1), (some 6, .mv (.t 21)), (some 7, .mv (.t 22))]⟩] [0, 4, 5, 6, 7])
 (.seq (.seq (.rg [⟨none, [(some 23, .mv (.t 7)), (some 24, .bin .neq (.t 23) (.c (.int .i64 0)))]⟩] [0, 4, 5, 6, 7, 24])
 (.ite (.t 24)
 (.seq (.rg [⟨none, [(some 25, .mv (.t 7)), (some 2, .mv (.c (.string ⟨#[]⟩))), (some 3, .mv (.t 25))]⟩] [2, 3])
 .ret)
 .skip))
 (.seq (.seq (.rg [⟨none, [(some 26, .mv (.t 5)), (some 27, .bin .eql (.t 26) (.c (.int .i64 0)))]⟩] [0, 4, 5, 6, 27])
 (.ite (.t 27)
 (.rg [⟨none, [(some 28, .mv (.t 6)), (some 4, .mv (.t 28)), (none, .gh)]⟩] [0, 4, 5, 6])
 .skip))
 c_ref20_Common_R9))))
 (.rg [⟨none, [(some 13, .mv (.t 5)), (some 14, .bin .add (.t 13) (.c (.int .i64 1))), (some 5, .mv (.t 14))]⟩] [0, 4, 5])))
def c_ref20_Common : Cd :=
 (.seq (.rg [⟨none, [(some 2, .mv (.c (.string ⟨#[]⟩))), (some 3, .mv (.c (.int .i64 0)))]⟩] [0])
 (.seq (.rg [⟨none, [(some 4, .mv (.c (.slice none 0 0)))]⟩] [0, 4])
 (.seq (.seq (.rg [⟨none, [(none, .gh), (some 5, .mv (.c (.int .i64 0)))]⟩] [0, 4, 5])
 (.block 0 (.loop c_ref20_Common_L1)))
 (.seq (.rg [⟨none, [(some 55, .mv (.t 4)), (some 56, .call 10 [(.t 55)]), (some 57, .ext (.t 56) 0), (some 58, .ext (.t 56) 1), (some 2, .mv (.t 57)), (some 3, .mv (.t 58))]⟩] [2, 3])
 .ret))))
theorem k_ref20_Common : Ok Tryd.prog 14 c_ref20_Common 59 [(11, 19)] [.tmp 2, .tmp 3] := Ok.mk' Tryd.func14 (by kernel_rfl) (by kernel_rfl) (by kernel_rfl)

end Go.Proofs.YtgjgbpnjodhhiaaDoor.Vc
