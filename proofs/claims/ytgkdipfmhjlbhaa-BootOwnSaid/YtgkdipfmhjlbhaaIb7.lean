/- The code of some functions of the program, its types resolved: printed by a program of this claim. -/
import Derived.Test.YtgkdipfmhjlbhaaVc10
import Derived.Test.YtgkdipfmhjlbhaaProg
set_option linter.unusedVariables false
set_option maxRecDepth 100000
namespace Go.Proofs.Ytgkdipfmhjlbhaa.Vc
open Go Go.Proofs

abbrev f_law19_BootFresh : Nat := 8
def c_law19_BootFresh_L0 : Cd :=
 (.seq (.rg [⟨none, [(some 57, .bin .lss (.t 56) (.t 55))]⟩] [4, 5, 6, 7, 8, 9, 54, 55, 56, 57])
 (.seq (.ite (.t 57)
 .skip
 (.exit 0))
 (.seq (.block 1 (.seq (.rg [⟨none, [(some 58, .idxS (.t 54) (.t 56) 4), (some 59, .ld (.t 58) 4 true), (some 11, .new 43 (.c (.s (.int .i64 0)) (.c (.s (.int .i64 0)) (.c (.s (.int .i64 0)) (.c (.s (.slice none 0 0)) .u))))), (none, .st (.t 11) (.t 59) 4)]⟩] [4, 5, 6, 7, 8, 9, 11, 54, 55, 56])
 (.rg [⟨none, [(some 61, .mv (.t 9)), (some 62, .ld (.t 11) 4 true), (some 63, .call 18 [(.t 61), (.t 62)]), (some 60, .mv (.t 63)), (some 64, .ext (.t 60) 0), (some 65, .ext (.t 60) 1), (some 9, .mv (.t 64))]⟩] [4, 5, 6, 7, 8, 9, 54, 55, 56])))
 (.rg [⟨none, [(some 66, .bin .add (.t 56) (.c (.int .i64 1))), (some 56, .mv (.t 66))]⟩] [4, 5, 6, 7, 8, 9, 54, 55, 56]))))
def c_law19_BootFresh_L1 : Cd :=
 (.seq (.rg [⟨none, [(some 70, .bin .lss (.t 69) (.t 68))]⟩] [4, 5, 6, 7, 9, 67, 68, 69, 70])
 (.seq (.ite (.t 70)
 .skip
 (.exit 2))
 (.seq (.block 3 (.seq (.rg [⟨none, [(some 71, .idxS (.t 67) (.t 69) 4), (some 72, .ld (.t 71) 4 true), (some 13, .new 43 (.c (.s (.int .i64 0)) (.c (.s (.int .i64 0)) (.c (.s (.int .i64 0)) (.c (.s (.slice none 0 0)) .u))))), (none, .st (.t 13) (.t 72) 4)]⟩] [4, 5, 6, 7, 9, 13, 67, 68, 69])
 (.rg [⟨none, [(some 74, .mv (.t 9)), (some 75, .ld (.t 13) 4 true), (some 76, .call 18 [(.t 74), (.t 75)]), (some 73, .mv (.t 76)), (some 77, .ext (.t 73) 0), (some 78, .ext (.t 73) 1), (some 9, .mv (.t 77))]⟩] [4, 5, 6, 7, 9, 67, 68, 69])))
 (.rg [⟨none, [(some 79, .bin .add (.t 69) (.c (.int .i64 1))), (some 69, .mv (.t 79))]⟩] [4, 5, 6, 7, 9, 67, 68, 69]))))
def c_law19_BootFresh : Cd :=
 (.seq (.rg [⟨none, [(some 1, .box 56 (.t 0)), (some 2, .mv (.c (.bool false)))]⟩] [1])
 (.seq (.rgq [⟨none, [(some 18, .fldA (.t 1) 0 0), (some 19, .ld (.t 18) 1 false), (some 20, .fldA (.t 1) 1 1), (some 21, .ld (.t 20) 1 false), (some 22, .fldA (.t 1) 2 2), (some 23, .ld (.t 22) 1 false), (some 24, .fldA (.t 1) 3 3), (some 25, .ld (.t 24) 1 false), (some 3, .mv (.t 19)), (some 4, .mv (.t 21)), (some 5, .mv (.t 23))]⟩] [⟨none, [(some 6, .mv (.t 25))]⟩] [3, 4, 5, 6])
 (.seq (.rg [⟨none, [(some 26, .mv (.t 3)), (some 27, .mv (.t 5)), (some 28, .call 14 [(.t 26), (.t 27), (.c (.int .i64 0)), (.c (.int .i64 2048))]), (some 29, .mv (.t 4)), (some 30, .mv (.t 6)), (some 31, .call 14 [(.t 29), (.t 30), (.c (.int .i64 0)), (.c (.int .i64 2048))]), (some 7, .mv (.t 28)), (some 8, .mv (.t 31)), (none, .gh)]⟩] [4, 5, 6, 7, 8])
 (.seq (.seq (.rg [⟨none, [(some 32, .mv (.t 7)), (some 33, .len (.t 32)), (some 34, .bin .eql (.t 33) (.c (.int .i64 0))), (some 35, .mv (.t 34))]⟩, ⟨some (35, false), [(some 36, .mv (.t 8)), (some 37, .len (.t 36)), (some 38, .bin .eql (.t 37) (.c (.int .i64 0)))]⟩, ⟨none, [(some 39, .pick (.t 35) (.c (.bool true)) (.t 38)), (some 40, .mv (.t 39))]⟩, ⟨some (40, false), [(some 41, .mv (.t 5)), (some 42, .mv (.t 6)), (some 43, .bin .eql (.t 41) (.t 42))]⟩, ⟨none, [(some 44, .pick (.t 40) (.c (.bool true)) (.t 43)), (some 45, .mv (.t 44))]⟩, ⟨some (45, false), [(some 46, .call 10 []), (some 47, .un .not (.t 46))]⟩, ⟨none, [(some 48, .pick (.t 45) (.c (.bool true)) (.t 47))]⟩] [4, 5, 6, 7, 8, 48])
 (.ite (.t 48)
 (.seq (.rg [⟨none, [(some 49, .call 10 []), (some 2, .mv (.t 49))]⟩] [2])
 .ret)
 .skip))
 (.seq (.rg [⟨none, [(some 9, .mv (.c (.slice none 0 0)))]⟩] [4, 5, 6, 7, 8, 9])
 (.seq (.seq (.rg [⟨none, [(some 50, .mv (.t 7)), (some 51, .mv (.t 7)), (some 52, .len (.t 51)), (some 53, .bin .sub (.t 52) (.c (.int .i64 1))), (some 54, .sl 4 (.t 50) none (some (.t 53))), (some 55, .len (.t 54)), (some 56, .mv (.c (.int .i64 0)))]⟩] [4, 5, 6, 7, 8, 9, 54, 55, 56])
 (.block 0 (.loop c_law19_BootFresh_L0)))
 (.seq (.seq (.rg [⟨none, [(some 67, .mv (.t 8)), (some 68, .len (.t 67)), (some 69, .mv (.c (.int .i64 0)))]⟩] [4, 5, 6, 7, 9, 67, 68, 69])
 (.block 2 (.loop c_law19_BootFresh_L1)))
 (.seq (.rg [⟨none, [(some 81, .mv (.t 9)), (some 82, .call 20 [(.t 81)]), (some 80, .mv (.t 82)), (some 83, .ext (.t 80) 0), (some 84, .ext (.t 80) 1), (some 14, .mv (.t 83)), (some 15, .mv (.t 84))]⟩] [4, 5, 6, 7, 9, 14])
 (.seq (.seq (.rg [⟨none, [(some 85, .mv (.t 7)), (some 86, .len (.t 85)), (some 87, .bin .gtr (.t 86) (.c (.int .i64 1))), (some 88, .mv (.t 87))]⟩, ⟨some (88, true), [(some 89, .mv (.t 6)), (some 90, .mv (.t 5)), (some 91, .bin .lss (.t 89) (.t 90))]⟩, ⟨none, [(some 92, .pick (.t 88) (.t 91) (.c (.bool false)))]⟩] [4, 5, 6, 7, 9, 14, 92])
 (.ite (.t 92)
 (.seq (.rg [⟨none, [(some 93, .mv (.t 14)), (some 94, .mv (.t 5)), (some 95, .bin .eql (.t 93) (.t 94)), (some 96, .mv (.t 95))]⟩, ⟨some (96, true), [(some 97, .mv (.t 9)), (some 98, .len (.t 97)), (some 99, .mv (.t 7)), (some 100, .len (.t 99)), (some 101, .bin .sub (.t 100) (.c (.int .i64 1))), (some 102, .bin .eql (.t 98) (.t 101))]⟩, ⟨none, [(some 103, .pick (.t 96) (.t 102) (.c (.bool false))), (some 2, .mv (.t 103))]⟩] [2])
 .ret)
 .skip))
 (.seq (.rg [⟨none, [(some 105, .mv (.t 9)), (some 106, .call 22 [(.t 105)]), (some 104, .mv (.t 106)), (some 107, .ext (.t 104) 0), (some 108, .ext (.t 104) 1), (some 16, .mv (.t 107)), (some 17, .mv (.t 108))]⟩] [4, 6, 14, 16, 17])
 (.seq (.rg [⟨none, [(some 109, .mv (.t 14)), (some 110, .mv (.t 6)), (some 111, .bin .eql (.t 109) (.t 110)), (some 112, .mv (.t 111))]⟩, ⟨some (112, true), [(some 113, .mv (.t 17))]⟩, ⟨none, [(some 114, .pick (.t 112) (.t 113) (.c (.bool false))), (some 115, .mv (.t 114))]⟩, ⟨some (115, true), [(some 116, .mv (.t 16)), (some 117, .mv (.t 4)), (some 118, .call 24 [(.t 116), (.t 117)])]⟩, ⟨none, [(some 119, .pick (.t 115) (.t 118) (.c (.bool false))), (some 2, .mv (.t 119))]⟩] [2])
 .ret)))))))))))
theorem k_law19_BootFresh : Ok Try.prog 8 c_law19_BootFresh 120 [(1, 11)] [.tmp 2] := Ok.mk' Try.func8 (by kernel_rfl) (by kernel_rfl) (by kernel_rfl)

abbrev f_law19_BootBack : Nat := 9
def c_law19_BootBack_L0 : Cd :=
 (.seq (.rg [⟨none, [(some 83, .bin .lss (.t 82) (.t 81))]⟩] [3, 4, 5, 6, 8, 13, 48, 49, 80, 81, 82, 83])
 (.seq (.ite (.t 83)
 .skip
 (.exit 2))
 (.seq (.block 3 (.seq (.rg [⟨none, [(some 84, .idxS (.t 80) (.t 82) 4), (some 85, .ld (.t 84) 4 true), (some 15, .new 43 (.c (.s (.int .i64 0)) (.c (.s (.int .i64 0)) (.c (.s (.int .i64 0)) (.c (.s (.slice none 0 0)) .u))))), (none, .st (.t 15) (.t 85) 4)]⟩] [3, 4, 5, 6, 8, 13, 15, 48, 49, 80, 81, 82])
 (.rg [⟨none, [(some 87, .mv (.t 8)), (some 88, .ld (.t 15) 4 true), (some 89, .call 18 [(.t 87), (.t 88)]), (some 86, .mv (.t 89)), (some 90, .ext (.t 86) 0), (some 91, .ext (.t 86) 1), (some 8, .mv (.t 90))]⟩] [3, 4, 5, 6, 8, 13, 48, 49, 80, 81, 82])))
 (.rg [⟨none, [(some 92, .bin .add (.t 82) (.c (.int .i64 1))), (some 82, .mv (.t 92))]⟩] [3, 4, 5, 6, 8, 13, 48, 49, 80, 81, 82]))))
def c_law19_BootBack_L1 : Cd :=
 (.seq (.rg [⟨none, [(some 50, .bin .lss (.t 49) (.t 48))]⟩] [3, 4, 5, 6, 8, 9, 48, 49, 50])
 (.seq (.ite (.t 50)
 .skip
 (.exit 0))
 (.seq (.block 1 (.seq (.rg [⟨none, [(some 51, .mv (.t 49)), (some 10, .mv (.t 51))]⟩] [3, 4, 5, 6, 8, 9, 10, 48, 49])
 (.seq (.rg [⟨none, [(some 53, .mv (.t 8)), (some 54, .call 20 [(.t 53)]), (some 52, .mv (.t 54)), (some 55, .ext (.t 52) 0), (some 56, .ext (.t 52) 1), (some 11, .mv (.t 55)), (some 12, .mv (.t 56))]⟩] [3, 4, 5, 6, 8, 9, 10, 11, 12, 48, 49])
 (.seq (.rg [⟨none, [(some 57, .mv (.t 6)), (some 58, .mv (.t 11)), (some 59, .mv (.t 12)), (some 60, .mv (.t 4)), (some 61, .cvI .i64 (.t 60)), (some 62, .bin .rem (.t 61) (.c (.int .i64 9))), (some 63, .bin .add (.t 62) (.c (.int .i64 1))), (some 64, .call 12 [(.t 57), (.t 58), (.t 59), (.t 63)]), (some 13, .mv (.t 64))]⟩] [3, 4, 5, 6, 8, 9, 10, 13, 48, 49])
 (.seq (.seq (.rg [⟨none, [(some 65, .mv (.t 10)), (some 66, .mv (.t 5)), (some 67, .len (.t 66)), (some 68, .bin .lss (.t 65) (.t 67)), (some 69, .mv (.t 68))]⟩, ⟨some (69, true), [(some 70, .mv (.t 5)), (some 71, .mv (.t 10)), (some 72, .idxS (.t 70) (.t 71) 1), (some 73, .ld (.t 72) 1 false)]⟩, ⟨none, [(some 74, .pick (.t 69) (.t 73) (.c (.bool false)))]⟩] [3, 4, 5, 6, 8, 9, 13, 48, 49, 74])
 (.ite (.t 74)
 (.seq (.rg [⟨none, [(some 75, .mv (.t 13)), (some 9, .mv (.t 75))]⟩] [3, 4, 5, 6, 8, 9, 48, 49])
 (.exit 1))
 .skip))
 (.seq (.seq (.rg [⟨none, [(some 76, .bldS 43 4 (.c (.s (.int .i64 0)) (.c (.s (.int .i64 0)) (.c (.s (.int .i64 0)) (.c (.s (.slice none 0 0)) .u)))) []), (some 77, .mv (.t 9)), (none, .gh), (some 78, .app 43 4 48 (.c (.s (.int .i64 0)) (.c (.s (.int .i64 0)) (.c (.s (.int .i64 0)) (.c (.s (.slice none 0 0)) .u)))) (.t 76) (.t 77)), (some 79, .mv (.t 13)), (none, .gh), (some 80, .app 43 4 48 (.c (.s (.int .i64 0)) (.c (.s (.int .i64 0)) (.c (.s (.int .i64 0)) (.c (.s (.slice none 0 0)) .u)))) (.t 78) (.t 79)), (some 81, .len (.t 80)), (some 82, .mv (.c (.int .i64 0)))]⟩] [3, 4, 5, 6, 8, 13, 48, 49, 80, 81, 82])
 (.block 2 (.loop c_law19_BootBack_L0)))
 (.seq (.rg [⟨none, [(some 93, .mv (.t 13)), (some 9, .mv (.t 93))]⟩] [3, 4, 5, 6, 8, 9, 48, 49])
 (.seq (.rg [⟨none, [(some 95, .mv (.t 8)), (some 96, .call 22 [(.t 95)]), (some 94, .mv (.t 96)), (some 97, .ext (.t 94) 0), (some 98, .ext (.t 94) 1), (some 16, .mv (.t 97)), (some 17, .mv (.t 98))]⟩] [3, 4, 5, 6, 8, 9, 16, 17, 48, 49])
 (.seq (.rg [⟨none, [(some 99, .mv (.t 17))]⟩] [3, 4, 5, 6, 8, 9, 16, 48, 49, 99])
 (.ite (.t 99)
 (.seq (.rg [⟨none, [(some 100, .mv (.t 16)), (some 101, .mv (.t 3)), (some 102, .call 24 [(.t 100), (.t 101)]), (some 2, .mv (.t 102))]⟩] [2])
 .ret)
 .skip))))))))))
 (.rg [⟨none, [(some 103, .bin .add (.t 49) (.c (.int .i64 1))), (some 49, .mv (.t 103))]⟩] [3, 4, 5, 6, 8, 9, 48, 49]))))
def c_law19_BootBack : Cd :=
 (.seq (.rg [⟨none, [(some 1, .box 60 (.t 0)), (some 2, .mv (.c (.bool false)))]⟩] [1])
 (.seq (.rgq [⟨none, [(some 18, .fldA (.t 1) 0 0), (some 19, .ld (.t 18) 1 false), (some 20, .fldA (.t 1) 2 2), (some 21, .ld (.t 20) 1 false), (some 22, .fldA (.t 1) 3 3), (some 23, .ld (.t 22) 1 false), (some 3, .mv (.t 19)), (some 4, .mv (.t 21))]⟩] [⟨none, [(some 5, .mv (.t 23))]⟩] [1, 3, 4, 5])
 (.seq (.rg [⟨none, [(none, .gh), (some 25, .mv (.t 3)), (some 26, .fldA (.t 1) 1 1), (some 27, .ld (.t 26) 1 false), (some 28, .call 13 [(.t 25), (.t 27)]), (some 24, .mv (.t 28)), (some 29, .ext (.t 24) 0), (some 30, .ext (.t 24) 1), (some 6, .mv (.t 29)), (some 7, .mv (.t 30))]⟩] [1, 3, 4, 5, 6, 7])
 (.seq (.seq (.rg [⟨none, [(some 31, .mv (.t 7)), (some 32, .bin .neq (.t 31) (.c (.int .i64 0))), (some 33, .mv (.t 32))]⟩, ⟨some (33, false), [(some 34, .call 10 []), (some 35, .un .not (.t 34))]⟩, ⟨none, [(some 36, .pick (.t 33) (.c (.bool true)) (.t 35))]⟩] [1, 3, 4, 5, 6, 7, 36])
 (.ite (.t 36)
 (.seq (.rg [⟨none, [(some 37, .call 10 []), (some 38, .mv (.t 37))]⟩, ⟨some (38, true), [(some 39, .mv (.t 3)), (some 40, .fldA (.t 1) 1 1), (some 41, .ld (.t 40) 1 false), (some 42, .call 15 [(.t 39), (.t 41)]), (some 43, .mv (.t 7)), (some 44, .bin .eql (.t 42) (.t 43))]⟩, ⟨none, [(some 45, .pick (.t 38) (.t 44) (.c (.bool false))), (some 2, .mv (.t 45))]⟩] [2])
 .ret)
 .skip))
 (.seq (.rg [⟨none, [(some 8, .mv (.c (.slice none 0 0))), (some 9, .mv (.c (.slice none 0 0)))]⟩] [3, 4, 5, 6, 8, 9])
 (.seq (.seq (.rg [⟨none, [(some 46, .mv (.t 5)), (some 47, .len (.t 46)), (some 48, .bin .add (.c (.int .i64 6144)) (.t 47)), (some 49, .mv (.c (.int .i64 0)))]⟩] [3, 4, 5, 6, 8, 9, 48, 49])
 (.block 0 (.loop c_law19_BootBack_L1)))
 (.seq (.rg [⟨none, [(some 2, .mv (.c (.bool false)))]⟩] [2])
 .ret)))))))
theorem k_law19_BootBack : Ok Try.prog 9 c_law19_BootBack 104 [(1, 8)] [.tmp 2] := Ok.mk' Try.func9 (by kernel_rfl) (by kernel_rfl) (by kernel_rfl)

abbrev f_law19_BootOwn : Nat := 4
def c_law19_BootOwn_L0 : Cd :=
 (.seq (.rg [⟨none, [(some 46, .bin .lss (.t 45) (.t 44))]⟩] [0, 1, 5, 6, 8, 44, 45, 46])
 (.seq (.ite (.t 46)
 .skip
 (.exit 0))
 (.seq (.block 1 (.seq (.rg [⟨none, [(some 47, .mv (.t 45)), (some 9, .mv (.t 47))]⟩] [0, 1, 5, 6, 8, 9, 44, 45])
 (.rg [⟨none, [(some 48, .mv (.t 5)), (some 49, .mv (.t 9)), (some 50, .idxS (.t 48) (.t 49) 1), (some 51, .ld (.t 50) 1 false), (some 52, .bin .xor (.t 51) (.c (.int .u8 255))), (some 53, .idxS (.t 48) (.t 49) 1), (none, .st (.t 53) (.t 52) 1)]⟩] [0, 1, 5, 6, 8, 44, 45])))
 (.rg [⟨none, [(some 54, .bin .add (.t 45) (.c (.int .i64 1))), (some 45, .mv (.t 54))]⟩] [0, 1, 5, 6, 8, 44, 45]))))
def c_law19_BootOwn_L1 : Cd :=
 (.seq (.rg [⟨none, [(some 73, .bin .lss (.t 72) (.t 71))]⟩] [6, 8, 10, 12, 63, 64, 65, 71, 72, 73])
 (.seq (.ite (.t 73)
 .skip
 (.exit 4))
 (.seq (.block 5 (.seq (.rg [⟨none, [(some 74, .mv (.t 72)), (some 13, .mv (.t 74))]⟩] [6, 8, 10, 12, 13, 63, 64, 65, 71, 72])
 (.rg [⟨none, [(some 75, .fldA (.t 12) 3 3), (some 76, .ld (.t 75) 1 false), (some 77, .mv (.t 13)), (some 78, .idxS (.t 76) (.t 77) 1), (some 79, .ld (.t 78) 1 false), (some 80, .bin .xor (.t 79) (.c (.int .u8 255))), (some 81, .idxS (.t 76) (.t 77) 1), (none, .st (.t 81) (.t 80) 1)]⟩] [6, 8, 10, 12, 63, 64, 65, 71, 72])))
 (.rg [⟨none, [(some 82, .bin .add (.t 72) (.c (.int .i64 1))), (some 72, .mv (.t 82))]⟩] [6, 8, 10, 12, 63, 64, 65, 71, 72]))))
def c_law19_BootOwn_L2 : Cd :=
 (.seq (.rg [⟨none, [(some 66, .bin .lss (.t 65) (.t 64))]⟩] [6, 8, 10, 63, 64, 65, 66])
 (.seq (.ite (.t 66)
 .skip
 (.exit 2))
 (.seq (.block 3 (.seq (.rg [⟨none, [(some 67, .idxS (.t 63) (.t 65) 4), (some 68, .ld (.t 67) 4 true), (some 12, .new 43 (.c (.s (.int .i64 0)) (.c (.s (.int .i64 0)) (.c (.s (.int .i64 0)) (.c (.s (.slice none 0 0)) .u))))), (none, .st (.t 12) (.t 68) 4)]⟩] [6, 8, 10, 12, 63, 64, 65])
 (.seq (.rg [⟨none, [(some 69, .fldA (.t 12) 3 3), (some 70, .ld (.t 69) 1 false), (some 71, .len (.t 70)), (some 72, .mv (.c (.int .i64 0)))]⟩] [6, 8, 10, 12, 63, 64, 65, 71, 72])
 (.block 4 (.loop c_law19_BootOwn_L1)))))
 (.rg [⟨none, [(some 83, .bin .add (.t 65) (.c (.int .i64 1))), (some 65, .mv (.t 83))]⟩] [6, 8, 10, 63, 64, 65]))))
def c_law19_BootOwn_L3 : Cd :=
 (.seq (.rg [⟨none, [(some 102, .bin .lss (.t 101) (.t 100))]⟩] [8, 10, 14, 100, 101, 102])
 (.seq (.ite (.t 102)
 .skip
 (.exit 6))
 (.seq (.block 7 (.seq (.rg [⟨none, [(some 103, .mv (.t 101)), (some 16, .mv (.t 103))]⟩] [8, 10, 14, 16, 100, 101])
 (.rg [⟨none, [(some 104, .mv (.t 8)), (some 105, .idxS (.t 104) (.c (.int .i64 0)) 4), (some 106, .fldA (.t 105) 3 3), (some 107, .ld (.t 106) 1 false), (some 108, .mv (.t 16)), (some 109, .idxS (.t 107) (.t 108) 1), (some 110, .ld (.t 109) 1 false), (some 111, .bin .xor (.t 110) (.c (.int .u8 255))), (some 112, .idxS (.t 107) (.t 108) 1), (none, .st (.t 112) (.t 111) 1)]⟩] [8, 10, 14, 100, 101])))
 (.rg [⟨none, [(some 113, .bin .add (.t 101) (.c (.int .i64 1))), (some 101, .mv (.t 113))]⟩] [8, 10, 14, 100, 101]))))
def c_law19_BootOwn : Cd :=
 (.seq (.rg [⟨none, [(some 4, .mv (.c (.bool false)))]⟩] [0, 1])
 (.seq (.rg [⟨none, [(some 17, .bldS 5 1 (.s (.int .u8 0)) []), (some 18, .mv (.t 0)), (some 19, .app 5 1 1 (.s (.int .u8 0)) (.t 17) (.t 18)), (some 5, .mv (.t 19))]⟩] [0, 1, 5])
 (.seq (.rg [⟨none, [(some 21, .mv (.t 5)), (some 22, .mv (.t 1)), (some 23, .call 13 [(.t 21), (.t 22)]), (some 20, .mv (.t 23)), (some 24, .ext (.t 20) 0), (some 25, .ext (.t 20) 1), (some 6, .mv (.t 24)), (some 7, .mv (.t 25))]⟩] [0, 1, 5, 6, 7])
 (.seq (.rg [⟨none, [(some 26, .mv (.t 5)), (some 27, .mv (.t 1)), (some 28, .call 14 [(.t 26), (.t 27), (.c (.int .i64 0)), (.c (.int .i64 4))]), (some 8, .mv (.t 28))]⟩] [0, 1, 5, 6, 7, 8])
 (.seq (.seq (.rg [⟨none, [(some 29, .mv (.t 7)), (some 30, .bin .neq (.t 29) (.c (.int .i64 0))), (some 31, .mv (.t 30))]⟩, ⟨some (31, false), [(some 32, .call 10 []), (some 33, .un .not (.t 32))]⟩, ⟨none, [(some 34, .pick (.t 31) (.c (.bool true)) (.t 33))]⟩] [0, 1, 5, 6, 7, 8, 34])
 (.ite (.t 34)
 (.seq (.rg [⟨none, [(some 35, .call 10 []), (some 36, .mv (.t 35))]⟩, ⟨some (36, true), [(some 37, .mv (.t 0)), (some 38, .mv (.t 1)), (some 39, .call 15 [(.t 37), (.t 38)]), (some 40, .mv (.t 7)), (some 41, .bin .eql (.t 39) (.t 40))]⟩, ⟨none, [(some 42, .pick (.t 36) (.t 41) (.c (.bool false))), (some 4, .mv (.t 42))]⟩] [4])
 .ret)
 .skip))
 (.seq (.seq (.rg [⟨none, [(some 43, .mv (.t 5)), (some 44, .len (.t 43)), (some 45, .mv (.c (.int .i64 0)))]⟩] [0, 1, 5, 6, 8, 44, 45])
 (.block 0 (.loop c_law19_BootOwn_L0)))
 (.seq (.rg [⟨none, [(some 55, .mv (.t 0)), (some 56, .mv (.t 1)), (some 57, .call 16 [(.t 55), (.t 56), (.c (.int .i64 0)), (.c (.int .i64 4))]), (some 10, .mv (.t 57)), (none, .gh)]⟩] [6, 8, 10])
 (.seq (.seq (.rg [⟨none, [(some 58, .mv (.t 8)), (some 59, .mv (.t 10)), (some 60, .call 17 [(.t 58), (.t 59)]), (some 61, .un .not (.t 60))]⟩] [6, 8, 10, 61])
 (.ite (.t 61)
 (.seq (.rg [⟨none, [(some 4, .mv (.c (.bool false)))]⟩] [4])
 .ret)
 .skip))
 (.seq (.seq (.rg [⟨none, [(some 62, .mv (.t 6)), (some 63, .call 12 [(.t 62), (.c (.int .i64 0)), (.c (.int .i64 0)), (.c (.int .i64 4))]), (none, .gh), (some 64, .len (.t 63)), (some 65, .mv (.c (.int .i64 0)))]⟩] [6, 8, 10, 63, 64, 65])
 (.block 2 (.loop c_law19_BootOwn_L2)))
 (.seq (.seq (.rg [⟨none, [(some 84, .mv (.t 6)), (some 85, .call 12 [(.t 84), (.c (.int .i64 0)), (.c (.int .i64 0)), (.c (.int .i64 4))]), (some 86, .mv (.t 10)), (some 87, .call 17 [(.t 85), (.t 86)]), (some 88, .un .not (.t 87))]⟩] [8, 10, 88])
 (.ite (.t 88)
 (.seq (.rg [⟨none, [(some 4, .mv (.c (.bool false)))]⟩] [4])
 .ret)
 .skip))
 (.seq (.rg [⟨none, [(none, .gh), (some 90, .mv (.t 8)), (some 91, .idxS (.t 90) (.c (.int .i64 0)) 4), (some 92, .ld (.t 91) 4 true), (some 93, .call 18 [(.c (.slice none 0 0)), (.t 92)]), (some 89, .mv (.t 93)), (some 94, .ext (.t 89) 0), (some 95, .ext (.t 89) 1), (some 14, .mv (.t 94)), (some 15, .mv (.t 95))]⟩] [8, 10, 14])
 (.seq (.seq (.rg [⟨none, [(some 96, .mv (.t 8)), (some 97, .idxS (.t 96) (.c (.int .i64 0)) 4), (some 98, .fldA (.t 97) 3 3), (some 99, .ld (.t 98) 1 false), (some 100, .len (.t 99)), (some 101, .mv (.c (.int .i64 0)))]⟩] [8, 10, 14, 100, 101])
 (.block 6 (.loop c_law19_BootOwn_L3)))
 (.seq (.rg [⟨none, [(some 114, .mv (.t 14)), (some 115, .mv (.t 10)), (some 116, .sl 4 (.t 115) none (some (.c (.int .i64 1)))), (some 117, .call 17 [(.t 114), (.t 116)]), (some 4, .mv (.t 117))]⟩] [4])
 .ret)))))))))))))
theorem k_law19_BootOwn : Ok Try.prog 4 c_law19_BootOwn 118 [] [.tmp 4] := Ok.mk' Try.func4 (by kernel_rfl) (by kernel_rfl) (by kernel_rfl)

end Go.Proofs.Ytgkdipfmhjlbhaa.Vc
