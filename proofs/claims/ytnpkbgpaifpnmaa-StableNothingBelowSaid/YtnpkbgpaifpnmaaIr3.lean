/- The code of some functions of the program, its types resolved: printed by a program of this claim. -/
import Derived.Test.YtnpkbgpaifpnmaaVc10
import Derived.Test.YtnpkbgpaifpnmaaProg
set_option linter.unusedVariables false
set_option maxRecDepth 100000
namespace Go.Proofs.Ytnpkbgpaifpnmaa.Vc
open Go Go.Proofs

abbrev f_law18_StableNothingBelow : Nat := 4
def c_law18_StableNothingBelow_L0 : Cd :=
 (.seq (.seq (.rg [⟨none, [(some 23, .mv (.t 6)), (some 24, .bin .lss (.t 23) (.c (.int .i64 8)))]⟩] [0, 1, 5, 6, 24])
 (.ite (.t 24)
 .skip
 (.exit 0)))
 (.seq (.block 1 (.seq (.rg [⟨none, [(some 27, .mv (.t 0)), (some 28, .mv (.t 6)), (some 29, .bin .shr (.t 27) (.t 28)), (some 30, .bin .and (.t 29) (.c (.int .u8 1))), (some 31, .bin .eql (.t 30) (.c (.int .u8 1)))]⟩] [0, 1, 5, 6, 31])
 (.ite (.t 31)
 (.rg [⟨none, [(some 32, .mv (.t 6)), (some 33, .fldA (.t 5) 1 1), (some 34, .idxA (.t 33) (.t 32) 8 1), (none, .st (.t 34) (.c (.int .i64 1)) 1)]⟩] [0, 1, 5, 6])
 .skip)))
 (.rg [⟨none, [(some 25, .mv (.t 6)), (some 26, .bin .add (.t 25) (.c (.int .i64 1))), (some 6, .mv (.t 26))]⟩] [0, 1, 5, 6])))
def c_law18_StableNothingBelow_L1 : Cd :=
 (.seq (.seq (.rg [⟨none, [(some 145, .mv (.t 18)), (some 146, .mv (.t 17)), (some 147, .idxA (.t 7) (.t 146) 8 1), (some 148, .ld (.t 147) 1 false), (some 149, .len (.t 148)), (some 150, .bin .lss (.t 145) (.t 149))]⟩] [5, 7, 8, 9, 10, 11, 12, 16, 17, 18, 35, 36, 37, 139, 150])
 (.ite (.t 150)
 .skip
 (.exit 7)))
 (.seq (.block 8 (.seq (.rg [⟨none, [(some 153, .mv (.t 17)), (some 154, .idxA (.t 7) (.t 153) 8 1), (some 155, .ld (.t 154) 1 false), (some 156, .mv (.t 18)), (some 157, .idxS (.t 155) (.t 156) 1), (some 158, .ld (.t 157) 1 false), (some 159, .mv (.t 16)), (some 160, .bin .leq (.t 158) (.t 159))]⟩] [5, 7, 8, 9, 10, 11, 12, 16, 17, 18, 35, 36, 37, 139, 160])
 (.ite (.t 160)
 (.seq (.rg [⟨none, [(some 4, .mv (.c (.bool false)))]⟩] [4])
 .ret)
 .skip)))
 (.rg [⟨none, [(some 151, .mv (.t 18)), (some 152, .bin .add (.t 151) (.c (.int .i64 1))), (some 18, .mv (.t 152))]⟩] [5, 7, 8, 9, 10, 11, 12, 16, 17, 18, 35, 36, 37, 139])))
def c_law18_StableNothingBelow_L2 : Cd :=
 (.seq (.rg [⟨none, [(some 140, .bin .lss (.t 139) (.c (.int .i64 8)))]⟩] [5, 7, 8, 9, 10, 11, 12, 16, 35, 36, 37, 139, 140])
 (.seq (.ite (.t 140)
 .skip
 (.exit 5))
 (.seq (.block 6 (.seq (.rg [⟨none, [(some 141, .mv (.t 139)), (some 17, .mv (.t 141))]⟩] [5, 7, 8, 9, 10, 11, 12, 16, 17, 35, 36, 37, 139])
 (.seq (.rg [⟨none, [(some 142, .mv (.t 17)), (some 143, .idxA (.t 9) (.t 142) 8 1), (some 144, .ld (.t 143) 1 false), (some 18, .mv (.t 144))]⟩] [5, 7, 8, 9, 10, 11, 12, 16, 17, 18, 35, 36, 37, 139])
 (.block 7 (.loop c_law18_StableNothingBelow_L1)))))
 (.rg [⟨none, [(some 161, .bin .add (.t 139) (.c (.int .i64 1))), (some 139, .mv (.t 161))]⟩] [5, 7, 8, 9, 10, 11, 12, 16, 35, 36, 37, 139]))))
def c_law18_StableNothingBelow_R28 : Cd :=
 (.seq (.gh (.rg [⟨none, [(some 128, .ld (.t 9) 8 true), (some 129, .ld (.t 10) 8 true), (some 130, .ld (.t 11) 8 true), (some 131, .ld (.t 12) 8 true), (some 132, .call 11 [(.t 128), (.t 129), (.t 130), (.t 131)]), (none, .st (.t 12) (.t 132) 8)]⟩] [5, 7, 8, 9, 10, 11, 12, 35, 36, 37]))
 (.seq (.rg [⟨none, [(some 133, .ld (.t 5) 25 true), (some 134, .ld (.t 9) 8 true), (some 135, .ld (.t 12) 8 true), (some 136, .idxA (.t 8) (.c (.int .i64 0)) 8 1), (some 137, .ld (.t 136) 1 false), (some 138, .call 9 [(.t 133), (.c (.int .i64 0)), (.t 134), (.t 135), (.t 137)]), (some 16, .mv (.t 138))]⟩] [5, 7, 8, 9, 10, 11, 12, 16, 35, 36, 37])
 (.seq (.rg [⟨none, [(some 139, .mv (.c (.int .i64 0)))]⟩] [5, 7, 8, 9, 10, 11, 12, 16, 35, 36, 37, 139])
 (.block 5 (.loop c_law18_StableNothingBelow_L2)))))
def c_law18_StableNothingBelow_R39 : Cd :=
 (.gh (.rg [⟨none, [(some 162, .bin .add (.t 37) (.c (.int .i64 1))), (some 37, .mv (.t 162))]⟩] [5, 7, 8, 9, 10, 11, 12, 35, 36, 37]))
def c_law18_StableNothingBelow_L3 : Cd :=
 (.seq (.rg [⟨none, [(some 38, .bin .lss (.t 37) (.t 36))]⟩] [5, 7, 8, 9, 10, 11, 12, 35, 36, 37, 38])
 (.seq (.ite (.t 38)
 .skip
 (.exit 2))
 (.seq (.block 3 (.seq (.rg [⟨none, [(some 39, .idxS (.t 35) (.t 37) 4), (some 40, .ld (.t 39) 4 true), (some 14, .new 38 (.c (.s (.int .i64 0)) (.c (.s (.int .i64 0)) (.c (.s (.int .i64 0)) (.c (.s (.int .i64 0)) .u))))), (none, .st (.t 14) (.t 40) 4)]⟩] [5, 7, 8, 9, 10, 11, 12, 14, 35, 36, 37])
 (.seq (.rg [⟨none, [(some 41, .fldA (.t 14) 1 1), (some 42, .ld (.t 41) 1 false), (some 43, .bin .rem (.t 42) (.c (.int .i64 8))), (some 15, .mv (.t 43))]⟩] [5, 7, 8, 9, 10, 11, 12, 14, 15, 35, 36, 37])
 (.seq (.seq (.rg [⟨none, [(some 44, .mv (.t 15)), (some 45, .bin .lss (.t 44) (.c (.int .i64 0))), (some 46, .mv (.t 45))]⟩, ⟨some (46, false), [(some 47, .mv (.t 15)), (some 48, .fldA (.t 5) 1 1), (some 49, .idxA (.t 48) (.t 47) 8 1), (some 50, .ld (.t 49) 1 false), (some 51, .bin .neq (.t 50) (.c (.int .i64 1)))]⟩, ⟨none, [(some 52, .pick (.t 46) (.c (.bool true)) (.t 51)), (some 53, .mv (.t 52))]⟩, ⟨some (53, false), [(some 54, .mv (.t 15)), (some 55, .idxA (.t 8) (.t 54) 8 1), (some 56, .ld (.t 55) 1 false), (some 57, .bin .gtr (.t 56) (.c (.int .i64 1099511627776)))]⟩, ⟨none, [(some 58, .pick (.t 53) (.c (.bool true)) (.t 57))]⟩] [5, 7, 8, 9, 10, 11, 12, 14, 15, 35, 36, 37, 58])
 (.ite (.t 58)
 (.exit 3)
 .skip))
 (.seq (.seq (.rg [⟨none, [(some 59, .fldA (.t 14) 0 0), (some 60, .ld (.t 59) 1 false)]⟩] [5, 7, 8, 9, 10, 11, 12, 14, 15, 35, 36, 37, 60])
 (.block 4 (.seq (.rg [⟨none, [(some 62, .bin .eql (.t 60) (.c (.int .i64 0))), (some 61, .mv (.t 62))]⟩] [5, 7, 8, 9, 10, 11, 12, 14, 15, 35, 36, 37, 60, 61])
 (.ite (.t 61)
 (.seq (.rgq [⟨none, [(some 63, .mv (.t 15)), (some 64, .mv (.t 15)), (some 65, .idxA (.t 8) (.t 64) 8 1), (some 66, .ld (.t 65) 1 false), (some 67, .mnx true (.t 66) (.c (.int .i64 0))), (some 68, .bin .add (.t 67) (.c (.int .i64 1))), (some 69, .fldA (.t 14) 2 2), (some 70, .ld (.t 69) 1 false), (some 71, .mnx true (.t 70) (.c (.int .i64 0))), (some 72, .bin .rem (.t 71) (.c (.int .i64 9))), (some 73, .bin .add (.t 68) (.t 72))]⟩] [⟨none, [(some 74, .idxA (.t 8) (.t 63) 8 1), (none, .st (.t 74) (.t 73) 1)]⟩] [5, 7, 8, 9, 10, 11, 12, 15, 35, 36, 37])
 (.seq (.rga (.op ⟨none, [(some 75, .mv (.t 15))]⟩ (.op ⟨none, [(some 76, .mv (.t 15))]⟩ (.op ⟨none, [(some 77, .idxA (.t 7) (.t 76) 8 1)]⟩ (.op ⟨none, [(some 79, .mv (.t 15))]⟩ (.op ⟨none, [(some 80, .idxA (.t 8) (.t 79) 8 1)]⟩ (.or (.op ⟨none, [(some 78, .ld (.t 77) 1 false)]⟩ (.op ⟨none, [(some 81, .ld (.t 80) 1 false)]⟩ (.op ⟨none, [(some 82, .bldS 2 1 (.s (.int .i64 0)) [(.t 81)])]⟩ (.op ⟨none, [(some 83, .app 2 1 8 (.s (.int .i64 0)) (.t 78) (.t 82))]⟩ (.op ⟨none, [(some 84, .idxA (.t 7) (.t 75) 8 1)]⟩ (.op ⟨none, [(none, .st (.t 84) (.t 83) 1)]⟩ .done)))))) (.op ⟨none, [(some 81, .ld (.t 80) 1 false)]⟩ (.or (.op ⟨none, [(some 78, .ld (.t 77) 1 false)]⟩ (.op ⟨none, [(some 82, .bldS 2 1 (.s (.int .i64 0)) [(.t 81)])]⟩ (.op ⟨none, [(some 83, .app 2 1 8 (.s (.int .i64 0)) (.t 78) (.t 82))]⟩ (.op ⟨none, [(some 84, .idxA (.t 7) (.t 75) 8 1)]⟩ (.op ⟨none, [(none, .st (.t 84) (.t 83) 1)]⟩ .done))))) (.op ⟨none, [(some 82, .bldS 2 1 (.s (.int .i64 0)) [(.t 81)])]⟩ (.op ⟨none, [(some 78, .ld (.t 77) 1 false)]⟩ (.op ⟨none, [(some 83, .app 2 1 8 (.s (.int .i64 0)) (.t 78) (.t 82))]⟩ (.op ⟨none, [(some 84, .idxA (.t 7) (.t 75) 8 1)]⟩ (.op ⟨none, [(none, .st (.t 84) (.t 83) 1)]⟩ .done))))))))))))) [5, 7, 8, 9, 10, 11, 12, 15, 35, 36, 37])
 (.seq (.rg [⟨none, [(some 85, .mv (.t 15)), (some 86, .bin .eql (.t 85) (.c (.int .i64 0)))]⟩] [5, 7, 8, 9, 10, 11, 12, 35, 36, 37, 86])
 (.ite (.t 86)
 (.rg [⟨none, [(some 87, .idxA (.t 7) (.c (.int .i64 0)) 8 1), (some 88, .ld (.t 87) 1 false), (some 89, .len (.t 88)), (some 90, .idxA (.t 9) (.c (.int .i64 0)) 8 1), (none, .st (.t 90) (.t 89) 1)]⟩] [5, 7, 8, 9, 10, 11, 12, 35, 36, 37])
 .skip))))
 (.seq (.rg [⟨none, [(some 92, .bin .eql (.t 60) (.c (.int .i64 1))), (some 91, .mv (.t 92))]⟩] [5, 7, 8, 9, 10, 11, 12, 14, 15, 35, 36, 37, 60, 91])
 (.ite (.t 91)
 (.seq (.rgq [⟨none, [(some 93, .mv (.t 15)), (some 94, .idxA (.t 8) (.t 93) 8 1), (some 95, .ld (.t 94) 1 false), (some 96, .mv (.t 15)), (some 97, .idxA (.t 11) (.t 96) 8 1), (some 98, .ld (.t 97) 1 false)]⟩] [⟨none, [(some 99, .bin .geq (.t 95) (.t 98))]⟩] [5, 7, 8, 9, 10, 11, 12, 15, 35, 36, 37, 99])
 (.ite (.t 99)
 (.rga (.op ⟨none, [(some 100, .mv (.t 15))]⟩ (.op ⟨none, [(some 101, .mv (.t 15))]⟩ (.op ⟨none, [(some 102, .mv (.t 15))]⟩ (.op ⟨none, [(some 103, .idxA (.t 7) (.t 102) 8 1)]⟩ (.op ⟨none, [(some 106, .mv (.t 15))]⟩ (.op ⟨none, [(some 107, .idxA (.t 8) (.t 106) 8 1)]⟩ (.or (.op ⟨none, [(some 104, .ld (.t 103) 1 false)]⟩ (.op ⟨none, [(some 105, .len (.t 104))]⟩ (.op ⟨none, [(some 109, .idxA (.t 10) (.t 100) 8 1)]⟩ (.or (.op ⟨none, [(some 108, .ld (.t 107) 1 false)]⟩ (.op ⟨none, [(none, .st (.t 109) (.t 105) 1)]⟩ (.op ⟨none, [(some 110, .idxA (.t 11) (.t 101) 8 1)]⟩ (.op ⟨none, [(none, .st (.t 110) (.t 108) 1)]⟩ .done)))) (.op ⟨none, [(none, .st (.t 109) (.t 105) 1)]⟩ (.op ⟨none, [(some 108, .ld (.t 107) 1 false)]⟩ (.op ⟨none, [(some 110, .idxA (.t 11) (.t 101) 8 1)]⟩ (.op ⟨none, [(none, .st (.t 110) (.t 108) 1)]⟩ .done)))))))) (.op ⟨none, [(some 108, .ld (.t 107) 1 false)]⟩ (.op ⟨none, [(some 104, .ld (.t 103) 1 false)]⟩ (.op ⟨none, [(some 105, .len (.t 104))]⟩ (.op ⟨none, [(some 109, .idxA (.t 10) (.t 100) 8 1)]⟩ (.op ⟨none, [(none, .st (.t 109) (.t 105) 1)]⟩ (.op ⟨none, [(some 110, .idxA (.t 11) (.t 101) 8 1)]⟩ (.op ⟨none, [(none, .st (.t 110) (.t 108) 1)]⟩ .done)))))))))))))) [5, 7, 8, 9, 10, 11, 12, 35, 36, 37])
 .skip))
 (.seq (.rg [⟨none, [(some 112, .bin .eql (.t 60) (.c (.int .i64 2))), (some 111, .mv (.t 112))]⟩] [5, 7, 8, 9, 10, 11, 12, 14, 15, 35, 36, 37, 111])
 (.ite (.t 111)
 (.rgq [⟨none, [(some 113, .mv (.t 15)), (some 114, .mv (.t 15)), (some 115, .idxA (.t 7) (.t 114) 8 1), (some 116, .ld (.t 115) 1 false), (some 117, .len (.t 116)), (some 118, .mv (.t 15)), (some 119, .idxA (.t 9) (.t 118) 8 1), (some 120, .ld (.t 119) 1 false), (some 121, .fldA (.t 14) 3 3), (some 122, .ld (.t 121) 1 false), (some 123, .mnx true (.t 122) (.c (.int .i64 0))), (some 124, .bin .rem (.t 123) (.c (.int .i64 4))), (some 125, .bin .add (.t 120) (.t 124)), (some 126, .mnx false (.t 117) (.t 125))]⟩] [⟨none, [(some 127, .idxA (.t 9) (.t 113) 8 1), (none, .st (.t 127) (.t 126) 1)]⟩] [5, 7, 8, 9, 10, 11, 12, 35, 36, 37])
 .skip))))))))
 c_law18_StableNothingBelow_R28)))))
 c_law18_StableNothingBelow_R39)))
def c_law18_StableNothingBelow : Cd :=
 (.seq (.rg [⟨none, [(some 4, .mv (.c (.bool false)))]⟩] [0, 1])
 (.seq (.seq (.rg [⟨none, [(some 19, .call 8 []), (some 20, .un .not (.t 19))]⟩] [0, 1, 20])
 (.ite (.t 20)
 (.seq (.rg [⟨none, [(some 4, .mv (.c (.bool false)))]⟩] [4])
 .ret)
 .skip))
 (.seq (.rg [⟨none, [(some 5, .new 26 (.c (.s (.int .i64 0)) (.c (.ar 8 1 fun _ => (.s (.int .i64 0))) (.c (.ar 8 1 fun _ => (.s (.int .i64 0))) (.c (.ar 8 1 fun _ => (.s (.int .i64 0))) .u)))))]⟩] [0, 1, 5])
 (.seq (.rg [⟨none, [(some 21, .fldA (.t 5) 1 1), (some 22, .idxA (.t 21) (.c (.int .i64 0)) 8 1), (none, .st (.t 22) (.c (.int .i64 1)) 1)]⟩] [0, 1, 5])
 (.seq (.seq (.rg [⟨none, [(some 6, .mv (.c (.int .i64 1)))]⟩] [0, 1, 5, 6])
 (.block 0 (.loop c_law18_StableNothingBelow_L0)))
 (.seq (.rg [⟨none, [(some 7, .new 36 (.ar 8 1 fun _ => (.s (.slice none 0 0))))]⟩] [1, 5, 7])
 (.seq (.rg [⟨none, [(some 8, .new 24 (.ar 8 1 fun _ => (.s (.int .i64 0)))), (some 9, .new 24 (.ar 8 1 fun _ => (.s (.int .i64 0)))), (some 10, .new 24 (.ar 8 1 fun _ => (.s (.int .i64 0)))), (some 11, .new 24 (.ar 8 1 fun _ => (.s (.int .i64 0)))), (some 12, .new 24 (.ar 8 1 fun _ => (.s (.int .i64 0))))]⟩] [1, 5, 7, 8, 9, 10, 11, 12])
 (.seq (.seq (.rg [⟨none, [(some 35, .mv (.t 1)), (some 36, .len (.t 35)), (some 37, .mv (.c (.int .i64 0)))]⟩] [5, 7, 8, 9, 10, 11, 12, 35, 36, 37])
 (.block 2 (.loop c_law18_StableNothingBelow_L3)))
 (.seq (.rg [⟨none, [(some 4, .mv (.c (.bool true)))]⟩] [4])
 .ret)))))))))
theorem k_law18_StableNothingBelow : Ok Try.prog 4 c_law18_StableNothingBelow 163 [(19, 11), (20, 999999), (24, 6), (25, 999999), (27, 14)] [.tmp 4] := Ok.mk' Try.func4 (by kernel_rfl) (by kernel_rfl) (by kernel_rfl)

end Go.Proofs.Ytnpkbgpaifpnmaa.Vc
