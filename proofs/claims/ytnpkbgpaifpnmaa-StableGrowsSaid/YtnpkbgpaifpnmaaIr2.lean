/- The code of some functions of the program, its types resolved: printed by a program of this claim. -/
import Derived.Test.YtnpkbgpaifpnmaaVc10
import Derived.Test.YtnpkbgpaifpnmaaProg
set_option linter.unusedVariables false
set_option maxRecDepth 100000
namespace Go.Proofs.Ytnpkbgpaifpnmaa.Vc
open Go Go.Proofs

abbrev f_law18_StableGrows : Nat := 7
def c_law18_StableGrows_L0 : Cd :=
 (.seq (.rg [⟨none, [(some 57, .bin .lss (.t 56) (.c (.int .i64 8)))]⟩] [2, 3, 4, 5, 9, 10, 29, 56, 57])
 (.seq (.ite (.t 57)
 .skip
 (.exit 2))
 (.seq (.block 3 (.seq (.rg [⟨none, [(some 58, .mv (.t 56)), (some 11, .mv (.t 58))]⟩] [2, 3, 4, 5, 9, 10, 11, 29, 56])
 (.rgq [⟨none, [(some 59, .mv (.t 11)), (some 60, .mv (.t 10)), (some 61, .mv (.t 11)), (some 62, .mv (.t 10)), (some 63, .fldA (.t 4) 7 59), (some 64, .idxA (.t 63) (.t 61) 8 8), (some 65, .idxA (.t 64) (.t 62) 8 1), (some 66, .ld (.t 65) 1 false), (some 67, .mv (.t 11)), (some 68, .mv (.t 10)), (some 69, .fldA (.t 5) 7 59), (some 70, .idxA (.t 69) (.t 67) 8 8), (some 71, .idxA (.t 70) (.t 68) 8 1), (some 72, .ld (.t 71) 1 false), (some 73, .mnx true (.t 66) (.t 72)), (some 74, .fldA (.t 9) 7 59), (some 75, .idxA (.t 74) (.t 59) 8 8)]⟩] [⟨none, [(some 76, .idxA (.t 75) (.t 60) 8 1), (none, .st (.t 76) (.t 73) 1)]⟩] [2, 3, 4, 5, 9, 10, 29, 56])))
 (.rg [⟨none, [(some 77, .bin .add (.t 56) (.c (.int .i64 1))), (some 56, .mv (.t 77))]⟩] [2, 3, 4, 5, 9, 10, 29, 56]))))
def c_law18_StableGrows_L1 : Cd :=
 (.seq (.rg [⟨none, [(some 30, .bin .lss (.t 29) (.c (.int .i64 8)))]⟩] [2, 3, 4, 5, 9, 29, 30])
 (.seq (.ite (.t 30)
 .skip
 (.exit 0))
 (.seq (.block 1 (.seq (.rg [⟨none, [(some 31, .mv (.t 29)), (some 10, .mv (.t 31))]⟩] [2, 3, 4, 5, 9, 10, 29])
 (.seq (.rgq [⟨none, [(some 32, .mv (.t 10)), (some 33, .mv (.t 10)), (some 34, .fldA (.t 4) 5 50), (some 35, .idxA (.t 34) (.t 33) 8 1), (some 36, .ld (.t 35) 1 false), (some 37, .mv (.t 10)), (some 38, .fldA (.t 5) 5 50), (some 39, .idxA (.t 38) (.t 37) 8 1), (some 40, .ld (.t 39) 1 false), (some 41, .mnx true (.t 36) (.t 40)), (some 42, .fldA (.t 9) 5 50)]⟩] [⟨none, [(some 43, .idxA (.t 42) (.t 32) 8 1), (none, .st (.t 43) (.t 41) 1)]⟩] [2, 3, 4, 5, 9, 10, 29])
 (.seq (.rgq [⟨none, [(some 44, .mv (.t 10)), (some 45, .mv (.t 10)), (some 46, .fldA (.t 4) 2 26), (some 47, .idxA (.t 46) (.t 45) 8 1), (some 48, .ld (.t 47) 1 false), (some 49, .mv (.t 10)), (some 50, .fldA (.t 5) 2 26), (some 51, .idxA (.t 50) (.t 49) 8 1), (some 52, .ld (.t 51) 1 false), (some 53, .mnx true (.t 48) (.t 52)), (some 54, .fldA (.t 9) 2 26)]⟩] [⟨none, [(some 55, .idxA (.t 54) (.t 44) 8 1), (none, .st (.t 55) (.t 53) 1)]⟩] [2, 3, 4, 5, 9, 10, 29])
 (.seq (.rg [⟨none, [(some 56, .mv (.c (.int .i64 0)))]⟩] [2, 3, 4, 5, 9, 10, 29, 56])
 (.block 2 (.loop c_law18_StableGrows_L0)))))))
 (.rg [⟨none, [(some 78, .bin .add (.t 29) (.c (.int .i64 1))), (some 29, .mv (.t 78))]⟩] [2, 3, 4, 5, 9, 29]))))
def c_law18_StableGrows_L2 : Cd :=
 (.seq (.rg [⟨none, [(some 131, .bin .lss (.t 130) (.c (.int .i64 8)))]⟩] [2, 3, 4, 12, 13, 14, 120, 130, 131])
 (.seq (.ite (.t 131)
 .skip
 (.exit 6))
 (.seq (.block 7 (.seq (.rg [⟨none, [(some 132, .mv (.t 130)), (some 15, .mv (.t 132))]⟩] [2, 3, 4, 12, 13, 14, 15, 120, 130])
 (.seq (.rgq [⟨none, [(some 133, .mv (.t 15)), (some 134, .fldA (.t 4) 1 25), (some 135, .ld (.t 134) 1 false), (some 136, .bin .neq (.t 133) (.t 135)), (some 137, .mv (.t 136))]⟩, ⟨some (137, true), [(some 138, .mv (.t 15)), (some 139, .fldA (.t 4) 0 0), (some 140, .fldA (.t 139) 1 1), (some 141, .idxA (.t 140) (.t 138) 8 1), (some 142, .ld (.t 141) 1 false), (some 143, .bin .eql (.t 142) (.c (.int .i64 1))), (some 144, .mv (.t 143))]⟩, ⟨some (144, false), [(some 145, .mv (.t 15)), (some 146, .fldA (.t 4) 0 0), (some 147, .fldA (.t 146) 1 1), (some 148, .idxA (.t 147) (.t 145) 8 1), (some 149, .ld (.t 148) 1 false), (some 150, .bin .eql (.t 149) (.c (.int .i64 2)))]⟩, ⟨some (137, true), [(some 151, .pick (.t 144) (.c (.bool true)) (.t 150))]⟩, ⟨none, [(some 152, .pick (.t 137) (.t 151) (.c (.bool false))), (some 153, .mv (.t 152))]⟩, ⟨some (153, true), [(some 154, .mv (.t 14)), (some 155, .idxA (.t 12) (.t 154) 8 1), (some 156, .ld (.t 155) 1 false), (some 157, .mv (.t 15)), (some 158, .mv (.t 14)), (some 159, .fldA (.t 4) 7 59), (some 160, .idxA (.t 159) (.t 157) 8 8), (some 161, .idxA (.t 160) (.t 158) 8 1), (some 162, .ld (.t 161) 1 false)]⟩] [⟨some (153, true), [(some 163, .bin .gtr (.t 156) (.t 162))]⟩, ⟨none, [(some 164, .pick (.t 153) (.t 163) (.c (.bool false)))]⟩] [2, 3, 4, 12, 13, 14, 120, 130, 164])
 (.ite (.t 164)
 (.seq (.rg [⟨none, [(some 8, .mv (.c (.bool false)))]⟩] [8])
 .ret)
 .skip))))
 (.rg [⟨none, [(some 165, .bin .add (.t 130) (.c (.int .i64 1))), (some 130, .mv (.t 165))]⟩] [2, 3, 4, 12, 13, 14, 120, 130]))))
def c_law18_StableGrows_L3 : Cd :=
 (.seq (.rg [⟨none, [(some 121, .bin .lss (.t 120) (.c (.int .i64 8)))]⟩] [2, 3, 4, 12, 13, 120, 121])
 (.seq (.ite (.t 121)
 .skip
 (.exit 4))
 (.seq (.block 5 (.seq (.rg [⟨none, [(some 122, .mv (.t 120)), (some 14, .mv (.t 122))]⟩] [2, 3, 4, 12, 13, 14, 120])
 (.seq (.seq (.rgq [⟨none, [(some 123, .mv (.t 14)), (some 124, .idxA (.t 13) (.t 123) 8 1), (some 125, .ld (.t 124) 1 false), (some 126, .mv (.t 14)), (some 127, .idxA (.t 12) (.t 126) 8 1), (some 128, .ld (.t 127) 1 false)]⟩] [⟨none, [(some 129, .bin .lss (.t 125) (.t 128))]⟩] [2, 3, 4, 12, 13, 14, 120, 129])
 (.ite (.t 129)
 (.seq (.rg [⟨none, [(some 8, .mv (.c (.bool false)))]⟩] [8])
 .ret)
 .skip))
 (.seq (.rg [⟨none, [(some 130, .mv (.c (.int .i64 0)))]⟩] [2, 3, 4, 12, 13, 14, 120, 130])
 (.block 6 (.loop c_law18_StableGrows_L2))))))
 (.rg [⟨none, [(some 166, .bin .add (.t 120) (.c (.int .i64 1))), (some 120, .mv (.t 166))]⟩] [2, 3, 4, 12, 13, 120]))))
def c_law18_StableGrows_L4 : Cd :=
 (.seq (.rg [⟨none, [(some 176, .bin .lss (.t 175) (.t 174))]⟩] [2, 16, 17, 173, 174, 175, 176])
 (.seq (.ite (.t 176)
 .skip
 (.exit 8))
 (.seq (.block 9 (.seq (.rg [⟨none, [(some 177, .idxS (.t 173) (.t 175) 8), (some 178, .ld (.t 177) 8 true), (some 19, .new 48 (.c (.c (.s (.int .i64 0)) (.c (.s (.int .i64 0)) .u)) (.c (.s (.int .i64 0)) (.c (.s (.int .i64 0)) (.c (.s (.int .i64 0)) (.c (.s (.string ⟨#[]⟩)) (.c (.s (.string ⟨#[]⟩)) (.c (.s (.string ⟨#[]⟩)) .u)))))))), (none, .st (.t 19) (.t 178) 8)]⟩] [2, 16, 17, 19, 173, 174, 175])
 (.seq (.rg [⟨none, [(some 179, .fldA (.t 19) 0 0), (some 180, .fldA (.t 179) 0 0), (some 181, .ld (.t 180) 1 false), (some 182, .mv (.t 2)), (some 183, .bin .leq (.t 181) (.t 182))]⟩] [2, 16, 17, 19, 173, 174, 175, 183])
 (.ite (.t 183)
 (.seq (.seq (.rgq [⟨none, [(some 184, .mv (.t 16)), (some 185, .len (.t 184)), (some 186, .bin .eql (.t 185) (.c (.int .i64 0))), (some 187, .mv (.t 186))]⟩, ⟨some (187, false), [(some 188, .mv (.t 16)), (some 189, .idxS (.t 188) (.c (.int .i64 0)) 8), (some 190, .ld (.t 189) 8 true), (some 191, .ld (.t 19) 8 true)]⟩] [⟨some (187, false), [(some 192, .eqA true 48 (.t 190) (.t 191))]⟩, ⟨none, [(some 193, .pick (.t 187) (.c (.bool true)) (.t 192))]⟩] [2, 16, 17, 173, 174, 175, 193])
 (.ite (.t 193)
 (.seq (.rg [⟨none, [(some 8, .mv (.c (.bool false)))]⟩] [8])
 .ret)
 .skip))
 (.rg [⟨none, [(some 194, .mv (.t 16)), (some 195, .sl 8 (.t 194) (some (.c (.int .i64 1))) none), (some 16, .mv (.t 195))]⟩] [2, 16, 17, 173, 174, 175]))
 (.seq (.seq (.rgq [⟨none, [(some 196, .mv (.t 17)), (some 197, .len (.t 196)), (some 198, .bin .eql (.t 197) (.c (.int .i64 0))), (some 199, .mv (.t 198))]⟩, ⟨some (199, false), [(some 200, .mv (.t 17)), (some 201, .idxS (.t 200) (.c (.int .i64 0)) 8), (some 202, .ld (.t 201) 8 true), (some 203, .ld (.t 19) 8 true)]⟩] [⟨some (199, false), [(some 204, .eqA true 48 (.t 202) (.t 203))]⟩, ⟨none, [(some 205, .pick (.t 199) (.c (.bool true)) (.t 204))]⟩] [2, 16, 17, 173, 174, 175, 205])
 (.ite (.t 205)
 (.seq (.rg [⟨none, [(some 8, .mv (.c (.bool false)))]⟩] [8])
 .ret)
 .skip))
 (.rg [⟨none, [(some 206, .mv (.t 17)), (some 207, .sl 8 (.t 206) (some (.c (.int .i64 1))) none), (some 17, .mv (.t 207))]⟩] [2, 16, 17, 173, 174, 175]))))))
 (.rg [⟨none, [(some 208, .bin .add (.t 175) (.c (.int .i64 1))), (some 175, .mv (.t 208))]⟩] [2, 16, 17, 173, 174, 175]))))
def c_law18_StableGrows : Cd :=
 (.seq (.rg [⟨none, [(some 4, .box 29 (.t 0)), (some 5, .box 29 (.t 1)), (some 8, .mv (.c (.bool false)))]⟩] [2, 3, 4, 5])
 (.seq (.seq (.rg [⟨none, [(some 20, .call 8 []), (some 21, .un .not (.t 20))]⟩] [2, 3, 4, 5, 21])
 (.ite (.t 21)
 (.seq (.rg [⟨none, [(some 8, .mv (.c (.bool false)))]⟩] [8])
 .ret)
 .skip))
 (.seq (.rg [⟨none, [(some 22, .ld (.t 4) 123 true), (some 9, .new 29 (.c (.c (.s (.int .i64 0)) (.c (.ar 8 1 fun _ => (.s (.int .i64 0))) (.c (.ar 8 1 fun _ => (.s (.int .i64 0))) (.c (.ar 8 1 fun _ => (.s (.int .i64 0))) .u)))) (.c (.s (.int .i64 0)) (.c (.ar 8 1 fun _ => (.s (.int .i64 0))) (.c (.ar 8 1 fun _ => (.s (.int .i64 0))) (.c (.ar 8 1 fun _ => (.s (.int .i64 0))) (.c (.ar 8 1 fun _ => (.s (.int .i64 0))) (.c (.s (.int .i64 0)) (.c (.ar 8 8 fun _ => (.ar 8 1 fun _ => (.s (.int .i64 0)))) .u))))))))), (none, .st (.t 9) (.t 22) 123)]⟩] [2, 3, 4, 5, 9])
 (.seq (.rg [⟨none, [(some 23, .fldA (.t 4) 6 58), (some 24, .ld (.t 23) 1 false), (some 25, .fldA (.t 5) 6 58), (some 26, .ld (.t 25) 1 false), (some 27, .mnx true (.t 24) (.t 26)), (some 28, .fldA (.t 9) 6 58), (none, .st (.t 28) (.t 27) 1)]⟩] [2, 3, 4, 5, 9])
 (.seq (.seq (.rg [⟨none, [(some 29, .mv (.c (.int .i64 0)))]⟩] [2, 3, 4, 5, 9, 29])
 (.block 0 (.loop c_law18_StableGrows_L1)))
 (.seq (.seq (.rgq [⟨none, [(some 79, .fldA (.t 9) 0 0), (some 80, .ld (.t 79) 25 true), (some 81, .fldA (.t 9) 1 25), (some 82, .ld (.t 81) 1 false), (some 83, .fldA (.t 9) 2 26), (some 84, .ld (.t 83) 8 true), (some 85, .fldA (.t 9) 5 50), (some 86, .ld (.t 85) 8 true), (some 87, .fldA (.t 9) 6 58), (some 88, .ld (.t 87) 1 false), (some 89, .call 9 [(.t 80), (.t 82), (.t 84), (.t 86), (.t 88)]), (some 90, .fldA (.t 4) 0 0), (some 91, .ld (.t 90) 25 true), (some 92, .fldA (.t 4) 1 25), (some 93, .ld (.t 92) 1 false), (some 94, .fldA (.t 4) 2 26), (some 95, .ld (.t 94) 8 true), (some 96, .fldA (.t 4) 5 50), (some 97, .ld (.t 96) 8 true), (some 98, .fldA (.t 4) 6 58), (some 99, .ld (.t 98) 1 false)]⟩] [⟨none, [(some 100, .call 9 [(.t 91), (.t 93), (.t 95), (.t 97), (.t 99)]), (some 101, .bin .lss (.t 89) (.t 100))]⟩] [2, 3, 4, 9, 101])
 (.ite (.t 101)
 (.seq (.rg [⟨none, [(some 8, .mv (.c (.bool false)))]⟩] [8])
 .ret)
 .skip))
 (.seq (.rg [⟨none, [(some 102, .fldA (.t 4) 0 0), (some 103, .ld (.t 102) 25 true), (some 104, .fldA (.t 4) 1 25), (some 105, .ld (.t 104) 1 false), (some 106, .fldA (.t 4) 2 26), (some 107, .ld (.t 106) 8 true), (some 108, .fldA (.t 4) 7 59), (some 109, .ld (.t 108) 64 true), (some 110, .call 16 [(.t 103), (.t 105), (.t 107), (.t 109)]), (some 12, .new 24 (.ar 8 1 fun _ => (.s (.int .i64 0)))), (none, .st (.t 12) (.t 110) 8)]⟩] [2, 3, 4, 9, 12])
 (.seq (.rg [⟨none, [(some 111, .fldA (.t 9) 0 0), (some 112, .ld (.t 111) 25 true), (some 113, .fldA (.t 9) 1 25), (some 114, .ld (.t 113) 1 false), (some 115, .fldA (.t 9) 2 26), (some 116, .ld (.t 115) 8 true), (some 117, .fldA (.t 9) 7 59), (some 118, .ld (.t 117) 64 true), (some 119, .call 16 [(.t 112), (.t 114), (.t 116), (.t 118)]), (some 13, .new 24 (.ar 8 1 fun _ => (.s (.int .i64 0)))), (none, .st (.t 13) (.t 119) 8)]⟩] [2, 3, 4, 12, 13])
 (.seq (.seq (.rg [⟨none, [(some 120, .mv (.c (.int .i64 0)))]⟩] [2, 3, 4, 12, 13, 120])
 (.block 4 (.loop c_law18_StableGrows_L3)))
 (.seq (.rg [⟨none, [(some 168, .mv (.t 2)), (some 169, .mv (.t 3)), (some 170, .call 13 [(.t 168), (.t 169)]), (some 167, .mv (.t 170)), (some 171, .ext (.t 167) 0), (some 172, .ext (.t 167) 1), (some 16, .mv (.t 171)), (some 17, .mv (.t 172)), (none, .gh), (none, .gh)]⟩] [2, 3, 16, 17])
 (.seq (.seq (.rg [⟨none, [(some 173, .mv (.t 3)), (some 174, .len (.t 173)), (some 175, .mv (.c (.int .i64 0)))]⟩] [2, 16, 17, 173, 174, 175])
 (.block 8 (.loop c_law18_StableGrows_L4)))
 (.seq (.rg [⟨none, [(some 209, .mv (.t 16)), (some 210, .len (.t 209)), (some 211, .mv (.t 17)), (some 212, .len (.t 211)), (some 213, .bin .add (.t 210) (.t 212)), (some 214, .bin .eql (.t 213) (.c (.int .i64 0))), (some 8, .mv (.t 214))]⟩] [8])
 .ret))))))))))))
theorem k_law18_StableGrows : Ok Try.prog 7 c_law18_StableGrows 215 [(8, 11), (9, 11), (13, 17), (16, 21), (23, 6), (28, 30), (37, 8), (40, 8)] [.tmp 8] := Ok.mk' Try.func7 (by kernel_rfl) (by kernel_rfl) (by kernel_rfl)

end Go.Proofs.Ytnpkbgpaifpnmaa.Vc
