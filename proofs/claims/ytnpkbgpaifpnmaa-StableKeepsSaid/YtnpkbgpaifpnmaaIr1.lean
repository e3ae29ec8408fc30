/- The code of some functions of the program, its types resolved: printed by a program of this claim. -/
import Derived.Test.YtnpkbgpaifpnmaaVc10
import Derived.Test.YtnpkbgpaifpnmaaProg
set_option linter.unusedVariables false
set_option maxRecDepth 100000
namespace Go.Proofs.Ytnpkbgpaifpnmaa.Vc
open Go Go.Proofs

abbrev f_stable_member : Nat := 20
def c_stable_member : Cd :=
 (.seq (.rg [⟨none, [(some 2, .box 26 (.t 0)), (some 4, .mv (.c (.bool false)))]⟩] [1, 2])
 (.seq (.rg [⟨none, [(some 5, .mv (.t 1)), (some 6, .fldA (.t 2) 1 1), (some 7, .idxA (.t 6) (.t 5) 8 1), (some 8, .ld (.t 7) 1 false), (some 9, .bin .eql (.t 8) (.c (.int .i64 1))), (some 10, .mv (.t 9))]⟩, ⟨some (10, false), [(some 11, .mv (.t 1)), (some 12, .fldA (.t 2) 1 1), (some 13, .idxA (.t 12) (.t 11) 8 1), (some 14, .ld (.t 13) 1 false), (some 15, .bin .eql (.t 14) (.c (.int .i64 2)))]⟩, ⟨none, [(some 16, .pick (.t 10) (.c (.bool true)) (.t 15)), (some 4, .mv (.t 16))]⟩] [4])
 .ret))
theorem k_stable_member : Ok Try.prog 20 c_stable_member 17 [] [.tmp 4] := Ok.mk' Try.func20 (by kernel_rfl) (by kernel_rfl) (by kernel_rfl)

abbrev f_stable_least : Nat := 21
def c_stable_least_L0 : Cd :=
 (.seq (.rg [⟨none, [(some 12, .bin .lss (.t 11) (.t 10))]⟩] [3, 9, 10, 11, 12])
 (.seq (.ite (.t 12)
 .skip
 (.exit 0))
 (.seq (.block 1 (.seq (.rg [⟨none, [(some 13, .idxS (.t 9) (.t 11) 1), (some 14, .ld (.t 13) 1 false), (some 5, .mv (.t 14))]⟩] [3, 5, 9, 10, 11])
 (.rg [⟨none, [(some 15, .mv (.t 3)), (some 16, .mv (.t 5)), (some 17, .mnx false (.t 15) (.t 16)), (some 3, .mv (.t 17))]⟩] [3, 9, 10, 11])))
 (.rg [⟨none, [(some 18, .bin .add (.t 11) (.c (.int .i64 1))), (some 11, .mv (.t 18))]⟩] [3, 9, 10, 11]))))
def c_stable_least : Cd :=
 (.seq (.rg [⟨none, [(some 2, .mv (.c (.int .i64 0)))]⟩] [0])
 (.seq (.rg [⟨none, [(some 6, .mv (.t 0)), (some 7, .idxS (.t 6) (.c (.int .i64 0)) 1), (some 8, .ld (.t 7) 1 false), (some 3, .mv (.t 8))]⟩] [0, 3])
 (.seq (.seq (.rg [⟨none, [(some 9, .mv (.t 0)), (some 10, .len (.t 9)), (some 11, .mv (.c (.int .i64 0)))]⟩] [3, 9, 10, 11])
 (.block 0 (.loop c_stable_least_L0)))
 (.seq (.rg [⟨none, [(some 19, .mv (.t 3)), (some 2, .mv (.t 19))]⟩] [2])
 .ret))))
theorem k_stable_least : Ok Try.prog 21 c_stable_least 20 [] [.tmp 2] := Ok.mk' Try.func21 (by kernel_rfl) (by kernel_rfl) (by kernel_rfl)

abbrev f_stable_Frontier : Nat := 9
def c_stable_Frontier_L0 : Cd :=
 (.seq (.rg [⟨none, [(some 16, .bin .lss (.t 15) (.c (.int .i64 8)))]⟩] [1, 5, 7, 8, 11, 15, 16])
 (.seq (.ite (.t 16)
 .skip
 (.exit 0))
 (.seq (.block 1 (.seq (.rg [⟨none, [(some 17, .mv (.t 15)), (some 12, .mv (.t 17))]⟩] [1, 5, 7, 8, 11, 12, 15])
 (.seq (.rgq [⟨none, [(some 18, .mv (.t 12)), (some 19, .mv (.t 1)), (some 20, .bin .neq (.t 18) (.t 19)), (some 21, .mv (.t 20))]⟩, ⟨some (21, true), [(some 22, .ld (.t 5) 25 true), (some 23, .mv (.t 12)), (some 24, .call 20 [(.t 22), (.t 23)]), (some 25, .mv (.t 24))]⟩, ⟨some (25, false), [(some 26, .mv (.t 12)), (some 27, .fldA (.t 5) 1 1), (some 28, .idxA (.t 27) (.t 26) 8 1), (some 29, .ld (.t 28) 1 false), (some 30, .bin .eql (.t 29) (.c (.int .i64 3))), (some 31, .mv (.t 30))]⟩, ⟨some (31, true), [(some 32, .mv (.t 12)), (some 33, .idxA (.t 7) (.t 32) 8 1), (some 34, .ld (.t 33) 1 false), (some 35, .mv (.t 12)), (some 36, .fldA (.t 5) 2 9), (some 37, .idxA (.t 36) (.t 35) 8 1), (some 38, .ld (.t 37) 1 false)]⟩] [⟨some (31, true), [(some 39, .bin .lss (.t 34) (.t 38))]⟩, ⟨some (25, false), [(some 40, .pick (.t 31) (.t 39) (.c (.bool false)))]⟩, ⟨some (21, true), [(some 41, .pick (.t 25) (.c (.bool true)) (.t 40))]⟩, ⟨none, [(some 42, .pick (.t 21) (.t 41) (.c (.bool false)))]⟩] [1, 5, 7, 8, 11, 12, 15, 42])
 (.ite (.t 42)
 (.rg [⟨none, [(some 43, .mv (.t 11)), (some 44, .mv (.t 12)), (some 45, .idxA (.t 8) (.t 44) 8 1), (some 46, .ld (.t 45) 1 false), (some 47, .bldS 2 1 (.s (.int .i64 0)) [(.t 46)]), (some 48, .app 2 1 8 (.s (.int .i64 0)) (.t 43) (.t 47)), (some 11, .mv (.t 48))]⟩] [1, 5, 7, 8, 11, 15])
 .skip))))
 (.rg [⟨none, [(some 49, .bin .add (.t 15) (.c (.int .i64 1))), (some 15, .mv (.t 49))]⟩] [1, 5, 7, 8, 11, 15]))))
def c_stable_Frontier : Cd :=
 (.seq (.rg [⟨none, [(some 5, .box 26 (.t 0)), (some 7, .box 24 (.t 2)), (some 8, .box 24 (.t 3)), (some 10, .mv (.c (.int .i64 0)))]⟩] [1, 4, 5, 7, 8])
 (.seq (.rg [⟨none, [(some 13, .mv (.t 4)), (some 14, .bldS 2 1 (.s (.int .i64 0)) [(.t 13)]), (some 11, .mv (.t 14))]⟩] [1, 5, 7, 8, 11])
 (.seq (.seq (.rg [⟨none, [(some 15, .mv (.c (.int .i64 0)))]⟩] [1, 5, 7, 8, 11, 15])
 (.block 0 (.loop c_stable_Frontier_L0)))
 (.seq (.rg [⟨none, [(some 50, .mv (.t 11)), (some 51, .call 21 [(.t 50)]), (some 10, .mv (.t 51))]⟩] [10])
 .ret))))
theorem k_stable_Frontier : Ok Try.prog 9 c_stable_Frontier 52 [(5, 21)] [.tmp 10] := Ok.mk' Try.func9 (by kernel_rfl) (by kernel_rfl) (by kernel_rfl)

abbrev f_ref18_member : Nat := 22
def c_ref18_member : Cd :=
 (.seq (.rg [⟨none, [(some 2, .box 26 (.t 0)), (some 4, .mv (.c (.bool false)))]⟩] [1, 2])
 (.seq (.rg [⟨none, [(some 5, .mv (.t 1)), (some 6, .fldA (.t 2) 1 1), (some 7, .idxA (.t 6) (.t 5) 8 1), (some 8, .ld (.t 7) 1 false), (some 9, .bin .eql (.t 8) (.c (.int .i64 1))), (some 10, .mv (.t 9))]⟩, ⟨some (10, false), [(some 11, .mv (.t 1)), (some 12, .fldA (.t 2) 1 1), (some 13, .idxA (.t 12) (.t 11) 8 1), (some 14, .ld (.t 13) 1 false), (some 15, .bin .eql (.t 14) (.c (.int .i64 2)))]⟩, ⟨none, [(some 16, .pick (.t 10) (.c (.bool true)) (.t 15)), (some 4, .mv (.t 16))]⟩] [4])
 .ret))
theorem k_ref18_member : Ok Try.prog 22 c_ref18_member 17 [] [.tmp 4] := Ok.mk' Try.func22 (by kernel_rfl) (by kernel_rfl) (by kernel_rfl)

abbrev f_ref18_Frontier : Nat := 10
def c_ref18_Frontier_L0 : Cd :=
 (.seq (.seq (.rg [⟨none, [(some 15, .mv (.t 12)), (some 16, .bin .lss (.t 15) (.c (.int .i64 8)))]⟩] [1, 5, 7, 8, 11, 12, 16])
 (.ite (.t 16)
 .skip
 (.exit 0)))
 (.seq (.block 1 (.seq (.rgq [⟨none, [(some 19, .ld (.t 5) 25 true), (some 20, .mv (.t 12)), (some 21, .call 22 [(.t 19), (.t 20)]), (some 22, .mv (.t 21))]⟩, ⟨some (22, false), [(some 23, .mv (.t 12)), (some 24, .fldA (.t 5) 1 1), (some 25, .idxA (.t 24) (.t 23) 8 1), (some 26, .ld (.t 25) 1 false), (some 27, .bin .eql (.t 26) (.c (.int .i64 3))), (some 28, .mv (.t 27))]⟩, ⟨some (28, true), [(some 29, .mv (.t 12)), (some 30, .idxA (.t 7) (.t 29) 8 1), (some 31, .ld (.t 30) 1 false), (some 32, .mv (.t 12)), (some 33, .fldA (.t 5) 2 9), (some 34, .idxA (.t 33) (.t 32) 8 1), (some 35, .ld (.t 34) 1 false)]⟩] [⟨some (28, true), [(some 36, .bin .lss (.t 31) (.t 35))]⟩, ⟨some (22, false), [(some 37, .pick (.t 28) (.t 36) (.c (.bool false)))]⟩, ⟨none, [(some 38, .pick (.t 22) (.c (.bool true)) (.t 37)), (some 13, .mv (.t 38))]⟩] [1, 5, 7, 8, 11, 12, 13])
 (.seq (.rg [⟨none, [(some 39, .mv (.t 12)), (some 40, .mv (.t 1)), (some 41, .bin .neq (.t 39) (.t 40)), (some 42, .mv (.t 41))]⟩, ⟨some (42, true), [(some 43, .mv (.t 13))]⟩, ⟨none, [(some 44, .pick (.t 42) (.t 43) (.c (.bool false))), (some 45, .mv (.t 44))]⟩, ⟨some (45, true), [(some 46, .mv (.t 12)), (some 47, .idxA (.t 8) (.t 46) 8 1), (some 48, .ld (.t 47) 1 false), (some 49, .mv (.t 11)), (some 50, .bin .lss (.t 48) (.t 49))]⟩, ⟨none, [(some 51, .pick (.t 45) (.t 50) (.c (.bool false)))]⟩] [1, 5, 7, 8, 11, 12, 51])
 (.ite (.t 51)
 (.rg [⟨none, [(some 52, .mv (.t 12)), (some 53, .idxA (.t 8) (.t 52) 8 1), (some 54, .ld (.t 53) 1 false), (some 11, .mv (.t 54))]⟩] [1, 5, 7, 8, 11, 12])
 .skip))))
 (.rg [⟨none, [(some 17, .mv (.t 12)), (some 18, .bin .add (.t 17) (.c (.int .i64 1))), (some 12, .mv (.t 18))]⟩] [1, 5, 7, 8, 11, 12])))
def c_ref18_Frontier : Cd :=
 (.seq (.rg [⟨none, [(some 5, .box 26 (.t 0)), (some 7, .box 24 (.t 2)), (some 8, .box 24 (.t 3)), (some 10, .mv (.c (.int .i64 0)))]⟩] [1, 4, 5, 7, 8])
 (.seq (.rg [⟨none, [(some 14, .mv (.t 4)), (some 11, .mv (.t 14))]⟩] [1, 5, 7, 8, 11])
 (.seq (.seq (.rg [⟨none, [(some 12, .mv (.c (.int .i64 0)))]⟩] [1, 5, 7, 8, 11, 12])
 (.block 0 (.loop c_ref18_Frontier_L0)))
 (.seq (.rg [⟨none, [(some 55, .mv (.t 11)), (some 10, .mv (.t 55))]⟩] [10])
 .ret))))
theorem k_ref18_Frontier : Ok Try.prog 10 c_ref18_Frontier 56 [(5, 17)] [.tmp 10] := Ok.mk' Try.func10 (by kernel_rfl) (by kernel_rfl) (by kernel_rfl)

abbrev f_stable_Settle : Nat := 11
def c_stable_Settle_L0 : Cd :=
 (.seq (.rg [⟨none, [(some 11, .bin .lss (.t 10) (.c (.int .i64 8)))]⟩] [4, 5, 6, 7, 8, 10, 11])
 (.seq (.ite (.t 11)
 .skip
 (.exit 0))
 (.seq (.block 1 (.seq (.rg [⟨none, [(some 12, .mv (.t 10)), (some 9, .mv (.t 12))]⟩] [4, 5, 6, 7, 8, 9, 10])
 (.seq (.rgq [⟨none, [(some 13, .mv (.t 9)), (some 14, .idxA (.t 5) (.t 13) 8 1), (some 15, .ld (.t 14) 1 false), (some 16, .mv (.t 9)), (some 17, .idxA (.t 4) (.t 16) 8 1), (some 18, .ld (.t 17) 1 false)]⟩] [⟨none, [(some 19, .bin .leq (.t 15) (.t 18))]⟩] [4, 5, 6, 7, 8, 9, 10, 19])
 (.ite (.t 19)
 (.rgq [⟨none, [(some 20, .mv (.t 9)), (some 21, .mv (.t 9)), (some 22, .idxA (.t 7) (.t 21) 8 1), (some 23, .ld (.t 22) 1 false), (some 24, .mv (.t 9)), (some 25, .idxA (.t 6) (.t 24) 8 1), (some 26, .ld (.t 25) 1 false), (some 27, .mnx true (.t 23) (.t 26))]⟩] [⟨none, [(some 28, .idxA (.t 7) (.t 20) 8 1), (none, .st (.t 28) (.t 27) 1)]⟩] [4, 5, 6, 7, 8, 10])
 .skip))))
 (.rg [⟨none, [(some 29, .bin .add (.t 10) (.c (.int .i64 1))), (some 10, .mv (.t 29))]⟩] [4, 5, 6, 7, 8, 10]))))
def c_stable_Settle : Cd :=
 (.seq (.rg [⟨none, [(some 4, .box 24 (.t 0)), (some 5, .box 24 (.t 1)), (some 6, .box 24 (.t 2)), (some 7, .box 24 (.t 3)), (some 8, .new 24 (.ar 8 1 fun _ => (.s (.int .i64 0))))]⟩] [4, 5, 6, 7, 8])
 (.seq (.seq (.rg [⟨none, [(some 10, .mv (.c (.int .i64 0)))]⟩] [4, 5, 6, 7, 8, 10])
 (.block 0 (.loop c_stable_Settle_L0)))
 (.seq (.rg [⟨none, [(some 30, .ld (.t 7) 8 true), (none, .st (.t 8) (.t 30) 8)]⟩] [8])
 .ret)))
theorem k_stable_Settle : Ok Try.prog 11 c_stable_Settle 31 [(4, 6), (5, 8)] [.cell 8 8 true] := Ok.mk' Try.func11 (by kernel_rfl) (by kernel_rfl) (by kernel_rfl)

abbrev f_ref18_Settle : Nat := 12
def c_ref18_Settle_L0 : Cd :=
 (.seq (.seq (.rg [⟨none, [(some 12, .mv (.t 10)), (some 13, .bin .lss (.t 12) (.c (.int .i64 8)))]⟩] [4, 5, 6, 7, 8, 9, 10, 13])
 (.ite (.t 13)
 .skip
 (.exit 0)))
 (.seq (.block 1 (.seq (.rgq [⟨none, [(some 16, .mv (.t 10)), (some 17, .idxA (.t 5) (.t 16) 8 1), (some 18, .ld (.t 17) 1 false), (some 19, .mv (.t 10)), (some 20, .idxA (.t 4) (.t 19) 8 1), (some 21, .ld (.t 20) 1 false), (some 22, .bin .leq (.t 18) (.t 21)), (some 23, .mv (.t 22))]⟩, ⟨some (23, true), [(some 24, .mv (.t 10)), (some 25, .idxA (.t 6) (.t 24) 8 1), (some 26, .ld (.t 25) 1 false), (some 27, .mv (.t 10)), (some 28, .idxA (.t 7) (.t 27) 8 1), (some 29, .ld (.t 28) 1 false)]⟩] [⟨some (23, true), [(some 30, .bin .gtr (.t 26) (.t 29))]⟩, ⟨none, [(some 31, .pick (.t 23) (.t 30) (.c (.bool false)))]⟩] [4, 5, 6, 7, 8, 9, 10, 31])
 (.ite (.t 31)
 (.rg [⟨none, [(some 32, .mv (.t 10)), (some 33, .mv (.t 10)), (some 34, .idxA (.t 6) (.t 33) 8 1), (some 35, .ld (.t 34) 1 false), (some 36, .idxA (.t 9) (.t 32) 8 1), (none, .st (.t 36) (.t 35) 1)]⟩] [4, 5, 6, 7, 8, 9, 10])
 .skip)))
 (.rg [⟨none, [(some 14, .mv (.t 10)), (some 15, .bin .add (.t 14) (.c (.int .i64 1))), (some 10, .mv (.t 15))]⟩] [4, 5, 6, 7, 8, 9, 10])))
def c_ref18_Settle : Cd :=
 (.seq (.rg [⟨none, [(some 4, .box 24 (.t 0)), (some 5, .box 24 (.t 1)), (some 6, .box 24 (.t 2)), (some 7, .box 24 (.t 3)), (some 8, .new 24 (.ar 8 1 fun _ => (.s (.int .i64 0))))]⟩] [4, 5, 6, 7, 8])
 (.seq (.rg [⟨none, [(some 11, .ld (.t 7) 8 true), (some 9, .new 24 (.ar 8 1 fun _ => (.s (.int .i64 0)))), (none, .st (.t 9) (.t 11) 8)]⟩] [4, 5, 6, 7, 8, 9])
 (.seq (.seq (.rg [⟨none, [(some 10, .mv (.c (.int .i64 0)))]⟩] [4, 5, 6, 7, 8, 9, 10])
 (.block 0 (.loop c_ref18_Settle_L0)))
 (.seq (.rg [⟨none, [(some 37, .ld (.t 9) 8 true), (none, .st (.t 8) (.t 37) 8)]⟩] [8])
 .ret))))
theorem k_ref18_Settle : Ok Try.prog 12 c_ref18_Settle 38 [(5, 14)] [.cell 8 8 true] := Ok.mk' Try.func12 (by kernel_rfl) (by kernel_rfl) (by kernel_rfl)

abbrev f_law18_begun : Nat := 8
def c_law18_begun : Cd :=
 (.seq (.rg [⟨none, [(some 0, .mv (.c (.bool false)))]⟩] [])
 (.seq (.rg [⟨none, [(some 1, .new 26 (.c (.s (.int .i64 0)) (.c (.ar 8 1 fun _ => (.s (.int .i64 0))) (.c (.ar 8 1 fun _ => (.s (.int .i64 0))) (.c (.ar 8 1 fun _ => (.s (.int .i64 0))) .u)))))]⟩] [1])
 (.seq (.rg [⟨none, [(some 2, .fldA (.t 1) 1 1), (some 3, .idxA (.t 2) (.c (.int .i64 0)) 8 1), (none, .st (.t 3) (.c (.int .i64 1)) 1), (some 4, .fldA (.t 1) 1 1), (some 5, .idxA (.t 4) (.c (.int .i64 1)) 8 1), (none, .st (.t 5) (.c (.int .i64 1)) 1)]⟩] [1])
 (.seq (.rg [⟨none, [(some 6, .ld (.t 1) 25 true), (some 7, .bld (.ar 8 1 fun _ => (.s (.int .i64 0))) []), (some 8, .bld (.ar 8 1 fun _ => (.s (.int .i64 0))) [(0, (.c (.int .i64 0))), (1, (.c (.int .i64 7)))]), (some 9, .call 9 [(.t 6), (.c (.int .i64 0)), (.t 7), (.t 8), (.c (.int .i64 9))]), (some 10, .bin .eql (.t 9) (.c (.int .i64 7))), (some 11, .mv (.t 10))]⟩, ⟨some (11, true), [(some 12, .bld (.ar 8 1 fun _ => (.s (.int .i64 0))) [(0, (.c (.int .i64 5)))]), (some 13, .bld (.ar 8 1 fun _ => (.s (.int .i64 0))) [(0, (.c (.int .i64 5)))]), (some 14, .bld (.ar 8 1 fun _ => (.s (.int .i64 0))) [(0, (.c (.int .i64 9)))]), (some 15, .bld (.ar 8 1 fun _ => (.s (.int .i64 0))) [(0, (.c (.int .i64 3)))]), (some 16, .call 11 [(.t 12), (.t 13), (.t 14), (.t 15)]), (some 17, .bld (.ar 8 1 fun _ => (.s (.int .i64 0))) [(0, (.c (.int .i64 9)))]), (some 18, .eqA false 24 (.t 16) (.t 17))]⟩, ⟨none, [(some 19, .pick (.t 11) (.t 18) (.c (.bool false))), (some 0, .mv (.t 19))]⟩] [0])
 .ret))))
theorem k_law18_begun : Ok Try.prog 8 c_law18_begun 20 [] [.tmp 0] := Ok.mk' Try.func8 (by kernel_rfl) (by kernel_rfl) (by kernel_rfl)

abbrev f_stable_Cut : Nat := 13
def c_stable_Cut_L0 : Cd :=
 (.seq (.rg [⟨none, [(some 13, .bin .lss (.t 12) (.t 11))]⟩] [0, 6, 7, 10, 11, 12, 13])
 (.seq (.ite (.t 13)
 .skip
 (.exit 0))
 (.seq (.block 1 (.seq (.rg [⟨none, [(some 14, .idxS (.t 10) (.t 12) 8), (some 15, .ld (.t 14) 8 true), (some 9, .new 48 (.c (.c (.s (.int .i64 0)) (.c (.s (.int .i64 0)) .u)) (.c (.s (.int .i64 0)) (.c (.s (.int .i64 0)) (.c (.s (.int .i64 0)) (.c (.s (.string ⟨#[]⟩)) (.c (.s (.string ⟨#[]⟩)) (.c (.s (.string ⟨#[]⟩)) .u)))))))), (none, .st (.t 9) (.t 15) 8)]⟩] [0, 6, 7, 9, 10, 11, 12])
 (.seq (.rg [⟨none, [(some 16, .fldA (.t 9) 0 0), (some 17, .fldA (.t 16) 0 0), (some 18, .ld (.t 17) 1 false), (some 19, .mv (.t 0)), (some 20, .bin .leq (.t 18) (.t 19))]⟩] [0, 6, 7, 9, 10, 11, 12, 20])
 (.ite (.t 20)
 (.rg [⟨none, [(some 21, .mv (.t 6)), (some 22, .ld (.t 9) 8 true), (some 23, .bldS 48 8 (.c (.c (.s (.int .i64 0)) (.c (.s (.int .i64 0)) .u)) (.c (.s (.int .i64 0)) (.c (.s (.int .i64 0)) (.c (.s (.int .i64 0)) (.c (.s (.string ⟨#[]⟩)) (.c (.s (.string ⟨#[]⟩)) (.c (.s (.string ⟨#[]⟩)) .u))))))) [(.t 22)]), (some 24, .app 48 8 88 (.c (.c (.s (.int .i64 0)) (.c (.s (.int .i64 0)) .u)) (.c (.s (.int .i64 0)) (.c (.s (.int .i64 0)) (.c (.s (.int .i64 0)) (.c (.s (.string ⟨#[]⟩)) (.c (.s (.string ⟨#[]⟩)) (.c (.s (.string ⟨#[]⟩)) .u))))))) (.t 21) (.t 23)), (some 6, .mv (.t 24))]⟩] [0, 6, 7, 10, 11, 12])
 (.rg [⟨none, [(some 25, .mv (.t 7)), (some 26, .ld (.t 9) 8 true), (some 27, .bldS 48 8 (.c (.c (.s (.int .i64 0)) (.c (.s (.int .i64 0)) .u)) (.c (.s (.int .i64 0)) (.c (.s (.int .i64 0)) (.c (.s (.int .i64 0)) (.c (.s (.string ⟨#[]⟩)) (.c (.s (.string ⟨#[]⟩)) (.c (.s (.string ⟨#[]⟩)) .u))))))) [(.t 26)]), (some 28, .app 48 8 88 (.c (.c (.s (.int .i64 0)) (.c (.s (.int .i64 0)) .u)) (.c (.s (.int .i64 0)) (.c (.s (.int .i64 0)) (.c (.s (.int .i64 0)) (.c (.s (.string ⟨#[]⟩)) (.c (.s (.string ⟨#[]⟩)) (.c (.s (.string ⟨#[]⟩)) .u))))))) (.t 25) (.t 27)), (some 7, .mv (.t 28))]⟩] [0, 6, 7, 10, 11, 12])))))
 (.rg [⟨none, [(some 29, .bin .add (.t 12) (.c (.int .i64 1))), (some 12, .mv (.t 29))]⟩] [0, 6, 7, 10, 11, 12]))))
def c_stable_Cut : Cd :=
 (.seq (.rg [⟨none, [(some 4, .mv (.c (.slice none 0 0))), (some 5, .mv (.c (.slice none 0 0)))]⟩] [0, 1])
 (.seq (.rg [⟨none, [(some 6, .mv (.c (.slice none 0 0))), (some 7, .mv (.c (.slice none 0 0))), (none, .gh)]⟩] [0, 1, 6, 7])
 (.seq (.seq (.rg [⟨none, [(some 10, .mv (.t 1)), (some 11, .len (.t 10)), (some 12, .mv (.c (.int .i64 0)))]⟩] [0, 6, 7, 10, 11, 12])
 (.block 0 (.loop c_stable_Cut_L0)))
 (.seq (.rg [⟨none, [(some 30, .mv (.t 6)), (some 31, .mv (.t 7)), (some 4, .mv (.t 30)), (some 5, .mv (.t 31))]⟩] [4, 5])
 .ret))))
theorem k_stable_Cut : Ok Try.prog 13 c_stable_Cut 32 [] [.tmp 4, .tmp 5] := Ok.mk' Try.func13 (by kernel_rfl) (by kernel_rfl) (by kernel_rfl)

abbrev f_ref18_Cut : Nat := 14
def c_ref18_Cut_L0 : Cd :=
 (.seq (.seq (.rg [⟨none, [(some 9, .mv (.t 8)), (some 10, .mv (.t 1)), (some 11, .len (.t 10)), (some 12, .bin .lss (.t 9) (.t 11))]⟩] [0, 1, 6, 7, 8, 12])
 (.ite (.t 12)
 .skip
 (.exit 0)))
 (.seq (.block 1 (.seq (.rg [⟨none, [(some 15, .mv (.t 1)), (some 16, .mv (.t 8)), (some 17, .idxS (.t 15) (.t 16) 8), (some 18, .fldA (.t 17) 0 0), (some 19, .fldA (.t 18) 0 0), (some 20, .ld (.t 19) 1 false), (some 21, .mv (.t 0)), (some 22, .bin .leq (.t 20) (.t 21))]⟩] [0, 1, 6, 7, 8, 22])
 (.ite (.t 22)
 (.rg [⟨none, [(some 23, .mv (.t 6)), (some 24, .mv (.t 1)), (some 25, .mv (.t 8)), (some 26, .idxS (.t 24) (.t 25) 8), (some 27, .ld (.t 26) 8 true), (some 28, .bldS 48 8 (.c (.c (.s (.int .i64 0)) (.c (.s (.int .i64 0)) .u)) (.c (.s (.int .i64 0)) (.c (.s (.int .i64 0)) (.c (.s (.int .i64 0)) (.c (.s (.string ⟨#[]⟩)) (.c (.s (.string ⟨#[]⟩)) (.c (.s (.string ⟨#[]⟩)) .u))))))) [(.t 27)]), (some 29, .app 48 8 88 (.c (.c (.s (.int .i64 0)) (.c (.s (.int .i64 0)) .u)) (.c (.s (.int .i64 0)) (.c (.s (.int .i64 0)) (.c (.s (.int .i64 0)) (.c (.s (.string ⟨#[]⟩)) (.c (.s (.string ⟨#[]⟩)) (.c (.s (.string ⟨#[]⟩)) .u))))))) (.t 23) (.t 28)), (some 6, .mv (.t 29))]⟩] [0, 1, 6, 7, 8])
 (.rg [⟨none, [(some 30, .mv (.t 7)), (some 31, .mv (.t 1)), (some 32, .mv (.t 8)), (some 33, .idxS (.t 31) (.t 32) 8), (some 34, .ld (.t 33) 8 true), (some 35, .bldS 48 8 (.c (.c (.s (.int .i64 0)) (.c (.s (.int .i64 0)) .u)) (.c (.s (.int .i64 0)) (.c (.s (.int .i64 0)) (.c (.s (.int .i64 0)) (.c (.s (.string ⟨#[]⟩)) (.c (.s (.string ⟨#[]⟩)) (.c (.s (.string ⟨#[]⟩)) .u))))))) [(.t 34)]), (some 36, .app 48 8 88 (.c (.c (.s (.int .i64 0)) (.c (.s (.int .i64 0)) .u)) (.c (.s (.int .i64 0)) (.c (.s (.int .i64 0)) (.c (.s (.int .i64 0)) (.c (.s (.string ⟨#[]⟩)) (.c (.s (.string ⟨#[]⟩)) (.c (.s (.string ⟨#[]⟩)) .u))))))) (.t 30) (.t 35)), (some 7, .mv (.t 36))]⟩] [0, 1, 6, 7, 8]))))
 (.rg [⟨none, [(some 13, .mv (.t 8)), (some 14, .bin .add (.t 13) (.c (.int .i64 1))), (some 8, .mv (.t 14))]⟩] [0, 1, 6, 7, 8])))
def c_ref18_Cut : Cd :=
 (.seq (.rg [⟨none, [(some 4, .mv (.c (.slice none 0 0))), (some 5, .mv (.c (.slice none 0 0)))]⟩] [0, 1])
 (.seq (.rg [⟨none, [(some 6, .mv (.c (.slice none 0 0))), (some 7, .mv (.c (.slice none 0 0)))]⟩] [0, 1, 6, 7])
 (.seq (.seq (.rg [⟨none, [(some 8, .mv (.c (.int .i64 0)))]⟩] [0, 1, 6, 7, 8])
 (.block 0 (.loop c_ref18_Cut_L0)))
 (.seq (.rg [⟨none, [(some 37, .mv (.t 6)), (some 38, .mv (.t 7)), (some 4, .mv (.t 37)), (some 5, .mv (.t 38))]⟩] [4, 5])
 .ret))))
theorem k_ref18_Cut : Ok Try.prog 14 c_ref18_Cut 39 [] [.tmp 4, .tmp 5] := Ok.mk' Try.func14 (by kernel_rfl) (by kernel_rfl) (by kernel_rfl)

abbrev f_law18_ops : Nat := 15
def c_law18_ops_L0 : Cd :=
 (.seq (.rg [⟨none, [(some 14, .bin .lss (.t 13) (.t 12))]⟩] [0, 1, 12, 13, 14])
 (.seq (.ite (.t 14)
 .skip
 (.exit 0))
 (.seq (.block 1 (.seq (.rg [⟨none, [(some 15, .mv (.t 13)), (some 5, .mv (.t 15))]⟩] [0, 1, 5, 12, 13])
 (.seq (.rgq [⟨none, [(some 16, .mv (.t 0)), (some 17, .mv (.t 5)), (some 18, .idxS (.t 16) (.t 17) 8), (some 19, .ld (.t 18) 8 true), (some 20, .mv (.t 1)), (some 21, .mv (.t 5)), (some 22, .idxS (.t 20) (.t 21) 8), (some 23, .ld (.t 22) 8 true)]⟩] [⟨none, [(some 24, .eqA true 48 (.t 19) (.t 23))]⟩] [0, 1, 12, 13, 24])
 (.ite (.t 24)
 (.seq (.rg [⟨none, [(some 4, .mv (.c (.bool false)))]⟩] [4])
 .ret)
 .skip))))
 (.rg [⟨none, [(some 25, .bin .add (.t 13) (.c (.int .i64 1))), (some 13, .mv (.t 25))]⟩] [0, 1, 12, 13]))))
def c_law18_ops : Cd :=
 (.seq (.rg [⟨none, [(some 4, .mv (.c (.bool false)))]⟩] [0, 1])
 (.seq (.seq (.rg [⟨none, [(some 6, .mv (.t 0)), (some 7, .len (.t 6)), (some 8, .mv (.t 1)), (some 9, .len (.t 8)), (some 10, .bin .neq (.t 7) (.t 9))]⟩] [0, 1, 10])
 (.ite (.t 10)
 (.seq (.rg [⟨none, [(some 4, .mv (.c (.bool false)))]⟩] [4])
 .ret)
 .skip))
 (.seq (.seq (.rg [⟨none, [(some 11, .mv (.t 0)), (some 12, .len (.t 11)), (some 13, .mv (.c (.int .i64 0)))]⟩] [0, 1, 12, 13])
 (.block 0 (.loop c_law18_ops_L0)))
 (.seq (.rg [⟨none, [(some 4, .mv (.c (.bool true)))]⟩] [4])
 .ret))))
theorem k_law18_ops : Ok Try.prog 15 c_law18_ops 26 [(6, 8)] [.tmp 4] := Ok.mk' Try.func15 (by kernel_rfl) (by kernel_rfl) (by kernel_rfl)

abbrev f_stamp_fold : Nat := 24
def c_stamp_fold_L0 : Cd :=
 (.seq (.rg [⟨none, [(some 20, .bin .lss (.t 19) (.c (.int .i64 8)))]⟩] [0, 4, 5, 7, 9, 10, 11, 19, 20])
 (.seq (.ite (.t 20)
 .skip
 (.exit 2))
 (.seq (.block 3 (.seq (.rg [⟨none, [(some 21, .mv (.t 19)), (some 8, .mv (.t 21))]⟩] [0, 4, 5, 7, 8, 9, 10, 11, 19])
 (.rgq [⟨none, [(some 22, .mv (.t 8)), (some 23, .mv (.t 0)), (some 24, .mv (.t 8)), (some 25, .idxA (.t 5) (.t 24) 8 1), (some 26, .ld (.t 25) 1 false), (some 27, .mv (.t 8)), (some 28, .idxA (.t 7) (.t 27) 8 1), (some 29, .ld (.t 28) 1 false), (some 30, .callV (.t 23) [(.t 26), (.t 29)])]⟩] [⟨none, [(some 31, .idxA (.t 5) (.t 22) 8 1), (none, .st (.t 31) (.t 30) 1)]⟩] [0, 4, 5, 7, 9, 10, 11, 19])))
 (.rg [⟨none, [(some 32, .bin .add (.t 19) (.c (.int .i64 1))), (some 19, .mv (.t 32))]⟩] [0, 4, 5, 7, 9, 10, 11, 19]))))
def c_stamp_fold_L1 : Cd :=
 (.seq (.rg [⟨none, [(some 12, .bin .lss (.t 11) (.t 10))]⟩] [0, 4, 5, 9, 10, 11, 12])
 (.seq (.ite (.t 12)
 .skip
 (.exit 0))
 (.seq (.block 1 (.seq (.rg [⟨none, [(some 13, .mv (.t 11)), (some 14, .idxS (.t 9) (.t 11) 8), (some 15, .ld (.t 14) 8 true), (some 7, .new 24 (.ar 8 1 fun _ => (.s (.int .i64 0)))), (some 6, .mv (.t 13)), (none, .st (.t 7) (.t 15) 8)]⟩] [0, 4, 5, 6, 7, 9, 10, 11])
 (.seq (.seq (.rg [⟨none, [(some 16, .mv (.t 6)), (some 17, .bin .eql (.t 16) (.c (.int .i64 0)))]⟩] [0, 4, 5, 7, 9, 10, 11, 17])
 (.ite (.t 17)
 (.rg [⟨none, [(some 18, .ld (.t 7) 8 true), (none, .st (.t 5) (.t 18) 8)]⟩] [0, 4, 5, 7, 9, 10, 11])
 .skip))
 (.seq (.rg [⟨none, [(some 19, .mv (.c (.int .i64 0)))]⟩] [0, 4, 5, 7, 9, 10, 11, 19])
 (.block 2 (.loop c_stamp_fold_L0))))))
 (.rg [⟨none, [(some 33, .bin .add (.t 11) (.c (.int .i64 1))), (some 11, .mv (.t 33))]⟩] [0, 4, 5, 9, 10, 11]))))
def c_stamp_fold : Cd :=
 (.seq (.rg [⟨none, [(some 4, .new 24 (.ar 8 1 fun _ => (.s (.int .i64 0))))]⟩] [0, 1, 4])
 (.seq (.rg [⟨none, [(some 5, .new 24 (.ar 8 1 fun _ => (.s (.int .i64 0))))]⟩] [0, 1, 4, 5])
 (.seq (.seq (.rg [⟨none, [(some 9, .mv (.t 1)), (some 10, .len (.t 9)), (some 11, .mv (.c (.int .i64 0)))]⟩] [0, 4, 5, 9, 10, 11])
 (.block 0 (.loop c_stamp_fold_L1)))
 (.seq (.rg [⟨none, [(some 34, .ld (.t 5) 8 true), (none, .st (.t 4) (.t 34) 8)]⟩] [4])
 .ret))))
theorem k_stamp_fold : Ok Try.prog 24 c_stamp_fold 35 [(10, 9)] [.cell 4 8 true] := Ok.mk' Try.func24 (by kernel_rfl) (by kernel_rfl) (by kernel_rfl)

abbrev f_stamp_Meet_1 : Nat := 25
def c_stamp_Meet_1 : Cd :=
 (.seq (.rg [⟨none, [(some 4, .mv (.c (.int .i64 0)))]⟩] [0, 1])
 (.seq (.rg [⟨none, [(some 5, .mv (.t 0)), (some 6, .mv (.t 1)), (some 7, .mnx false (.t 5) (.t 6)), (some 4, .mv (.t 7))]⟩] [4])
 .ret))
theorem k_stamp_Meet_1 : Ok Try.prog 25 c_stamp_Meet_1 8 [] [.tmp 4] := Ok.mk' Try.func25 (by kernel_rfl) (by kernel_rfl) (by kernel_rfl)

abbrev f_stamp_Meet : Nat := 23
def c_stamp_Meet : Cd :=
 (.seq (.rg [⟨none, [(some 2, .new 24 (.ar 8 1 fun _ => (.s (.int .i64 0))))]⟩] [0, 2])
 (.seq (.rg [⟨none, [(some 3, .mv (.t 0)), (some 4, .call 24 [(.c (.func (.func 25) #[] #[])), (.t 3)]), (none, .st (.t 2) (.t 4) 8)]⟩] [2])
 .ret))
theorem k_stamp_Meet : Ok Try.prog 23 c_stamp_Meet 5 [] [.cell 2 8 true] := Ok.mk' Try.func23 (by kernel_rfl) (by kernel_rfl) (by kernel_rfl)

abbrev f_stable_Keep : Nat := 16
def c_stable_Keep_L0 : Cd :=
 (.seq (.rg [⟨none, [(some 12, .bin .lss (.t 11) (.c (.int .i64 8)))]⟩] [1, 4, 6, 7, 8, 9, 11, 12])
 (.seq (.ite (.t 12)
 .skip
 (.exit 0))
 (.seq (.block 1 (.seq (.rg [⟨none, [(some 13, .mv (.t 11)), (some 10, .mv (.t 13))]⟩] [1, 4, 6, 7, 8, 9, 10, 11])
 (.seq (.rg [⟨none, [(some 14, .mv (.t 10)), (some 15, .mv (.t 1)), (some 16, .bin .neq (.t 14) (.t 15)), (some 17, .mv (.t 16))]⟩, ⟨some (17, true), [(some 18, .ld (.t 4) 25 true), (some 19, .mv (.t 10)), (some 20, .call 20 [(.t 18), (.t 19)])]⟩, ⟨none, [(some 21, .pick (.t 17) (.t 20) (.c (.bool false)))]⟩] [1, 4, 6, 7, 8, 9, 10, 11, 21])
 (.ite (.t 21)
 (.rg [⟨none, [(some 22, .mv (.t 9)), (some 23, .mv (.t 10)), (some 24, .idxA (.t 7) (.t 23) 8 8), (some 25, .ld (.t 24) 8 true), (some 26, .bldS 24 8 (.ar 8 1 fun _ => (.s (.int .i64 0))) [(.t 25)]), (some 27, .app 24 8 64 (.ar 8 1 fun _ => (.s (.int .i64 0))) (.t 22) (.t 26)), (some 9, .mv (.t 27))]⟩] [1, 4, 6, 7, 8, 9, 11])
 .skip))))
 (.rg [⟨none, [(some 28, .bin .add (.t 11) (.c (.int .i64 1))), (some 11, .mv (.t 28))]⟩] [1, 4, 6, 7, 8, 9, 11]))))
def c_stable_Keep : Cd :=
 (.seq (.rg [⟨none, [(some 4, .box 26 (.t 0)), (some 6, .box 24 (.t 2)), (some 7, .box 27 (.t 3)), (some 8, .new 24 (.ar 8 1 fun _ => (.s (.int .i64 0))))]⟩] [1, 4, 6, 7, 8])
 (.seq (.rg [⟨none, [(some 9, .mv (.c (.slice none 0 0))), (none, .gh)]⟩] [1, 4, 6, 7, 8, 9])
 (.seq (.seq (.rg [⟨none, [(some 11, .mv (.c (.int .i64 0)))]⟩] [1, 4, 6, 7, 8, 9, 11])
 (.block 0 (.loop c_stable_Keep_L0)))
 (.seq (.seq (.rg [⟨none, [(some 29, .mv (.t 9)), (some 30, .len (.t 29)), (some 31, .bin .eql (.t 30) (.c (.int .i64 0)))]⟩] [6, 8, 9, 31])
 (.ite (.t 31)
 (.seq (.rg [⟨none, [(some 32, .ld (.t 6) 8 true), (none, .st (.t 8) (.t 32) 8)]⟩] [8])
 .ret)
 .skip))
 (.seq (.rg [⟨none, [(some 33, .mv (.t 9)), (some 34, .call 23 [(.t 33)]), (none, .st (.t 8) (.t 34) 8)]⟩] [8])
 .ret)))))
theorem k_stable_Keep : Ok Try.prog 16 c_stable_Keep 35 [] [.cell 8 8 true] := Ok.mk' Try.func16 (by kernel_rfl) (by kernel_rfl) (by kernel_rfl)

abbrev f_ref18_Keep : Nat := 17
def c_ref18_Keep_L0 : Cd :=
 (.seq (.seq (.rg [⟨none, [(some 27, .mv (.t 12)), (some 28, .bin .lss (.t 27) (.c (.int .i64 8)))]⟩] [1, 4, 7, 8, 9, 10, 11, 12, 28])
 (.ite (.t 28)
 .skip
 (.exit 2)))
 (.seq (.block 3 (.seq (.rgq [⟨none, [(some 31, .mv (.t 10)), (some 32, .un .not (.t 31)), (some 33, .mv (.t 32))]⟩, ⟨some (33, false), [(some 34, .mv (.t 11)), (some 35, .mv (.t 12)), (some 36, .idxA (.t 7) (.t 34) 8 8), (some 37, .idxA (.t 36) (.t 35) 8 1), (some 38, .ld (.t 37) 1 false), (some 39, .mv (.t 12)), (some 40, .idxA (.t 9) (.t 39) 8 1), (some 41, .ld (.t 40) 1 false)]⟩] [⟨some (33, false), [(some 42, .bin .lss (.t 38) (.t 41))]⟩, ⟨none, [(some 43, .pick (.t 33) (.c (.bool true)) (.t 42))]⟩] [1, 4, 7, 8, 9, 10, 11, 12, 43])
 (.ite (.t 43)
 (.rg [⟨none, [(some 44, .mv (.t 12)), (some 45, .mv (.t 11)), (some 46, .mv (.t 12)), (some 47, .idxA (.t 7) (.t 45) 8 8), (some 48, .idxA (.t 47) (.t 46) 8 1), (some 49, .ld (.t 48) 1 false), (some 50, .idxA (.t 9) (.t 44) 8 1), (none, .st (.t 50) (.t 49) 1)]⟩] [1, 4, 7, 8, 9, 10, 11, 12])
 .skip)))
 (.rg [⟨none, [(some 29, .mv (.t 12)), (some 30, .bin .add (.t 29) (.c (.int .i64 1))), (some 12, .mv (.t 30))]⟩] [1, 4, 7, 8, 9, 10, 11, 12])))
def c_ref18_Keep_L1 : Cd :=
 (.seq (.seq (.rg [⟨none, [(some 14, .mv (.t 11)), (some 15, .bin .lss (.t 14) (.c (.int .i64 8)))]⟩] [1, 4, 7, 8, 9, 10, 11, 15])
 (.ite (.t 15)
 .skip
 (.exit 0)))
 (.seq (.block 1 (.seq (.seq (.rg [⟨none, [(some 18, .mv (.t 11)), (some 19, .mv (.t 1)), (some 20, .bin .eql (.t 18) (.t 19)), (some 21, .mv (.t 20))]⟩, ⟨some (21, false), [(some 22, .ld (.t 4) 25 true), (some 23, .mv (.t 11)), (some 24, .call 22 [(.t 22), (.t 23)]), (some 25, .un .not (.t 24))]⟩, ⟨none, [(some 26, .pick (.t 21) (.c (.bool true)) (.t 25))]⟩] [1, 4, 7, 8, 9, 10, 11, 26])
 (.ite (.t 26)
 (.exit 1)
 .skip))
 (.seq (.seq (.rg [⟨none, [(some 12, .mv (.c (.int .i64 0)))]⟩] [1, 4, 7, 8, 9, 10, 11, 12])
 (.block 2 (.loop c_ref18_Keep_L0)))
 (.rg [⟨none, [(some 10, .mv (.c (.bool true)))]⟩] [1, 4, 7, 8, 9, 10, 11]))))
 (.rg [⟨none, [(some 16, .mv (.t 11)), (some 17, .bin .add (.t 16) (.c (.int .i64 1))), (some 11, .mv (.t 17))]⟩] [1, 4, 7, 8, 9, 10, 11])))
def c_ref18_Keep : Cd :=
 (.seq (.rg [⟨none, [(some 4, .box 26 (.t 0)), (some 6, .box 24 (.t 2)), (some 7, .box 27 (.t 3)), (some 8, .new 24 (.ar 8 1 fun _ => (.s (.int .i64 0))))]⟩] [1, 4, 6, 7, 8])
 (.seq (.rg [⟨none, [(some 13, .ld (.t 6) 8 true), (some 9, .new 24 (.ar 8 1 fun _ => (.s (.int .i64 0)))), (none, .st (.t 9) (.t 13) 8)]⟩] [1, 4, 7, 8, 9])
 (.seq (.rg [⟨none, [(some 10, .mv (.c (.bool false)))]⟩] [1, 4, 7, 8, 9, 10])
 (.seq (.seq (.rg [⟨none, [(some 11, .mv (.c (.int .i64 0)))]⟩] [1, 4, 7, 8, 9, 10, 11])
 (.block 0 (.loop c_ref18_Keep_L1)))
 (.seq (.rg [⟨none, [(some 51, .ld (.t 9) 8 true), (none, .st (.t 8) (.t 51) 8)]⟩] [8])
 .ret)))))
theorem k_ref18_Keep : Ok Try.prog 17 c_ref18_Keep 52 [(10, 11)] [.cell 8 8 true] := Ok.mk' Try.func17 (by kernel_rfl) (by kernel_rfl) (by kernel_rfl)

abbrev f_stable_Everywhere : Nat := 18
def c_stable_Everywhere_L0 : Cd :=
 (.seq (.rg [⟨none, [(some 28, .bin .lss (.t 27) (.c (.int .i64 8)))]⟩] [1, 4, 5, 6, 9, 27, 28])
 (.seq (.ite (.t 28)
 .skip
 (.exit 0))
 (.seq (.block 1 (.seq (.rg [⟨none, [(some 29, .mv (.t 27)), (some 13, .mv (.t 29))]⟩] [1, 4, 5, 6, 9, 13, 27])
 (.seq (.rg [⟨none, [(some 30, .mv (.t 13)), (some 31, .mv (.t 1)), (some 32, .bin .neq (.t 30) (.t 31)), (some 33, .mv (.t 32))]⟩, ⟨some (33, true), [(some 34, .ld (.t 6) 25 true), (some 35, .mv (.t 13)), (some 36, .call 20 [(.t 34), (.t 35)])]⟩, ⟨none, [(some 37, .pick (.t 33) (.t 36) (.c (.bool false))), (some 38, .mv (.t 37))]⟩, ⟨some (38, true), [(some 39, .mv (.t 13)), (some 40, .mv (.t 4)), (some 41, .idxA (.t 9) (.t 39) 8 8), (some 42, .idxA (.t 41) (.t 40) 8 1), (some 43, .ld (.t 42) 1 false), (some 44, .mv (.t 5)), (some 45, .bin .lss (.t 43) (.t 44))]⟩, ⟨none, [(some 46, .pick (.t 38) (.t 45) (.c (.bool false)))]⟩] [1, 4, 5, 6, 9, 27, 46])
 (.ite (.t 46)
 (.seq (.rg [⟨none, [(some 12, .mv (.c (.bool false)))]⟩] [12])
 .ret)
 .skip))))
 (.rg [⟨none, [(some 47, .bin .add (.t 27) (.c (.int .i64 1))), (some 27, .mv (.t 47))]⟩] [1, 4, 5, 6, 9, 27]))))
def c_stable_Everywhere : Cd :=
 (.seq (.rg [⟨none, [(some 6, .box 26 (.t 0)), (some 8, .box 24 (.t 2)), (some 9, .box 27 (.t 3)), (some 12, .mv (.c (.bool false)))]⟩] [1, 4, 5, 6, 8, 9])
 (.seq (.seq (.rg [⟨none, [(some 14, .mv (.t 4)), (some 15, .bin .lss (.t 14) (.c (.int .i64 0))), (some 16, .mv (.t 15))]⟩, ⟨some (16, false), [(some 17, .mv (.t 4)), (some 18, .bin .geq (.t 17) (.c (.int .i64 8)))]⟩, ⟨none, [(some 19, .pick (.t 16) (.c (.bool true)) (.t 18)), (some 20, .mv (.t 19))]⟩, ⟨some (20, false), [(some 21, .mv (.t 4)), (some 22, .idxA (.t 8) (.t 21) 8 1), (some 23, .ld (.t 22) 1 false), (some 24, .mv (.t 5)), (some 25, .bin .lss (.t 23) (.t 24))]⟩, ⟨none, [(some 26, .pick (.t 20) (.c (.bool true)) (.t 25))]⟩] [1, 4, 5, 6, 9, 26])
 (.ite (.t 26)
 (.seq (.rg [⟨none, [(some 12, .mv (.c (.bool false)))]⟩] [12])
 .ret)
 .skip))
 (.seq (.seq (.rg [⟨none, [(some 27, .mv (.c (.int .i64 0)))]⟩] [1, 4, 5, 6, 9, 27])
 (.block 0 (.loop c_stable_Everywhere_L0)))
 (.seq (.rg [⟨none, [(some 12, .mv (.c (.bool true)))]⟩] [12])
 .ret))))
theorem k_stable_Everywhere : Ok Try.prog 18 c_stable_Everywhere 48 [] [.tmp 12] := Ok.mk' Try.func18 (by kernel_rfl) (by kernel_rfl) (by kernel_rfl)

abbrev f_ref18_Everywhere : Nat := 19
def c_ref18_Everywhere_L0 : Cd :=
 (.seq (.seq (.rg [⟨none, [(some 27, .mv (.t 13)), (some 28, .bin .lss (.t 27) (.c (.int .i64 8)))]⟩] [1, 4, 5, 6, 9, 13, 28])
 (.ite (.t 28)
 .skip
 (.exit 0)))
 (.seq (.block 1 (.seq (.rg [⟨none, [(some 31, .mv (.t 13)), (some 32, .mv (.t 1)), (some 33, .bin .neq (.t 31) (.t 32)), (some 34, .mv (.t 33))]⟩, ⟨some (34, true), [(some 35, .ld (.t 6) 25 true), (some 36, .mv (.t 13)), (some 37, .call 22 [(.t 35), (.t 36)])]⟩, ⟨none, [(some 38, .pick (.t 34) (.t 37) (.c (.bool false))), (some 39, .mv (.t 38))]⟩, ⟨some (39, true), [(some 40, .mv (.t 13)), (some 41, .mv (.t 4)), (some 42, .idxA (.t 9) (.t 40) 8 8), (some 43, .idxA (.t 42) (.t 41) 8 1), (some 44, .ld (.t 43) 1 false), (some 45, .mv (.t 5)), (some 46, .bin .lss (.t 44) (.t 45))]⟩, ⟨none, [(some 47, .pick (.t 39) (.t 46) (.c (.bool false)))]⟩] [1, 4, 5, 6, 9, 13, 47])
 (.ite (.t 47)
 (.seq (.rg [⟨none, [(some 12, .mv (.c (.bool false)))]⟩] [12])
 .ret)
 .skip)))
 (.rg [⟨none, [(some 29, .mv (.t 13)), (some 30, .bin .add (.t 29) (.c (.int .i64 1))), (some 13, .mv (.t 30))]⟩] [1, 4, 5, 6, 9, 13])))
def c_ref18_Everywhere : Cd :=
 (.seq (.rg [⟨none, [(some 6, .box 26 (.t 0)), (some 8, .box 24 (.t 2)), (some 9, .box 27 (.t 3)), (some 12, .mv (.c (.bool false)))]⟩] [1, 4, 5, 6, 8, 9])
 (.seq (.seq (.rg [⟨none, [(some 14, .mv (.t 4)), (some 15, .bin .lss (.t 14) (.c (.int .i64 0))), (some 16, .mv (.t 15))]⟩, ⟨some (16, false), [(some 17, .mv (.t 4)), (some 18, .bin .geq (.t 17) (.c (.int .i64 8)))]⟩, ⟨none, [(some 19, .pick (.t 16) (.c (.bool true)) (.t 18)), (some 20, .mv (.t 19))]⟩, ⟨some (20, false), [(some 21, .mv (.t 4)), (some 22, .idxA (.t 8) (.t 21) 8 1), (some 23, .ld (.t 22) 1 false), (some 24, .mv (.t 5)), (some 25, .bin .lss (.t 23) (.t 24))]⟩, ⟨none, [(some 26, .pick (.t 20) (.c (.bool true)) (.t 25))]⟩] [1, 4, 5, 6, 9, 26])
 (.ite (.t 26)
 (.seq (.rg [⟨none, [(some 12, .mv (.c (.bool false)))]⟩] [12])
 .ret)
 .skip))
 (.seq (.seq (.rg [⟨none, [(some 13, .mv (.c (.int .i64 0)))]⟩] [1, 4, 5, 6, 9, 13])
 (.block 0 (.loop c_ref18_Everywhere_L0)))
 (.seq (.rg [⟨none, [(some 12, .mv (.c (.bool true)))]⟩] [12])
 .ret))))
theorem k_ref18_Everywhere : Ok Try.prog 19 c_ref18_Everywhere 48 [] [.tmp 12] := Ok.mk' Try.func19 (by kernel_rfl) (by kernel_rfl) (by kernel_rfl)

abbrev f_law18_StableBounds : Nat := 3
def c_law18_StableBounds : Cd :=
 (.seq (.rg [⟨none, [(some 1, .box 29 (.t 0)), (some 2, .mv (.c (.bool false)))]⟩] [1])
 (.seq (.rgq [⟨none, [(some 3, .call 8 []), (some 4, .mv (.t 3))]⟩, ⟨some (4, true), [(some 5, .fldA (.t 1) 0 0), (some 6, .ld (.t 5) 25 true), (some 7, .fldA (.t 1) 1 25), (some 8, .ld (.t 7) 1 false), (some 9, .fldA (.t 1) 2 26), (some 10, .ld (.t 9) 8 true), (some 11, .fldA (.t 1) 5 50), (some 12, .ld (.t 11) 8 true), (some 13, .fldA (.t 1) 6 58), (some 14, .ld (.t 13) 1 false), (some 15, .call 9 [(.t 6), (.t 8), (.t 10), (.t 12), (.t 14)]), (some 16, .fldA (.t 1) 0 0), (some 17, .ld (.t 16) 25 true), (some 18, .fldA (.t 1) 1 25), (some 19, .ld (.t 18) 1 false), (some 20, .fldA (.t 1) 2 26), (some 21, .ld (.t 20) 8 true), (some 22, .fldA (.t 1) 5 50), (some 23, .ld (.t 22) 8 true), (some 24, .fldA (.t 1) 6 58), (some 25, .ld (.t 24) 1 false), (some 26, .call 10 [(.t 17), (.t 19), (.t 21), (.t 23), (.t 25)]), (some 27, .bin .eql (.t 15) (.t 26))]⟩, ⟨none, [(some 28, .pick (.t 4) (.t 27) (.c (.bool false))), (some 29, .mv (.t 28))]⟩, ⟨some (29, true), [(some 30, .fldA (.t 1) 2 26), (some 31, .ld (.t 30) 8 true), (some 32, .fldA (.t 1) 3 34), (some 33, .ld (.t 32) 8 true), (some 34, .fldA (.t 1) 4 42), (some 35, .ld (.t 34) 8 true), (some 36, .fldA (.t 1) 5 50), (some 37, .ld (.t 36) 8 true), (some 38, .call 11 [(.t 31), (.t 33), (.t 35), (.t 37)]), (some 39, .fldA (.t 1) 2 26), (some 40, .ld (.t 39) 8 true), (some 41, .fldA (.t 1) 3 34), (some 42, .ld (.t 41) 8 true), (some 43, .fldA (.t 1) 4 42), (some 44, .ld (.t 43) 8 true), (some 45, .fldA (.t 1) 5 50), (some 46, .ld (.t 45) 8 true)]⟩] [⟨some (29, true), [(some 47, .call 12 [(.t 40), (.t 42), (.t 44), (.t 46)]), (some 48, .eqA false 24 (.t 38) (.t 47))]⟩, ⟨none, [(some 49, .pick (.t 29) (.t 48) (.c (.bool false))), (some 2, .mv (.t 49))]⟩] [2])
 .ret))
theorem k_law18_StableBounds : Ok Try.prog 3 c_law18_StableBounds 50 [(1, 44)] [.tmp 2] := Ok.mk' Try.func3 (by kernel_rfl) (by kernel_rfl) (by kernel_rfl)

abbrev f_law18_StableCuts : Nat := 5
def c_law18_StableCuts_L0 : Cd :=
 (.seq (.rg [⟨none, [(some 41, .bin .lss (.t 40) (.t 39))]⟩] [0, 1, 5, 6, 7, 8, 39, 40, 41])
 (.seq (.ite (.t 41)
 .skip
 (.exit 0))
 (.seq (.block 1 (.seq (.rg [⟨none, [(some 42, .mv (.t 40)), (some 9, .mv (.t 42))]⟩] [0, 1, 5, 6, 7, 8, 9, 39, 40])
 (.rg [⟨none, [(some 43, .mv (.t 5)), (some 44, .mv (.t 9)), (some 45, .idxS (.t 43) (.t 44) 8), (some 46, .fldA (.t 45) 2 3), (none, .st (.t 46) (.c (.int .i64 (-9))) 1)]⟩] [0, 1, 5, 6, 7, 8, 39, 40])))
 (.rg [⟨none, [(some 47, .bin .add (.t 40) (.c (.int .i64 1))), (some 40, .mv (.t 47))]⟩] [0, 1, 5, 6, 7, 8, 39, 40]))))
def c_law18_StableCuts : Cd :=
 (.seq (.rg [⟨none, [(some 4, .mv (.c (.bool false)))]⟩] [0, 1])
 (.seq (.rg [⟨none, [(some 13, .mv (.t 0)), (some 14, .mv (.t 1)), (some 15, .call 13 [(.t 13), (.t 14)]), (some 12, .mv (.t 15)), (some 16, .ext (.t 12) 0), (some 17, .ext (.t 12) 1), (some 5, .mv (.t 16)), (some 6, .mv (.t 17))]⟩] [0, 1, 5, 6])
 (.seq (.rg [⟨none, [(some 19, .mv (.t 0)), (some 20, .mv (.t 1)), (some 21, .call 14 [(.t 19), (.t 20)]), (some 18, .mv (.t 21)), (some 22, .ext (.t 18) 0), (some 23, .ext (.t 18) 1), (some 7, .mv (.t 22)), (some 8, .mv (.t 23))]⟩] [0, 1, 5, 6, 7, 8])
 (.seq (.seq (.rg [⟨none, [(some 24, .call 8 []), (some 25, .un .not (.t 24)), (some 26, .mv (.t 25))]⟩, ⟨some (26, false), [(some 27, .mv (.t 5)), (some 28, .mv (.t 7)), (some 29, .call 15 [(.t 27), (.t 28)]), (some 30, .un .not (.t 29))]⟩, ⟨none, [(some 31, .pick (.t 26) (.c (.bool true)) (.t 30)), (some 32, .mv (.t 31))]⟩, ⟨some (32, false), [(some 33, .mv (.t 6)), (some 34, .mv (.t 8)), (some 35, .call 15 [(.t 33), (.t 34)]), (some 36, .un .not (.t 35))]⟩, ⟨none, [(some 37, .pick (.t 32) (.c (.bool true)) (.t 36))]⟩] [0, 1, 5, 6, 7, 8, 37])
 (.ite (.t 37)
 (.seq (.rg [⟨none, [(some 4, .mv (.c (.bool false)))]⟩] [4])
 .ret)
 .skip))
 (.seq (.seq (.rg [⟨none, [(some 38, .mv (.t 5)), (some 39, .len (.t 38)), (some 40, .mv (.c (.int .i64 0)))]⟩] [0, 1, 5, 6, 7, 8, 39, 40])
 (.block 0 (.loop c_law18_StableCuts_L0)))
 (.seq (.rg [⟨none, [(some 48, .mv (.t 6)), (some 49, .bld (.c (.c (.s (.int .i64 0)) (.c (.s (.int .i64 0)) .u)) (.c (.s (.int .i64 0)) (.c (.s (.int .i64 0)) (.c (.s (.int .i64 0)) (.c (.s (.string ⟨#[]⟩)) (.c (.s (.string ⟨#[]⟩)) (.c (.s (.string ⟨#[]⟩)) .u))))))) []), (some 50, .bldS 48 8 (.c (.c (.s (.int .i64 0)) (.c (.s (.int .i64 0)) .u)) (.c (.s (.int .i64 0)) (.c (.s (.int .i64 0)) (.c (.s (.int .i64 0)) (.c (.s (.string ⟨#[]⟩)) (.c (.s (.string ⟨#[]⟩)) (.c (.s (.string ⟨#[]⟩)) .u))))))) [(.t 49)]), (some 51, .app 48 8 88 (.c (.c (.s (.int .i64 0)) (.c (.s (.int .i64 0)) .u)) (.c (.s (.int .i64 0)) (.c (.s (.int .i64 0)) (.c (.s (.int .i64 0)) (.c (.s (.string ⟨#[]⟩)) (.c (.s (.string ⟨#[]⟩)) (.c (.s (.string ⟨#[]⟩)) .u))))))) (.t 48) (.t 50)), (some 6, .mv (.t 51))]⟩] [0, 1, 6, 7, 8])
 (.seq (.rg [⟨none, [(some 53, .mv (.t 0)), (some 54, .mv (.t 1)), (some 55, .call 13 [(.t 53), (.t 54)]), (some 52, .mv (.t 55)), (some 56, .ext (.t 52) 0), (some 57, .ext (.t 52) 1), (some 10, .mv (.t 56)), (some 11, .mv (.t 57))]⟩] [6, 7, 8, 10])
 (.seq (.rg [⟨none, [(some 58, .mv (.t 10)), (some 59, .mv (.t 7)), (some 60, .call 15 [(.t 58), (.t 59)]), (some 61, .mv (.t 60))]⟩, ⟨some (61, true), [(some 62, .mv (.t 6)), (some 63, .len (.t 62)), (some 64, .mv (.t 8)), (some 65, .len (.t 64)), (some 66, .bin .add (.t 65) (.c (.int .i64 1))), (some 67, .bin .eql (.t 63) (.t 66))]⟩, ⟨none, [(some 68, .pick (.t 61) (.t 67) (.c (.bool false))), (some 4, .mv (.t 68))]⟩] [4])
 .ret))))))))
theorem k_law18_StableCuts : Ok Try.prog 5 c_law18_StableCuts 69 [] [.tmp 4] := Ok.mk' Try.func5 (by kernel_rfl) (by kernel_rfl) (by kernel_rfl)

abbrev f_law18_StableKeeps : Nat := 6
def c_law18_StableKeeps : Cd :=
 (.seq (.rg [⟨none, [(some 3, .box 29 (.t 0)), (some 6, .mv (.c (.bool false)))]⟩] [1, 2, 3])
 (.seq (.rgq [⟨none, [(some 7, .call 8 []), (some 8, .mv (.t 7))]⟩, ⟨some (8, true), [(some 9, .fldA (.t 3) 0 0), (some 10, .ld (.t 9) 25 true), (some 11, .fldA (.t 3) 1 25), (some 12, .ld (.t 11) 1 false), (some 13, .fldA (.t 3) 2 26), (some 14, .ld (.t 13) 8 true), (some 15, .fldA (.t 3) 7 59), (some 16, .ld (.t 15) 64 true), (some 17, .call 16 [(.t 10), (.t 12), (.t 14), (.t 16)]), (some 18, .fldA (.t 3) 0 0), (some 19, .ld (.t 18) 25 true), (some 20, .fldA (.t 3) 1 25), (some 21, .ld (.t 20) 1 false), (some 22, .fldA (.t 3) 2 26), (some 23, .ld (.t 22) 8 true), (some 24, .fldA (.t 3) 7 59), (some 25, .ld (.t 24) 64 true), (some 26, .call 17 [(.t 19), (.t 21), (.t 23), (.t 25)]), (some 27, .eqA false 24 (.t 17) (.t 26))]⟩, ⟨none, [(some 28, .pick (.t 8) (.t 27) (.c (.bool false))), (some 29, .mv (.t 28))]⟩, ⟨some (29, true), [(some 30, .fldA (.t 3) 0 0), (some 31, .ld (.t 30) 25 true), (some 32, .fldA (.t 3) 1 25), (some 33, .ld (.t 32) 1 false), (some 34, .fldA (.t 3) 2 26), (some 35, .ld (.t 34) 8 true), (some 36, .fldA (.t 3) 7 59), (some 37, .ld (.t 36) 64 true), (some 38, .mv (.t 1)), (some 39, .mv (.t 2)), (some 40, .call 18 [(.t 31), (.t 33), (.t 35), (.t 37), (.t 38), (.t 39)]), (some 41, .fldA (.t 3) 0 0), (some 42, .ld (.t 41) 25 true), (some 43, .fldA (.t 3) 1 25), (some 44, .ld (.t 43) 1 false), (some 45, .fldA (.t 3) 2 26), (some 46, .ld (.t 45) 8 true), (some 47, .fldA (.t 3) 7 59), (some 48, .ld (.t 47) 64 true), (some 49, .mv (.t 1)), (some 50, .mv (.t 2))]⟩] [⟨some (29, true), [(some 51, .call 19 [(.t 42), (.t 44), (.t 46), (.t 48), (.t 49), (.t 50)]), (some 52, .eqA false 4 (.t 40) (.t 51))]⟩, ⟨none, [(some 53, .pick (.t 29) (.t 52) (.c (.bool false))), (some 6, .mv (.t 53))]⟩] [6])
 .ret))
theorem k_law18_StableKeeps : Ok Try.prog 6 c_law18_StableKeeps 54 [(1, 44)] [.tmp 6] := Ok.mk' Try.func6 (by kernel_rfl) (by kernel_rfl) (by kernel_rfl)

abbrev f_law18_StableGrows : Nat := 7
def c_law18_StableGrows_L0 : Cd :=
 (.seq (.rg [⟨none, [(some 57, .bin .lss (.t 56) (.c (.int .i64 8)))]⟩] [2, 3, 4, 5, 9, 10, 29, 56, 57])
 (.seq (.ite (.t 57)
 .skip
 (.exit 2))
 (.seq (.block 3 (.seq (.rg [⟨none, [(some 58, .mv (.t 56)), (some 11, .mv (.t 58))]⟩] [2, 3, 4, 5, 9, 10, 11, 29, 56])
 (.rgq [⟨none, [(some 59, .mv (.t 11)), (some 60, .mv (.t 10)), (some 61, .mv (.t 11)), (some 62, .mv (.t 10)), (some 63, .fldA (.t 4) 7 59), (some 64, .idxA (.t 63) (.t 61) 8 8), (some 65, .idxA (.t 64) (.t 62) 8 1), (some 66, .ld (.t 65) 1 false), (some 67, .mv (.t 11)), (some 68, .mv (.t 10)), (some 69, .fldA (.t 5) 7 59), (some 70, .idxA (.t 69) (.t 67) 8 8), (some 71, .idxA (.t 70) (.t 68) 8 1), (some 72, .ld (.t 71) 1 false), (some 73, .mnx true (.t 66) (.t 72)), (some 74, .fldA (.t 9) 7 59), (some 75, .idxA (.t 74) (.t 59) 8 8)]⟩] [⟨none, [(some 76, .idxA (.t 75) (.t 60) 8 1), (none, .st (.t 76) (.t 73) 1)]⟩] [2, 3, 4, 5, 9, 10, 29, 56])))
 (.rg [⟨none, [(some 77, .bin .add (.t 56) (.c (.int .i64 1))), (some 56, .mv (.t 77))]⟩] [2, 3, 4, 5, 9, 10, 29, 56]))))
def c_law18_StableGrows_L1 : Cd :=
 (.seq (.rg [⟨none, [(some 30, .bin .lss (.t 29) (.c (.int .i64 8)))]⟩] [2, 3, 4, 5, 9, 29, 30])
 (.seq (.ite (.t 30)
 .skip
 (.exit 0))
 (.seq (.block 1 (.seq (.rg [⟨none, [(some 31, .mv (.t 29)), (some 10, .mv (.t 31))]⟩] [2, 3, 4, 5, 9, 10, 29])
 (.seq (.rgq [⟨none, [(some 32, .mv (.t 10)), (some 33, .mv (.t 10)), (some 34, .fldA (.t 4) 5 50), (some 35, .idxA (.t 34) (.t 33) 8 1), (some 36, .ld (.t 35) 1 false), (some 37, .mv (.t 10)), (some 38, .fldA (.t 5) 5 50), (some 39, .idxA (.t 38) (.t 37) 8 1), (some 40, .ld (.t 39) 1 false), (some 41, .mnx true (.t 36) (.t 40)), (some 42, .fldA (.t 9) 5 50)]⟩] [⟨none, [(some 43, .idxA (.t 42) (.t 32) 8 1), (none, .st (.t 43) (.t 41) 1)]⟩] [2, 3, 4, 5, 9, 10, 29])
 (.seq (.rgq [⟨none, [(some 44, .mv (.t 10)), (some 45, .mv (.t 10)), (some 46, .fldA (.t 4) 2 26), (some 47, .idxA (.t 46) (.t 45) 8 1), (some 48, .ld (.t 47) 1 false), (some 49, .mv (.t 10)), (some 50, .fldA (.t 5) 2 26), (some 51, .idxA (.t 50) (.t 49) 8 1), (some 52, .ld (.t 51) 1 false), (some 53, .mnx true (.t 48) (.t 52)), (some 54, .fldA (.t 9) 2 26)]⟩] [⟨none, [(some 55, .idxA (.t 54) (.t 44) 8 1), (none, .st (.t 55) (.t 53) 1)]⟩] [2, 3, 4, 5, 9, 10, 29])
 (.seq (.rg [⟨none, [(some 56, .mv (.c (.int .i64 0)))]⟩] [2, 3, 4, 5, 9, 10, 29, 56])
 (.block 2 (.loop c_law18_StableGrows_L0)))))))
 (.rg [⟨none, [(some 78, .bin .add (.t 29) (.c (.int .i64 1))), (some 29, .mv (.t 78))]⟩] [2, 3, 4, 5, 9, 29]))))
def c_law18_StableGrows_L2 : Cd :=
 (.seq (.rg [⟨none, [(some 131, .bin .lss (.t 130) (.c (.int .i64 8)))]⟩] [2, 3, 4, 12, 13, 14, 120, 130, 131])
 (.seq (.ite (.t 131)
 .skip
 (.exit 6))
 (.seq (.block 7 (.seq (.rg [⟨none, [(some 132, .mv (.t 130)), (some 15, .mv (.t 132))]⟩] [2, 3, 4, 12, 13, 14, 15, 120, 130])
 (.seq (.rgq [⟨none, [(some 133, .mv (.t 15)), (some 134, .fldA (.t 4) 1 25), (some 135, .ld (.t 134) 1 false), (some 136, .bin .neq (.t 133) (.t 135)), (some 137, .mv (.t 136))]⟩, ⟨some (137, true), [(some 138, .mv (.t 15)), (some 139, .fldA (.t 4) 0 0), (some 140, .fldA (.t 139) 1 1), (some 141, .idxA (.t 140) (.t 138) 8 1), (some 142, .ld (.t 141) 1 false), (some 143, .bin .eql (.t 142) (.c (.int .i64 1))), (some 144, .mv (.t 143))]⟩, ⟨some (144, false), [(some 145, .mv (.t 15)), (some 146, .fldA (.t 4) 0 0), (some 147, .fldA (.t 146) 1 1), (some 148, .idxA (.t 147) (.t 145) 8 1), (some 149, .ld (.t 148) 1 false), (some 150, .bin .eql (.t 149) (.c (.int .i64 2)))]⟩, ⟨some (137, true), [(some 151, .pick (.t 144) (.c (.bool true)) (.t 150))]⟩, ⟨none, [(some 152, .pick (.t 137) (.t 151) (.c (.bool false))), (some 153, .mv (.t 152))]⟩, ⟨some (153, true), [(some 154, .mv (.t 14)), (some 155, .idxA (.t 12) (.t 154) 8 1), (some 156, .ld (.t 155) 1 false), (some 157, .mv (.t 15)), (some 158, .mv (.t 14)), (some 159, .fldA (.t 4) 7 59), (some 160, .idxA (.t 159) (.t 157) 8 8), (some 161, .idxA (.t 160) (.t 158) 8 1), (some 162, .ld (.t 161) 1 false)]⟩] [⟨some (153, true), [(some 163, .bin .gtr (.t 156) (.t 162))]⟩, ⟨none, [(some 164, .pick (.t 153) (.t 163) (.c (.bool false)))]⟩] [2, 3, 4, 12, 13, 14, 120, 130, 164])
 (.ite (.t 164)
 (.seq (.rg [⟨none, [(some 8, .mv (.c (.bool false)))]⟩] [8])
 .ret)
 .skip))))
 (.rg [⟨none, [(some 165, .bin .add (.t 130) (.c (.int .i64 1))), (some 130, .mv (.t 165))]⟩] [2, 3, 4, 12, 13, 14, 120, 130]))))
def c_law18_StableGrows_L3 : Cd :=
 (.seq (.rg [⟨none, [(some 121, .bin .lss (.t 120) (.c (.int .i64 8)))]⟩] [2, 3, 4, 12, 13, 120, 121])
 (.seq (.ite (.t 121)
 .skip
 (.exit 4))
 (.seq (.block 5 (.seq (.rg [⟨none, [(some 122, .mv (.t 120)), (some 14, .mv (.t 122))]⟩] [2, 3, 4, 12, 13, 14, 120])
 (.seq (.seq (.rgq [⟨none, [(some 123, .mv (.t 14)), (some 124, .idxA (.t 13) (.t 123) 8 1), (some 125, .ld (.t 124) 1 false), (some 126, .mv (.t 14)), (some 127, .idxA (.t 12) (.t 126) 8 1), (some 128, .ld (.t 127) 1 false)]⟩] [⟨none, [(some 129, .bin .lss (.t 125) (.t 128))]⟩] [2, 3, 4, 12, 13, 14, 120, 129])
 (.ite (.t 129)
 (.seq (.rg [⟨none, [(some 8, .mv (.c (.bool false)))]⟩] [8])
 .ret)
 .skip))
 (.seq (.rg [⟨none, [(some 130, .mv (.c (.int .i64 0)))]⟩] [2, 3, 4, 12, 13, 14, 120, 130])
 (.block 6 (.loop c_law18_StableGrows_L2))))))
 (.rg [⟨none, [(some 166, .bin .add (.t 120) (.c (.int .i64 1))), (some 120, .mv (.t 166))]⟩] [2, 3, 4, 12, 13, 120]))))
def c_law18_StableGrows_L4 : Cd :=
 (.seq (.rg [⟨none, [(some 176, .bin .lss (.t 175) (.t 174))]⟩] [2, 16, 17, 173, 174, 175, 176])
 (.seq (.ite (.t 176)
 .skip
 (.exit 8))
 (.seq (.block 9 (.seq (.rg [⟨none, [(some 177, .idxS (.t 173) (.t 175) 8), (some 178, .ld (.t 177) 8 true), (some 19, .new 48 (.c (.c (.s (.int .i64 0)) (.c (.s (.int .i64 0)) .u)) (.c (.s (.int .i64 0)) (.c (.s (.int .i64 0)) (.c (.s (.int .i64 0)) (.c (.s (.string ⟨#[]⟩)) (.c (.s (.string ⟨#[]⟩)) (.c (.s (.string ⟨#[]⟩)) .u)))))))), (none, .st (.t 19) (.t 178) 8)]⟩] [2, 16, 17, 19, 173, 174, 175])
 (.seq (.rg [⟨none, [(some 179, .fldA (.t 19) 0 0), (some 180, .fldA (.t 179) 0 0), (some 181, .ld (.t 180) 1 false), (some 182, .mv (.t 2)), (some 183, .bin .leq (.t 181) (.t 182))]⟩] [2, 16, 17, 19, 173, 174, 175, 183])
 (.ite (.t 183)
 (.seq (.seq (.rgq [⟨none, [(some 184, .mv (.t 16)), (some 185, .len (.t 184)), (some 186, .bin .eql (.t 185) (.c (.int .i64 0))), (some 187, .mv (.t 186))]⟩, ⟨some (187, false), [(some 188, .mv (.t 16)), (some 189, .idxS (.t 188) (.c (.int .i64 0)) 8), (some 190, .ld (.t 189) 8 true), (some 191, .ld (.t 19) 8 true)]⟩] [⟨some (187, false), [(some 192, .eqA true 48 (.t 190) (.t 191))]⟩, ⟨none, [(some 193, .pick (.t 187) (.c (.bool true)) (.t 192))]⟩] [2, 16, 17, 173, 174, 175, 193])
 (.ite (.t 193)
 (.seq (.rg [⟨none, [(some 8, .mv (.c (.bool false)))]⟩] [8])
 .ret)
 .skip))
 (.rg [⟨none, [(some 194, .mv (.t 16)), (some 195, .sl 8 (.t 194) (some (.c (.int .i64 1))) none), (some 16, .mv (.t 195))]⟩] [2, 16, 17, 173, 174, 175]))
 (.seq (.seq (.rgq [⟨none, [(some 196, .mv (.t 17)), (some 197, .len (.t 196)), (some 198, .bin .eql (.t 197) (.c (.int .i64 0))), (some 199, .mv (.t 198))]⟩, ⟨some (199, false), [(some 200, .mv (.t 17)), (some 201, .idxS (.t 200) (.c (.int .i64 0)) 8), (some 202, .ld (.t 201) 8 true), (some 203, .ld (.t 19) 8 true)]⟩] [⟨some (199, false), [(some 204, .eqA true 48 (.t 202) (.t 203))]⟩, ⟨none, [(some 205, .pick (.t 199) (.c (.bool true)) (.t 204))]⟩] [2, 16, 17, 173, 174, 175, 205])
 (.ite (.t 205)
 (.seq (.rg [⟨none, [(some 8, .mv (.c (.bool false)))]⟩] [8])
 .ret)
 .skip))
 (.rg [⟨none, [(some 206, .mv (.t 17)), (some 207, .sl 8 (.t 206) (some (.c (.int .i64 1))) none), (some 17, .mv (.t 207))]⟩] [2, 16, 17, 173, 174, 175]))))))
 (.rg [⟨none, [(some 208, .bin .add (.t 175) (.c (.int .i64 1))), (some 175, .mv (.t 208))]⟩] [2, 16, 17, 173, 174, 175]))))
def c_law18_StableGrows : Cd :=
 (.seq (.rg [⟨none, [(some 4, .box 29 (.t 0)), (some 5, .box 29 (.t 1)), (some 8, .mv (.c (.bool false)))]⟩] [2, 3, 4, 5])
 (.seq (.seq (.rg [⟨none, [(some 20, .call 8 []), (some 21, .un .not (.t 20))]⟩] [2, 3, 4, 5, 21])
 (.ite (.t 21)
 (.seq (.rg [⟨none, [(some 8, .mv (.c (.bool false)))]⟩] [8])
 .ret)
 .skip))
 (.seq (.rg [⟨none, [(some 22, .ld (.t 4) 123 true), (some 9, .new 29 (.c (.c (.s (.int .i64 0)) (.c (.ar 8 1 fun _ => (.s (.int .i64 0))) (.c (.ar 8 1 fun _ => (.s (.int .i64 0))) (.c (.ar 8 1 fun _ => (.s (.int .i64 0))) .u)))) (.c (.s (.int .i64 0)) (.c (.ar 8 1 fun _ => (.s (.int .i64 0))) (.c (.ar 8 1 fun _ => (.s (.int .i64 0))) (.c (.ar 8 1 fun _ => (.s (.int .i64 0))) (.c (.ar 8 1 fun _ => (.s (.int .i64 0))) (.c (.s (.int .i64 0)) (.c (.ar 8 8 fun _ => (.ar 8 1 fun _ => (.s (.int .i64 0)))) .u))))))))), (none, .st (.t 9) (.t 22) 123)]⟩] [2, 3, 4, 5, 9])
 (.seq (.rg [⟨none, [(some 23, .fldA (.t 4) 6 58), (some 24, .ld (.t 23) 1 false), (some 25, .fldA (.t 5) 6 58), (some 26, .ld (.t 25) 1 false), (some 27, .mnx true (.t 24) (.t 26)), (some 28, .fldA (.t 9) 6 58), (none, .st (.t 28) (.t 27) 1)]⟩] [2, 3, 4, 5, 9])
 (.seq (.seq (.rg [⟨none, [(some 29, .mv (.c (.int .i64 0)))]⟩] [2, 3, 4, 5, 9, 29])
 (.block 0 (.loop c_law18_StableGrows_L1)))
 (.seq (.seq (.rgq [⟨none, [(some 79, .fldA (.t 9) 0 0), (some 80, .ld (.t 79) 25 true), (some 81, .fldA (.t 9) 1 25), (some 82, .ld (.t 81) 1 false), (some 83, .fldA (.t 9) 2 26), (some 84, .ld (.t 83) 8 true), (some 85, .fldA (.t 9) 5 50), (some 86, .ld (.t 85) 8 true), (some 87, .fldA (.t 9) 6 58), (some 88, .ld (.t 87) 1 false), (some 89, .call 9 [(.t 80), (.t 82), (.t 84), (.t 86), (.t 88)]), (some 90, .fldA (.t 4) 0 0), (some 91, .ld (.t 90) 25 true), (some 92, .fldA (.t 4) 1 25), (some 93, .ld (.t 92) 1 false), (some 94, .fldA (.t 4) 2 26), (some 95, .ld (.t 94) 8 true), (some 96, .fldA (.t 4) 5 50), (some 97, .ld (.t 96) 8 true), (some 98, .fldA (.t 4) 6 58), (some 99, .ld (.t 98) 1 false)]⟩] [⟨none, [(some 100, .call 9 [(.t 91), (.t 93), (.t 95), (.t 97), (.t 99)]), (some 101, .bin .lss (.t 89) (.t 100))]⟩] [2, 3, 4, 9, 101])
 (.ite (.t 101)
 (.seq (.rg [⟨none, [(some 8, .mv (.c (.bool false)))]⟩] [8])
 .ret)
 .skip))
 (.seq (.rg [⟨none, [(some 102, .fldA (.t 4) 0 0), (some 103, .ld (.t 102) 25 true), (some 104, .fldA (.t 4) 1 25), (some 105, .ld (.t 104) 1 false), (some 106, .fldA (.t 4) 2 26), (some 107, .ld (.t 106) 8 true), (some 108, .fldA (.t 4) 7 59), (some 109, .ld (.t 108) 64 true), (some 110, .call 16 [(.t 103), (.t 105), (.t 107), (.t 109)]), (some 12, .new 24 (.ar 8 1 fun _ => (.s (.int .i64 0)))), (none, .st (.t 12) (.t 110) 8)]⟩] [2, 3, 4, 9, 12])
 (.seq (.rg [⟨none, [(some 111, .fldA (.t 9) 0 0), (some 112, .ld (.t 111) 25 true), (some 113, .fldA (.t 9) 1 25), (some 114, .ld (.t 113) 1 false), (some 115, .fldA (.t 9) 2 26), (some 116, .ld (.t 115) 8 true), (some 117, .fldA (.t 9) 7 59), (some 118, .ld (.t 117) 64 true), (some 119, .call 16 [(.t 112), (.t 114), (.t 116), (.t 118)]), (some 13, .new 24 (.ar 8 1 fun _ => (.s (.int .i64 0)))), (none, .st (.t 13) (.t 119) 8)]⟩] [2, 3, 4, 12, 13])
 (.seq (.seq (.rg [⟨none, [(some 120, .mv (.c (.int .i64 0)))]⟩] [2, 3, 4, 12, 13, 120])
 (.block 4 (.loop c_law18_StableGrows_L3)))
 (.seq (.rg [⟨none, [(some 168, .mv (.t 2)), (some 169, .mv (.t 3)), (some 170, .call 13 [(.t 168), (.t 169)]), (some 167, .mv (.t 170)), (some 171, .ext (.t 167) 0), (some 172, .ext (.t 167) 1), (some 16, .mv (.t 171)), (some 17, .mv (.t 172))]⟩] [2, 3, 16, 17])
 (.seq (.seq (.rg [⟨none, [(some 173, .mv (.t 3)), (some 174, .len (.t 173)), (some 175, .mv (.c (.int .i64 0)))]⟩] [2, 16, 17, 173, 174, 175])
 (.block 8 (.loop c_law18_StableGrows_L4)))
 (.seq (.rg [⟨none, [(some 209, .mv (.t 16)), (some 210, .len (.t 209)), (some 211, .mv (.t 17)), (some 212, .len (.t 211)), (some 213, .bin .add (.t 210) (.t 212)), (some 214, .bin .eql (.t 213) (.c (.int .i64 0))), (some 8, .mv (.t 214))]⟩] [8])
 .ret))))))))))))
theorem k_law18_StableGrows : Ok Try.prog 7 c_law18_StableGrows 215 [(8, 11), (9, 11), (13, 17), (16, 21), (23, 6), (28, 30), (37, 8), (40, 8)] [.tmp 8] := Ok.mk' Try.func7 (by kernel_rfl) (by kernel_rfl) (by kernel_rfl)

abbrev f_law18_StableNothingBelow : Nat := 4
def c_law18_StableNothingBelow_L0 : Cd :=
 (.seq (.seq (.rg [⟨none, [(some 23, .mv (.t 6)), (some 24, .bin .lss (.t 23) (.c (.int .i64 8)))]⟩] [0, 1, 5, 6, 24])
 (.ite (.t 24)
 .skip
 (.exit 0)))
 (.seq (.block 1 (.seq (.rg [⟨none, [(some 27, .mv (.t 0)), (some 28, .mv (.t 6)), (some 29, .bin .shr (.t 27) (.t 28)), (some 30, .bin .and (.t 29) (.c (.int .u8 1))), (some 31, .bin .eql (.t 30) (.c (.int .u8 1)))]⟩] [0, 1, 5, 6, 31])
 (.ite (.t 31)
 (.rg [⟨none, [(some 32, .mv (.t 6)), (some 33, .fldA (.t 5) 1 1), (some 34, .idxA (.t 33) (.t 32) 8 1), (none, .st (.t 34) (.c (.int .i64 1)) 1)]⟩] [0, 1, 5, 6])
 .skip)))
 (.rg [⟨none, [(some 25, .mv (.t 6)), (some 26, .bin .add (.t 25) (.c (.int .i64 1))), (some 6, .mv (.t 26))]⟩] [0, 1, 5, 6])))
def c_law18_StableNothingBelow_L1 : Cd :=
 (.seq (.seq (.rg [⟨none, [(some 145, .mv (.t 18)), (some 146, .mv (.t 17)), (some 147, .idxA (.t 7) (.t 146) 8 1), (some 148, .ld (.t 147) 1 false), (some 149, .len (.t 148)), (some 150, .bin .lss (.t 145) (.t 149))]⟩] [5, 7, 8, 9, 10, 11, 12, 16, 17, 18, 35, 36, 37, 139, 150])
 (.ite (.t 150)
 .skip
 (.exit 7)))
 (.seq (.block 8 (.seq (.rg [⟨none, [(some 153, .mv (.t 17)), (some 154, .idxA (.t 7) (.t 153) 8 1), (some 155, .ld (.t 154) 1 false), (some 156, .mv (.t 18)), (some 157, .idxS (.t 155) (.t 156) 1), (some 158, .ld (.t 157) 1 false), (some 159, .mv (.t 16)), (some 160, .bin .leq (.t 158) (.t 159))]⟩] [5, 7, 8, 9, 10, 11, 12, 16, 17, 18, 35, 36, 37, 139, 160])
 (.ite (.t 160)
 (.seq (.rg [⟨none, [(some 4, .mv (.c (.bool false)))]⟩] [4])
 .ret)
 .skip)))
 (.rg [⟨none, [(some 151, .mv (.t 18)), (some 152, .bin .add (.t 151) (.c (.int .i64 1))), (some 18, .mv (.t 152))]⟩] [5, 7, 8, 9, 10, 11, 12, 16, 17, 18, 35, 36, 37, 139])))
def c_law18_StableNothingBelow_L2 : Cd :=
 (.seq (.rg [⟨none, [(some 140, .bin .lss (.t 139) (.c (.int .i64 8)))]⟩] [5, 7, 8, 9, 10, 11, 12, 16, 35, 36, 37, 139, 140])
 (.seq (.ite (.t 140)
 .skip
 (.exit 5))
 (.seq (.block 6 (.seq (.rg [⟨none, [(some 141, .mv (.t 139)), (some 17, .mv (.t 141))]⟩] [5, 7, 8, 9, 10, 11, 12, 16, 17, 35, 36, 37, 139])
 (.seq (.rg [⟨none, [(some 142, .mv (.t 17)), (some 143, .idxA (.t 9) (.t 142) 8 1), (some 144, .ld (.t 143) 1 false), (some 18, .mv (.t 144))]⟩] [5, 7, 8, 9, 10, 11, 12, 16, 17, 18, 35, 36, 37, 139])
 (.block 7 (.loop c_law18_StableNothingBelow_L1)))))
 (.rg [⟨none, [(some 161, .bin .add (.t 139) (.c (.int .i64 1))), (some 139, .mv (.t 161))]⟩] [5, 7, 8, 9, 10, 11, 12, 16, 35, 36, 37, 139]))))
def c_law18_StableNothingBelow_L3 : Cd :=
 (.seq (.rg [⟨none, [(some 38, .bin .lss (.t 37) (.t 36))]⟩] [5, 7, 8, 9, 10, 11, 12, 35, 36, 37, 38])
 (.seq (.ite (.t 38)
 .skip
 (.exit 2))
 (.seq (.block 3 (.seq (.rg [⟨none, [(some 39, .idxS (.t 35) (.t 37) 4), (some 40, .ld (.t 39) 4 true), (some 14, .new 38 (.c (.s (.int .i64 0)) (.c (.s (.int .i64 0)) (.c (.s (.int .i64 0)) (.c (.s (.int .i64 0)) .u))))), (none, .st (.t 14) (.t 40) 4)]⟩] [5, 7, 8, 9, 10, 11, 12, 14, 35, 36, 37])
 (.seq (.rg [⟨none, [(some 41, .fldA (.t 14) 1 1), (some 42, .ld (.t 41) 1 false), (some 43, .bin .rem (.t 42) (.c (.int .i64 8))), (some 15, .mv (.t 43))]⟩] [5, 7, 8, 9, 10, 11, 12, 14, 15, 35, 36, 37])
 (.seq (.seq (.rg [⟨none, [(some 44, .mv (.t 15)), (some 45, .bin .lss (.t 44) (.c (.int .i64 0))), (some 46, .mv (.t 45))]⟩, ⟨some (46, false), [(some 47, .mv (.t 15)), (some 48, .fldA (.t 5) 1 1), (some 49, .idxA (.t 48) (.t 47) 8 1), (some 50, .ld (.t 49) 1 false), (some 51, .bin .neq (.t 50) (.c (.int .i64 1)))]⟩, ⟨none, [(some 52, .pick (.t 46) (.c (.bool true)) (.t 51)), (some 53, .mv (.t 52))]⟩, ⟨some (53, false), [(some 54, .mv (.t 15)), (some 55, .idxA (.t 8) (.t 54) 8 1), (some 56, .ld (.t 55) 1 false), (some 57, .bin .gtr (.t 56) (.c (.int .i64 1099511627776)))]⟩, ⟨none, [(some 58, .pick (.t 53) (.c (.bool true)) (.t 57))]⟩] [5, 7, 8, 9, 10, 11, 12, 14, 15, 35, 36, 37, 58])
 (.ite (.t 58)
 (.exit 3)
 .skip))
 (.seq (.seq (.rg [⟨none, [(some 59, .fldA (.t 14) 0 0), (some 60, .ld (.t 59) 1 false)]⟩] [5, 7, 8, 9, 10, 11, 12, 14, 15, 35, 36, 37, 60])
 (.block 4 (.seq (.rg [⟨none, [(some 62, .bin .eql (.t 60) (.c (.int .i64 0))), (some 61, .mv (.t 62))]⟩] [5, 7, 8, 9, 10, 11, 12, 14, 15, 35, 36, 37, 60, 61])
 (.ite (.t 61)
 (.seq (.rgq [⟨none, [(some 63, .mv (.t 15)), (some 64, .mv (.t 15)), (some 65, .idxA (.t 8) (.t 64) 8 1), (some 66, .ld (.t 65) 1 false), (some 67, .mnx true (.t 66) (.c (.int .i64 0))), (some 68, .bin .add (.t 67) (.c (.int .i64 1))), (some 69, .fldA (.t 14) 2 2), (some 70, .ld (.t 69) 1 false), (some 71, .mnx true (.t 70) (.c (.int .i64 0))), (some 72, .bin .rem (.t 71) (.c (.int .i64 9))), (some 73, .bin .add (.t 68) (.t 72))]⟩] [⟨none, [(some 74, .idxA (.t 8) (.t 63) 8 1), (none, .st (.t 74) (.t 73) 1)]⟩] [5, 7, 8, 9, 10, 11, 12, 15, 35, 36, 37])
 (.seq (.rga (.op ⟨none, [(some 75, .mv (.t 15))]⟩ (.op ⟨none, [(some 76, .mv (.t 15))]⟩ (.op ⟨none, [(some 77, .idxA (.t 7) (.t 76) 8 1)]⟩ (.op ⟨none, [(some 79, .mv (.t 15))]⟩ (.op ⟨none, [(some 80, .idxA (.t 8) (.t 79) 8 1)]⟩ (.or (.op ⟨none, [(some 78, .ld (.t 77) 1 false)]⟩ (.op ⟨none, [(some 81, .ld (.t 80) 1 false)]⟩ (.op ⟨none, [(some 82, .bldS 2 1 (.s (.int .i64 0)) [(.t 81)])]⟩ (.op ⟨none, [(some 83, .app 2 1 8 (.s (.int .i64 0)) (.t 78) (.t 82))]⟩ (.op ⟨none, [(some 84, .idxA (.t 7) (.t 75) 8 1)]⟩ (.op ⟨none, [(none, .st (.t 84) (.t 83) 1)]⟩ .done)))))) (.op ⟨none, [(some 81, .ld (.t 80) 1 false)]⟩ (.or (.op ⟨none, [(some 78, .ld (.t 77) 1 false)]⟩ (.op ⟨none, [(some 82, .bldS 2 1 (.s (.int .i64 0)) [(.t 81)])]⟩ (.op ⟨none, [(some 83, .app 2 1 8 (.s (.int .i64 0)) (.t 78) (.t 82))]⟩ (.op ⟨none, [(some 84, .idxA (.t 7) (.t 75) 8 1)]⟩ (.op ⟨none, [(none, .st (.t 84) (.t 83) 1)]⟩ .done))))) (.op ⟨none, [(some 82, .bldS 2 1 (.s (.int .i64 0)) [(.t 81)])]⟩ (.op ⟨none, [(some 78, .ld (.t 77) 1 false)]⟩ (.op ⟨none, [(some 83, .app 2 1 8 (.s (.int .i64 0)) (.t 78) (.t 82))]⟩ (.op ⟨none, [(some 84, .idxA (.t 7) (.t 75) 8 1)]⟩ (.op ⟨none, [(none, .st (.t 84) (.t 83) 1)]⟩ .done))))))))))))) [5, 7, 8, 9, 10, 11, 12, 15, 35, 36, 37])
 (.seq (.rg [⟨none, [(some 85, .mv (.t 15)), (some 86, .bin .eql (.t 85) (.c (.int .i64 0)))]⟩] [5, 7, 8, 9, 10, 11, 12, 35, 36, 37, 86])
 (.ite (.t 86)
 (.rg [⟨none, [(some 87, .idxA (.t 7) (.c (.int .i64 0)) 8 1), (some 88, .ld (.t 87) 1 false), (some 89, .len (.t 88)), (some 90, .idxA (.t 9) (.c (.int .i64 0)) 8 1), (none, .st (.t 90) (.t 89) 1)]⟩] [5, 7, 8, 9, 10, 11, 12, 35, 36, 37])
 .skip))))
 (.seq (.rg [⟨none, [(some 92, .bin .eql (.t 60) (.c (.int .i64 1))), (some 91, .mv (.t 92))]⟩] [5, 7, 8, 9, 10, 11, 12, 14, 15, 35, 36, 37, 60, 91])
 (.ite (.t 91)
 (.seq (.rgq [⟨none, [(some 93, .mv (.t 15)), (some 94, .idxA (.t 8) (.t 93) 8 1), (some 95, .ld (.t 94) 1 false), (some 96, .mv (.t 15)), (some 97, .idxA (.t 11) (.t 96) 8 1), (some 98, .ld (.t 97) 1 false)]⟩] [⟨none, [(some 99, .bin .geq (.t 95) (.t 98))]⟩] [5, 7, 8, 9, 10, 11, 12, 15, 35, 36, 37, 99])
 (.ite (.t 99)
 (.rga (.op ⟨none, [(some 100, .mv (.t 15))]⟩ (.op ⟨none, [(some 101, .mv (.t 15))]⟩ (.op ⟨none, [(some 102, .mv (.t 15))]⟩ (.op ⟨none, [(some 103, .idxA (.t 7) (.t 102) 8 1)]⟩ (.op ⟨none, [(some 106, .mv (.t 15))]⟩ (.op ⟨none, [(some 107, .idxA (.t 8) (.t 106) 8 1)]⟩ (.or (.op ⟨none, [(some 104, .ld (.t 103) 1 false)]⟩ (.op ⟨none, [(some 105, .len (.t 104))]⟩ (.op ⟨none, [(some 109, .idxA (.t 10) (.t 100) 8 1)]⟩ (.or (.op ⟨none, [(some 108, .ld (.t 107) 1 false)]⟩ (.op ⟨none, [(none, .st (.t 109) (.t 105) 1)]⟩ (.op ⟨none, [(some 110, .idxA (.t 11) (.t 101) 8 1)]⟩ (.op ⟨none, [(none, .st (.t 110) (.t 108) 1)]⟩ .done)))) (.op ⟨none, [(none, .st (.t 109) (.t 105) 1)]⟩ (.op ⟨none, [(some 108, .ld (.t 107) 1 false)]⟩ (.op ⟨none, [(some 110, .idxA (.t 11) (.t 101) 8 1)]⟩ (.op ⟨none, [(none, .st (.t 110) (.t 108) 1)]⟩ .done)))))))) (.op ⟨none, [(some 108, .ld (.t 107) 1 false)]⟩ (.op ⟨none, [(some 104, .ld (.t 103) 1 false)]⟩ (.op ⟨none, [(some 105, .len (.t 104))]⟩ (.op ⟨none, [(some 109, .idxA (.t 10) (.t 100) 8 1)]⟩ (.op ⟨none, [(none, .st (.t 109) (.t 105) 1)]⟩ (.op ⟨none, [(some 110, .idxA (.t 11) (.t 101) 8 1)]⟩ (.op ⟨none, [(none, .st (.t 110) (.t 108) 1)]⟩ .done)))))))))))))) [5, 7, 8, 9, 10, 11, 12, 35, 36, 37])
 .skip))
 (.seq (.rg [⟨none, [(some 112, .bin .eql (.t 60) (.c (.int .i64 2))), (some 111, .mv (.t 112))]⟩] [5, 7, 8, 9, 10, 11, 12, 14, 15, 35, 36, 37, 111])
 (.ite (.t 111)
 (.rgq [⟨none, [(some 113, .mv (.t 15)), (some 114, .mv (.t 15)), (some 115, .idxA (.t 7) (.t 114) 8 1), (some 116, .ld (.t 115) 1 false), (some 117, .len (.t 116)), (some 118, .mv (.t 15)), (some 119, .idxA (.t 9) (.t 118) 8 1), (some 120, .ld (.t 119) 1 false), (some 121, .fldA (.t 14) 3 3), (some 122, .ld (.t 121) 1 false), (some 123, .mnx true (.t 122) (.c (.int .i64 0))), (some 124, .bin .rem (.t 123) (.c (.int .i64 4))), (some 125, .bin .add (.t 120) (.t 124)), (some 126, .mnx false (.t 117) (.t 125))]⟩] [⟨none, [(some 127, .idxA (.t 9) (.t 113) 8 1), (none, .st (.t 127) (.t 126) 1)]⟩] [5, 7, 8, 9, 10, 11, 12, 35, 36, 37])
 .skip))))))))
 (.seq (.rg [⟨none, [(some 128, .ld (.t 9) 8 true), (some 129, .ld (.t 10) 8 true), (some 130, .ld (.t 11) 8 true), (some 131, .ld (.t 12) 8 true), (some 132, .call 11 [(.t 128), (.t 129), (.t 130), (.t 131)]), (none, .st (.t 12) (.t 132) 8)]⟩] [5, 7, 8, 9, 10, 11, 12, 35, 36, 37])
 (.seq (.rg [⟨none, [(some 133, .ld (.t 5) 25 true), (some 134, .ld (.t 9) 8 true), (some 135, .ld (.t 12) 8 true), (some 136, .idxA (.t 8) (.c (.int .i64 0)) 8 1), (some 137, .ld (.t 136) 1 false), (some 138, .call 9 [(.t 133), (.c (.int .i64 0)), (.t 134), (.t 135), (.t 137)]), (some 16, .mv (.t 138))]⟩] [5, 7, 8, 9, 10, 11, 12, 16, 35, 36, 37])
 (.seq (.rg [⟨none, [(some 139, .mv (.c (.int .i64 0)))]⟩] [5, 7, 8, 9, 10, 11, 12, 16, 35, 36, 37, 139])
 (.block 5 (.loop c_law18_StableNothingBelow_L2))))))))))
 (.rg [⟨none, [(some 162, .bin .add (.t 37) (.c (.int .i64 1))), (some 37, .mv (.t 162))]⟩] [5, 7, 8, 9, 10, 11, 12, 35, 36, 37]))))
def c_law18_StableNothingBelow : Cd :=
 (.seq (.rg [⟨none, [(some 4, .mv (.c (.bool false)))]⟩] [0, 1])
 (.seq (.seq (.rg [⟨none, [(some 19, .call 8 []), (some 20, .un .not (.t 19))]⟩] [0, 1, 20])
 (.ite (.t 20)
 (.seq (.rg [⟨none, [(some 4, .mv (.c (.bool false)))]⟩] [4])
 .ret)
 .skip))
 (.seq (.rg [⟨none, [(some 5, .new 26 (.c (.s (.int .i64 0)) (.c (.ar 8 1 fun _ => (.s (.int .i64 0))) (.c (.ar 8 1 fun _ => (.s (.int .i64 0))) (.c (.ar 8 1 fun _ => (.s (.int .i64 0))) .u)))))]⟩] [0, 1, 5])
 (.seq (.rg [⟨none, [(some 21, .fldA (.t 5) 1 1), (some 22, .idxA (.t 21) (.c (.int .i64 0)) 8 1), (none, .st (.t 22) (.c (.int .i64 1)) 1)]⟩] [0, 1, 5])
 (.seq (.seq (.rg [⟨none, [(some 6, .mv (.c (.int .i64 1)))]⟩] [0, 1, 5, 6])
 (.block 0 (.loop c_law18_StableNothingBelow_L0)))
 (.seq (.rg [⟨none, [(some 7, .new 36 (.ar 8 1 fun _ => (.s (.slice none 0 0))))]⟩] [1, 5, 7])
 (.seq (.rg [⟨none, [(some 8, .new 24 (.ar 8 1 fun _ => (.s (.int .i64 0)))), (some 9, .new 24 (.ar 8 1 fun _ => (.s (.int .i64 0)))), (some 10, .new 24 (.ar 8 1 fun _ => (.s (.int .i64 0)))), (some 11, .new 24 (.ar 8 1 fun _ => (.s (.int .i64 0)))), (some 12, .new 24 (.ar 8 1 fun _ => (.s (.int .i64 0))))]⟩] [1, 5, 7, 8, 9, 10, 11, 12])
 (.seq (.seq (.rg [⟨none, [(some 35, .mv (.t 1)), (some 36, .len (.t 35)), (some 37, .mv (.c (.int .i64 0)))]⟩] [5, 7, 8, 9, 10, 11, 12, 35, 36, 37])
 (.block 2 (.loop c_law18_StableNothingBelow_L3)))
 (.seq (.rg [⟨none, [(some 4, .mv (.c (.bool true)))]⟩] [4])
 .ret)))))))))
theorem k_law18_StableNothingBelow : Ok Try.prog 4 c_law18_StableNothingBelow 163 [(19, 11), (20, 999999), (24, 6), (25, 999999), (27, 14)] [.tmp 4] := Ok.mk' Try.func4 (by kernel_rfl) (by kernel_rfl) (by kernel_rfl)

end Go.Proofs.Ytnpkbgpaifpnmaa.Vc
