/- The code of some functions of the program, its types resolved: printed by a program of this claim. -/
import Derived.Test.YtnpkbgpaifpnmaaVc10
import Derived.Test.YtnpkbgpaifpnmaaProg
set_option linter.unusedVariables false
set_option maxRecDepth 100000
namespace Go.Proofs.Ytnpkbgpaifpnmaa.Vc
open Go Go.Proofs

abbrev f_stable_member : Nat := 20
def c_stable_member : Cd :=
 (.seq (.rg [⟨none, [(some 2, .box 26 (.t 0)), (some 4, .mv (.c (.bool false)))]⟩] [1, 2])
 (.seq (.rg [⟨none, [(some 5, .mv (.t 1)), (some 6, .fldA (.t 2) 1 1), (some 7, .idxA (.t 6) (.t 5) 8 1), (some 8, .ld (.t 7) 1 false), (some 9, .bin .eql (.t 8) (.c (.int .i64 1))), (some 10, .mv (.t 9))]⟩, ⟨some (10, false), [(some 11, .mv (.t 1)), (some 12, .fldA (.t 2) 1 1), (some 13, .idxA (.t 12) (.t 11) 8 1), (some 14, .ld (.t 13) 1 false), (some 15, .bin .eql (.t 14) (.c (.int .i64 2)))]⟩, ⟨none, [(some 16, .pick (.t 10) (.c (.bool true)) (.t 15)), (some 4, .mv (.t 16))]⟩] [4])
 .ret))
theorem k_stable_member : Ok Try.prog 20 c_stable_member 17 [] [.tmp 4] := Ok.mk' Try.func20 (by kernel_rfl) (by kernel_rfl) (by kernel_rfl)

abbrev f_stable_least : Nat := 21
def c_stable_least_L0 : Cd :=
 (.seq (.rg [⟨none, [(some 12, .bin .lss (.t 11) (.t 10))]⟩] [3, 9, 10, 11, 12])
 (.seq (.ite (.t 12)
 .skip
 (.exit 0))
 (.seq (.block 1 (.seq (.rg [⟨none, [(some 13, .idxS (.t 9) (.t 11) 1), (some 14, .ld (.t 13) 1 false), (some 5, .mv (.t 14))]⟩] [3, 5, 9, 10, 11])
 (.rg [⟨none, [(some 15, .mv (.t 3)), (some 16, .mv (.t 5)), (some 17, .mnx false (.t 15) (.t 16)), (some 3, .mv (.t 17))]⟩] [3, 9, 10, 11])))
 (.rg [⟨none, [(some 18, .bin .add (.t 11) (.c (.int .i64 1))), (some 11, .mv (.t 18))]⟩] [3, 9, 10, 11]))))
def c_stable_least : Cd :=
 (.seq (.rg [⟨none, [(some 2, .mv (.c (.int .i64 0)))]⟩] [0])
 (.seq (.rg [⟨none, [(some 6, .mv (.t 0)), (some 7, .idxS (.t 6) (.c (.int .i64 0)) 1), (some 8, .ld (.t 7) 1 false), (some 3, .mv (.t 8))]⟩] [0, 3])
 (.seq (.seq (.rg [⟨none, [(some 9, .mv (.t 0)), (some 10, .len (.t 9)), (some 11, .mv (.c (.int .i64 0)))]⟩] [3, 9, 10, 11])
 (.block 0 (.loop c_stable_least_L0)))
 (.seq (.rg [⟨none, [(some 19, .mv (.t 3)), (some 2, .mv (.t 19))]⟩] [2])
 .ret))))
theorem k_stable_least : Ok Try.prog 21 c_stable_least 20 [] [.tmp 2] := Ok.mk' Try.func21 (by kernel_rfl) (by kernel_rfl) (by kernel_rfl)

abbrev f_stable_Frontier : Nat := 9
def c_stable_Frontier_L0 : Cd :=
 (.seq (.rg [⟨none, [(some 16, .bin .lss (.t 15) (.c (.int .i64 8)))]⟩] [1, 5, 7, 8, 11, 15, 16])
 (.seq (.ite (.t 16)
 .skip
 (.exit 0))
 (.seq (.block 1 (.seq (.rg [⟨none, [(some 17, .mv (.t 15)), (some 12, .mv (.t 17))]⟩] [1, 5, 7, 8, 11, 12, 15])
 (.seq (.rgq [⟨none, [(some 18, .mv (.t 12)), (some 19, .mv (.t 1)), (some 20, .bin .neq (.t 18) (.t 19)), (some 21, .mv (.t 20))]⟩, ⟨some (21, true), [(some 22, .ld (.t 5) 25 true), (some 23, .mv (.t 12)), (some 24, .call 20 [(.t 22), (.t 23)]), (some 25, .mv (.t 24))]⟩, ⟨some (25, false), [(some 26, .mv (.t 12)), (some 27, .fldA (.t 5) 1 1), (some 28, .idxA (.t 27) (.t 26) 8 1), (some 29, .ld (.t 28) 1 false), (some 30, .bin .eql (.t 29) (.c (.int .i64 3))), (some 31, .mv (.t 30))]⟩, ⟨some (31, true), [(some 32, .mv (.t 12)), (some 33, .idxA (.t 7) (.t 32) 8 1), (some 34, .ld (.t 33) 1 false), (some 35, .mv (.t 12)), (some 36, .fldA (.t 5) 2 9), (some 37, .idxA (.t 36) (.t 35) 8 1), (some 38, .ld (.t 37) 1 false)]⟩] [⟨some (31, true), [(some 39, .bin .lss (.t 34) (.t 38))]⟩, ⟨some (25, false), [(some 40, .pick (.t 31) (.t 39) (.c (.bool false)))]⟩, ⟨some (21, true), [(some 41, .pick (.t 25) (.c (.bool true)) (.t 40))]⟩, ⟨none, [(some 42, .pick (.t 21) (.t 41) (.c (.bool false)))]⟩] [1, 5, 7, 8, 11, 12, 15, 42])
 (.ite (.t 42)
 (.rg [⟨none, [(some 43, .mv (.t 11)), (some 44, .mv (.t 12)), (some 45, .idxA (.t 8) (.t 44) 8 1), (some 46, .ld (.t 45) 1 false), (some 47, .bldS 2 1 (.s (.int .i64 0)) [(.t 46)]), (some 48, .app 2 1 8 (.s (.int .i64 0)) (.t 43) (.t 47)), (some 11, .mv (.t 48))]⟩] [1, 5, 7, 8, 11, 15])
 .skip))))
 (.rg [⟨none, [(some 49, .bin .add (.t 15) (.c (.int .i64 1))), (some 15, .mv (.t 49))]⟩] [1, 5, 7, 8, 11, 15]))))
def c_stable_Frontier : Cd :=
 (.seq (.rg [⟨none, [(some 5, .box 26 (.t 0)), (some 7, .box 24 (.t 2)), (some 8, .box 24 (.t 3)), (some 10, .mv (.c (.int .i64 0)))]⟩] [1, 4, 5, 7, 8])
 (.seq (.rg [⟨none, [(some 13, .mv (.t 4)), (some 14, .bldS 2 1 (.s (.int .i64 0)) [(.t 13)]), (some 11, .mv (.t 14))]⟩] [1, 5, 7, 8, 11])
 (.seq (.seq (.rg [⟨none, [(some 15, .mv (.c (.int .i64 0)))]⟩] [1, 5, 7, 8, 11, 15])
 (.block 0 (.loop c_stable_Frontier_L0)))
 (.seq (.rg [⟨none, [(some 50, .mv (.t 11)), (some 51, .call 21 [(.t 50)]), (some 10, .mv (.t 51))]⟩] [10])
 .ret))))
theorem k_stable_Frontier : Ok Try.prog 9 c_stable_Frontier 52 [(5, 21)] [.tmp 10] := Ok.mk' Try.func9 (by kernel_rfl) (by kernel_rfl) (by kernel_rfl)

abbrev f_ref18_member : Nat := 22
def c_ref18_member : Cd :=
 (.seq (.rg [⟨none, [(some 2, .box 26 (.t 0)), (some 4, .mv (.c (.bool false)))]⟩] [1, 2])
 (.seq (.rg [⟨none, [(some 5, .mv (.t 1)), (some 6, .fldA (.t 2) 1 1), (some 7, .idxA (.t 6) (.t 5) 8 1), (some 8, .ld (.t 7) 1 false), (some 9, .bin .eql (.t 8) (.c (.int .i64 1))), (some 10, .mv (.t 9))]⟩, ⟨some (10, false), [(some 11, .mv (.t 1)), (some 12, .fldA (.t 2) 1 1), (some 13, .idxA (.t 12) (.t 11) 8 1), (some 14, .ld (.t 13) 1 false), (some 15, .bin .eql (.t 14) (.c (.int .i64 2)))]⟩, ⟨none, [(some 16, .pick (.t 10) (.c (.bool true)) (.t 15)), (some 4, .mv (.t 16))]⟩] [4])
 .ret))
theorem k_ref18_member : Ok Try.prog 22 c_ref18_member 17 [] [.tmp 4] := Ok.mk' Try.func22 (by kernel_rfl) (by kernel_rfl) (by kernel_rfl)

abbrev f_ref18_Frontier : Nat := 10
def c_ref18_Frontier_L0 : Cd :=
 (.seq (.seq (.rg [⟨none, [(some 15, .mv (.t 12)), (some 16, .bin .lss (.t 15) (.c (.int .i64 8)))]⟩] [1, 5, 7, 8, 11, 12, 16])
 (.ite (.t 16)
 .skip
 (.exit 0)))
 (.seq (.block 1 (.seq (.rgq [⟨none, [(some 19, .ld (.t 5) 25 true), (some 20, .mv (.t 12)), (some 21, .call 22 [(.t 19), (.t 20)]), (some 22, .mv (.t 21))]⟩, ⟨some (22, false), [(some 23, .mv (.t 12)), (some 24, .fldA (.t 5) 1 1), (some 25, .idxA (.t 24) (.t 23) 8 1), (some 26, .ld (.t 25) 1 false), (some 27, .bin .eql (.t 26) (.c (.int .i64 3))), (some 28, .mv (.t 27))]⟩, ⟨some (28, true), [(some 29, .mv (.t 12)), (some 30, .idxA (.t 7) (.t 29) 8 1), (some 31, .ld (.t 30) 1 false), (some 32, .mv (.t 12)), (some 33, .fldA (.t 5) 2 9), (some 34, .idxA (.t 33) (.t 32) 8 1), (some 35, .ld (.t 34) 1 false)]⟩] [⟨some (28, true), [(some 36, .bin .lss (.t 31) (.t 35))]⟩, ⟨some (22, false), [(some 37, .pick (.t 28) (.t 36) (.c (.bool false)))]⟩, ⟨none, [(some 38, .pick (.t 22) (.c (.bool true)) (.t 37)), (some 13, .mv (.t 38))]⟩] [1, 5, 7, 8, 11, 12, 13])
 (.seq (.rg [⟨none, [(some 39, .mv (.t 12)), (some 40, .mv (.t 1)), (some 41, .bin .neq (.t 39) (.t 40)), (some 42, .mv (.t 41))]⟩, ⟨some (42, true), [(some 43, .mv (.t 13))]⟩, ⟨none, [(some 44, .pick (.t 42) (.t 43) (.c (.bool false))), (some 45, .mv (.t 44))]⟩, ⟨some (45, true), [(some 46, .mv (.t 12)), (some 47, .idxA (.t 8) (.t 46) 8 1), (some 48, .ld (.t 47) 1 false), (some 49, .mv (.t 11)), (some 50, .bin .lss (.t 48) (.t 49))]⟩, ⟨none, [(some 51, .pick (.t 45) (.t 50) (.c (.bool false)))]⟩] [1, 5, 7, 8, 11, 12, 51])
 (.ite (.t 51)
 (.rg [⟨none, [(some 52, .mv (.t 12)), (some 53, .idxA (.t 8) (.t 52) 8 1), (some 54, .ld (.t 53) 1 false), (some 11, .mv (.t 54))]⟩] [1, 5, 7, 8, 11, 12])
 .skip))))
 (.rg [⟨none, [(some 17, .mv (.t 12)), (some 18, .bin .add (.t 17) (.c (.int .i64 1))), (some 12, .mv (.t 18))]⟩] [1, 5, 7, 8, 11, 12])))
def c_ref18_Frontier : Cd :=
 (.seq (.rg [⟨none, [(some 5, .box 26 (.t 0)), (some 7, .box 24 (.t 2)), (some 8, .box 24 (.t 3)), (some 10, .mv (.c (.int .i64 0)))]⟩] [1, 4, 5, 7, 8])
 (.seq (.rg [⟨none, [(some 14, .mv (.t 4)), (some 11, .mv (.t 14))]⟩] [1, 5, 7, 8, 11])
 (.seq (.seq (.rg [⟨none, [(some 12, .mv (.c (.int .i64 0)))]⟩] [1, 5, 7, 8, 11, 12])
 (.block 0 (.loop c_ref18_Frontier_L0)))
 (.seq (.rg [⟨none, [(some 55, .mv (.t 11)), (some 10, .mv (.t 55))]⟩] [10])
 .ret))))
theorem k_ref18_Frontier : Ok Try.prog 10 c_ref18_Frontier 56 [(5, 17)] [.tmp 10] := Ok.mk' Try.func10 (by kernel_rfl) (by kernel_rfl) (by kernel_rfl)

abbrev f_stable_Settle : Nat := 11
def c_stable_Settle_L0 : Cd :=
 (.seq (.rg [⟨none, [(some 11, .bin .lss (.t 10) (.c (.int .i64 8)))]⟩] [4, 5, 6, 7, 8, 10, 11])
 (.seq (.ite (.t 11)
 .skip
 (.exit 0))
 (.seq (.block 1 (.seq (.rg [⟨none, [(some 12, .mv (.t 10)), (some 9, .mv (.t 12))]⟩] [4, 5, 6, 7, 8, 9, 10])
 (.seq (.rgq [⟨none, [(some 13, .mv (.t 9)), (some 14, .idxA (.t 5) (.t 13) 8 1), (some 15, .ld (.t 14) 1 false), (some 16, .mv (.t 9)), (some 17, .idxA (.t 4) (.t 16) 8 1), (some 18, .ld (.t 17) 1 false)]⟩] [⟨none, [(some 19, .bin .leq (.t 15) (.t 18))]⟩] [4, 5, 6, 7, 8, 9, 10, 19])
 (.ite (.t 19)
 (.rgq [⟨none, [(some 20, .mv (.t 9)), (some 21, .mv (.t 9)), (some 22, .idxA (.t 7) (.t 21) 8 1), (some 23, .ld (.t 22) 1 false), (some 24, .mv (.t 9)), (some 25, .idxA (.t 6) (.t 24) 8 1), (some 26, .ld (.t 25) 1 false), (some 27, .mnx true (.t 23) (.t 26))]⟩] [⟨none, [(some 28, .idxA (.t 7) (.t 20) 8 1), (none, .st (.t 28) (.t 27) 1)]⟩] [4, 5, 6, 7, 8, 10])
 .skip))))
 (.rg [⟨none, [(some 29, .bin .add (.t 10) (.c (.int .i64 1))), (some 10, .mv (.t 29))]⟩] [4, 5, 6, 7, 8, 10]))))
def c_stable_Settle : Cd :=
 (.seq (.rg [⟨none, [(some 4, .box 24 (.t 0)), (some 5, .box 24 (.t 1)), (some 6, .box 24 (.t 2)), (some 7, .box 24 (.t 3)), (some 8, .new 24 (.ar 8 1 fun _ => (.s (.int .i64 0))))]⟩] [4, 5, 6, 7, 8])
 (.seq (.seq (.rg [⟨none, [(some 10, .mv (.c (.int .i64 0)))]⟩] [4, 5, 6, 7, 8, 10])
 (.block 0 (.loop c_stable_Settle_L0)))
 (.seq (.rg [⟨none, [(some 30, .ld (.t 7) 8 true), (none, .st (.t 8) (.t 30) 8)]⟩] [8])
 .ret)))
theorem k_stable_Settle : Ok Try.prog 11 c_stable_Settle 31 [(4, 6), (5, 8)] [.cell 8 8 true] := Ok.mk' Try.func11 (by kernel_rfl) (by kernel_rfl) (by kernel_rfl)

abbrev f_ref18_Settle : Nat := 12
def c_ref18_Settle_L0 : Cd :=
 (.seq (.seq (.rg [⟨none, [(some 12, .mv (.t 10)), (some 13, .bin .lss (.t 12) (.c (.int .i64 8)))]⟩] [4, 5, 6, 7, 8, 9, 10, 13])
 (.ite (.t 13)
 .skip
 (.exit 0)))
 (.seq (.block 1 (.seq (.rgq [⟨none, [(some 16, .mv (.t 10)), (some 17, .idxA (.t 5) (.t 16) 8 1), (some 18, .ld (.t 17) 1 false), (some 19, .mv (.t 10)), (some 20, .idxA (.t 4) (.t 19) 8 1), (some 21, .ld (.t 20) 1 false), (some 22, .bin .leq (.t 18) (.t 21)), (some 23, .mv (.t 22))]⟩, ⟨some (23, true), [(some 24, .mv (.t 10)), (some 25, .idxA (.t 6) (.t 24) 8 1), (some 26, .ld (.t 25) 1 false), (some 27, .mv (.t 10)), (some 28, .idxA (.t 7) (.t 27) 8 1), (some 29, .ld (.t 28) 1 false)]⟩] [⟨some (23, true), [(some 30, .bin .gtr (.t 26) (.t 29))]⟩, ⟨none, [(some 31, .pick (.t 23) (.t 30) (.c (.bool false)))]⟩] [4, 5, 6, 7, 8, 9, 10, 31])
 (.ite (.t 31)
 (.rg [⟨none, [(some 32, .mv (.t 10)), (some 33, .mv (.t 10)), (some 34, .idxA (.t 6) (.t 33) 8 1), (some 35, .ld (.t 34) 1 false), (some 36, .idxA (.t 9) (.t 32) 8 1), (none, .st (.t 36) (.t 35) 1)]⟩] [4, 5, 6, 7, 8, 9, 10])
 .skip)))
 (.rg [⟨none, [(some 14, .mv (.t 10)), (some 15, .bin .add (.t 14) (.c (.int .i64 1))), (some 10, .mv (.t 15))]⟩] [4, 5, 6, 7, 8, 9, 10])))
def c_ref18_Settle : Cd :=
 (.seq (.rg [⟨none, [(some 4, .box 24 (.t 0)), (some 5, .box 24 (.t 1)), (some 6, .box 24 (.t 2)), (some 7, .box 24 (.t 3)), (some 8, .new 24 (.ar 8 1 fun _ => (.s (.int .i64 0))))]⟩] [4, 5, 6, 7, 8])
 (.seq (.rg [⟨none, [(some 11, .ld (.t 7) 8 true), (some 9, .new 24 (.ar 8 1 fun _ => (.s (.int .i64 0)))), (none, .st (.t 9) (.t 11) 8)]⟩] [4, 5, 6, 7, 8, 9])
 (.seq (.seq (.rg [⟨none, [(some 10, .mv (.c (.int .i64 0)))]⟩] [4, 5, 6, 7, 8, 9, 10])
 (.block 0 (.loop c_ref18_Settle_L0)))
 (.seq (.rg [⟨none, [(some 37, .ld (.t 9) 8 true), (none, .st (.t 8) (.t 37) 8)]⟩] [8])
 .ret))))
theorem k_ref18_Settle : Ok Try.prog 12 c_ref18_Settle 38 [(5, 14)] [.cell 8 8 true] := Ok.mk' Try.func12 (by kernel_rfl) (by kernel_rfl) (by kernel_rfl)

abbrev f_law18_begun : Nat := 8
def c_law18_begun : Cd :=
 (.seq (.rg [⟨none, [(some 0, .mv (.c (.bool false)))]⟩] [])
 (.seq (.rg [⟨none, [(some 1, .new 26 (.c (.s (.int .i64 0)) (.c (.ar 8 1 fun _ => (.s (.int .i64 0))) (.c (.ar 8 1 fun _ => (.s (.int .i64 0))) (.c (.ar 8 1 fun _ => (.s (.int .i64 0))) .u)))))]⟩] [1])
 (.seq (.rg [⟨none, [(some 2, .fldA (.t 1) 1 1), (some 3, .idxA (.t 2) (.c (.int .i64 0)) 8 1), (none, .st (.t 3) (.c (.int .i64 1)) 1), (some 4, .fldA (.t 1) 1 1), (some 5, .idxA (.t 4) (.c (.int .i64 1)) 8 1), (none, .st (.t 5) (.c (.int .i64 1)) 1)]⟩] [1])
 (.seq (.rg [⟨none, [(some 6, .ld (.t 1) 25 true), (some 7, .bld (.ar 8 1 fun _ => (.s (.int .i64 0))) []), (some 8, .bld (.ar 8 1 fun _ => (.s (.int .i64 0))) [(0, (.c (.int .i64 0))), (1, (.c (.int .i64 7)))]), (some 9, .call 9 [(.t 6), (.c (.int .i64 0)), (.t 7), (.t 8), (.c (.int .i64 9))]), (some 10, .bin .eql (.t 9) (.c (.int .i64 7))), (some 11, .mv (.t 10))]⟩, ⟨some (11, true), [(some 12, .bld (.ar 8 1 fun _ => (.s (.int .i64 0))) [(0, (.c (.int .i64 5)))]), (some 13, .bld (.ar 8 1 fun _ => (.s (.int .i64 0))) [(0, (.c (.int .i64 5)))]), (some 14, .bld (.ar 8 1 fun _ => (.s (.int .i64 0))) [(0, (.c (.int .i64 9)))]), (some 15, .bld (.ar 8 1 fun _ => (.s (.int .i64 0))) [(0, (.c (.int .i64 3)))]), (some 16, .call 11 [(.t 12), (.t 13), (.t 14), (.t 15)]), (some 17, .bld (.ar 8 1 fun _ => (.s (.int .i64 0))) [(0, (.c (.int .i64 9)))]), (some 18, .eqA false 24 (.t 16) (.t 17))]⟩, ⟨none, [(some 19, .pick (.t 11) (.t 18) (.c (.bool false))), (some 0, .mv (.t 19))]⟩] [0])
 .ret))))
theorem k_law18_begun : Ok Try.prog 8 c_law18_begun 20 [] [.tmp 0] := Ok.mk' Try.func8 (by kernel_rfl) (by kernel_rfl) (by kernel_rfl)

abbrev f_stable_Cut : Nat := 13
def c_stable_Cut_L0 : Cd :=
 (.seq (.rg [⟨none, [(some 13, .bin .lss (.t 12) (.t 11))]⟩] [0, 6, 7, 10, 11, 12, 13])
 (.seq (.ite (.t 13)
 .skip
 (.exit 0))
 (.seq (.block 1 (.seq (.rg [⟨none, [(some 14, .idxS (.t 10) (.t 12) 8), (some 15, .ld (.t 14) 8 true), (some 9, .new 48 (.c (.c (.s (.int .i64 0)) (.c (.s (.int .i64 0)) .u)) (.c (.s (.int .i64 0)) (.c (.s (.int .i64 0)) (.c (.s (.int .i64 0)) (.c (.s (.string ⟨#[]⟩)) (.c (.s (.string ⟨#[]⟩)) (.c (.s (.string ⟨#[]⟩)) .u)))))))), (none, .st (.t 9) (.t 15) 8)]⟩] [0, 6, 7, 9, 10, 11, 12])
 (.seq (.rg [⟨none, [(some 16, .fldA (.t 9) 0 0), (some 17, .fldA (.t 16) 0 0), (some 18, .ld (.t 17) 1 false), (some 19, .mv (.t 0)), (some 20, .bin .leq (.t 18) (.t 19))]⟩] [0, 6, 7, 9, 10, 11, 12, 20])
 (.ite (.t 20)
 (.rg [⟨none, [(some 21, .mv (.t 6)), (some 22, .ld (.t 9) 8 true), (some 23, .bldS 48 8 (.c (.c (.s (.int .i64 0)) (.c (.s (.int .i64 0)) .u)) (.c (.s (.int .i64 0)) (.c (.s (.int .i64 0)) (.c (.s (.int .i64 0)) (.c (.s (.string ⟨#[]⟩)) (.c (.s (.string ⟨#[]⟩)) (.c (.s (.string ⟨#[]⟩)) .u))))))) [(.t 22)]), (some 24, .app 48 8 88 (.c (.c (.s (.int .i64 0)) (.c (.s (.int .i64 0)) .u)) (.c (.s (.int .i64 0)) (.c (.s (.int .i64 0)) (.c (.s (.int .i64 0)) (.c (.s (.string ⟨#[]⟩)) (.c (.s (.string ⟨#[]⟩)) (.c (.s (.string ⟨#[]⟩)) .u))))))) (.t 21) (.t 23)), (some 6, .mv (.t 24))]⟩] [0, 6, 7, 10, 11, 12])
 (.rg [⟨none, [(some 25, .mv (.t 7)), (some 26, .ld (.t 9) 8 true), (some 27, .bldS 48 8 (.c (.c (.s (.int .i64 0)) (.c (.s (.int .i64 0)) .u)) (.c (.s (.int .i64 0)) (.c (.s (.int .i64 0)) (.c (.s (.int .i64 0)) (.c (.s (.string ⟨#[]⟩)) (.c (.s (.string ⟨#[]⟩)) (.c (.s (.string ⟨#[]⟩)) .u))))))) [(.t 26)]), (some 28, .app 48 8 88 (.c (.c (.s (.int .i64 0)) (.c (.s (.int .i64 0)) .u)) (.c (.s (.int .i64 0)) (.c (.s (.int .i64 0)) (.c (.s (.int .i64 0)) (.c (.s (.string ⟨#[]⟩)) (.c (.s (.string ⟨#[]⟩)) (.c (.s (.string ⟨#[]⟩)) .u))))))) (.t 25) (.t 27)), (some 7, .mv (.t 28))]⟩] [0, 6, 7, 10, 11, 12])))))
 (.rg [⟨none, [(some 29, .bin .add (.t 12) (.c (.int .i64 1))), (some 12, .mv (.t 29))]⟩] [0, 6, 7, 10, 11, 12]))))
def c_stable_Cut : Cd :=
 (.seq (.rg [⟨none, [(some 4, .mv (.c (.slice none 0 0))), (some 5, .mv (.c (.slice none 0 0)))]⟩] [0, 1])
 (.seq (.rg [⟨none, [(some 6, .mv (.c (.slice none 0 0))), (some 7, .mv (.c (.slice none 0 0))), (none, .gh), (none, .gh)]⟩] [0, 1, 6, 7])
 (.seq (.seq (.rg [⟨none, [(some 10, .mv (.t 1)), (some 11, .len (.t 10)), (some 12, .mv (.c (.int .i64 0)))]⟩] [0, 6, 7, 10, 11, 12])
 (.block 0 (.loop c_stable_Cut_L0)))
 (.seq (.rg [⟨none, [(some 30, .mv (.t 6)), (some 31, .mv (.t 7)), (some 4, .mv (.t 30)), (some 5, .mv (.t 31)), (none, .gh), (none, .gh)]⟩] [4, 5])
 .ret))))
theorem k_stable_Cut : Ok Try.prog 13 c_stable_Cut 32 [] [.tmp 4, .tmp 5] := Ok.mk' Try.func13 (by kernel_rfl) (by kernel_rfl) (by kernel_rfl)

abbrev f_ref18_Cut : Nat := 14
def c_ref18_Cut_L0 : Cd :=
 (.seq (.seq (.rg [⟨none, [(some 9, .mv (.t 8)), (some 10, .mv (.t 1)), (some 11, .len (.t 10)), (some 12, .bin .lss (.t 9) (.t 11))]⟩] [0, 1, 6, 7, 8, 12])
 (.ite (.t 12)
 .skip
 (.exit 0)))
 (.seq (.block 1 (.seq (.rg [⟨none, [(some 15, .mv (.t 1)), (some 16, .mv (.t 8)), (some 17, .idxS (.t 15) (.t 16) 8), (some 18, .fldA (.t 17) 0 0), (some 19, .fldA (.t 18) 0 0), (some 20, .ld (.t 19) 1 false), (some 21, .mv (.t 0)), (some 22, .bin .leq (.t 20) (.t 21))]⟩] [0, 1, 6, 7, 8, 22])
 (.ite (.t 22)
 (.rg [⟨none, [(some 23, .mv (.t 6)), (some 24, .mv (.t 1)), (some 25, .mv (.t 8)), (some 26, .idxS (.t 24) (.t 25) 8), (some 27, .ld (.t 26) 8 true), (some 28, .bldS 48 8 (.c (.c (.s (.int .i64 0)) (.c (.s (.int .i64 0)) .u)) (.c (.s (.int .i64 0)) (.c (.s (.int .i64 0)) (.c (.s (.int .i64 0)) (.c (.s (.string ⟨#[]⟩)) (.c (.s (.string ⟨#[]⟩)) (.c (.s (.string ⟨#[]⟩)) .u))))))) [(.t 27)]), (some 29, .app 48 8 88 (.c (.c (.s (.int .i64 0)) (.c (.s (.int .i64 0)) .u)) (.c (.s (.int .i64 0)) (.c (.s (.int .i64 0)) (.c (.s (.int .i64 0)) (.c (.s (.string ⟨#[]⟩)) (.c (.s (.string ⟨#[]⟩)) (.c (.s (.string ⟨#[]⟩)) .u))))))) (.t 23) (.t 28)), (some 6, .mv (.t 29))]⟩] [0, 1, 6, 7, 8])
 (.rg [⟨none, [(some 30, .mv (.t 7)), (some 31, .mv (.t 1)), (some 32, .mv (.t 8)), (some 33, .idxS (.t 31) (.t 32) 8), (some 34, .ld (.t 33) 8 true), (some 35, .bldS 48 8 (.c (.c (.s (.int .i64 0)) (.c (.s (.int .i64 0)) .u)) (.c (.s (.int .i64 0)) (.c (.s (.int .i64 0)) (.c (.s (.int .i64 0)) (.c (.s (.string ⟨#[]⟩)) (.c (.s (.string ⟨#[]⟩)) (.c (.s (.string ⟨#[]⟩)) .u))))))) [(.t 34)]), (some 36, .app 48 8 88 (.c (.c (.s (.int .i64 0)) (.c (.s (.int .i64 0)) .u)) (.c (.s (.int .i64 0)) (.c (.s (.int .i64 0)) (.c (.s (.int .i64 0)) (.c (.s (.string ⟨#[]⟩)) (.c (.s (.string ⟨#[]⟩)) (.c (.s (.string ⟨#[]⟩)) .u))))))) (.t 30) (.t 35)), (some 7, .mv (.t 36))]⟩] [0, 1, 6, 7, 8]))))
 (.rg [⟨none, [(some 13, .mv (.t 8)), (some 14, .bin .add (.t 13) (.c (.int .i64 1))), (some 8, .mv (.t 14))]⟩] [0, 1, 6, 7, 8])))
def c_ref18_Cut : Cd :=
 (.seq (.rg [⟨none, [(some 4, .mv (.c (.slice none 0 0))), (some 5, .mv (.c (.slice none 0 0)))]⟩] [0, 1])
 (.seq (.rg [⟨none, [(some 6, .mv (.c (.slice none 0 0))), (some 7, .mv (.c (.slice none 0 0))), (none, .gh), (none, .gh)]⟩] [0, 1, 6, 7])
 (.seq (.seq (.rg [⟨none, [(some 8, .mv (.c (.int .i64 0)))]⟩] [0, 1, 6, 7, 8])
 (.block 0 (.loop c_ref18_Cut_L0)))
 (.seq (.rg [⟨none, [(some 37, .mv (.t 6)), (some 38, .mv (.t 7)), (some 4, .mv (.t 37)), (some 5, .mv (.t 38)), (none, .gh), (none, .gh)]⟩] [4, 5])
 .ret))))
theorem k_ref18_Cut : Ok Try.prog 14 c_ref18_Cut 39 [] [.tmp 4, .tmp 5] := Ok.mk' Try.func14 (by kernel_rfl) (by kernel_rfl) (by kernel_rfl)

abbrev f_law18_ops : Nat := 15
def c_law18_ops_L0 : Cd :=
 (.seq (.rg [⟨none, [(some 14, .bin .lss (.t 13) (.t 12))]⟩] [0, 1, 12, 13, 14])
 (.seq (.ite (.t 14)
 .skip
 (.exit 0))
 (.seq (.block 1 (.seq (.rg [⟨none, [(some 15, .mv (.t 13)), (some 5, .mv (.t 15))]⟩] [0, 1, 5, 12, 13])
 (.seq (.rgq [⟨none, [(some 16, .mv (.t 0)), (some 17, .mv (.t 5)), (some 18, .idxS (.t 16) (.t 17) 8), (some 19, .ld (.t 18) 8 true), (some 20, .mv (.t 1)), (some 21, .mv (.t 5)), (some 22, .idxS (.t 20) (.t 21) 8), (some 23, .ld (.t 22) 8 true)]⟩] [⟨none, [(some 24, .eqA true 48 (.t 19) (.t 23))]⟩] [0, 1, 12, 13, 24])
 (.ite (.t 24)
 (.seq (.rg [⟨none, [(some 4, .mv (.c (.bool false)))]⟩] [4])
 .ret)
 .skip))))
 (.rg [⟨none, [(some 25, .bin .add (.t 13) (.c (.int .i64 1))), (some 13, .mv (.t 25))]⟩] [0, 1, 12, 13]))))
def c_law18_ops : Cd :=
 (.seq (.rg [⟨none, [(some 4, .mv (.c (.bool false)))]⟩] [0, 1])
 (.seq (.seq (.rg [⟨none, [(some 6, .mv (.t 0)), (some 7, .len (.t 6)), (some 8, .mv (.t 1)), (some 9, .len (.t 8)), (some 10, .bin .neq (.t 7) (.t 9))]⟩] [0, 1, 10])
 (.ite (.t 10)
 (.seq (.rg [⟨none, [(some 4, .mv (.c (.bool false)))]⟩] [4])
 .ret)
 .skip))
 (.seq (.seq (.rg [⟨none, [(some 11, .mv (.t 0)), (some 12, .len (.t 11)), (some 13, .mv (.c (.int .i64 0)))]⟩] [0, 1, 12, 13])
 (.block 0 (.loop c_law18_ops_L0)))
 (.seq (.rg [⟨none, [(some 4, .mv (.c (.bool true)))]⟩] [4])
 .ret))))
theorem k_law18_ops : Ok Try.prog 15 c_law18_ops 26 [(6, 8)] [.tmp 4] := Ok.mk' Try.func15 (by kernel_rfl) (by kernel_rfl) (by kernel_rfl)

abbrev f_stamp_fold : Nat := 24
def c_stamp_fold_L0 : Cd :=
 (.seq (.rg [⟨none, [(some 20, .bin .lss (.t 19) (.c (.int .i64 8)))]⟩] [0, 4, 5, 7, 9, 10, 11, 19, 20])
 (.seq (.ite (.t 20)
 .skip
 (.exit 2))
 (.seq (.block 3 (.seq (.rg [⟨none, [(some 21, .mv (.t 19)), (some 8, .mv (.t 21))]⟩] [0, 4, 5, 7, 8, 9, 10, 11, 19])
 (.rgq [⟨none, [(some 22, .mv (.t 8)), (some 23, .mv (.t 0)), (some 24, .mv (.t 8)), (some 25, .idxA (.t 5) (.t 24) 8 1), (some 26, .ld (.t 25) 1 false), (some 27, .mv (.t 8)), (some 28, .idxA (.t 7) (.t 27) 8 1), (some 29, .ld (.t 28) 1 false), (some 30, .callV (.t 23) [(.t 26), (.t 29)])]⟩] [⟨none, [(some 31, .idxA (.t 5) (.t 22) 8 1), (none, .st (.t 31) (.t 30) 1)]⟩] [0, 4, 5, 7, 9, 10, 11, 19])))
 (.rg [⟨none, [(some 32, .bin .add (.t 19) (.c (.int .i64 1))), (some 19, .mv (.t 32))]⟩] [0, 4, 5, 7, 9, 10, 11, 19]))))
def c_stamp_fold_L1 : Cd :=
 (.seq (.rg [⟨none, [(some 12, .bin .lss (.t 11) (.t 10))]⟩] [0, 4, 5, 9, 10, 11, 12])
 (.seq (.ite (.t 12)
 .skip
 (.exit 0))
 (.seq (.block 1 (.seq (.rg [⟨none, [(some 13, .mv (.t 11)), (some 14, .idxS (.t 9) (.t 11) 8), (some 15, .ld (.t 14) 8 true), (some 7, .new 24 (.ar 8 1 fun _ => (.s (.int .i64 0)))), (some 6, .mv (.t 13)), (none, .st (.t 7) (.t 15) 8)]⟩] [0, 4, 5, 6, 7, 9, 10, 11])
 (.seq (.seq (.rg [⟨none, [(some 16, .mv (.t 6)), (some 17, .bin .eql (.t 16) (.c (.int .i64 0)))]⟩] [0, 4, 5, 7, 9, 10, 11, 17])
 (.ite (.t 17)
 (.rg [⟨none, [(some 18, .ld (.t 7) 8 true), (none, .st (.t 5) (.t 18) 8)]⟩] [0, 4, 5, 7, 9, 10, 11])
 .skip))
 (.seq (.rg [⟨none, [(some 19, .mv (.c (.int .i64 0)))]⟩] [0, 4, 5, 7, 9, 10, 11, 19])
 (.block 2 (.loop c_stamp_fold_L0))))))
 (.rg [⟨none, [(some 33, .bin .add (.t 11) (.c (.int .i64 1))), (some 11, .mv (.t 33))]⟩] [0, 4, 5, 9, 10, 11]))))
def c_stamp_fold : Cd :=
 (.seq (.rg [⟨none, [(some 4, .new 24 (.ar 8 1 fun _ => (.s (.int .i64 0))))]⟩] [0, 1, 4])
 (.seq (.rg [⟨none, [(some 5, .new 24 (.ar 8 1 fun _ => (.s (.int .i64 0))))]⟩] [0, 1, 4, 5])
 (.seq (.seq (.rg [⟨none, [(some 9, .mv (.t 1)), (some 10, .len (.t 9)), (some 11, .mv (.c (.int .i64 0)))]⟩] [0, 4, 5, 9, 10, 11])
 (.block 0 (.loop c_stamp_fold_L1)))
 (.seq (.rg [⟨none, [(some 34, .ld (.t 5) 8 true), (none, .st (.t 4) (.t 34) 8)]⟩] [4])
 .ret))))
theorem k_stamp_fold : Ok Try.prog 24 c_stamp_fold 35 [(10, 9)] [.cell 4 8 true] := Ok.mk' Try.func24 (by kernel_rfl) (by kernel_rfl) (by kernel_rfl)

abbrev f_stamp_Meet_1 : Nat := 25
def c_stamp_Meet_1 : Cd :=
 (.seq (.rg [⟨none, [(some 4, .mv (.c (.int .i64 0)))]⟩] [0, 1])
 (.seq (.rg [⟨none, [(some 5, .mv (.t 0)), (some 6, .mv (.t 1)), (some 7, .mnx false (.t 5) (.t 6)), (some 4, .mv (.t 7))]⟩] [4])
 .ret))
theorem k_stamp_Meet_1 : Ok Try.prog 25 c_stamp_Meet_1 8 [] [.tmp 4] := Ok.mk' Try.func25 (by kernel_rfl) (by kernel_rfl) (by kernel_rfl)

abbrev f_stamp_Meet : Nat := 23
def c_stamp_Meet : Cd :=
 (.seq (.rg [⟨none, [(some 2, .new 24 (.ar 8 1 fun _ => (.s (.int .i64 0))))]⟩] [0, 2])
 (.seq (.rg [⟨none, [(some 3, .mv (.t 0)), (some 4, .call 24 [(.c (.func (.func 25) #[] #[])), (.t 3)]), (none, .st (.t 2) (.t 4) 8)]⟩] [2])
 .ret))
theorem k_stamp_Meet : Ok Try.prog 23 c_stamp_Meet 5 [] [.cell 2 8 true] := Ok.mk' Try.func23 (by kernel_rfl) (by kernel_rfl) (by kernel_rfl)

abbrev f_stable_Keep : Nat := 16
def c_stable_Keep_L0 : Cd :=
 (.seq (.rg [⟨none, [(some 12, .bin .lss (.t 11) (.c (.int .i64 8)))]⟩] [1, 4, 6, 7, 8, 9, 11, 12])
 (.seq (.ite (.t 12)
 .skip
 (.exit 0))
 (.seq (.block 1 (.seq (.rg [⟨none, [(some 13, .mv (.t 11)), (some 10, .mv (.t 13))]⟩] [1, 4, 6, 7, 8, 9, 10, 11])
 (.seq (.rg [⟨none, [(some 14, .mv (.t 10)), (some 15, .mv (.t 1)), (some 16, .bin .neq (.t 14) (.t 15)), (some 17, .mv (.t 16))]⟩, ⟨some (17, true), [(some 18, .ld (.t 4) 25 true), (some 19, .mv (.t 10)), (some 20, .call 20 [(.t 18), (.t 19)])]⟩, ⟨none, [(some 21, .pick (.t 17) (.t 20) (.c (.bool false)))]⟩] [1, 4, 6, 7, 8, 9, 10, 11, 21])
 (.ite (.t 21)
 (.rg [⟨none, [(some 22, .mv (.t 9)), (some 23, .mv (.t 10)), (some 24, .idxA (.t 7) (.t 23) 8 8), (some 25, .ld (.t 24) 8 true), (some 26, .bldS 24 8 (.ar 8 1 fun _ => (.s (.int .i64 0))) [(.t 25)]), (some 27, .app 24 8 64 (.ar 8 1 fun _ => (.s (.int .i64 0))) (.t 22) (.t 26)), (some 9, .mv (.t 27))]⟩] [1, 4, 6, 7, 8, 9, 11])
 .skip))))
 (.rg [⟨none, [(some 28, .bin .add (.t 11) (.c (.int .i64 1))), (some 11, .mv (.t 28))]⟩] [1, 4, 6, 7, 8, 9, 11]))))
def c_stable_Keep : Cd :=
 (.seq (.rg [⟨none, [(some 4, .box 26 (.t 0)), (some 6, .box 24 (.t 2)), (some 7, .box 27 (.t 3)), (some 8, .new 24 (.ar 8 1 fun _ => (.s (.int .i64 0))))]⟩] [1, 4, 6, 7, 8])
 (.seq (.rg [⟨none, [(some 9, .mv (.c (.slice none 0 0))), (none, .gh)]⟩] [1, 4, 6, 7, 8, 9])
 (.seq (.seq (.rg [⟨none, [(some 11, .mv (.c (.int .i64 0)))]⟩] [1, 4, 6, 7, 8, 9, 11])
 (.block 0 (.loop c_stable_Keep_L0)))
 (.seq (.seq (.rg [⟨none, [(some 29, .mv (.t 9)), (some 30, .len (.t 29)), (some 31, .bin .eql (.t 30) (.c (.int .i64 0)))]⟩] [6, 8, 9, 31])
 (.ite (.t 31)
 (.seq (.rg [⟨none, [(some 32, .ld (.t 6) 8 true), (none, .st (.t 8) (.t 32) 8)]⟩] [8])
 .ret)
 .skip))
 (.seq (.rg [⟨none, [(some 33, .mv (.t 9)), (some 34, .call 23 [(.t 33)]), (none, .st (.t 8) (.t 34) 8)]⟩] [8])
 .ret)))))
theorem k_stable_Keep : Ok Try.prog 16 c_stable_Keep 35 [] [.cell 8 8 true] := Ok.mk' Try.func16 (by kernel_rfl) (by kernel_rfl) (by kernel_rfl)

abbrev f_ref18_Keep : Nat := 17
def c_ref18_Keep_L0 : Cd :=
 (.seq (.seq (.rg [⟨none, [(some 27, .mv (.t 12)), (some 28, .bin .lss (.t 27) (.c (.int .i64 8)))]⟩] [1, 4, 7, 8, 9, 10, 11, 12, 28])
 (.ite (.t 28)
 .skip
 (.exit 2)))
 (.seq (.block 3 (.seq (.rgq [⟨none, [(some 31, .mv (.t 10)), (some 32, .un .not (.t 31)), (some 33, .mv (.t 32))]⟩, ⟨some (33, false), [(some 34, .mv (.t 11)), (some 35, .mv (.t 12)), (some 36, .idxA (.t 7) (.t 34) 8 8), (some 37, .idxA (.t 36) (.t 35) 8 1), (some 38, .ld (.t 37) 1 false), (some 39, .mv (.t 12)), (some 40, .idxA (.t 9) (.t 39) 8 1), (some 41, .ld (.t 40) 1 false)]⟩] [⟨some (33, false), [(some 42, .bin .lss (.t 38) (.t 41))]⟩, ⟨none, [(some 43, .pick (.t 33) (.c (.bool true)) (.t 42))]⟩] [1, 4, 7, 8, 9, 10, 11, 12, 43])
 (.ite (.t 43)
 (.rg [⟨none, [(some 44, .mv (.t 12)), (some 45, .mv (.t 11)), (some 46, .mv (.t 12)), (some 47, .idxA (.t 7) (.t 45) 8 8), (some 48, .idxA (.t 47) (.t 46) 8 1), (some 49, .ld (.t 48) 1 false), (some 50, .idxA (.t 9) (.t 44) 8 1), (none, .st (.t 50) (.t 49) 1)]⟩] [1, 4, 7, 8, 9, 10, 11, 12])
 .skip)))
 (.rg [⟨none, [(some 29, .mv (.t 12)), (some 30, .bin .add (.t 29) (.c (.int .i64 1))), (some 12, .mv (.t 30))]⟩] [1, 4, 7, 8, 9, 10, 11, 12])))
def c_ref18_Keep_L1 : Cd :=
 (.seq (.seq (.rg [⟨none, [(some 14, .mv (.t 11)), (some 15, .bin .lss (.t 14) (.c (.int .i64 8)))]⟩] [1, 4, 7, 8, 9, 10, 11, 15])
 (.ite (.t 15)
 .skip
 (.exit 0)))
 (.seq (.block 1 (.seq (.seq (.rg [⟨none, [(some 18, .mv (.t 11)), (some 19, .mv (.t 1)), (some 20, .bin .eql (.t 18) (.t 19)), (some 21, .mv (.t 20))]⟩, ⟨some (21, false), [(some 22, .ld (.t 4) 25 true), (some 23, .mv (.t 11)), (some 24, .call 22 [(.t 22), (.t 23)]), (some 25, .un .not (.t 24))]⟩, ⟨none, [(some 26, .pick (.t 21) (.c (.bool true)) (.t 25))]⟩] [1, 4, 7, 8, 9, 10, 11, 26])
 (.ite (.t 26)
 (.exit 1)
 .skip))
 (.seq (.seq (.rg [⟨none, [(some 12, .mv (.c (.int .i64 0)))]⟩] [1, 4, 7, 8, 9, 10, 11, 12])
 (.block 2 (.loop c_ref18_Keep_L0)))
 (.rg [⟨none, [(some 10, .mv (.c (.bool true)))]⟩] [1, 4, 7, 8, 9, 10, 11]))))
 (.rg [⟨none, [(some 16, .mv (.t 11)), (some 17, .bin .add (.t 16) (.c (.int .i64 1))), (some 11, .mv (.t 17))]⟩] [1, 4, 7, 8, 9, 10, 11])))
def c_ref18_Keep : Cd :=
 (.seq (.rg [⟨none, [(some 4, .box 26 (.t 0)), (some 6, .box 24 (.t 2)), (some 7, .box 27 (.t 3)), (some 8, .new 24 (.ar 8 1 fun _ => (.s (.int .i64 0))))]⟩] [1, 4, 6, 7, 8])
 (.seq (.rg [⟨none, [(some 13, .ld (.t 6) 8 true), (some 9, .new 24 (.ar 8 1 fun _ => (.s (.int .i64 0)))), (none, .st (.t 9) (.t 13) 8)]⟩] [1, 4, 7, 8, 9])
 (.seq (.rg [⟨none, [(some 10, .mv (.c (.bool false)))]⟩] [1, 4, 7, 8, 9, 10])
 (.seq (.seq (.rg [⟨none, [(some 11, .mv (.c (.int .i64 0)))]⟩] [1, 4, 7, 8, 9, 10, 11])
 (.block 0 (.loop c_ref18_Keep_L1)))
 (.seq (.rg [⟨none, [(some 51, .ld (.t 9) 8 true), (none, .st (.t 8) (.t 51) 8)]⟩] [8])
 .ret)))))
theorem k_ref18_Keep : Ok Try.prog 17 c_ref18_Keep 52 [(10, 11)] [.cell 8 8 true] := Ok.mk' Try.func17 (by kernel_rfl) (by kernel_rfl) (by kernel_rfl)

abbrev f_stable_Everywhere : Nat := 18
def c_stable_Everywhere_L0 : Cd :=
 (.seq (.rg [⟨none, [(some 28, .bin .lss (.t 27) (.c (.int .i64 8)))]⟩] [1, 4, 5, 6, 9, 27, 28])
 (.seq (.ite (.t 28)
 .skip
 (.exit 0))
 (.seq (.block 1 (.seq (.rg [⟨none, [(some 29, .mv (.t 27)), (some 13, .mv (.t 29))]⟩] [1, 4, 5, 6, 9, 13, 27])
 (.seq (.rg [⟨none, [(some 30, .mv (.t 13)), (some 31, .mv (.t 1)), (some 32, .bin .neq (.t 30) (.t 31)), (some 33, .mv (.t 32))]⟩, ⟨some (33, true), [(some 34, .ld (.t 6) 25 true), (some 35, .mv (.t 13)), (some 36, .call 20 [(.t 34), (.t 35)])]⟩, ⟨none, [(some 37, .pick (.t 33) (.t 36) (.c (.bool false))), (some 38, .mv (.t 37))]⟩, ⟨some (38, true), [(some 39, .mv (.t 13)), (some 40, .mv (.t 4)), (some 41, .idxA (.t 9) (.t 39) 8 8), (some 42, .idxA (.t 41) (.t 40) 8 1), (some 43, .ld (.t 42) 1 false), (some 44, .mv (.t 5)), (some 45, .bin .lss (.t 43) (.t 44))]⟩, ⟨none, [(some 46, .pick (.t 38) (.t 45) (.c (.bool false)))]⟩] [1, 4, 5, 6, 9, 27, 46])
 (.ite (.t 46)
 (.seq (.rg [⟨none, [(some 12, .mv (.c (.bool false)))]⟩] [12])
 .ret)
 .skip))))
 (.rg [⟨none, [(some 47, .bin .add (.t 27) (.c (.int .i64 1))), (some 27, .mv (.t 47))]⟩] [1, 4, 5, 6, 9, 27]))))
def c_stable_Everywhere : Cd :=
 (.seq (.rg [⟨none, [(some 6, .box 26 (.t 0)), (some 8, .box 24 (.t 2)), (some 9, .box 27 (.t 3)), (some 12, .mv (.c (.bool false)))]⟩] [1, 4, 5, 6, 8, 9])
 (.seq (.seq (.rg [⟨none, [(some 14, .mv (.t 4)), (some 15, .bin .lss (.t 14) (.c (.int .i64 0))), (some 16, .mv (.t 15))]⟩, ⟨some (16, false), [(some 17, .mv (.t 4)), (some 18, .bin .geq (.t 17) (.c (.int .i64 8)))]⟩, ⟨none, [(some 19, .pick (.t 16) (.c (.bool true)) (.t 18)), (some 20, .mv (.t 19))]⟩, ⟨some (20, false), [(some 21, .mv (.t 4)), (some 22, .idxA (.t 8) (.t 21) 8 1), (some 23, .ld (.t 22) 1 false), (some 24, .mv (.t 5)), (some 25, .bin .lss (.t 23) (.t 24))]⟩, ⟨none, [(some 26, .pick (.t 20) (.c (.bool true)) (.t 25))]⟩] [1, 4, 5, 6, 9, 26])
 (.ite (.t 26)
 (.seq (.rg [⟨none, [(some 12, .mv (.c (.bool false)))]⟩] [12])
 .ret)
 .skip))
 (.seq (.seq (.rg [⟨none, [(some 27, .mv (.c (.int .i64 0)))]⟩] [1, 4, 5, 6, 9, 27])
 (.block 0 (.loop c_stable_Everywhere_L0)))
 (.seq (.rg [⟨none, [(some 12, .mv (.c (.bool true)))]⟩] [12])
 .ret))))
theorem k_stable_Everywhere : Ok Try.prog 18 c_stable_Everywhere 48 [] [.tmp 12] := Ok.mk' Try.func18 (by kernel_rfl) (by kernel_rfl) (by kernel_rfl)

abbrev f_ref18_Everywhere : Nat := 19
def c_ref18_Everywhere_L0 : Cd :=
 (.seq (.seq (.rg [⟨none, [(some 27, .mv (.t 13)), (some 28, .bin .lss (.t 27) (.c (.int .i64 8)))]⟩] [1, 4, 5, 6, 9, 13, 28])
 (.ite (.t 28)
 .skip
 (.exit 0)))
 (.seq (.block 1 (.seq (.rg [⟨none, [(some 31, .mv (.t 13)), (some 32, .mv (.t 1)), (some 33, .bin .neq (.t 31) (.t 32)), (some 34, .mv (.t 33))]⟩, ⟨some (34, true), [(some 35, .ld (.t 6) 25 true), (some 36, .mv (.t 13)), (some 37, .call 22 [(.t 35), (.t 36)])]⟩, ⟨none, [(some 38, .pick (.t 34) (.t 37) (.c (.bool false))), (some 39, .mv (.t 38))]⟩, ⟨some (39, true), [(some 40, .mv (.t 13)), (some 41, .mv (.t 4)), (some 42, .idxA (.t 9) (.t 40) 8 8), (some 43, .idxA (.t 42) (.t 41) 8 1), (some 44, .ld (.t 43) 1 false), (some 45, .mv (.t 5)), (some 46, .bin .lss (.t 44) (.t 45))]⟩, ⟨none, [(some 47, .pick (.t 39) (.t 46) (.c (.bool false)))]⟩] [1, 4, 5, 6, 9, 13, 47])
 (.ite (.t 47)
 (.seq (.rg [⟨none, [(some 12, .mv (.c (.bool false)))]⟩] [12])
 .ret)
 .skip)))
 (.rg [⟨none, [(some 29, .mv (.t 13)), (some 30, .bin .add (.t 29) (.c (.int .i64 1))), (some 13, .mv (.t 30))]⟩] [1, 4, 5, 6, 9, 13])))
def c_ref18_Everywhere : Cd :=
 (.seq (.rg [⟨none, [(some 6, .box 26 (.t 0)), (some 8, .box 24 (.t 2)), (some 9, .box 27 (.t 3)), (some 12, .mv (.c (.bool false)))]⟩] [1, 4, 5, 6, 8, 9])
 (.seq (.seq (.rg [⟨none, [(some 14, .mv (.t 4)), (some 15, .bin .lss (.t 14) (.c (.int .i64 0))), (some 16, .mv (.t 15))]⟩, ⟨some (16, false), [(some 17, .mv (.t 4)), (some 18, .bin .geq (.t 17) (.c (.int .i64 8)))]⟩, ⟨none, [(some 19, .pick (.t 16) (.c (.bool true)) (.t 18)), (some 20, .mv (.t 19))]⟩, ⟨some (20, false), [(some 21, .mv (.t 4)), (some 22, .idxA (.t 8) (.t 21) 8 1), (some 23, .ld (.t 22) 1 false), (some 24, .mv (.t 5)), (some 25, .bin .lss (.t 23) (.t 24))]⟩, ⟨none, [(some 26, .pick (.t 20) (.c (.bool true)) (.t 25))]⟩] [1, 4, 5, 6, 9, 26])
 (.ite (.t 26)
 (.seq (.rg [⟨none, [(some 12, .mv (.c (.bool false)))]⟩] [12])
 .ret)
 .skip))
 (.seq (.seq (.rg [⟨none, [(some 13, .mv (.c (.int .i64 0)))]⟩] [1, 4, 5, 6, 9, 13])
 (.block 0 (.loop c_ref18_Everywhere_L0)))
 (.seq (.rg [⟨none, [(some 12, .mv (.c (.bool true)))]⟩] [12])
 .ret))))
theorem k_ref18_Everywhere : Ok Try.prog 19 c_ref18_Everywhere 48 [] [.tmp 12] := Ok.mk' Try.func19 (by kernel_rfl) (by kernel_rfl) (by kernel_rfl)

abbrev f_law18_StableBounds : Nat := 3
def c_law18_StableBounds : Cd :=
 (.seq (.rg [⟨none, [(some 1, .box 29 (.t 0)), (some 2, .mv (.c (.bool false)))]⟩] [1])
 (.seq (.rgq [⟨none, [(some 3, .call 8 []), (some 4, .mv (.t 3))]⟩, ⟨some (4, true), [(some 5, .fldA (.t 1) 0 0), (some 6, .ld (.t 5) 25 true), (some 7, .fldA (.t 1) 1 25), (some 8, .ld (.t 7) 1 false), (some 9, .fldA (.t 1) 2 26), (some 10, .ld (.t 9) 8 true), (some 11, .fldA (.t 1) 5 50), (some 12, .ld (.t 11) 8 true), (some 13, .fldA (.t 1) 6 58), (some 14, .ld (.t 13) 1 false), (some 15, .call 9 [(.t 6), (.t 8), (.t 10), (.t 12), (.t 14)]), (some 16, .fldA (.t 1) 0 0), (some 17, .ld (.t 16) 25 true), (some 18, .fldA (.t 1) 1 25), (some 19, .ld (.t 18) 1 false), (some 20, .fldA (.t 1) 2 26), (some 21, .ld (.t 20) 8 true), (some 22, .fldA (.t 1) 5 50), (some 23, .ld (.t 22) 8 true), (some 24, .fldA (.t 1) 6 58), (some 25, .ld (.t 24) 1 false), (some 26, .call 10 [(.t 17), (.t 19), (.t 21), (.t 23), (.t 25)]), (some 27, .bin .eql (.t 15) (.t 26))]⟩, ⟨none, [(some 28, .pick (.t 4) (.t 27) (.c (.bool false))), (some 29, .mv (.t 28))]⟩, ⟨some (29, true), [(some 30, .fldA (.t 1) 2 26), (some 31, .ld (.t 30) 8 true), (some 32, .fldA (.t 1) 3 34), (some 33, .ld (.t 32) 8 true), (some 34, .fldA (.t 1) 4 42), (some 35, .ld (.t 34) 8 true), (some 36, .fldA (.t 1) 5 50), (some 37, .ld (.t 36) 8 true), (some 38, .call 11 [(.t 31), (.t 33), (.t 35), (.t 37)]), (some 39, .fldA (.t 1) 2 26), (some 40, .ld (.t 39) 8 true), (some 41, .fldA (.t 1) 3 34), (some 42, .ld (.t 41) 8 true), (some 43, .fldA (.t 1) 4 42), (some 44, .ld (.t 43) 8 true), (some 45, .fldA (.t 1) 5 50), (some 46, .ld (.t 45) 8 true)]⟩] [⟨some (29, true), [(some 47, .call 12 [(.t 40), (.t 42), (.t 44), (.t 46)]), (some 48, .eqA false 24 (.t 38) (.t 47))]⟩, ⟨none, [(some 49, .pick (.t 29) (.t 48) (.c (.bool false))), (some 2, .mv (.t 49))]⟩] [2])
 .ret))
theorem k_law18_StableBounds : Ok Try.prog 3 c_law18_StableBounds 50 [(1, 44)] [.tmp 2] := Ok.mk' Try.func3 (by kernel_rfl) (by kernel_rfl) (by kernel_rfl)

abbrev f_law18_StableCuts : Nat := 5
def c_law18_StableCuts_L0 : Cd :=
 (.seq (.rg [⟨none, [(some 41, .bin .lss (.t 40) (.t 39))]⟩] [0, 1, 5, 6, 7, 8, 39, 40, 41])
 (.seq (.ite (.t 41)
 .skip
 (.exit 0))
 (.seq (.block 1 (.seq (.rg [⟨none, [(some 42, .mv (.t 40)), (some 9, .mv (.t 42))]⟩] [0, 1, 5, 6, 7, 8, 9, 39, 40])
 (.rg [⟨none, [(some 43, .mv (.t 5)), (some 44, .mv (.t 9)), (some 45, .idxS (.t 43) (.t 44) 8), (some 46, .fldA (.t 45) 2 3), (none, .st (.t 46) (.c (.int .i64 (-9))) 1)]⟩] [0, 1, 5, 6, 7, 8, 39, 40])))
 (.rg [⟨none, [(some 47, .bin .add (.t 40) (.c (.int .i64 1))), (some 40, .mv (.t 47))]⟩] [0, 1, 5, 6, 7, 8, 39, 40]))))
def c_law18_StableCuts : Cd :=
 (.seq (.rg [⟨none, [(some 4, .mv (.c (.bool false)))]⟩] [0, 1])
 (.seq (.rg [⟨none, [(some 13, .mv (.t 0)), (some 14, .mv (.t 1)), (some 15, .call 13 [(.t 13), (.t 14)]), (some 12, .mv (.t 15)), (some 16, .ext (.t 12) 0), (some 17, .ext (.t 12) 1), (some 5, .mv (.t 16)), (some 6, .mv (.t 17)), (none, .gh), (none, .gh)]⟩] [0, 1, 5, 6])
 (.seq (.rg [⟨none, [(some 19, .mv (.t 0)), (some 20, .mv (.t 1)), (some 21, .call 14 [(.t 19), (.t 20)]), (some 18, .mv (.t 21)), (some 22, .ext (.t 18) 0), (some 23, .ext (.t 18) 1), (some 7, .mv (.t 22)), (some 8, .mv (.t 23)), (none, .gh), (none, .gh)]⟩] [0, 1, 5, 6, 7, 8])
 (.seq (.seq (.rg [⟨none, [(some 24, .call 8 []), (some 25, .un .not (.t 24)), (some 26, .mv (.t 25))]⟩, ⟨some (26, false), [(some 27, .mv (.t 5)), (some 28, .mv (.t 7)), (some 29, .call 15 [(.t 27), (.t 28)]), (some 30, .un .not (.t 29))]⟩, ⟨none, [(some 31, .pick (.t 26) (.c (.bool true)) (.t 30)), (some 32, .mv (.t 31))]⟩, ⟨some (32, false), [(some 33, .mv (.t 6)), (some 34, .mv (.t 8)), (some 35, .call 15 [(.t 33), (.t 34)]), (some 36, .un .not (.t 35))]⟩, ⟨none, [(some 37, .pick (.t 32) (.c (.bool true)) (.t 36))]⟩] [0, 1, 5, 6, 7, 8, 37])
 (.ite (.t 37)
 (.seq (.rg [⟨none, [(some 4, .mv (.c (.bool false)))]⟩] [4])
 .ret)
 .skip))
 (.seq (.seq (.rg [⟨none, [(some 38, .mv (.t 5)), (some 39, .len (.t 38)), (some 40, .mv (.c (.int .i64 0)))]⟩] [0, 1, 5, 6, 7, 8, 39, 40])
 (.block 0 (.loop c_law18_StableCuts_L0)))
 (.seq (.rg [⟨none, [(some 48, .mv (.t 6)), (some 49, .bld (.c (.c (.s (.int .i64 0)) (.c (.s (.int .i64 0)) .u)) (.c (.s (.int .i64 0)) (.c (.s (.int .i64 0)) (.c (.s (.int .i64 0)) (.c (.s (.string ⟨#[]⟩)) (.c (.s (.string ⟨#[]⟩)) (.c (.s (.string ⟨#[]⟩)) .u))))))) []), (some 50, .bldS 48 8 (.c (.c (.s (.int .i64 0)) (.c (.s (.int .i64 0)) .u)) (.c (.s (.int .i64 0)) (.c (.s (.int .i64 0)) (.c (.s (.int .i64 0)) (.c (.s (.string ⟨#[]⟩)) (.c (.s (.string ⟨#[]⟩)) (.c (.s (.string ⟨#[]⟩)) .u))))))) [(.t 49)]), (some 51, .app 48 8 88 (.c (.c (.s (.int .i64 0)) (.c (.s (.int .i64 0)) .u)) (.c (.s (.int .i64 0)) (.c (.s (.int .i64 0)) (.c (.s (.int .i64 0)) (.c (.s (.string ⟨#[]⟩)) (.c (.s (.string ⟨#[]⟩)) (.c (.s (.string ⟨#[]⟩)) .u))))))) (.t 48) (.t 50)), (some 6, .mv (.t 51))]⟩] [0, 1, 6, 7, 8])
 (.seq (.rg [⟨none, [(some 53, .mv (.t 0)), (some 54, .mv (.t 1)), (some 55, .call 13 [(.t 53), (.t 54)]), (some 52, .mv (.t 55)), (some 56, .ext (.t 52) 0), (some 57, .ext (.t 52) 1), (some 10, .mv (.t 56)), (some 11, .mv (.t 57)), (none, .gh)]⟩] [6, 7, 8, 10])
 (.seq (.rg [⟨none, [(some 58, .mv (.t 10)), (some 59, .mv (.t 7)), (some 60, .call 15 [(.t 58), (.t 59)]), (some 61, .mv (.t 60))]⟩, ⟨some (61, true), [(some 62, .mv (.t 6)), (some 63, .len (.t 62)), (some 64, .mv (.t 8)), (some 65, .len (.t 64)), (some 66, .bin .add (.t 65) (.c (.int .i64 1))), (some 67, .bin .eql (.t 63) (.t 66))]⟩, ⟨none, [(some 68, .pick (.t 61) (.t 67) (.c (.bool false))), (some 4, .mv (.t 68))]⟩] [4])
 .ret))))))))
theorem k_law18_StableCuts : Ok Try.prog 5 c_law18_StableCuts 69 [] [.tmp 4] := Ok.mk' Try.func5 (by kernel_rfl) (by kernel_rfl) (by kernel_rfl)

abbrev f_law18_StableKeeps : Nat := 6
def c_law18_StableKeeps : Cd :=
 (.seq (.rg [⟨none, [(some 3, .box 29 (.t 0)), (some 6, .mv (.c (.bool false)))]⟩] [1, 2, 3])
 (.seq (.rgq [⟨none, [(some 7, .call 8 []), (some 8, .mv (.t 7))]⟩, ⟨some (8, true), [(some 9, .fldA (.t 3) 0 0), (some 10, .ld (.t 9) 25 true), (some 11, .fldA (.t 3) 1 25), (some 12, .ld (.t 11) 1 false), (some 13, .fldA (.t 3) 2 26), (some 14, .ld (.t 13) 8 true), (some 15, .fldA (.t 3) 7 59), (some 16, .ld (.t 15) 64 true), (some 17, .call 16 [(.t 10), (.t 12), (.t 14), (.t 16)]), (some 18, .fldA (.t 3) 0 0), (some 19, .ld (.t 18) 25 true), (some 20, .fldA (.t 3) 1 25), (some 21, .ld (.t 20) 1 false), (some 22, .fldA (.t 3) 2 26), (some 23, .ld (.t 22) 8 true), (some 24, .fldA (.t 3) 7 59), (some 25, .ld (.t 24) 64 true), (some 26, .call 17 [(.t 19), (.t 21), (.t 23), (.t 25)]), (some 27, .eqA false 24 (.t 17) (.t 26))]⟩, ⟨none, [(some 28, .pick (.t 8) (.t 27) (.c (.bool false))), (some 29, .mv (.t 28))]⟩, ⟨some (29, true), [(some 30, .fldA (.t 3) 0 0), (some 31, .ld (.t 30) 25 true), (some 32, .fldA (.t 3) 1 25), (some 33, .ld (.t 32) 1 false), (some 34, .fldA (.t 3) 2 26), (some 35, .ld (.t 34) 8 true), (some 36, .fldA (.t 3) 7 59), (some 37, .ld (.t 36) 64 true), (some 38, .mv (.t 1)), (some 39, .mv (.t 2)), (some 40, .call 18 [(.t 31), (.t 33), (.t 35), (.t 37), (.t 38), (.t 39)]), (some 41, .fldA (.t 3) 0 0), (some 42, .ld (.t 41) 25 true), (some 43, .fldA (.t 3) 1 25), (some 44, .ld (.t 43) 1 false), (some 45, .fldA (.t 3) 2 26), (some 46, .ld (.t 45) 8 true), (some 47, .fldA (.t 3) 7 59), (some 48, .ld (.t 47) 64 true), (some 49, .mv (.t 1)), (some 50, .mv (.t 2))]⟩] [⟨some (29, true), [(some 51, .call 19 [(.t 42), (.t 44), (.t 46), (.t 48), (.t 49), (.t 50)]), (some 52, .eqA false 4 (.t 40) (.t 51))]⟩, ⟨none, [(some 53, .pick (.t 29) (.t 52) (.c (.bool false))), (some 6, .mv (.t 53))]⟩] [6])
 .ret))
theorem k_law18_StableKeeps : Ok Try.prog 6 c_law18_StableKeeps 54 [(1, 44)] [.tmp 6] := Ok.mk' Try.func6 (by kernel_rfl) (by kernel_rfl) (by kernel_rfl)

end Go.Proofs.Ytnpkbgpaifpnmaa.Vc
