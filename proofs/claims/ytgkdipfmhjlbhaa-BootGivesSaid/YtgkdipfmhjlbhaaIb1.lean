/- The code of some functions of the program, its types resolved: printed by a program of this claim. -/
import Derived.Test.YtgkdipfmhjlbhaaVc10
import Derived.Test.YtgkdipfmhjlbhaaProg
set_option linter.unusedVariables false
set_option maxRecDepth 100000
namespace Go.Proofs.Ytgkdipfmhjlbhaa.Vc
open Go Go.Proofs

abbrev f_boot_Check : Nat := 25
def c_boot_Check : Cd :=
 (.seq (.rg [⟨none, [(some 1, .box 43 (.t 0)), (some 2, .mv (.c (.bool false)))]⟩] [1])
 (.seq (.seq (.rg [⟨none, [(some 3, .fldA (.t 1) 0 0), (some 4, .ld (.t 3) 1 false), (some 5, .bin .lss (.t 4) (.c (.int .i64 1))), (some 6, .mv (.t 5))]⟩, ⟨some (6, false), [(some 7, .fldA (.t 1) 0 0), (some 8, .ld (.t 7) 1 false), (some 9, .bin .gtr (.t 8) (.c (.int .i64 1099511627776)))]⟩, ⟨none, [(some 10, .pick (.t 6) (.c (.bool true)) (.t 9)), (some 11, .mv (.t 10))]⟩, ⟨some (11, false), [(some 12, .fldA (.t 1) 2 2), (some 13, .ld (.t 12) 1 false), (some 14, .bin .lss (.t 13) (.c (.int .i64 1)))]⟩, ⟨none, [(some 15, .pick (.t 11) (.c (.bool true)) (.t 14)), (some 16, .mv (.t 15))]⟩, ⟨some (16, false), [(some 17, .fldA (.t 1) 2 2), (some 18, .ld (.t 17) 1 false), (some 19, .bin .gtr (.t 18) (.c (.int .i64 2048)))]⟩, ⟨none, [(some 20, .pick (.t 16) (.c (.bool true)) (.t 19)), (some 21, .mv (.t 20))]⟩, ⟨some (21, false), [(some 22, .fldA (.t 1) 1 1), (some 23, .ld (.t 22) 1 false), (some 24, .bin .lss (.t 23) (.c (.int .i64 0)))]⟩, ⟨none, [(some 25, .pick (.t 21) (.c (.bool true)) (.t 24)), (some 26, .mv (.t 25))]⟩, ⟨some (26, false), [(some 27, .fldA (.t 1) 1 1), (some 28, .ld (.t 27) 1 false), (some 29, .fldA (.t 1) 2 2), (some 30, .ld (.t 29) 1 false), (some 31, .bin .geq (.t 28) (.t 30))]⟩, ⟨none, [(some 32, .pick (.t 26) (.c (.bool true)) (.t 31))]⟩] [1, 32])
 (.ite (.t 32)
 (.seq (.rg [⟨none, [(some 2, .mv (.c (.bool false)))]⟩] [2])
 .ret)
 .skip))
 (.seq (.seq (.rg [⟨none, [(some 33, .fldA (.t 1) 1 1), (some 34, .ld (.t 33) 1 false), (some 35, .fldA (.t 1) 2 2), (some 36, .ld (.t 35) 1 false), (some 37, .bin .sub (.t 36) (.c (.int .i64 1))), (some 38, .bin .eql (.t 34) (.t 37))]⟩] [1, 38])
 (.ite (.t 38)
 (.seq (.rg [⟨none, [(some 39, .fldA (.t 1) 3 3), (some 40, .ld (.t 39) 1 false), (some 41, .len (.t 40)), (some 42, .bin .geq (.t 41) (.c (.int .i64 1))), (some 43, .mv (.t 42))]⟩, ⟨some (43, true), [(some 44, .fldA (.t 1) 3 3), (some 45, .ld (.t 44) 1 false), (some 46, .len (.t 45)), (some 47, .bin .leq (.t 46) (.c (.int .i64 512)))]⟩, ⟨none, [(some 48, .pick (.t 43) (.t 47) (.c (.bool false))), (some 2, .mv (.t 48))]⟩] [2])
 .ret)
 .skip))
 (.seq (.rg [⟨none, [(some 49, .fldA (.t 1) 3 3), (some 50, .ld (.t 49) 1 false), (some 51, .len (.t 50)), (some 52, .bin .eql (.t 51) (.c (.int .i64 512))), (some 2, .mv (.t 52))]⟩] [2])
 .ret))))
theorem k_boot_Check : Ok Try.prog 25 c_boot_Check 53 [] [.tmp 2] := Ok.mk' Try.func25 (by kernel_rfl) (by kernel_rfl) (by kernel_rfl)

abbrev f_ref19_Check : Nat := 26
def c_ref19_Check : Cd :=
 (.seq (.rg [⟨none, [(some 1, .box 43 (.t 0)), (some 2, .mv (.c (.bool false)))]⟩] [1])
 (.seq (.seq (.rg [⟨none, [(some 3, .fldA (.t 1) 0 0), (some 4, .ld (.t 3) 1 false), (some 5, .bin .lss (.t 4) (.c (.int .i64 1))), (some 6, .mv (.t 5))]⟩, ⟨some (6, false), [(some 7, .fldA (.t 1) 0 0), (some 8, .ld (.t 7) 1 false), (some 9, .bin .gtr (.t 8) (.c (.int .i64 1099511627776)))]⟩, ⟨none, [(some 10, .pick (.t 6) (.c (.bool true)) (.t 9)), (some 11, .mv (.t 10))]⟩, ⟨some (11, false), [(some 12, .fldA (.t 1) 2 2), (some 13, .ld (.t 12) 1 false), (some 14, .bin .lss (.t 13) (.c (.int .i64 1)))]⟩, ⟨none, [(some 15, .pick (.t 11) (.c (.bool true)) (.t 14)), (some 16, .mv (.t 15))]⟩, ⟨some (16, false), [(some 17, .fldA (.t 1) 2 2), (some 18, .ld (.t 17) 1 false), (some 19, .bin .gtr (.t 18) (.c (.int .i64 2048)))]⟩, ⟨none, [(some 20, .pick (.t 16) (.c (.bool true)) (.t 19)), (some 21, .mv (.t 20))]⟩, ⟨some (21, false), [(some 22, .fldA (.t 1) 1 1), (some 23, .ld (.t 22) 1 false), (some 24, .bin .lss (.t 23) (.c (.int .i64 0)))]⟩, ⟨none, [(some 25, .pick (.t 21) (.c (.bool true)) (.t 24)), (some 26, .mv (.t 25))]⟩, ⟨some (26, false), [(some 27, .fldA (.t 1) 1 1), (some 28, .ld (.t 27) 1 false), (some 29, .fldA (.t 1) 2 2), (some 30, .ld (.t 29) 1 false), (some 31, .bin .geq (.t 28) (.t 30))]⟩, ⟨none, [(some 32, .pick (.t 26) (.c (.bool true)) (.t 31))]⟩] [1, 32])
 (.ite (.t 32)
 (.seq (.rg [⟨none, [(some 2, .mv (.c (.bool false)))]⟩] [2])
 .ret)
 .skip))
 (.seq (.seq (.rg [⟨none, [(some 33, .fldA (.t 1) 1 1), (some 34, .ld (.t 33) 1 false), (some 35, .fldA (.t 1) 2 2), (some 36, .ld (.t 35) 1 false), (some 37, .bin .sub (.t 36) (.c (.int .i64 1))), (some 38, .bin .lss (.t 34) (.t 37))]⟩] [1, 38])
 (.ite (.t 38)
 (.seq (.rg [⟨none, [(some 39, .fldA (.t 1) 3 3), (some 40, .ld (.t 39) 1 false), (some 41, .len (.t 40)), (some 42, .bin .eql (.t 41) (.c (.int .i64 512))), (some 2, .mv (.t 42))]⟩] [2])
 .ret)
 .skip))
 (.seq (.rg [⟨none, [(some 43, .fldA (.t 1) 3 3), (some 44, .ld (.t 43) 1 false), (some 45, .len (.t 44)), (some 46, .bin .geq (.t 45) (.c (.int .i64 1))), (some 47, .mv (.t 46))]⟩, ⟨some (47, true), [(some 48, .fldA (.t 1) 3 3), (some 49, .ld (.t 48) 1 false), (some 50, .len (.t 49)), (some 51, .bin .leq (.t 50) (.c (.int .i64 512)))]⟩, ⟨none, [(some 52, .pick (.t 47) (.t 51) (.c (.bool false))), (some 2, .mv (.t 52))]⟩] [2])
 .ret))))
theorem k_ref19_Check : Ok Try.prog 26 c_ref19_Check 53 [] [.tmp 2] := Ok.mk' Try.func26 (by kernel_rfl) (by kernel_rfl) (by kernel_rfl)

abbrev f_boot_goes : Nat := 30
def c_boot_goes_L0 : Cd :=
 (.seq (.rg [⟨none, [(some 8, .bin .lss (.t 7) (.t 6))]⟩] [0, 5, 6, 7, 8])
 (.seq (.ite (.t 8)
 .skip
 (.exit 0))
 (.seq (.block 1 (.seq (.rg [⟨none, [(some 9, .mv (.t 7)), (some 10, .idxS (.t 5) (.t 7) 4), (some 11, .ld (.t 10) 4 true), (some 4, .new 43 (.c (.s (.int .i64 0)) (.c (.s (.int .i64 0)) (.c (.s (.int .i64 0)) (.c (.s (.slice none 0 0)) .u))))), (some 3, .mv (.t 9)), (none, .st (.t 4) (.t 11) 4)]⟩] [0, 3, 4, 5, 6, 7])
 (.seq (.rgq [⟨none, [(some 12, .ld (.t 4) 4 true), (some 13, .call 25 [(.t 12)]), (some 14, .un .not (.t 13)), (some 15, .mv (.t 14))]⟩, ⟨some (15, false), [(some 16, .fldA (.t 4) 0 0), (some 17, .ld (.t 16) 1 false), (some 18, .mv (.t 0)), (some 19, .idxS (.t 18) (.c (.int .i64 0)) 4), (some 20, .fldA (.t 19) 0 0), (some 21, .ld (.t 20) 1 false), (some 22, .bin .neq (.t 17) (.t 21))]⟩, ⟨none, [(some 23, .pick (.t 15) (.c (.bool true)) (.t 22)), (some 24, .mv (.t 23))]⟩, ⟨some (24, false), [(some 25, .fldA (.t 4) 2 2), (some 26, .ld (.t 25) 1 false), (some 27, .mv (.t 0)), (some 28, .idxS (.t 27) (.c (.int .i64 0)) 4), (some 29, .fldA (.t 28) 2 2), (some 30, .ld (.t 29) 1 false), (some 31, .bin .neq (.t 26) (.t 30))]⟩, ⟨none, [(some 32, .pick (.t 24) (.c (.bool true)) (.t 31)), (some 33, .mv (.t 32))]⟩, ⟨some (33, false), [(some 34, .fldA (.t 4) 1 1), (some 35, .ld (.t 34) 1 false), (some 36, .mv (.t 3))]⟩] [⟨some (33, false), [(some 37, .bin .neq (.t 35) (.t 36))]⟩, ⟨none, [(some 38, .pick (.t 33) (.c (.bool true)) (.t 37))]⟩] [0, 5, 6, 7, 38])
 (.ite (.t 38)
 (.seq (.rg [⟨none, [(some 2, .mv (.c (.bool false)))]⟩] [2])
 .ret)
 .skip))))
 (.rg [⟨none, [(some 39, .bin .add (.t 7) (.c (.int .i64 1))), (some 7, .mv (.t 39))]⟩] [0, 5, 6, 7]))))
def c_boot_goes : Cd :=
 (.seq (.rg [⟨none, [(some 2, .mv (.c (.bool false)))]⟩] [0])
 (.seq (.seq (.rg [⟨none, [(some 5, .mv (.t 0)), (some 6, .len (.t 5)), (some 7, .mv (.c (.int .i64 0)))]⟩] [0, 5, 6, 7])
 (.block 0 (.loop c_boot_goes_L0)))
 (.seq (.rg [⟨none, [(some 2, .mv (.c (.bool true)))]⟩] [2])
 .ret)))
theorem k_boot_goes : Ok Try.prog 30 c_boot_goes 40 [(4, 25)] [.tmp 2] := Ok.mk' Try.func30 (by kernel_rfl) (by kernel_rfl) (by kernel_rfl)

abbrev f_ref19_On : Nat := 33
def c_ref19_On_L0 : Cd :=
 (.seq (.seq (.rg [⟨none, [(some 4, .mv (.t 3)), (some 5, .mv (.t 0)), (some 6, .len (.t 5)), (some 7, .bin .lss (.t 4) (.t 6))]⟩] [0, 3, 7])
 (.ite (.t 7)
 .skip
 (.exit 0)))
 (.seq (.block 1 (.seq (.rgq [⟨none, [(some 10, .mv (.t 0)), (some 11, .mv (.t 3)), (some 12, .idxS (.t 10) (.t 11) 4), (some 13, .ld (.t 12) 4 true), (some 14, .call 26 [(.t 13)]), (some 15, .un .not (.t 14)), (some 16, .mv (.t 15))]⟩, ⟨some (16, false), [(some 17, .mv (.t 0)), (some 18, .mv (.t 3)), (some 19, .idxS (.t 17) (.t 18) 4), (some 20, .fldA (.t 19) 1 1), (some 21, .ld (.t 20) 1 false), (some 22, .mv (.t 3)), (some 23, .bin .neq (.t 21) (.t 22))]⟩, ⟨none, [(some 24, .pick (.t 16) (.c (.bool true)) (.t 23)), (some 25, .mv (.t 24))]⟩, ⟨some (25, false), [(some 26, .mv (.t 0)), (some 27, .mv (.t 3)), (some 28, .idxS (.t 26) (.t 27) 4), (some 29, .fldA (.t 28) 0 0), (some 30, .ld (.t 29) 1 false), (some 31, .mv (.t 0)), (some 32, .idxS (.t 31) (.c (.int .i64 0)) 4), (some 33, .fldA (.t 32) 0 0), (some 34, .ld (.t 33) 1 false), (some 35, .bin .neq (.t 30) (.t 34))]⟩, ⟨none, [(some 36, .pick (.t 25) (.c (.bool true)) (.t 35)), (some 37, .mv (.t 36))]⟩, ⟨some (37, false), [(some 38, .mv (.t 0)), (some 39, .mv (.t 3)), (some 40, .idxS (.t 38) (.t 39) 4), (some 41, .fldA (.t 40) 2 2), (some 42, .ld (.t 41) 1 false), (some 43, .mv (.t 0)), (some 44, .idxS (.t 43) (.c (.int .i64 0)) 4), (some 45, .fldA (.t 44) 2 2), (some 46, .ld (.t 45) 1 false)]⟩] [⟨some (37, false), [(some 47, .bin .neq (.t 42) (.t 46))]⟩, ⟨none, [(some 48, .pick (.t 37) (.c (.bool true)) (.t 47))]⟩] [0, 3, 48])
 (.ite (.t 48)
 (.seq (.rg [⟨none, [(some 2, .mv (.c (.bool false)))]⟩] [2])
 .ret)
 .skip)))
 (.rg [⟨none, [(some 8, .mv (.t 3)), (some 9, .bin .add (.t 8) (.c (.int .i64 1))), (some 3, .mv (.t 9))]⟩] [0, 3])))
def c_ref19_On : Cd :=
 (.seq (.rg [⟨none, [(some 2, .mv (.c (.bool false)))]⟩] [0])
 (.seq (.seq (.rg [⟨none, [(some 3, .mv (.c (.int .i64 0)))]⟩] [0, 3])
 (.block 0 (.loop c_ref19_On_L0)))
 (.seq (.rg [⟨none, [(some 2, .mv (.c (.bool true)))]⟩] [2])
 .ret)))
theorem k_ref19_On : Ok Try.prog 33 c_ref19_On 49 [(4, 37)] [.tmp 2] := Ok.mk' Try.func33 (by kernel_rfl) (by kernel_rfl) (by kernel_rfl)

end Go.Proofs.Ytgkdipfmhjlbhaa.Vc
