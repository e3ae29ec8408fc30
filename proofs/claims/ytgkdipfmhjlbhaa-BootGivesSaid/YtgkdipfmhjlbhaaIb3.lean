/- The code of some functions of the program, its types resolved: printed by a program of this claim. -/
import Derived.Test.YtgkdipfmhjlbhaaVc10
import Derived.Test.YtgkdipfmhjlbhaaProg
set_option linter.unusedVariables false
set_option maxRecDepth 100000
namespace Go.Proofs.Ytgkdipfmhjlbhaa.Vc
open Go Go.Proofs

abbrev f_boot_Add : Nat := 18
def c_boot_Add : Cd :=
 (.seq (.rg [⟨none, [(some 3, .box 43 (.t 1)), (some 4, .mv (.c (.slice none 0 0))), (some 5, .mv (.c (.bool false)))]⟩] [0, 3])
 (.seq (.block 0 (.seq (.rg [⟨none, [(some 7, .ld (.t 3) 4 true), (some 8, .call 25 [(.t 7)]), (some 9, .un .not (.t 8)), (some 10, .mv (.t 9))]⟩, ⟨some (10, false), [(some 11, .mv (.t 0)), (some 12, .call 30 [(.t 11)]), (some 13, .un .not (.t 12))]⟩, ⟨none, [(some 14, .pick (.t 10) (.c (.bool true)) (.t 13)), (some 6, .mv (.t 14))]⟩] [0, 3, 6])
 (.ite (.t 6)
 .skip
 (.seq (.rgq [⟨none, [(some 16, .fldA (.t 3) 1 1), (some 17, .ld (.t 16) 1 false), (some 18, .bin .eql (.t 17) (.c (.int .i64 0))), (some 19, .mv (.t 18))]⟩, ⟨some (19, true), [(some 20, .mv (.t 0)), (some 21, .len (.t 20)), (some 22, .bin .eql (.t 21) (.c (.int .i64 0))), (some 23, .mv (.t 22))]⟩, ⟨some (23, false), [(some 24, .mv (.t 0)), (some 25, .idxS (.t 24) (.c (.int .i64 0)) 4), (some 26, .fldA (.t 25) 0 0), (some 27, .ld (.t 26) 1 false), (some 28, .fldA (.t 3) 0 0), (some 29, .ld (.t 28) 1 false)]⟩] [⟨some (23, false), [(some 30, .bin .lss (.t 27) (.t 29))]⟩, ⟨some (19, true), [(some 31, .pick (.t 23) (.c (.bool true)) (.t 30))]⟩, ⟨none, [(some 32, .pick (.t 19) (.t 31) (.c (.bool false))), (some 15, .mv (.t 32))]⟩] [0, 3, 15])
 (.ite (.t 15)
 (.seq (.rg [⟨none, [(some 33, .ld (.t 3) 4 true), (some 34, .bldS 43 4 (.c (.s (.int .i64 0)) (.c (.s (.int .i64 0)) (.c (.s (.int .i64 0)) (.c (.s (.slice none 0 0)) .u)))) [(.t 33)]), (some 35, .call 31 [(.t 34)]), (some 4, .mv (.t 35)), (some 5, .mv (.c (.bool true)))]⟩] [4, 5])
 .ret)
 (.seq (.rgq [⟨none, [(some 37, .mv (.t 0)), (some 38, .len (.t 37)), (some 39, .bin .gtr (.t 38) (.c (.int .i64 0))), (some 40, .mv (.t 39))]⟩, ⟨some (40, true), [(some 41, .fldA (.t 3) 0 0), (some 42, .ld (.t 41) 1 false), (some 43, .mv (.t 0)), (some 44, .idxS (.t 43) (.c (.int .i64 0)) 4), (some 45, .fldA (.t 44) 0 0), (some 46, .ld (.t 45) 1 false), (some 47, .bin .eql (.t 42) (.t 46))]⟩, ⟨none, [(some 48, .pick (.t 40) (.t 47) (.c (.bool false))), (some 49, .mv (.t 48))]⟩, ⟨some (49, true), [(some 50, .fldA (.t 3) 2 2), (some 51, .ld (.t 50) 1 false), (some 52, .mv (.t 0)), (some 53, .idxS (.t 52) (.c (.int .i64 0)) 4), (some 54, .fldA (.t 53) 2 2), (some 55, .ld (.t 54) 1 false), (some 56, .bin .eql (.t 51) (.t 55))]⟩, ⟨none, [(some 57, .pick (.t 49) (.t 56) (.c (.bool false))), (some 58, .mv (.t 57))]⟩, ⟨some (58, true), [(some 59, .fldA (.t 3) 1 1), (some 60, .ld (.t 59) 1 false), (some 61, .mv (.t 0)), (some 62, .len (.t 61))]⟩] [⟨some (58, true), [(some 63, .bin .eql (.t 60) (.t 62))]⟩, ⟨none, [(some 64, .pick (.t 58) (.t 63) (.c (.bool false))), (some 36, .mv (.t 64))]⟩] [0, 3, 36])
 (.ite (.t 36)
 (.seq (.rga (.op ⟨none, [(some 65, .mv (.t 0))]⟩ (.or (.op ⟨none, [(some 66, .call 31 [(.t 65)])]⟩ (.op ⟨none, [(some 67, .ld (.t 3) 4 true)]⟩ (.op ⟨none, [(some 68, .call 32 [(.t 67)])]⟩ (.op ⟨none, [(some 69, .bldS 43 4 (.c (.s (.int .i64 0)) (.c (.s (.int .i64 0)) (.c (.s (.int .i64 0)) (.c (.s (.slice none 0 0)) .u)))) [(.t 68)])]⟩ (.op ⟨none, [(some 70, .app 43 4 48 (.c (.s (.int .i64 0)) (.c (.s (.int .i64 0)) (.c (.s (.int .i64 0)) (.c (.s (.slice none 0 0)) .u)))) (.t 66) (.t 69))]⟩ (.op ⟨none, [(some 4, .mv (.t 70))]⟩ (.op ⟨none, [(some 5, .mv (.c (.bool true)))]⟩ .done))))))) (.op ⟨none, [(some 67, .ld (.t 3) 4 true)]⟩ (.op ⟨none, [(some 66, .call 31 [(.t 65)])]⟩ (.op ⟨none, [(some 68, .call 32 [(.t 67)])]⟩ (.op ⟨none, [(some 69, .bldS 43 4 (.c (.s (.int .i64 0)) (.c (.s (.int .i64 0)) (.c (.s (.int .i64 0)) (.c (.s (.slice none 0 0)) .u)))) [(.t 68)])]⟩ (.op ⟨none, [(some 70, .app 43 4 48 (.c (.s (.int .i64 0)) (.c (.s (.int .i64 0)) (.c (.s (.int .i64 0)) (.c (.s (.slice none 0 0)) .u)))) (.t 66) (.t 69))]⟩ (.op ⟨none, [(some 4, .mv (.t 70))]⟩ (.op ⟨none, [(some 5, .mv (.c (.bool true)))]⟩ .done))))))))) [4, 5])
 .ret)
 .skip)))))))
 (.seq (.rg [⟨none, [(some 71, .mv (.t 0)), (some 72, .call 31 [(.t 71)]), (some 4, .mv (.t 72)), (some 5, .mv (.c (.bool false)))]⟩] [4, 5])
 .ret)))
theorem k_boot_Add : Ok Try.prog 18 c_boot_Add 73 [(2, 14), (4, 26), (5, 999999)] [.tmp 4, .tmp 5] := Ok.mk' Try.func18 (by kernel_rfl) (by kernel_rfl) (by kernel_rfl)

abbrev f_ref19_Add : Nat := 19
def c_ref19_Add : Cd :=
 (.seq (.rg [⟨none, [(some 3, .box 43 (.t 1)), (some 4, .mv (.c (.slice none 0 0))), (some 5, .mv (.c (.bool false)))]⟩] [0, 3])
 (.seq (.seq (.rg [⟨none, [(some 7, .ld (.t 3) 4 true), (some 8, .call 26 [(.t 7)]), (some 9, .un .not (.t 8)), (some 10, .mv (.t 9))]⟩, ⟨some (10, false), [(some 11, .mv (.t 0)), (some 12, .call 33 [(.t 11)]), (some 13, .un .not (.t 12))]⟩, ⟨none, [(some 14, .pick (.t 10) (.c (.bool true)) (.t 13))]⟩] [0, 3, 14])
 (.ite (.t 14)
 (.seq (.rg [⟨none, [(some 15, .mv (.t 0)), (some 4, .mv (.t 15)), (some 5, .mv (.c (.bool false)))]⟩] [4, 5])
 .ret)
 .skip))
 (.seq (.seq (.rgq [⟨none, [(some 16, .fldA (.t 3) 1 1), (some 17, .ld (.t 16) 1 false), (some 18, .bin .eql (.t 17) (.c (.int .i64 0))), (some 19, .mv (.t 18))]⟩, ⟨some (19, true), [(some 20, .mv (.t 0)), (some 21, .len (.t 20)), (some 22, .bin .eql (.t 21) (.c (.int .i64 0))), (some 23, .mv (.t 22))]⟩, ⟨some (23, false), [(some 24, .mv (.t 0)), (some 25, .idxS (.t 24) (.c (.int .i64 0)) 4), (some 26, .fldA (.t 25) 0 0), (some 27, .ld (.t 26) 1 false), (some 28, .fldA (.t 3) 0 0), (some 29, .ld (.t 28) 1 false)]⟩] [⟨some (23, false), [(some 30, .bin .lss (.t 27) (.t 29))]⟩, ⟨some (19, true), [(some 31, .pick (.t 23) (.c (.bool true)) (.t 30))]⟩, ⟨none, [(some 32, .pick (.t 19) (.t 31) (.c (.bool false)))]⟩] [0, 3, 32])
 (.ite (.t 32)
 (.seq (.rg [⟨none, [(some 33, .ld (.t 3) 4 true), (some 34, .bldS 43 4 (.c (.s (.int .i64 0)) (.c (.s (.int .i64 0)) (.c (.s (.int .i64 0)) (.c (.s (.slice none 0 0)) .u)))) [(.t 33)]), (some 4, .mv (.t 34)), (none, .gh), (some 5, .mv (.c (.bool true)))]⟩] [4, 5])
 .ret)
 .skip))
 (.seq (.seq (.rgq [⟨none, [(some 35, .mv (.t 0)), (some 36, .len (.t 35)), (some 37, .bin .eql (.t 36) (.c (.int .i64 0))), (some 38, .mv (.t 37))]⟩, ⟨some (38, false), [(some 39, .fldA (.t 3) 0 0), (some 40, .ld (.t 39) 1 false), (some 41, .mv (.t 0)), (some 42, .idxS (.t 41) (.c (.int .i64 0)) 4), (some 43, .fldA (.t 42) 0 0), (some 44, .ld (.t 43) 1 false), (some 45, .bin .neq (.t 40) (.t 44))]⟩, ⟨none, [(some 46, .pick (.t 38) (.c (.bool true)) (.t 45)), (some 47, .mv (.t 46))]⟩, ⟨some (47, false), [(some 48, .fldA (.t 3) 2 2), (some 49, .ld (.t 48) 1 false), (some 50, .mv (.t 0)), (some 51, .idxS (.t 50) (.c (.int .i64 0)) 4), (some 52, .fldA (.t 51) 2 2), (some 53, .ld (.t 52) 1 false), (some 54, .bin .neq (.t 49) (.t 53))]⟩, ⟨none, [(some 55, .pick (.t 47) (.c (.bool true)) (.t 54)), (some 56, .mv (.t 55))]⟩, ⟨some (56, false), [(some 57, .fldA (.t 3) 1 1), (some 58, .ld (.t 57) 1 false), (some 59, .mv (.t 0)), (some 60, .len (.t 59))]⟩] [⟨some (56, false), [(some 61, .bin .neq (.t 58) (.t 60))]⟩, ⟨none, [(some 62, .pick (.t 56) (.c (.bool true)) (.t 61))]⟩] [0, 3, 62])
 (.ite (.t 62)
 (.seq (.rg [⟨none, [(some 63, .mv (.t 0)), (some 4, .mv (.t 63)), (some 5, .mv (.c (.bool false)))]⟩] [4, 5])
 .ret)
 .skip))
 (.seq (.rg [⟨none, [(some 6, .mv (.c (.slice none 0 0)))]⟩] [0, 3, 6])
 (.seq (.rg [⟨none, [(some 64, .mv (.t 6)), (some 65, .mv (.t 0)), (none, .gh), (some 66, .app 43 4 48 (.c (.s (.int .i64 0)) (.c (.s (.int .i64 0)) (.c (.s (.int .i64 0)) (.c (.s (.slice none 0 0)) .u)))) (.t 64) (.t 65)), (some 6, .mv (.t 66))]⟩] [3, 6])
 (.seq (.rg [⟨none, [(some 67, .mv (.t 6)), (some 68, .ld (.t 3) 4 true), (some 69, .bldS 43 4 (.c (.s (.int .i64 0)) (.c (.s (.int .i64 0)) (.c (.s (.int .i64 0)) (.c (.s (.slice none 0 0)) .u)))) [(.t 68)]), (some 70, .app 43 4 48 (.c (.s (.int .i64 0)) (.c (.s (.int .i64 0)) (.c (.s (.int .i64 0)) (.c (.s (.slice none 0 0)) .u)))) (.t 67) (.t 69)), (some 4, .mv (.t 70)), (some 5, .mv (.c (.bool true))), (none, .gh)]⟩] [4, 5])
 .ret)))))))
theorem k_ref19_Add : Ok Try.prog 19 c_ref19_Add 71 [(3, 14), (5, 26)] [.tmp 4, .tmp 5] := Ok.mk' Try.func19 (by kernel_rfl) (by kernel_rfl) (by kernel_rfl)

abbrev f_boot_Want : Nat := 20
def c_boot_Want : Cd :=
 (.seq (.rg [⟨none, [(some 2, .mv (.c (.int .i64 0))), (some 3, .mv (.c (.int .i64 0)))]⟩] [0])
 (.seq (.seq (.rg [⟨none, [(some 4, .mv (.t 0)), (some 5, .len (.t 4)), (some 6, .bin .eql (.t 5) (.c (.int .i64 0))), (some 7, .mv (.t 6))]⟩, ⟨some (7, false), [(some 8, .mv (.t 0)), (some 9, .call 30 [(.t 8)]), (some 10, .un .not (.t 9))]⟩, ⟨none, [(some 11, .pick (.t 7) (.c (.bool true)) (.t 10))]⟩] [0, 11])
 (.ite (.t 11)
 (.seq (.rg [⟨none, [(some 2, .mv (.c (.int .i64 0))), (some 3, .mv (.c (.int .i64 0)))]⟩] [2, 3])
 .ret)
 .skip))
 (.seq (.rg [⟨none, [(some 12, .mv (.t 0)), (some 13, .idxS (.t 12) (.c (.int .i64 0)) 4), (some 14, .fldA (.t 13) 0 0), (some 15, .ld (.t 14) 1 false), (some 16, .mv (.t 0)), (some 17, .len (.t 16)), (some 2, .mv (.t 15)), (some 3, .mv (.t 17))]⟩] [2, 3])
 .ret)))
theorem k_boot_Want : Ok Try.prog 20 c_boot_Want 18 [] [.tmp 2, .tmp 3] := Ok.mk' Try.func20 (by kernel_rfl) (by kernel_rfl) (by kernel_rfl)

abbrev f_ref19_Want : Nat := 21
def c_ref19_Want : Cd :=
 (.seq (.rg [⟨none, [(some 2, .mv (.c (.int .i64 0))), (some 3, .mv (.c (.int .i64 0)))]⟩] [0])
 (.seq (.seq (.rg [⟨none, [(some 4, .mv (.t 0)), (some 5, .call 33 [(.t 4)]), (some 6, .un .not (.t 5)), (some 7, .mv (.t 6))]⟩, ⟨some (7, false), [(some 8, .mv (.t 0)), (some 9, .len (.t 8)), (some 10, .bin .eql (.t 9) (.c (.int .i64 0)))]⟩, ⟨none, [(some 11, .pick (.t 7) (.c (.bool true)) (.t 10))]⟩] [0, 11])
 (.ite (.t 11)
 (.seq (.rg [⟨none, [(some 2, .mv (.c (.int .i64 0))), (some 3, .mv (.c (.int .i64 0)))]⟩] [2, 3])
 .ret)
 .skip))
 (.seq (.rg [⟨none, [(some 12, .mv (.t 0)), (some 13, .idxS (.t 12) (.c (.int .i64 0)) 4), (some 14, .fldA (.t 13) 0 0), (some 15, .ld (.t 14) 1 false), (some 16, .mv (.t 0)), (some 17, .len (.t 16)), (some 2, .mv (.t 15)), (some 3, .mv (.t 17))]⟩] [2, 3])
 .ret)))
theorem k_ref19_Want : Ok Try.prog 21 c_ref19_Want 18 [] [.tmp 2, .tmp 3] := Ok.mk' Try.func21 (by kernel_rfl) (by kernel_rfl) (by kernel_rfl)

end Go.Proofs.Ytgkdipfmhjlbhaa.Vc
