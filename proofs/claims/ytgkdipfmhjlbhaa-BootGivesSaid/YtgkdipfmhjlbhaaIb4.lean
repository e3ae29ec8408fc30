/- The code of some functions of the program, its types resolved: printed by a program of this claim. -/
import Derived.Test.YtgkdipfmhjlbhaaVc10
import Derived.Test.YtgkdipfmhjlbhaaProg
set_option linter.unusedVariables false
set_option maxRecDepth 100000
namespace Go.Proofs.Ytgkdipfmhjlbhaa.Vc
open Go Go.Proofs

abbrev f_slices_Grow : Nat := 36
def c_slices_Grow : Cd :=
 (.seq (.rg [⟨none, [(some 4, .mv (.c (.slice none 0 0)))]⟩] [0, 1])
 (.seq (.seq (.rg [⟨none, [(some 5, .mv (.t 1)), (some 6, .bin .lss (.t 5) (.c (.int .i64 0)))]⟩] [0, 1, 6])
 (.ite (.t 6)
 (.rg [⟨none, [(some 7, .bot), (none, .bot)]⟩] [0, 1])
 .skip))
 (.seq (.seq (.rg [⟨none, [(some 8, .mv (.t 1)), (some 9, .mv (.t 0)), (some 10, .capS (.t 9)), (some 11, .mv (.t 0)), (some 12, .len (.t 11)), (some 13, .bin .sub (.t 10) (.t 12)), (some 14, .bin .sub (.t 8) (.t 13)), (some 1, .mv (.t 14))]⟩] [0, 1])
 (.seq (.rg [⟨none, [(some 15, .mv (.t 1)), (some 16, .bin .gtr (.t 15) (.c (.int .i64 0)))]⟩] [0, 1, 16])
 (.ite (.t 16)
 (.rg [⟨none, [(some 17, .mv (.t 0)), (some 18, .mv (.t 0)), (some 19, .capS (.t 18)), (some 20, .sl 1 (.t 17) none (some (.t 19))), (some 21, .mv (.t 1)), (some 22, .appZ 5 1 1 (.s (.int .u8 0)) (.t 20) (.t 21)), (some 23, .mv (.t 0)), (some 24, .len (.t 23)), (some 25, .sl 1 (.t 22) none (some (.t 24))), (some 0, .mv (.t 25)), (none, .gh)]⟩] [0])
 .skip)))
 (.seq (.rg [⟨none, [(some 26, .mv (.t 0)), (some 4, .mv (.t 26))]⟩] [4])
 .ret))))
theorem k_slices_Grow : Ok Try.prog 36 c_slices_Grow 27 [] [.tmp 4] := Ok.mk' Try.func36 (by kernel_rfl) (by kernel_rfl) (by kernel_rfl)

abbrev f_slices_Concat : Nat := 34
def c_slices_Concat_L0 : Cd :=
 (.seq (.rg [⟨none, [(some 12, .bin .lss (.t 11) (.t 10))]⟩] [0, 3, 9, 10, 11, 12])
 (.seq (.ite (.t 12)
 .skip
 (.exit 0))
 (.seq (.block 1 (.seq (.rg [⟨none, [(some 13, .idxS (.t 9) (.t 11) 1), (some 14, .ld (.t 13) 1 false), (some 5, .mv (.t 14))]⟩] [0, 3, 5, 9, 10, 11])
 (.seq (.rg [⟨none, [(some 15, .mv (.t 3)), (some 16, .mv (.t 5)), (some 17, .len (.t 16)), (some 18, .bin .add (.t 15) (.t 17)), (some 3, .mv (.t 18))]⟩] [0, 3, 9, 10, 11])
 (.seq (.rg [⟨none, [(some 19, .mv (.t 3)), (some 20, .bin .lss (.t 19) (.c (.int .i64 0)))]⟩] [0, 3, 9, 10, 11, 20])
 (.ite (.t 20)
 (.rg [⟨none, [(some 21, .bot), (none, .bot)]⟩] [0, 3, 9, 10, 11])
 .skip)))))
 (.rg [⟨none, [(some 22, .bin .add (.t 11) (.c (.int .i64 1))), (some 11, .mv (.t 22))]⟩] [0, 3, 9, 10, 11]))))
def c_slices_Concat_L1 : Cd :=
 (.seq (.rg [⟨none, [(some 28, .bin .lss (.t 27) (.t 26))]⟩] [6, 25, 26, 27, 28])
 (.seq (.ite (.t 28)
 .skip
 (.exit 2))
 (.seq (.block 3 (.seq (.rg [⟨none, [(some 29, .idxS (.t 25) (.t 27) 1), (some 30, .ld (.t 29) 1 false), (some 8, .mv (.t 30))]⟩] [6, 8, 25, 26, 27])
 (.rg [⟨none, [(some 31, .mv (.t 6)), (some 32, .mv (.t 8)), (none, .gh), (some 33, .app 5 1 1 (.s (.int .u8 0)) (.t 31) (.t 32)), (some 6, .mv (.t 33))]⟩] [6, 25, 26, 27])))
 (.rg [⟨none, [(some 34, .bin .add (.t 27) (.c (.int .i64 1))), (some 27, .mv (.t 34))]⟩] [6, 25, 26, 27]))))
def c_slices_Concat : Cd :=
 (.seq (.rg [⟨none, [(some 2, .mv (.c (.slice none 0 0)))]⟩] [0])
 (.seq (.rg [⟨none, [(some 3, .mv (.c (.int .i64 0)))]⟩] [0, 3])
 (.seq (.seq (.rg [⟨none, [(some 9, .mv (.t 0)), (some 10, .len (.t 9)), (some 11, .mv (.c (.int .i64 0)))]⟩] [0, 3, 9, 10, 11])
 (.block 0 (.loop c_slices_Concat_L0)))
 (.seq (.rg [⟨none, [(some 23, .mv (.t 3)), (some 24, .call 36 [(.c (.slice none 0 0)), (.t 23)]), (some 6, .mv (.t 24))]⟩] [0, 6])
 (.seq (.seq (.rg [⟨none, [(some 25, .mv (.t 0)), (some 26, .len (.t 25)), (some 27, .mv (.c (.int .i64 0)))]⟩] [6, 25, 26, 27])
 (.block 2 (.loop c_slices_Concat_L1)))
 (.seq (.rg [⟨none, [(some 35, .mv (.t 6)), (some 2, .mv (.t 35))]⟩] [2])
 .ret))))))
theorem k_slices_Concat : Ok Try.prog 34 c_slices_Concat 36 [] [.tmp 2] := Ok.mk' Try.func34 (by kernel_rfl) (by kernel_rfl) (by kernel_rfl)

abbrev f_boot_Whole : Nat := 22
def c_boot_Whole_L0 : Cd :=
 (.seq (.rg [⟨none, [(some 27, .bin .lss (.t 26) (.t 25))]⟩] [4, 24, 25, 26, 27])
 (.seq (.ite (.t 27)
 .skip
 (.exit 0))
 (.seq (.block 1 (.seq (.rg [⟨none, [(some 28, .idxS (.t 24) (.t 26) 4), (some 29, .ld (.t 28) 4 true), (some 6, .new 43 (.c (.s (.int .i64 0)) (.c (.s (.int .i64 0)) (.c (.s (.int .i64 0)) (.c (.s (.slice none 0 0)) .u))))), (none, .st (.t 6) (.t 29) 4)]⟩] [4, 6, 24, 25, 26])
 (.rg [⟨none, [(some 30, .mv (.t 4)), (some 31, .fldA (.t 6) 3 3), (some 32, .ld (.t 31) 1 false), (some 33, .bldS 22 1 (.s (.slice none 0 0)) [(.t 32)]), (some 34, .app 22 1 24 (.s (.slice none 0 0)) (.t 30) (.t 33)), (some 4, .mv (.t 34))]⟩] [4, 24, 25, 26])))
 (.rg [⟨none, [(some 35, .bin .add (.t 26) (.c (.int .i64 1))), (some 26, .mv (.t 35))]⟩] [4, 24, 25, 26]))))
def c_boot_Whole : Cd :=
 (.seq (.rg [⟨none, [(some 2, .mv (.c (.slice none 0 0))), (some 3, .mv (.c (.bool false)))]⟩] [0])
 (.seq (.seq (.rg [⟨none, [(some 7, .mv (.t 0)), (some 8, .len (.t 7)), (some 9, .bin .eql (.t 8) (.c (.int .i64 0))), (some 10, .mv (.t 9))]⟩, ⟨some (10, false), [(some 11, .mv (.t 0)), (some 12, .call 30 [(.t 11)]), (some 13, .un .not (.t 12))]⟩, ⟨none, [(some 14, .pick (.t 10) (.c (.bool true)) (.t 13)), (some 15, .mv (.t 14))]⟩, ⟨some (15, false), [(some 16, .mv (.t 0)), (some 17, .len (.t 16)), (some 18, .mv (.t 0)), (some 19, .idxS (.t 18) (.c (.int .i64 0)) 4), (some 20, .fldA (.t 19) 2 2), (some 21, .ld (.t 20) 1 false), (some 22, .bin .neq (.t 17) (.t 21))]⟩, ⟨none, [(some 23, .pick (.t 15) (.c (.bool true)) (.t 22))]⟩] [0, 23])
 (.ite (.t 23)
 (.seq (.rg [⟨none, [(some 2, .mv (.c (.slice none 0 0))), (some 3, .mv (.c (.bool false)))]⟩] [2, 3])
 .ret)
 .skip))
 (.seq (.rg [⟨none, [(some 4, .mv (.c (.slice none 0 0))), (none, .gh)]⟩] [0, 4])
 (.seq (.seq (.rg [⟨none, [(some 24, .mv (.t 0)), (some 25, .len (.t 24)), (some 26, .mv (.c (.int .i64 0)))]⟩] [4, 24, 25, 26])
 (.block 0 (.loop c_boot_Whole_L0)))
 (.seq (.rg [⟨none, [(some 36, .mv (.t 4)), (some 37, .call 34 [(.t 36)]), (some 2, .mv (.t 37)), (some 3, .mv (.c (.bool true)))]⟩] [2, 3])
 .ret)))))
theorem k_boot_Whole : Ok Try.prog 22 c_boot_Whole 38 [] [.tmp 2, .tmp 3] := Ok.mk' Try.func22 (by kernel_rfl) (by kernel_rfl) (by kernel_rfl)

abbrev f_ref19_Whole : Nat := 23
def c_ref19_Whole_L0 : Cd :=
 (.seq (.seq (.rg [⟨none, [(some 23, .mv (.t 5)), (some 24, .mv (.t 0)), (some 25, .len (.t 24)), (some 26, .bin .lss (.t 23) (.t 25))]⟩] [0, 4, 5, 26])
 (.ite (.t 26)
 .skip
 (.exit 0)))
 (.seq (.block 1 (.rg [⟨none, [(some 29, .mv (.t 4)), (some 30, .mv (.t 0)), (some 31, .mv (.t 5)), (some 32, .idxS (.t 30) (.t 31) 4), (some 33, .fldA (.t 32) 3 3), (some 34, .ld (.t 33) 1 false), (none, .gh), (some 35, .app 5 1 1 (.s (.int .u8 0)) (.t 29) (.t 34)), (some 4, .mv (.t 35))]⟩] [0, 4, 5]))
 (.rg [⟨none, [(some 27, .mv (.t 5)), (some 28, .bin .add (.t 27) (.c (.int .i64 1))), (some 5, .mv (.t 28))]⟩] [0, 4, 5])))
def c_ref19_Whole : Cd :=
 (.seq (.rg [⟨none, [(some 2, .mv (.c (.slice none 0 0))), (some 3, .mv (.c (.bool false)))]⟩] [0])
 (.seq (.seq (.rg [⟨none, [(some 6, .mv (.t 0)), (some 7, .call 33 [(.t 6)]), (some 8, .un .not (.t 7)), (some 9, .mv (.t 8))]⟩, ⟨some (9, false), [(some 10, .mv (.t 0)), (some 11, .len (.t 10)), (some 12, .bin .eql (.t 11) (.c (.int .i64 0)))]⟩, ⟨none, [(some 13, .pick (.t 9) (.c (.bool true)) (.t 12)), (some 14, .mv (.t 13))]⟩, ⟨some (14, false), [(some 15, .mv (.t 0)), (some 16, .len (.t 15)), (some 17, .mv (.t 0)), (some 18, .idxS (.t 17) (.c (.int .i64 0)) 4), (some 19, .fldA (.t 18) 2 2), (some 20, .ld (.t 19) 1 false), (some 21, .bin .neq (.t 16) (.t 20))]⟩, ⟨none, [(some 22, .pick (.t 14) (.c (.bool true)) (.t 21))]⟩] [0, 22])
 (.ite (.t 22)
 (.seq (.rg [⟨none, [(some 2, .mv (.c (.slice none 0 0))), (some 3, .mv (.c (.bool false)))]⟩] [2, 3])
 .ret)
 .skip))
 (.seq (.rg [⟨none, [(some 4, .mv (.c (.slice none 0 0))), (none, .gh)]⟩] [0, 4])
 (.seq (.seq (.rg [⟨none, [(some 5, .mv (.c (.int .i64 0)))]⟩] [0, 4, 5])
 (.block 0 (.loop c_ref19_Whole_L0)))
 (.seq (.rg [⟨none, [(some 36, .mv (.t 4)), (some 2, .mv (.t 36)), (none, .gh), (some 3, .mv (.c (.bool true)))]⟩] [2, 3])
 .ret)))))
theorem k_ref19_Whole : Ok Try.prog 23 c_ref19_Whole 37 [] [.tmp 2, .tmp 3] := Ok.mk' Try.func23 (by kernel_rfl) (by kernel_rfl) (by kernel_rfl)

abbrev f_ref19_Same : Nat := 17
def c_ref19_Same_L0 : Cd :=
 (.seq (.seq (.rg [⟨none, [(some 11, .mv (.t 5)), (some 12, .mv (.t 0)), (some 13, .len (.t 12)), (some 14, .bin .lss (.t 11) (.t 13))]⟩] [0, 1, 5, 14])
 (.ite (.t 14)
 .skip
 (.exit 0)))
 (.seq (.block 1 (.seq (.rgq [⟨none, [(some 17, .mv (.t 0)), (some 18, .mv (.t 5)), (some 19, .idxS (.t 17) (.t 18) 4), (some 20, .fldA (.t 19) 0 0), (some 21, .ld (.t 20) 1 false), (some 22, .mv (.t 1)), (some 23, .mv (.t 5)), (some 24, .idxS (.t 22) (.t 23) 4), (some 25, .fldA (.t 24) 0 0), (some 26, .ld (.t 25) 1 false), (some 27, .bin .neq (.t 21) (.t 26)), (some 28, .mv (.t 27))]⟩, ⟨some (28, false), [(some 29, .mv (.t 0)), (some 30, .mv (.t 5)), (some 31, .idxS (.t 29) (.t 30) 4), (some 32, .fldA (.t 31) 1 1), (some 33, .ld (.t 32) 1 false), (some 34, .mv (.t 1)), (some 35, .mv (.t 5)), (some 36, .idxS (.t 34) (.t 35) 4), (some 37, .fldA (.t 36) 1 1), (some 38, .ld (.t 37) 1 false), (some 39, .bin .neq (.t 33) (.t 38))]⟩, ⟨none, [(some 40, .pick (.t 28) (.c (.bool true)) (.t 39)), (some 41, .mv (.t 40))]⟩, ⟨some (41, false), [(some 42, .mv (.t 0)), (some 43, .mv (.t 5)), (some 44, .idxS (.t 42) (.t 43) 4), (some 45, .fldA (.t 44) 2 2), (some 46, .ld (.t 45) 1 false), (some 47, .mv (.t 1)), (some 48, .mv (.t 5)), (some 49, .idxS (.t 47) (.t 48) 4), (some 50, .fldA (.t 49) 2 2), (some 51, .ld (.t 50) 1 false), (some 52, .bin .neq (.t 46) (.t 51))]⟩, ⟨none, [(some 53, .pick (.t 41) (.c (.bool true)) (.t 52)), (some 54, .mv (.t 53))]⟩, ⟨some (54, false), [(some 55, .mv (.t 0)), (some 56, .mv (.t 5)), (some 57, .idxS (.t 55) (.t 56) 4), (some 58, .fldA (.t 57) 3 3), (some 59, .ld (.t 58) 1 false), (some 60, .b2s (.t 59)), (some 61, .mv (.t 1)), (some 62, .mv (.t 5)), (some 63, .idxS (.t 61) (.t 62) 4), (some 64, .fldA (.t 63) 3 3), (some 65, .ld (.t 64) 1 false), (some 66, .b2s (.t 65))]⟩] [⟨some (54, false), [(some 67, .bin .neq (.t 60) (.t 66))]⟩, ⟨none, [(some 68, .pick (.t 54) (.c (.bool true)) (.t 67))]⟩] [0, 1, 5, 68])
 (.ite (.t 68)
 (.seq (.rg [⟨none, [(some 4, .mv (.c (.bool false)))]⟩] [4])
 .ret)
 .skip)))
 (.rg [⟨none, [(some 15, .mv (.t 5)), (some 16, .bin .add (.t 15) (.c (.int .i64 1))), (some 5, .mv (.t 16))]⟩] [0, 1, 5])))
def c_ref19_Same : Cd :=
 (.seq (.rg [⟨none, [(some 4, .mv (.c (.bool false)))]⟩] [0, 1])
 (.seq (.seq (.rg [⟨none, [(some 6, .mv (.t 0)), (some 7, .len (.t 6)), (some 8, .mv (.t 1)), (some 9, .len (.t 8)), (some 10, .bin .neq (.t 7) (.t 9))]⟩] [0, 1, 10])
 (.ite (.t 10)
 (.seq (.rg [⟨none, [(some 4, .mv (.c (.bool false)))]⟩] [4])
 .ret)
 .skip))
 (.seq (.seq (.rg [⟨none, [(some 5, .mv (.c (.int .i64 0)))]⟩] [0, 1, 5])
 (.block 0 (.loop c_ref19_Same_L0)))
 (.seq (.rg [⟨none, [(some 4, .mv (.c (.bool true)))]⟩] [4])
 .ret))))
theorem k_ref19_Same : Ok Try.prog 17 c_ref19_Same 69 [(6, 50)] [.tmp 4] := Ok.mk' Try.func17 (by kernel_rfl) (by kernel_rfl) (by kernel_rfl)

abbrev f_bytes_Equal : Nat := 24
def c_bytes_Equal : Cd :=
 (.seq (.rg [⟨none, [(some 4, .mv (.c (.bool false)))]⟩] [0, 1])
 (.seq (.rg [⟨none, [(some 5, .mv (.t 0)), (some 6, .b2s (.t 5)), (some 7, .mv (.t 1)), (some 8, .b2s (.t 7)), (some 9, .bin .eql (.t 6) (.t 8)), (some 4, .mv (.t 9))]⟩] [4])
 .ret))
theorem k_bytes_Equal : Ok Try.prog 24 c_bytes_Equal 10 [] [.tmp 4] := Ok.mk' Try.func24 (by kernel_rfl) (by kernel_rfl) (by kernel_rfl)

end Go.Proofs.Ytgkdipfmhjlbhaa.Vc
