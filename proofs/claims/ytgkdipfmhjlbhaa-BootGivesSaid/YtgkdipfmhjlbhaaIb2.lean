/- The code of some functions of the program, its types resolved: printed by a program of this claim. -/
import Derived.Test.YtgkdipfmhjlbhaaVc10
import Derived.Test.YtgkdipfmhjlbhaaProg
set_option linter.unusedVariables false
set_option maxRecDepth 100000
namespace Go.Proofs.Ytgkdipfmhjlbhaa.Vc
open Go Go.Proofs

abbrev f_slices_Clone : Nat := 35
def c_slices_Clone : Cd :=
 (.seq (.rg [⟨none, [(some 2, .mv (.c (.slice none 0 0)))]⟩] [0])
 (.seq (.seq (.rg [⟨none, [(some 3, .mv (.t 0)), (some 4, .eqA false 22 (.t 3) (.c (.slice none 0 0)))]⟩] [0, 4])
 (.ite (.t 4)
 (.seq (.rg [⟨none, [(some 2, .mv (.c (.slice none 0 0)))]⟩] [2])
 .ret)
 .skip))
 (.seq (.rg [⟨none, [(some 5, .bldS 5 1 (.s (.int .u8 0)) []), (some 6, .mv (.t 0)), (some 7, .app 5 1 1 (.s (.int .u8 0)) (.t 5) (.t 6)), (some 2, .mv (.t 7)), (none, .gh)]⟩] [2])
 .ret)))
theorem k_slices_Clone : Ok Try.prog 35 c_slices_Clone 8 [] [.tmp 2] := Ok.mk' Try.func35 (by kernel_rfl) (by kernel_rfl) (by kernel_rfl)

abbrev f_boot_twin : Nat := 32
def c_boot_twin : Cd :=
 (.seq (.rg [⟨none, [(some 1, .box 43 (.t 0)), (some 2, .new 43 (.c (.s (.int .i64 0)) (.c (.s (.int .i64 0)) (.c (.s (.int .i64 0)) (.c (.s (.slice none 0 0)) .u)))))]⟩] [1, 2])
 (.seq (.rg [⟨none, [(some 3, .fldA (.t 1) 3 3), (some 4, .ld (.t 3) 1 false), (some 5, .call 35 [(.t 4)]), (some 6, .fldA (.t 1) 3 3), (none, .st (.t 6) (.t 5) 1)]⟩] [1, 2])
 (.seq (.rg [⟨none, [(some 7, .ld (.t 1) 4 true), (none, .st (.t 2) (.t 7) 4)]⟩] [2])
 .ret)))
theorem k_boot_twin : Ok Try.prog 32 c_boot_twin 8 [] [.cell 2 4 true] := Ok.mk' Try.func32 (by kernel_rfl) (by kernel_rfl) (by kernel_rfl)

abbrev f_boot_twins : Nat := 31
def c_boot_twins_L0 : Cd :=
 (.seq (.rg [⟨none, [(some 9, .bin .lss (.t 8) (.t 7))]⟩] [3, 6, 7, 8, 9])
 (.seq (.ite (.t 9)
 .skip
 (.exit 0))
 (.seq (.block 1 (.seq (.rg [⟨none, [(some 10, .idxS (.t 6) (.t 8) 4), (some 11, .ld (.t 10) 4 true), (some 5, .new 43 (.c (.s (.int .i64 0)) (.c (.s (.int .i64 0)) (.c (.s (.int .i64 0)) (.c (.s (.slice none 0 0)) .u))))), (none, .st (.t 5) (.t 11) 4)]⟩] [3, 5, 6, 7, 8])
 (.rg [⟨none, [(some 12, .mv (.t 3)), (some 13, .ld (.t 5) 4 true), (some 14, .call 32 [(.t 13)]), (some 15, .bldS 43 4 (.c (.s (.int .i64 0)) (.c (.s (.int .i64 0)) (.c (.s (.int .i64 0)) (.c (.s (.slice none 0 0)) .u)))) [(.t 14)]), (some 16, .app 43 4 48 (.c (.s (.int .i64 0)) (.c (.s (.int .i64 0)) (.c (.s (.int .i64 0)) (.c (.s (.slice none 0 0)) .u)))) (.t 12) (.t 15)), (some 3, .mv (.t 16))]⟩] [3, 6, 7, 8])))
 (.rg [⟨none, [(some 17, .bin .add (.t 8) (.c (.int .i64 1))), (some 8, .mv (.t 17))]⟩] [3, 6, 7, 8]))))
def c_boot_twins : Cd :=
 (.seq (.rg [⟨none, [(some 2, .mv (.c (.slice none 0 0)))]⟩] [0])
 (.seq (.rg [⟨none, [(some 3, .mv (.c (.slice none 0 0))), (none, .gh)]⟩] [0, 3])
 (.seq (.seq (.rg [⟨none, [(some 6, .mv (.t 0)), (some 7, .len (.t 6)), (some 8, .mv (.c (.int .i64 0)))]⟩] [3, 6, 7, 8])
 (.block 0 (.loop c_boot_twins_L0)))
 (.seq (.rg [⟨none, [(some 18, .mv (.t 3)), (some 2, .mv (.t 18)), (none, .gh)]⟩] [2])
 .ret))))
theorem k_boot_twins : Ok Try.prog 31 c_boot_twins 19 [] [.tmp 2] := Ok.mk' Try.func31 (by kernel_rfl) (by kernel_rfl) (by kernel_rfl)

end Go.Proofs.Ytgkdipfmhjlbhaa.Vc
