/- The code of some functions of the program, its types resolved: printed by a program of this claim. -/
import Derived.Test.YtgkdipfmhjlbhaaVc10
import Derived.Test.YtgkdipfmhjlbhaaProg
set_option linter.unusedVariables false
set_option maxRecDepth 100000
namespace Go.Proofs.Ytgkdipfmhjlbhaa.Vc
open Go Go.Proofs

abbrev f_boot_cut : Nat := 28
def c_boot_cut_L0 : Cd :=
 (.seq (.rg [⟨none, [(some 25, .bin .lss (.t 24) (.t 23))]⟩] [0, 1, 5, 6, 23, 24, 25])
 (.seq (.ite (.t 25)
 .skip
 (.exit 0))
 (.seq (.block 1 (.seq (.rg [⟨none, [(some 26, .mv (.t 24)), (some 7, .mv (.t 26))]⟩] [0, 1, 5, 6, 7, 23, 24])
 (.rg [⟨none, [(some 27, .mv (.t 6)), (some 28, .mv (.t 1)), (some 29, .mv (.t 7)), (some 30, .mv (.t 5)), (some 31, .mv (.t 0)), (some 32, .mv (.t 7)), (some 33, .bin .mul (.t 32) (.c (.int .i64 512))), (some 34, .mv (.t 0)), (some 35, .len (.t 34)), (some 36, .mv (.t 7)), (some 37, .bin .add (.t 36) (.c (.int .i64 1))), (some 38, .bin .mul (.t 37) (.c (.int .i64 512))), (some 39, .mnx false (.t 35) (.t 38)), (some 40, .sl 1 (.t 31) (some (.t 33)) (some (.t 39))), (some 41, .call 35 [(.t 40)]), (some 42, .bld (.c (.s (.int .i64 0)) (.c (.s (.int .i64 0)) (.c (.s (.int .i64 0)) (.c (.s (.slice none 0 0)) .u)))) [(0, (.t 28)), (1, (.t 29)), (2, (.t 30)), (3, (.t 41))]), (some 43, .bldS 43 4 (.c (.s (.int .i64 0)) (.c (.s (.int .i64 0)) (.c (.s (.int .i64 0)) (.c (.s (.slice none 0 0)) .u)))) [(.t 42)]), (some 44, .app 43 4 48 (.c (.s (.int .i64 0)) (.c (.s (.int .i64 0)) (.c (.s (.int .i64 0)) (.c (.s (.slice none 0 0)) .u)))) (.t 27) (.t 43)), (some 6, .mv (.t 44))]⟩] [0, 1, 5, 6, 23, 24])))
 (.rg [⟨none, [(some 45, .bin .add (.t 24) (.c (.int .i64 1))), (some 24, .mv (.t 45))]⟩] [0, 1, 5, 6, 23, 24]))))
def c_boot_cut : Cd :=
 (.seq (.rg [⟨none, [(some 4, .mv (.c (.slice none 0 0)))]⟩] [0, 1])
 (.seq (.rg [⟨none, [(some 8, .mv (.t 0)), (some 9, .len (.t 8)), (some 10, .bin .add (.t 9) (.c (.int .i64 512))), (some 11, .bin .sub (.t 10) (.c (.int .i64 1))), (some 12, .bin .quo (.t 11) (.c (.int .i64 512))), (some 5, .mv (.t 12))]⟩] [0, 1, 5])
 (.seq (.seq (.rg [⟨none, [(some 13, .mv (.t 5)), (some 14, .bin .gtr (.t 13) (.c (.int .i64 2048))), (some 15, .mv (.t 14))]⟩, ⟨some (15, false), [(some 16, .mv (.t 1)), (some 17, .bin .lss (.t 16) (.c (.int .i64 1)))]⟩, ⟨none, [(some 18, .pick (.t 15) (.c (.bool true)) (.t 17)), (some 19, .mv (.t 18))]⟩, ⟨some (19, false), [(some 20, .mv (.t 1)), (some 21, .bin .gtr (.t 20) (.c (.int .i64 1099511627776)))]⟩, ⟨none, [(some 22, .pick (.t 19) (.c (.bool true)) (.t 21))]⟩] [0, 1, 5, 22])
 (.ite (.t 22)
 (.seq (.rg [⟨none, [(some 4, .mv (.c (.slice none 0 0)))]⟩] [4])
 .ret)
 .skip))
 (.seq (.rg [⟨none, [(some 6, .mv (.c (.slice none 0 0))), (none, .gh)]⟩] [0, 1, 5, 6])
 (.seq (.seq (.rg [⟨none, [(some 23, .mv (.t 5)), (some 24, .mv (.c (.int .i64 0)))]⟩] [0, 1, 5, 6, 23, 24])
 (.block 0 (.loop c_boot_cut_L0)))
 (.seq (.rg [⟨none, [(some 46, .mv (.t 6)), (some 4, .mv (.t 46)), (none, .gh)]⟩] [4])
 .ret))))))
theorem k_boot_cut : Ok Try.prog 28 c_boot_cut 47 [] [.tmp 4] := Ok.mk' Try.func28 (by kernel_rfl) (by kernel_rfl) (by kernel_rfl)

abbrev f_boot_some : Nat := 27
def c_boot_some : Cd :=
 (.seq (.rg [⟨none, [(some 6, .mv (.c (.slice none 0 0)))]⟩] [0, 1, 2])
 (.seq (.seq (.rg [⟨none, [(some 7, .mv (.t 1)), (some 8, .bin .lss (.t 7) (.c (.int .i64 0))), (some 9, .mv (.t 8))]⟩, ⟨some (9, false), [(some 10, .mv (.t 1)), (some 11, .mv (.t 0)), (some 12, .len (.t 11)), (some 13, .bin .geq (.t 10) (.t 12))]⟩, ⟨none, [(some 14, .pick (.t 9) (.c (.bool true)) (.t 13)), (some 15, .mv (.t 14))]⟩, ⟨some (15, false), [(some 16, .mv (.t 2)), (some 17, .bin .lss (.t 16) (.c (.int .i64 1)))]⟩, ⟨none, [(some 18, .pick (.t 15) (.c (.bool true)) (.t 17))]⟩] [0, 1, 2, 18])
 (.ite (.t 18)
 (.seq (.rg [⟨none, [(some 6, .mv (.c (.slice none 0 0)))]⟩] [6])
 .ret)
 .skip))
 (.seq (.rg [⟨none, [(some 19, .mv (.t 0)), (some 20, .mv (.t 1)), (some 21, .sl 4 (.t 19) (some (.t 20)) none), (some 0, .mv (.t 21))]⟩] [0, 2])
 (.seq (.rg [⟨none, [(some 22, .mv (.t 0)), (some 23, .mv (.t 2)), (some 24, .mv (.t 0)), (some 25, .len (.t 24)), (some 26, .mnx false (.t 23) (.t 25)), (some 27, .sl 4 (.t 22) none (some (.t 26))), (some 28, .call 31 [(.t 27)]), (some 6, .mv (.t 28))]⟩] [6])
 .ret))))
theorem k_boot_some : Ok Try.prog 27 c_boot_some 29 [] [.tmp 6] := Ok.mk' Try.func27 (by kernel_rfl) (by kernel_rfl) (by kernel_rfl)

abbrev f_boot_Give : Nat := 14
def c_boot_Give : Cd :=
 (.seq (.rg [⟨none, [(some 8, .mv (.c (.slice none 0 0)))]⟩] [0, 1, 2, 3])
 (.seq (.rg [⟨none, [(some 9, .mv (.t 0)), (some 10, .mv (.t 1)), (some 11, .call 28 [(.t 9), (.t 10)]), (some 12, .mv (.t 2)), (some 13, .mv (.t 3)), (some 14, .call 27 [(.t 11), (.t 12), (.t 13)]), (some 8, .mv (.t 14))]⟩] [8])
 .ret))
theorem k_boot_Give : Ok Try.prog 14 c_boot_Give 15 [] [.tmp 8] := Ok.mk' Try.func14 (by kernel_rfl) (by kernel_rfl) (by kernel_rfl)

abbrev f_ref19_many : Nat := 29
def c_ref19_many : Cd :=
 (.seq (.rg [⟨none, [(some 2, .mv (.c (.int .i64 0)))]⟩] [0])
 (.seq (.rg [⟨none, [(some 3, .mv (.t 0)), (some 4, .len (.t 3)), (some 5, .bin .add (.t 4) (.c (.int .i64 512))), (some 6, .bin .sub (.t 5) (.c (.int .i64 1))), (some 7, .bin .quo (.t 6) (.c (.int .i64 512))), (some 2, .mv (.t 7))]⟩] [2])
 .ret))
theorem k_ref19_many : Ok Try.prog 29 c_ref19_many 8 [] [.tmp 2] := Ok.mk' Try.func29 (by kernel_rfl) (by kernel_rfl) (by kernel_rfl)

abbrev f_ref19_Give : Nat := 16
def c_ref19_Give_L0 : Cd :=
 (.seq (.seq (.rg [⟨none, [(some 38, .mv (.t 11)), (some 39, .mv (.t 9)), (some 40, .bin .lss (.t 38) (.t 39)), (some 41, .mv (.t 40))]⟩, ⟨some (41, true), [(some 42, .mv (.t 10)), (some 43, .len (.t 42)), (some 44, .mv (.t 3)), (some 45, .bin .lss (.t 43) (.t 44))]⟩, ⟨none, [(some 46, .pick (.t 41) (.t 45) (.c (.bool false)))]⟩] [0, 1, 3, 9, 10, 11, 46])
 (.ite (.t 46)
 .skip
 (.exit 0)))
 (.seq (.block 1 (.seq (.rg [⟨none, [(some 12, .mv (.c (.slice none 0 0))), (none, .gh)]⟩] [0, 1, 3, 9, 10, 11, 12])
 (.seq (.rg [⟨none, [(some 49, .mv (.t 12)), (some 50, .mv (.t 0)), (some 51, .mv (.t 11)), (some 52, .bin .mul (.t 51) (.c (.int .i64 512))), (some 53, .mv (.t 0)), (some 54, .len (.t 53)), (some 55, .mv (.t 11)), (some 56, .bin .add (.t 55) (.c (.int .i64 1))), (some 57, .bin .mul (.t 56) (.c (.int .i64 512))), (some 58, .mnx false (.t 54) (.t 57)), (some 59, .sl 1 (.t 50) (some (.t 52)) (some (.t 58))), (some 60, .app 5 1 1 (.s (.int .u8 0)) (.t 49) (.t 59)), (some 12, .mv (.t 60)), (none, .gh)]⟩] [0, 1, 3, 9, 10, 11, 12])
 (.rg [⟨none, [(some 61, .mv (.t 10)), (some 62, .mv (.t 1)), (some 63, .mv (.t 11)), (some 64, .mv (.t 9)), (some 65, .mv (.t 12)), (some 66, .bld (.c (.s (.int .i64 0)) (.c (.s (.int .i64 0)) (.c (.s (.int .i64 0)) (.c (.s (.slice none 0 0)) .u)))) [(0, (.t 62)), (1, (.t 63)), (2, (.t 64)), (3, (.t 65))]), (some 67, .bldS 43 4 (.c (.s (.int .i64 0)) (.c (.s (.int .i64 0)) (.c (.s (.int .i64 0)) (.c (.s (.slice none 0 0)) .u)))) [(.t 66)]), (some 68, .app 43 4 48 (.c (.s (.int .i64 0)) (.c (.s (.int .i64 0)) (.c (.s (.int .i64 0)) (.c (.s (.slice none 0 0)) .u)))) (.t 61) (.t 67)), (some 10, .mv (.t 68))]⟩] [0, 1, 3, 9, 10, 11]))))
 (.rg [⟨none, [(some 47, .mv (.t 11)), (some 48, .bin .add (.t 47) (.c (.int .i64 1))), (some 11, .mv (.t 48))]⟩] [0, 1, 3, 9, 10, 11])))
def c_ref19_Give : Cd :=
 (.seq (.rg [⟨none, [(some 8, .mv (.c (.slice none 0 0)))]⟩] [0, 1, 2, 3])
 (.seq (.rg [⟨none, [(some 13, .mv (.t 0)), (some 14, .call 29 [(.t 13)]), (some 9, .mv (.t 14))]⟩] [0, 1, 2, 3, 9])
 (.seq (.seq (.rg [⟨none, [(some 15, .mv (.t 9)), (some 16, .bin .lss (.t 15) (.c (.int .i64 1))), (some 17, .mv (.t 16))]⟩, ⟨some (17, false), [(some 18, .mv (.t 9)), (some 19, .bin .gtr (.t 18) (.c (.int .i64 2048)))]⟩, ⟨none, [(some 20, .pick (.t 17) (.c (.bool true)) (.t 19)), (some 21, .mv (.t 20))]⟩, ⟨some (21, false), [(some 22, .mv (.t 1)), (some 23, .bin .lss (.t 22) (.c (.int .i64 1)))]⟩, ⟨none, [(some 24, .pick (.t 21) (.c (.bool true)) (.t 23)), (some 25, .mv (.t 24))]⟩, ⟨some (25, false), [(some 26, .mv (.t 1)), (some 27, .bin .gtr (.t 26) (.c (.int .i64 1099511627776)))]⟩, ⟨none, [(some 28, .pick (.t 25) (.c (.bool true)) (.t 27)), (some 29, .mv (.t 28))]⟩, ⟨some (29, false), [(some 30, .mv (.t 2)), (some 31, .bin .lss (.t 30) (.c (.int .i64 0)))]⟩, ⟨none, [(some 32, .pick (.t 29) (.c (.bool true)) (.t 31)), (some 33, .mv (.t 32))]⟩, ⟨some (33, false), [(some 34, .mv (.t 3)), (some 35, .bin .lss (.t 34) (.c (.int .i64 1)))]⟩, ⟨none, [(some 36, .pick (.t 33) (.c (.bool true)) (.t 35))]⟩] [0, 1, 2, 3, 9, 36])
 (.ite (.t 36)
 (.seq (.rg [⟨none, [(some 8, .mv (.c (.slice none 0 0)))]⟩] [8])
 .ret)
 .skip))
 (.seq (.rg [⟨none, [(some 10, .mv (.c (.slice none 0 0))), (none, .gh)]⟩] [0, 1, 2, 3, 9, 10])
 (.seq (.seq (.rg [⟨none, [(some 37, .mv (.t 2)), (some 11, .mv (.t 37))]⟩] [0, 1, 3, 9, 10, 11])
 (.block 0 (.loop c_ref19_Give_L0)))
 (.seq (.rg [⟨none, [(some 69, .mv (.t 10)), (some 8, .mv (.t 69)), (none, .gh)]⟩] [8])
 .ret))))))
theorem k_ref19_Give : Ok Try.prog 16 c_ref19_Give 70 [] [.tmp 8] := Ok.mk' Try.func16 (by kernel_rfl) (by kernel_rfl) (by kernel_rfl)

abbrev f_ref19_May : Nat := 15
def c_ref19_May : Cd :=
 (.seq (.rg [⟨none, [(some 4, .mv (.c (.int .i64 0)))]⟩] [0, 1])
 (.seq (.seq (.rg [⟨none, [(some 5, .mv (.t 0)), (some 6, .call 29 [(.t 5)]), (some 7, .bin .gtr (.t 6) (.c (.int .i64 2048)))]⟩] [0, 1, 7])
 (.ite (.t 7)
 (.seq (.rg [⟨none, [(some 4, .mv (.c (.int .i64 3)))]⟩] [4])
 .ret)
 .skip))
 (.seq (.seq (.rg [⟨none, [(some 8, .mv (.t 0)), (some 9, .len (.t 8)), (some 10, .bin .eql (.t 9) (.c (.int .i64 0))), (some 11, .mv (.t 10))]⟩, ⟨some (11, false), [(some 12, .mv (.t 1)), (some 13, .bin .lss (.t 12) (.c (.int .i64 1)))]⟩, ⟨none, [(some 14, .pick (.t 11) (.c (.bool true)) (.t 13)), (some 15, .mv (.t 14))]⟩, ⟨some (15, false), [(some 16, .mv (.t 1)), (some 17, .bin .gtr (.t 16) (.c (.int .i64 1099511627776)))]⟩, ⟨none, [(some 18, .pick (.t 15) (.c (.bool true)) (.t 17))]⟩] [18])
 (.ite (.t 18)
 (.seq (.rg [⟨none, [(some 4, .mv (.c (.int .i64 1)))]⟩] [4])
 .ret)
 .skip))
 (.seq (.rg [⟨none, [(some 4, .mv (.c (.int .i64 0)))]⟩] [4])
 .ret))))
theorem k_ref19_May : Ok Try.prog 15 c_ref19_May 19 [] [.tmp 4] := Ok.mk' Try.func15 (by kernel_rfl) (by kernel_rfl) (by kernel_rfl)

abbrev f_boot_NewGift : Nat := 13
def c_boot_NewGift : Cd :=
 (.seq (.rg [⟨none, [(some 4, .mv (.c (.pointer none))), (some 5, .mv (.c (.int .i64 0)))]⟩] [0, 1])
 (.seq (.block 0 (.seq (.rg [⟨none, [(some 7, .mv (.t 0)), (some 8, .len (.t 7)), (some 9, .bin .gtr (.t 8) (.c (.int .i64 1048576))), (some 6, .mv (.t 9))]⟩] [0, 1, 6])
 (.ite (.t 6)
 (.seq (.rg [⟨none, [(some 4, .mv (.c (.pointer none))), (some 5, .mv (.c (.int .i64 3)))]⟩] [4, 5])
 .ret)
 (.seq (.rg [⟨none, [(some 11, .mv (.t 0)), (some 12, .len (.t 11)), (some 13, .bin .eql (.t 12) (.c (.int .i64 0))), (some 14, .mv (.t 13))]⟩, ⟨some (14, false), [(some 15, .mv (.t 1)), (some 16, .bin .lss (.t 15) (.c (.int .i64 1)))]⟩, ⟨none, [(some 17, .pick (.t 14) (.c (.bool true)) (.t 16)), (some 18, .mv (.t 17))]⟩, ⟨some (18, false), [(some 19, .mv (.t 1)), (some 20, .bin .gtr (.t 19) (.c (.int .i64 1099511627776)))]⟩, ⟨none, [(some 21, .pick (.t 18) (.c (.bool true)) (.t 20)), (some 10, .mv (.t 21))]⟩] [0, 1, 10])
 (.ite (.t 10)
 (.seq (.rg [⟨none, [(some 4, .mv (.c (.pointer none))), (some 5, .mv (.c (.int .i64 1)))]⟩] [4, 5])
 .ret)
 .skip)))))
 (.seq (.rg [⟨none, [(some 22, .mv (.t 1)), (some 23, .mv (.t 0)), (some 24, .mv (.t 1)), (some 25, .call 28 [(.t 23), (.t 24)]), (some 26, .bld (.c (.s (.int .i64 0)) (.c (.s (.slice none 0 0)) .u)) [(0, (.t 22)), (1, (.t 25))]), (some 27, .bld (.c (.c (.s (.int .i64 0)) (.c (.s (.slice none 0 0)) .u)) .u) [(0, (.t 26))]), (some 28, .box 31 (.t 27)), (some 4, .mv (.t 28)), (none, .gh), (some 5, .mv (.c (.int .i64 0)))]⟩] [4, 5])
 .ret)))
theorem k_boot_NewGift : Ok Try.prog 13 c_boot_NewGift 29 [] [.tmp 4, .tmp 5] := Ok.mk' Try.func13 (by kernel_rfl) (by kernel_rfl) (by kernel_rfl)

abbrev f_boot_Gift_Number : Nat := 11
def c_boot_Gift_Number : Cd :=
 (.seq (.rg [⟨none, [(some 2, .mv (.c (.int .i64 0)))]⟩] [0])
 (.seq (.seq (.rg [⟨none, [(some 3, .mv (.t 0)), (some 4, .eqA false 26 (.t 3) (.c (.pointer none)))]⟩] [0, 4])
 (.ite (.t 4)
 (.seq (.rg [⟨none, [(some 2, .mv (.c (.int .i64 0)))]⟩] [2])
 .ret)
 .skip))
 (.seq (.rg [⟨none, [(some 5, .mv (.t 0)), (some 6, .nilc (.t 5)), (some 7, .fldA (.t 6) 0 0), (some 8, .fldA (.t 7) 0 0), (some 9, .ld (.t 8) 1 false), (some 2, .mv (.t 9))]⟩] [2])
 .ret)))
theorem k_boot_Gift_Number : Ok Try.prog 11 c_boot_Gift_Number 10 [] [.tmp 2] := Ok.mk' Try.func11 (by kernel_rfl) (by kernel_rfl) (by kernel_rfl)

abbrev f_boot_Gift_Next : Nat := 12
def c_boot_Gift_Next : Cd :=
 (.seq (.rg [⟨none, [(some 8, .mv (.c (.slice none 0 0)))]⟩] [0, 1, 2, 3])
 (.seq (.seq (.rg [⟨none, [(some 9, .mv (.t 0)), (some 10, .eqA false 26 (.t 9) (.c (.pointer none)))]⟩] [0, 1, 2, 3, 10])
 (.ite (.t 10)
 (.seq (.rg [⟨none, [(some 8, .mv (.c (.slice none 0 0)))]⟩] [8])
 .ret)
 .skip))
 (.seq (.seq (.rg [⟨none, [(some 11, .mv (.t 1)), (some 12, .mv (.t 0)), (some 13, .nilc (.t 12)), (some 14, .fldA (.t 13) 0 0), (some 15, .fldA (.t 14) 0 0), (some 16, .ld (.t 15) 1 false), (some 17, .bin .neq (.t 11) (.t 16))]⟩] [0, 2, 3, 17])
 (.ite (.t 17)
 (.rg [⟨none, [(some 2, .mv (.c (.int .i64 0)))]⟩] [0, 2, 3])
 .skip))
 (.seq (.rg [⟨none, [(some 18, .mv (.t 0)), (some 19, .nilc (.t 18)), (some 20, .fldA (.t 19) 0 0), (some 21, .fldA (.t 20) 1 1), (some 22, .ld (.t 21) 1 false), (some 23, .mv (.t 2)), (some 24, .mv (.t 3)), (some 25, .call 27 [(.t 22), (.t 23), (.t 24)]), (some 8, .mv (.t 25))]⟩] [8])
 .ret))))
theorem k_boot_Gift_Next : Ok Try.prog 12 c_boot_Gift_Next 26 [] [.tmp 8] := Ok.mk' Try.func12 (by kernel_rfl) (by kernel_rfl) (by kernel_rfl)

abbrev f_law19_live : Nat := 10
def c_law19_live : Cd :=
 (.seq (.rg [⟨none, [(some 0, .mv (.c (.bool false)))]⟩] [])
 (.seq (.rg [⟨none, [(some 6, .mks 5 1 1 (.s (.int .u8 0)) (.c (.int .i64 600)) (.c (.int .i64 600))), (some 7, .call 14 [(.t 6), (.c (.int .i64 3)), (.c (.int .i64 0)), (.c (.int .i64 9))]), (some 1, .mv (.t 7)), (none, .gh)]⟩] [1])
 (.seq (.seq (.rg [⟨none, [(some 8, .mv (.t 1)), (some 9, .len (.t 8)), (some 10, .bin .neq (.t 9) (.c (.int .i64 2)))]⟩] [1, 10])
 (.ite (.t 10)
 (.seq (.rg [⟨none, [(some 0, .mv (.c (.bool false)))]⟩] [0])
 .ret)
 .skip))
 (.seq (.rg [⟨none, [(some 12, .mv (.t 1)), (some 13, .idxS (.t 12) (.c (.int .i64 0)) 4), (some 14, .ld (.t 13) 4 true), (some 15, .call 18 [(.c (.slice none 0 0)), (.t 14)]), (some 11, .mv (.t 15)), (some 16, .ext (.t 11) 0), (some 17, .ext (.t 11) 1), (some 2, .mv (.t 16)), (some 3, .mv (.t 17))]⟩] [1, 2, 3])
 (.seq (.rg [⟨none, [(some 19, .mv (.t 2)), (some 20, .call 20 [(.t 19)]), (some 18, .mv (.t 20)), (some 21, .ext (.t 18) 0), (some 22, .ext (.t 18) 1), (some 4, .mv (.t 21)), (some 5, .mv (.t 22))]⟩] [1, 3, 4, 5])
 (.seq (.rg [⟨none, [(some 23, .mv (.t 3)), (some 24, .mv (.t 23))]⟩, ⟨some (24, true), [(some 25, .mv (.t 4)), (some 26, .bin .eql (.t 25) (.c (.int .i64 3)))]⟩, ⟨none, [(some 27, .pick (.t 24) (.t 26) (.c (.bool false))), (some 28, .mv (.t 27))]⟩, ⟨some (28, true), [(some 29, .mv (.t 5)), (some 30, .bin .eql (.t 29) (.c (.int .i64 1)))]⟩, ⟨none, [(some 31, .pick (.t 28) (.t 30) (.c (.bool false))), (some 32, .mv (.t 31))]⟩, ⟨some (32, true), [(some 33, .mv (.t 1)), (some 34, .idxS (.t 33) (.c (.int .i64 1)) 4), (some 35, .ld (.t 34) 4 true), (some 36, .call 25 [(.t 35)])]⟩, ⟨none, [(some 37, .pick (.t 32) (.t 36) (.c (.bool false))), (some 0, .mv (.t 37))]⟩] [0])
 .ret))))))
theorem k_law19_live : Ok Try.prog 10 c_law19_live 38 [] [.tmp 0] := Ok.mk' Try.func10 (by kernel_rfl) (by kernel_rfl) (by kernel_rfl)

end Go.Proofs.Ytgkdipfmhjlbhaa.Vc
