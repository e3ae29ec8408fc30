/- The code of some functions of the program, its types resolved: printed by a program of this claim. -/
import Derived.Test.YtdpknchgoeboaaaVc10
import Derived.Test.YtdpknchgoeboaaaProg
set_option linter.unusedVariables false
set_option maxRecDepth 100000
namespace Go.Proofs.Ytdpknchgoeboaaa.Vc
open Go Go.Proofs

abbrev f_law12_made : Nat := 12
def c_law12_made_L0 : Cd :=
 (.seq (.rg [⟨none, [(some 16, .bin .lss (.t 15) (.t 14))]⟩] [4, 5, 13, 14, 15, 16])
 (.seq (.ite (.t 16)
 .skip
 (.exit 0))
 (.seq (.block 1 (.seq (.rg [⟨none, [(some 17, .idxS (.t 13) (.t 15) 8), (some 18, .ld (.t 17) 8 true), (some 7, .new 35 (.c (.c (.s (.int .i64 0)) (.c (.s (.int .i64 0)) .u)) (.c (.s (.int .i64 0)) (.c (.s (.int .i64 0)) (.c (.s (.int .i64 0)) (.c (.s (.string ⟨#[]⟩)) (.c (.s (.string ⟨#[]⟩)) (.c (.s (.string ⟨#[]⟩)) .u)))))))), (none, .st (.t 7) (.t 18) 8)]⟩] [4, 5, 7, 13, 14, 15])
 (.seq (.rg [⟨none, [(some 20, .mv (.t 4)), (some 21, .ld (.t 7) 8 true), (some 22, .call 16 [(.t 20), (.t 21)]), (some 19, .mv (.t 22)), (some 23, .ext (.t 19) 0), (some 24, .ext (.t 19) 1), (some 8, .new 41 (.c (.s (.pointer none)) (.c (.s (.int .i64 0)) (.c (.c (.c (.s (.int .i64 0)) (.c (.s (.int .i64 0)) .u)) (.c (.s (.int .i64 0)) (.c (.s (.int .i64 0)) (.c (.s (.int .i64 0)) (.c (.s (.string ⟨#[]⟩)) (.c (.s (.string ⟨#[]⟩)) (.c (.s (.string ⟨#[]⟩)) .u))))))) (.c (.c (.s (.int .i64 0)) (.c (.s (.string ⟨#[]⟩)) .u)) (.c (.s (.string ⟨#[]⟩)) .u)))))), (none, .st (.t 8) (.t 23) 13), (some 9, .mv (.t 24))]⟩] [4, 5, 8, 9, 13, 14, 15])
 (.seq (.rg [⟨none, [(some 25, .mv (.t 9))]⟩] [4, 5, 8, 13, 14, 15, 25])
 (.ite (.t 25)
 (.rg [⟨none, [(some 26, .mv (.t 5)), (some 27, .ld (.t 8) 13 true), (some 28, .bldS 41 13 (.c (.s (.pointer none)) (.c (.s (.int .i64 0)) (.c (.c (.c (.s (.int .i64 0)) (.c (.s (.int .i64 0)) .u)) (.c (.s (.int .i64 0)) (.c (.s (.int .i64 0)) (.c (.s (.int .i64 0)) (.c (.s (.string ⟨#[]⟩)) (.c (.s (.string ⟨#[]⟩)) (.c (.s (.string ⟨#[]⟩)) .u))))))) (.c (.c (.s (.int .i64 0)) (.c (.s (.string ⟨#[]⟩)) .u)) (.c (.s (.string ⟨#[]⟩)) .u))))) [(.t 27)]), (some 29, .app 41 13 144 (.c (.s (.pointer none)) (.c (.s (.int .i64 0)) (.c (.c (.c (.s (.int .i64 0)) (.c (.s (.int .i64 0)) .u)) (.c (.s (.int .i64 0)) (.c (.s (.int .i64 0)) (.c (.s (.int .i64 0)) (.c (.s (.string ⟨#[]⟩)) (.c (.s (.string ⟨#[]⟩)) (.c (.s (.string ⟨#[]⟩)) .u))))))) (.c (.c (.s (.int .i64 0)) (.c (.s (.string ⟨#[]⟩)) .u)) (.c (.s (.string ⟨#[]⟩)) .u))))) (.t 26) (.t 28)), (some 5, .mv (.t 29))]⟩] [4, 5, 13, 14, 15])
 .skip)))))
 (.rg [⟨none, [(some 30, .bin .add (.t 15) (.c (.int .i64 1))), (some 15, .mv (.t 30))]⟩] [4, 5, 13, 14, 15]))))
def c_law12_made : Cd :=
 (.seq (.rg [⟨none, [(some 2, .mv (.c (.pointer none))), (some 3, .mv (.c (.slice none 0 0)))]⟩] [0])
 (.seq (.rg [⟨none, [(some 10, .call 33 []), (some 4, .mv (.t 10))]⟩] [0, 4])
 (.seq (.seq (.rg [⟨none, [(some 11, .mv (.t 4)), (some 12, .eqA false 25 (.t 11) (.c (.pointer none)))]⟩] [0, 4, 12])
 (.ite (.t 12)
 (.seq (.rg [⟨none, [(some 2, .mv (.c (.pointer none))), (some 3, .mv (.c (.slice none 0 0)))]⟩] [2, 3])
 .ret)
 .skip))
 (.seq (.rg [⟨none, [(some 5, .mv (.c (.slice none 0 0)))]⟩] [0, 4, 5])
 (.seq (.seq (.rg [⟨none, [(none, .gh), (some 13, .mv (.t 0)), (some 14, .len (.t 13)), (some 15, .mv (.c (.int .i64 0)))]⟩] [4, 5, 13, 14, 15])
 (.block 0 (.loop c_law12_made_L0)))
 (.seq (.rg [⟨none, [(some 31, .mv (.t 4)), (some 32, .mv (.t 5)), (some 2, .mv (.t 31)), (some 3, .mv (.t 32)), (none, .gh)]⟩] [2, 3])
 .ret))))))
theorem k_law12_made : Ok Try.prog 12 c_law12_made 33 [] [.tmp 2, .tmp 3] := Ok.mk' Try.func12 (by kernel_rfl) (by kernel_rfl) (by kernel_rfl)

abbrev f_law12_TreeBack : Nat := 4
def c_law12_TreeBack_L0 : Cd :=
 (.seq (.rg [⟨none, [(some 34, .bin .lss (.t 33) (.t 32))]⟩] [5, 7, 8, 9, 31, 32, 33, 34])
 (.seq (.ite (.t 34)
 .skip
 (.exit 0))
 (.seq (.block 1 (.seq (.rg [⟨none, [(some 35, .idxS (.t 31) (.t 33) 8), (some 36, .ld (.t 35) 8 true), (some 11, .new 35 (.c (.c (.s (.int .i64 0)) (.c (.s (.int .i64 0)) .u)) (.c (.s (.int .i64 0)) (.c (.s (.int .i64 0)) (.c (.s (.int .i64 0)) (.c (.s (.string ⟨#[]⟩)) (.c (.s (.string ⟨#[]⟩)) (.c (.s (.string ⟨#[]⟩)) .u)))))))), (none, .st (.t 11) (.t 36) 8)]⟩] [5, 7, 8, 9, 11, 31, 32, 33])
 (.seq (.rg [⟨none, [(some 37, .mv (.t 5)), (some 38, .ld (.t 11) 8 true), (some 39, .call 15 [(.t 37), (.t 38)]), (some 12, .mv (.t 39))]⟩] [5, 7, 8, 9, 11, 12, 31, 32, 33])
 (.seq (.rg [⟨none, [(some 41, .mv (.t 5)), (some 42, .ld (.t 11) 8 true), (some 43, .call 16 [(.t 41), (.t 42)]), (some 40, .mv (.t 43)), (some 44, .ext (.t 40) 0), (some 45, .ext (.t 40) 1), (some 13, .new 41 (.c (.s (.pointer none)) (.c (.s (.int .i64 0)) (.c (.c (.c (.s (.int .i64 0)) (.c (.s (.int .i64 0)) .u)) (.c (.s (.int .i64 0)) (.c (.s (.int .i64 0)) (.c (.s (.int .i64 0)) (.c (.s (.string ⟨#[]⟩)) (.c (.s (.string ⟨#[]⟩)) (.c (.s (.string ⟨#[]⟩)) .u))))))) (.c (.c (.s (.int .i64 0)) (.c (.s (.string ⟨#[]⟩)) .u)) (.c (.s (.string ⟨#[]⟩)) .u)))))), (none, .st (.t 13) (.t 44) 13), (some 14, .mv (.t 45))]⟩] [5, 7, 8, 9, 12, 13, 14, 31, 32, 33])
 (.seq (.seq (.rg [⟨none, [(some 46, .mv (.t 12)), (some 47, .mv (.t 14)), (some 48, .eqA true 4 (.t 46) (.t 47))]⟩] [5, 7, 8, 9, 13, 14, 31, 32, 33, 48])
 (.ite (.t 48)
 (.seq (.rg [⟨none, [(some 4, .mv (.c (.bool false)))]⟩] [4])
 .ret)
 .skip))
 (.seq (.rg [⟨none, [(some 49, .mv (.t 14))]⟩] [5, 7, 8, 9, 13, 31, 32, 33, 49])
 (.ite (.t 49)
 (.rg [⟨none, [(some 50, .mv (.t 9)), (some 51, .ld (.t 13) 13 true), (some 52, .bldS 41 13 (.c (.s (.pointer none)) (.c (.s (.int .i64 0)) (.c (.c (.c (.s (.int .i64 0)) (.c (.s (.int .i64 0)) .u)) (.c (.s (.int .i64 0)) (.c (.s (.int .i64 0)) (.c (.s (.int .i64 0)) (.c (.s (.string ⟨#[]⟩)) (.c (.s (.string ⟨#[]⟩)) (.c (.s (.string ⟨#[]⟩)) .u))))))) (.c (.c (.s (.int .i64 0)) (.c (.s (.string ⟨#[]⟩)) .u)) (.c (.s (.string ⟨#[]⟩)) .u))))) [(.t 51)]), (some 53, .app 41 13 144 (.c (.s (.pointer none)) (.c (.s (.int .i64 0)) (.c (.c (.c (.s (.int .i64 0)) (.c (.s (.int .i64 0)) .u)) (.c (.s (.int .i64 0)) (.c (.s (.int .i64 0)) (.c (.s (.int .i64 0)) (.c (.s (.string ⟨#[]⟩)) (.c (.s (.string ⟨#[]⟩)) (.c (.s (.string ⟨#[]⟩)) .u))))))) (.c (.c (.s (.int .i64 0)) (.c (.s (.string ⟨#[]⟩)) .u)) (.c (.s (.string ⟨#[]⟩)) .u))))) (.t 50) (.t 52)), (some 9, .mv (.t 53))]⟩] [5, 7, 8, 9, 31, 32, 33])
 .skip)))))))
 (.rg [⟨none, [(some 54, .bin .add (.t 33) (.c (.int .i64 1))), (some 33, .mv (.t 54))]⟩] [5, 7, 8, 9, 31, 32, 33]))))
def c_law12_TreeBack_L1 : Cd :=
 (.seq (.seq (.rg [⟨none, [(some 58, .mv (.t 15)), (some 59, .bin .geq (.t 58) (.c (.int .i64 0)))]⟩] [5, 7, 8, 9, 15, 59])
 (.ite (.t 59)
 .skip
 (.exit 2)))
 (.seq (.block 3 (.seq (.seq (.rg [⟨none, [(some 62, .mv (.t 15)), (some 63, .bin .gtr (.t 62) (.c (.int .i64 0))), (some 64, .mv (.t 63))]⟩, ⟨some (64, true), [(some 65, .mv (.t 5)), (some 66, .mv (.t 9)), (some 67, .mv (.t 15)), (some 68, .bin .sub (.t 67) (.c (.int .i64 1))), (some 69, .idxS (.t 66) (.t 68) 13), (some 70, .ld (.t 69) 13 true), (some 71, .call 17 [(.t 65), (.t 70)]), (some 72, .bin .neq (.t 71) (.c (.int .i64 120)))]⟩, ⟨none, [(some 73, .pick (.t 64) (.t 72) (.c (.bool false)))]⟩] [5, 7, 8, 9, 15, 73])
 (.ite (.t 73)
 (.seq (.rg [⟨none, [(some 4, .mv (.c (.bool false)))]⟩] [4])
 .ret)
 .skip))
 (.seq (.rg [⟨none, [(some 74, .mv (.t 5)), (some 75, .mv (.t 9)), (some 76, .mv (.t 15)), (some 77, .idxS (.t 75) (.t 76) 13), (some 78, .ld (.t 77) 13 true), (some 79, .call 17 [(.t 74), (.t 78)]), (some 80, .bin .neq (.t 79) (.c (.int .i64 0)))]⟩] [5, 7, 8, 9, 15, 80])
 (.ite (.t 80)
 (.seq (.rg [⟨none, [(some 4, .mv (.c (.bool false)))]⟩] [4])
 .ret)
 .skip))))
 (.rg [⟨none, [(some 60, .mv (.t 15)), (some 61, .bin .sub (.t 60) (.c (.int .i64 1))), (some 15, .mv (.t 61))]⟩] [5, 7, 8, 9, 15])))
def c_law12_TreeBack : Cd :=
 (.seq (.rg [⟨none, [(some 4, .mv (.c (.bool false)))]⟩] [0, 1])
 (.seq (.rg [⟨none, [(some 17, .mv (.t 0)), (some 18, .call 12 [(.t 17)]), (some 16, .mv (.t 18)), (some 19, .ext (.t 16) 0), (some 20, .ext (.t 16) 1), (some 5, .mv (.t 19)), (some 6, .mv (.t 20))]⟩] [1, 5])
 (.seq (.seq (.rg [⟨none, [(some 21, .call 9 []), (some 22, .un .not (.t 21)), (some 23, .mv (.t 22))]⟩, ⟨some (23, false), [(some 24, .mv (.t 5)), (some 25, .eqA false 25 (.t 24) (.c (.pointer none)))]⟩, ⟨none, [(some 26, .pick (.t 23) (.c (.bool true)) (.t 25))]⟩] [1, 5, 26])
 (.ite (.t 26)
 (.seq (.rg [⟨none, [(some 4, .mv (.c (.bool false)))]⟩] [4])
 .ret)
 .skip))
 (.seq (.rg [⟨none, [(some 27, .mv (.t 5)), (some 28, .call 13 [(.t 27)]), (some 7, .mv (.t 28))]⟩] [1, 5, 7])
 (.seq (.rg [⟨none, [(some 29, .mv (.t 5)), (some 30, .call 14 [(.t 29)]), (some 8, .mv (.t 30))]⟩] [1, 5, 7, 8])
 (.seq (.rg [⟨none, [(some 9, .mv (.c (.slice none 0 0)))]⟩] [1, 5, 7, 8, 9])
 (.seq (.seq (.rg [⟨none, [(none, .gh), (some 31, .mv (.t 1)), (some 32, .len (.t 31)), (some 33, .mv (.c (.int .i64 0)))]⟩] [5, 7, 8, 9, 31, 32, 33])
 (.block 0 (.loop c_law12_TreeBack_L0)))
 (.seq (.seq (.rg [⟨none, [(some 55, .mv (.t 9)), (some 56, .len (.t 55)), (some 57, .bin .sub (.t 56) (.c (.int .i64 1))), (some 15, .mv (.t 57))]⟩] [5, 7, 8, 9, 15])
 (.block 2 (.loop c_law12_TreeBack_L1)))
 (.seq (.rg [⟨none, [(some 81, .mv (.t 5)), (some 82, .call 13 [(.t 81)]), (some 83, .mv (.t 7)), (some 84, .call 18 [(.t 82), (.t 83)]), (some 85, .mv (.t 84))]⟩, ⟨some (85, true), [(some 86, .mv (.t 5)), (some 87, .call 14 [(.t 86)]), (some 88, .mv (.t 8)), (some 89, .bin .eql (.t 87) (.t 88))]⟩, ⟨none, [(some 90, .pick (.t 85) (.t 89) (.c (.bool false))), (some 4, .mv (.t 90))]⟩] [4])
 .ret)))))))))
theorem k_law12_TreeBack : Ok Try.prog 4 c_law12_TreeBack 91 [] [.tmp 4] := Ok.mk' Try.func4 (by kernel_rfl) (by kernel_rfl) (by kernel_rfl)

end Go.Proofs.Ytdpknchgoeboaaa.Vc
