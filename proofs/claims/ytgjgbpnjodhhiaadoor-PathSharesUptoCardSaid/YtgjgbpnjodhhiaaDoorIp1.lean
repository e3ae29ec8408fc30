/- The code of some functions of the program, its types resolved: printed by a program of this claim. -/
import Derived.Test.YtgjgbpnjodhhiaaDoorVc10
import Derived.Test.YtgjgbpnjodhhiaaDoorProg
set_option linter.unusedVariables false
set_option maxRecDepth 100000
namespace Go.Proofs.YtgjgbpnjodhhiaaDoor.Vc
open Go Go.Proofs

abbrev f_strings_CutPrefix : Nat := 16
def c_strings_CutPrefix : Cd :=
 (.seq (.rg [⟨none, [(some 4, .mv (.c (.string ⟨#[]⟩))), (some 5, .mv (.c (.bool false)))]⟩] [0, 1])
 (.seq (.rg [⟨none, [(some 6, .mv (.t 0)), (some 7, .mv (.t 1)), (some 8, .call 21 [(.t 6), (.t 7)]), (some 9, .ext (.t 8) 0), (some 10, .ext (.t 8) 1), (some 4, .mv (.t 9)), (some 5, .mv (.t 10))]⟩] [4, 5])
 .ret))
theorem k_strings_CutPrefix : Ok Tryd.prog 16 c_strings_CutPrefix 11 [] [.tmp 4, .tmp 5] := Ok.mk' Tryd.func16 (by kernel_rfl) (by kernel_rfl) (by kernel_rfl)

abbrev f_stringslite_CutPrefix : Nat := 21
def c_stringslite_CutPrefix : Cd :=
 (.seq (.rg [⟨none, [(some 4, .mv (.c (.string ⟨#[]⟩))), (some 5, .mv (.c (.bool false)))]⟩] [0, 1])
 (.seq (.seq (.rg [⟨none, [(some 6, .mv (.t 0)), (some 7, .mv (.t 1)), (some 8, .call 27 [(.t 6), (.t 7)]), (some 9, .un .not (.t 8))]⟩] [0, 1, 9])
 (.ite (.t 9)
 (.seq (.rg [⟨none, [(some 10, .mv (.t 0)), (some 4, .mv (.t 10)), (some 5, .mv (.c (.bool false)))]⟩] [4, 5])
 .ret)
 .skip))
 (.seq (.rg [⟨none, [(some 11, .mv (.t 0)), (some 12, .mv (.t 1)), (some 13, .lenS (.t 12)), (some 14, .slS (.t 11) (some (.t 13)) none), (some 4, .mv (.t 14)), (some 5, .mv (.c (.bool true)))]⟩] [4, 5])
 .ret)))
theorem k_stringslite_CutPrefix : Ok Tryd.prog 21 c_stringslite_CutPrefix 15 [] [.tmp 4, .tmp 5] := Ok.mk' Tryd.func21 (by kernel_rfl) (by kernel_rfl) (by kernel_rfl)

abbrev f_stringslite_HasPrefix : Nat := 27
def c_stringslite_HasPrefix : Cd :=
 (.seq (.rg [⟨none, [(some 4, .mv (.c (.bool false)))]⟩] [0, 1])
 (.seq (.rg [⟨none, [(some 5, .mv (.t 0)), (some 6, .lenS (.t 5)), (some 7, .mv (.t 1)), (some 8, .lenS (.t 7)), (some 9, .bin .geq (.t 6) (.t 8)), (some 10, .mv (.t 9))]⟩, ⟨some (10, true), [(some 11, .mv (.t 0)), (some 12, .mv (.t 1)), (some 13, .lenS (.t 12)), (some 14, .slS (.t 11) none (some (.t 13))), (some 15, .mv (.t 1)), (some 16, .bin .eql (.t 14) (.t 15))]⟩, ⟨none, [(some 17, .pick (.t 10) (.t 16) (.c (.bool false))), (some 4, .mv (.t 17))]⟩] [4])
 .ret))
theorem k_stringslite_HasPrefix : Ok Tryd.prog 27 c_stringslite_HasPrefix 18 [] [.tmp 4] := Ok.mk' Tryd.func27 (by kernel_rfl) (by kernel_rfl) (by kernel_rfl)

abbrev f_tree_Name : Nat := 23
def c_tree_Name_L0 : Cd :=
 (.seq (.rg [⟨none, [(some 24, .bin .lss (.t 23) (.t 22))]⟩] [21, 22, 23, 24])
 (.seq (.ite (.t 24)
 .skip
 (.exit 0))
 (.seq (.block 1 (.seq (.rg [⟨none, [(some 25, .idxS (.t 21) (.t 23) 1), (some 26, .ld (.t 25) 1 false), (some 4, .mv (.t 26))]⟩] [4, 21, 22, 23])
 (.seq (.rg [⟨none, [(some 27, .mv (.t 4)), (some 28, .bin .eql (.t 27) (.c (.int .u8 47)))]⟩] [21, 22, 23, 28])
 (.ite (.t 28)
 (.seq (.rg [⟨none, [(some 2, .mv (.c (.bool false)))]⟩] [2])
 .ret)
 .skip))))
 (.rg [⟨none, [(some 29, .bin .add (.t 23) (.c (.int .i64 1))), (some 23, .mv (.t 29))]⟩] [21, 22, 23]))))
def c_tree_Name : Cd :=
 (.seq (.rg [⟨none, [(some 2, .mv (.c (.bool false)))]⟩] [0])
 (.seq (.seq (.rg [⟨none, [(some 5, .mv (.t 0)), (some 6, .bin .eql (.t 5) (.c (.string ⟨#[]⟩))), (some 7, .mv (.t 6))]⟩, ⟨some (7, false), [(some 8, .mv (.t 0)), (some 9, .lenS (.t 8)), (some 10, .bin .gtr (.t 9) (.c (.int .i64 255)))]⟩, ⟨none, [(some 11, .pick (.t 7) (.c (.bool true)) (.t 10)), (some 12, .mv (.t 11))]⟩, ⟨some (12, false), [(some 13, .mv (.t 0)), (some 14, .bin .eql (.t 13) (.c (.string ⟨#[46]⟩)))]⟩, ⟨none, [(some 15, .pick (.t 12) (.c (.bool true)) (.t 14)), (some 16, .mv (.t 15))]⟩, ⟨some (16, false), [(some 17, .mv (.t 0)), (some 18, .bin .eql (.t 17) (.c (.string ⟨#[46, 46]⟩)))]⟩, ⟨none, [(some 19, .pick (.t 16) (.c (.bool true)) (.t 18))]⟩] [0, 19])
 (.ite (.t 19)
 (.seq (.rg [⟨none, [(some 2, .mv (.c (.bool false)))]⟩] [2])
 .ret)
 .skip))
 (.seq (.seq (.rg [⟨none, [(some 20, .mv (.t 0)), (some 21, .s2b 5 (.t 20)), (some 22, .len (.t 21)), (some 23, .mv (.c (.int .i64 0)))]⟩] [21, 22, 23])
 (.block 0 (.loop c_tree_Name_L0)))
 (.seq (.rg [⟨none, [(some 2, .mv (.c (.bool true)))]⟩] [2])
 .ret))))
theorem k_tree_Name : Ok Tryd.prog 23 c_tree_Name 30 [] [.tmp 2] := Ok.mk' Tryd.func23 (by kernel_rfl) (by kernel_rfl) (by kernel_rfl)

abbrev f_ref12_Name : Nat := 19
def c_ref12_Name_L0 : Cd :=
 (.seq (.seq (.rg [⟨none, [(some 19, .mv (.t 3)), (some 20, .mv (.t 0)), (some 21, .lenS (.t 20)), (some 22, .bin .lss (.t 19) (.t 21))]⟩] [0, 3, 22])
 (.ite (.t 22)
 .skip
 (.exit 0)))
 (.seq (.block 1 (.seq (.rg [⟨none, [(some 25, .mv (.t 0)), (some 26, .mv (.t 3)), (some 27, .strI (.t 25) (.t 26)), (some 28, .bin .eql (.t 27) (.c (.int .u8 47)))]⟩] [0, 3, 28])
 (.ite (.t 28)
 (.seq (.rg [⟨none, [(some 2, .mv (.c (.bool false)))]⟩] [2])
 .ret)
 .skip)))
 (.rg [⟨none, [(some 23, .mv (.t 3)), (some 24, .bin .add (.t 23) (.c (.int .i64 1))), (some 3, .mv (.t 24))]⟩] [0, 3])))
def c_ref12_Name : Cd :=
 (.seq (.rg [⟨none, [(some 2, .mv (.c (.bool false)))]⟩] [0])
 (.seq (.seq (.rg [⟨none, [(some 4, .mv (.t 0)), (some 5, .bin .eql (.t 4) (.c (.string ⟨#[]⟩))), (some 6, .mv (.t 5))]⟩, ⟨some (6, false), [(some 7, .mv (.t 0)), (some 8, .lenS (.t 7)), (some 9, .bin .gtr (.t 8) (.c (.int .i64 255)))]⟩, ⟨none, [(some 10, .pick (.t 6) (.c (.bool true)) (.t 9)), (some 11, .mv (.t 10))]⟩, ⟨some (11, false), [(some 12, .mv (.t 0)), (some 13, .bin .eql (.t 12) (.c (.string ⟨#[46]⟩)))]⟩, ⟨none, [(some 14, .pick (.t 11) (.c (.bool true)) (.t 13)), (some 15, .mv (.t 14))]⟩, ⟨some (15, false), [(some 16, .mv (.t 0)), (some 17, .bin .eql (.t 16) (.c (.string ⟨#[46, 46]⟩)))]⟩, ⟨none, [(some 18, .pick (.t 15) (.c (.bool true)) (.t 17))]⟩] [0, 18])
 (.ite (.t 18)
 (.seq (.rg [⟨none, [(some 2, .mv (.c (.bool false)))]⟩] [2])
 .ret)
 .skip))
 (.seq (.seq (.rg [⟨none, [(some 3, .mv (.c (.int .i64 0)))]⟩] [0, 3])
 (.block 0 (.loop c_ref12_Name_L0)))
 (.seq (.rg [⟨none, [(some 2, .mv (.c (.bool true)))]⟩] [2])
 .ret))))
theorem k_ref12_Name : Ok Tryd.prog 19 c_ref12_Name 29 [] [.tmp 2] := Ok.mk' Tryd.func19 (by kernel_rfl) (by kernel_rfl) (by kernel_rfl)

abbrev f_path_wrong : Nat := 18
def c_path_wrong_L0 : Cd :=
 (.seq (.rg [⟨none, [(some 8, .bin .lss (.t 7) (.t 6))]⟩] [0, 5, 6, 7, 8])
 (.seq (.ite (.t 8)
 .skip
 (.exit 0))
 (.seq (.block 1 (.seq (.rg [⟨none, [(some 9, .idxS (.t 5) (.t 7) 1), (some 10, .ld (.t 9) 1 false), (some 4, .mv (.t 10))]⟩] [0, 4, 5, 6, 7])
 (.seq (.rg [⟨none, [(some 11, .mv (.t 4)), (some 12, .call 23 [(.t 11)]), (some 13, .un .not (.t 12))]⟩] [0, 5, 6, 7, 13])
 (.ite (.t 13)
 (.seq (.rg [⟨none, [(some 2, .mv (.c (.int .i64 200)))]⟩] [2])
 .ret)
 .skip))))
 (.rg [⟨none, [(some 14, .bin .add (.t 7) (.c (.int .i64 1))), (some 7, .mv (.t 14))]⟩] [0, 5, 6, 7]))))
def c_path_wrong : Cd :=
 (.seq (.rg [⟨none, [(some 2, .mv (.c (.int .i64 0)))]⟩] [0])
 (.seq (.seq (.rg [⟨none, [(some 5, .mv (.t 0)), (some 6, .len (.t 5)), (some 7, .mv (.c (.int .i64 0)))]⟩] [0, 5, 6, 7])
 (.block 0 (.loop c_path_wrong_L0)))
 (.seq (.seq (.rg [⟨none, [(some 15, .mv (.t 0)), (some 16, .len (.t 15)), (some 17, .bin .gtr (.t 16) (.c (.int .i64 64)))]⟩] [17])
 (.ite (.t 17)
 (.seq (.rg [⟨none, [(some 2, .mv (.c (.int .i64 3)))]⟩] [2])
 .ret)
 .skip))
 (.seq (.rg [⟨none, [(some 2, .mv (.c (.int .i64 0)))]⟩] [2])
 .ret))))
theorem k_path_wrong : Ok Tryd.prog 18 c_path_wrong 18 [] [.tmp 2] := Ok.mk' Tryd.func18 (by kernel_rfl) (by kernel_rfl) (by kernel_rfl)

end Go.Proofs.YtgjgbpnjodhhiaaDoor.Vc
