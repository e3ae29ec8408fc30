/- The code of some functions of the program, its types resolved: printed by a program of this claim. -/
import Derived.Test.YtgjgbpnjodhhiaaDoorVc10
import Derived.Test.YtgjgbpnjodhhiaaDoorProg
set_option linter.unusedVariables false
set_option maxRecDepth 100000
namespace Go.Proofs.YtgjgbpnjodhhiaaDoor.Vc
open Go Go.Proofs

abbrev f_path_Split : Nat := 7
def c_path_Split : Cd :=
 (.seq (.rg [⟨none, [(some 2, .mv (.c (.slice none 0 0))), (some 3, .mv (.c (.int .i64 0)))]⟩] [0])
 (.seq (.seq (.rg [⟨none, [(some 8, .mv (.t 0)), (some 9, .bin .eql (.t 8) (.c (.string ⟨#[47]⟩)))]⟩] [0, 9])
 (.ite (.t 9)
 (.seq (.rg [⟨none, [(some 2, .mv (.c (.slice none 0 0))), (some 3, .mv (.c (.int .i64 0)))]⟩] [2, 3])
 .ret)
 .skip))
 (.seq (.rg [⟨none, [(some 11, .mv (.t 0)), (some 12, .call 16 [(.t 11), (.c (.string ⟨#[47]⟩))]), (some 10, .mv (.t 12)), (some 13, .ext (.t 10) 0), (some 14, .ext (.t 10) 1), (some 4, .mv (.t 13)), (some 5, .mv (.t 14))]⟩] [4, 5])
 (.seq (.seq (.rg [⟨none, [(some 15, .mv (.t 5)), (some 16, .un .not (.t 15))]⟩] [4, 16])
 (.ite (.t 16)
 (.seq (.rg [⟨none, [(some 2, .mv (.c (.slice none 0 0))), (some 3, .mv (.c (.int .i64 200)))]⟩] [2, 3])
 .ret)
 .skip))
 (.seq (.rg [⟨none, [(some 17, .mv (.t 4)), (some 18, .call 17 [(.t 17), (.c (.string ⟨#[47]⟩))]), (some 6, .mv (.t 18))]⟩] [6])
 (.seq (.seq (.rg [⟨none, [(some 19, .mv (.t 6)), (some 20, .call 18 [(.t 19)]), (some 7, .mv (.t 20))]⟩] [6, 7])
 (.seq (.rg [⟨none, [(some 21, .mv (.t 7)), (some 22, .bin .neq (.t 21) (.c (.int .i64 0)))]⟩] [6, 7, 22])
 (.ite (.t 22)
 (.seq (.rg [⟨none, [(some 23, .mv (.t 7)), (some 2, .mv (.c (.slice none 0 0))), (some 3, .mv (.t 23))]⟩] [2, 3])
 .ret)
 .skip)))
 (.seq (.rg [⟨none, [(some 24, .mv (.t 6)), (some 2, .mv (.t 24)), (some 3, .mv (.c (.int .i64 0)))]⟩] [2, 3])
 .ret)))))))
theorem k_path_Split : Ok Tryd.prog 7 c_path_Split 25 [] [.tmp 2, .tmp 3] := Ok.mk' Tryd.func7 (by kernel_rfl) (by kernel_rfl) (by kernel_rfl)

abbrev f_ref20_Split : Nat := 8
def c_ref20_Split_L0 : Cd :=
 (.seq (.seq (.rg [⟨none, [(some 16, .mv (.t 6)), (some 17, .mv (.t 0)), (some 18, .lenS (.t 17)), (some 19, .bin .leq (.t 16) (.t 18))]⟩] [0, 4, 5, 6, 19])
 (.ite (.t 19)
 .skip
 (.exit 0)))
 (.seq (.block 1 (.seq (.seq (.rg [⟨none, [(some 22, .mv (.t 6)), (some 23, .mv (.t 0)), (some 24, .lenS (.t 23)), (some 25, .bin .lss (.t 22) (.t 24)), (some 26, .mv (.t 25))]⟩, ⟨some (26, true), [(some 27, .mv (.t 0)), (some 28, .mv (.t 6)), (some 29, .strI (.t 27) (.t 28)), (some 30, .bin .neq (.t 29) (.c (.int .u8 47)))]⟩, ⟨none, [(some 31, .pick (.t 26) (.t 30) (.c (.bool false)))]⟩] [0, 4, 5, 6, 31])
 (.ite (.t 31)
 (.exit 1)
 .skip))
 (.seq (.seq (.rg [⟨none, [(some 32, .mv (.t 0)), (some 33, .mv (.t 5)), (some 34, .mv (.t 6)), (some 35, .slS (.t 32) (some (.t 33)) (some (.t 34))), (some 36, .call 19 [(.t 35)]), (some 37, .un .not (.t 36))]⟩] [0, 4, 5, 6, 37])
 (.ite (.t 37)
 (.seq (.rg [⟨none, [(some 2, .mv (.c (.slice none 0 0))), (some 3, .mv (.c (.int .i64 200)))]⟩] [2, 3])
 .ret)
 .skip))
 (.seq (.rg [⟨none, [(some 38, .mv (.t 4)), (some 39, .mv (.t 0)), (some 40, .mv (.t 5)), (some 41, .mv (.t 6)), (some 42, .slS (.t 39) (some (.t 40)) (some (.t 41))), (some 43, .bldS 9 1 (.s (.string ⟨#[]⟩)) [(.t 42)]), (some 44, .app 9 1 16 (.s (.string ⟨#[]⟩)) (.t 38) (.t 43)), (some 4, .mv (.t 44))]⟩] [0, 4, 6])
 (.rg [⟨none, [(some 45, .mv (.t 6)), (some 46, .bin .add (.t 45) (.c (.int .i64 1))), (some 5, .mv (.t 46))]⟩] [0, 4, 5, 6])))))
 (.rg [⟨none, [(some 20, .mv (.t 6)), (some 21, .bin .add (.t 20) (.c (.int .i64 1))), (some 6, .mv (.t 21))]⟩] [0, 4, 5, 6])))
def c_ref20_Split : Cd :=
 (.seq (.rg [⟨none, [(some 2, .mv (.c (.slice none 0 0))), (some 3, .mv (.c (.int .i64 0)))]⟩] [0])
 (.seq (.seq (.rg [⟨none, [(some 7, .mv (.t 0)), (some 8, .bin .eql (.t 7) (.c (.string ⟨#[]⟩))), (some 9, .mv (.t 8))]⟩, ⟨some (9, false), [(some 10, .mv (.t 0)), (some 11, .strI (.t 10) (.c (.int .i64 0))), (some 12, .bin .neq (.t 11) (.c (.int .u8 47)))]⟩, ⟨none, [(some 13, .pick (.t 9) (.c (.bool true)) (.t 12))]⟩] [0, 13])
 (.ite (.t 13)
 (.seq (.rg [⟨none, [(some 2, .mv (.c (.slice none 0 0))), (some 3, .mv (.c (.int .i64 200)))]⟩] [2, 3])
 .ret)
 .skip))
 (.seq (.seq (.rg [⟨none, [(some 14, .mv (.t 0)), (some 15, .bin .eql (.t 14) (.c (.string ⟨#[47]⟩)))]⟩] [0, 15])
 (.ite (.t 15)
 (.seq (.rg [⟨none, [(some 2, .mv (.c (.slice none 0 0))), (some 3, .mv (.c (.int .i64 0)))]⟩] [2, 3])
 .ret)
 .skip))
 (.seq (.rg [⟨none, [(some 4, .mv (.c (.slice none 0 0))), (none, .gh)]⟩] [0, 4])
 (.seq (.rg [⟨none, [(some 5, .mv (.c (.int .i64 1)))]⟩] [0, 4, 5])
 (.seq (.seq (.rg [⟨none, [(some 6, .mv (.c (.int .i64 1)))]⟩] [0, 4, 5, 6])
 (.block 0 (.loop c_ref20_Split_L0)))
 (.seq (.seq (.rg [⟨none, [(some 47, .mv (.t 4)), (some 48, .len (.t 47)), (some 49, .bin .gtr (.t 48) (.c (.int .i64 64)))]⟩] [4, 49])
 (.ite (.t 49)
 (.seq (.rg [⟨none, [(some 2, .mv (.c (.slice none 0 0))), (some 3, .mv (.c (.int .i64 3)))]⟩] [2, 3])
 .ret)
 .skip))
 (.seq (.rg [⟨none, [(some 50, .mv (.t 4)), (some 2, .mv (.t 50)), (none, .gh), (some 3, .mv (.c (.int .i64 0)))]⟩] [2, 3])
 .ret))))))))
theorem k_ref20_Split : Ok Tryd.prog 8 c_ref20_Split 51 [] [.tmp 2, .tmp 3] := Ok.mk' Tryd.func8 (by kernel_rfl) (by kernel_rfl) (by kernel_rfl)

abbrev f_path_Join : Nat := 9
def c_path_Join : Cd :=
 (.seq (.rg [⟨none, [(some 2, .mv (.c (.string ⟨#[]⟩))), (some 3, .mv (.c (.int .i64 0)))]⟩] [0])
 (.seq (.seq (.rg [⟨none, [(some 5, .mv (.t 0)), (some 6, .call 18 [(.t 5)]), (some 4, .mv (.t 6))]⟩] [0, 4])
 (.seq (.rg [⟨none, [(some 7, .mv (.t 4)), (some 8, .bin .neq (.t 7) (.c (.int .i64 0)))]⟩] [0, 4, 8])
 (.ite (.t 8)
 (.seq (.rg [⟨none, [(some 9, .mv (.t 4)), (some 2, .mv (.c (.string ⟨#[]⟩))), (some 3, .mv (.t 9))]⟩] [2, 3])
 .ret)
 .skip)))
 (.seq (.rg [⟨none, [(some 10, .mv (.t 0)), (some 11, .call 20 [(.t 10), (.c (.string ⟨#[47]⟩))]), (some 12, .bin .add (.c (.string ⟨#[47]⟩)) (.t 11)), (some 2, .mv (.t 12)), (some 3, .mv (.c (.int .i64 0)))]⟩] [2, 3])
 .ret)))
theorem k_path_Join : Ok Tryd.prog 9 c_path_Join 13 [] [.tmp 2, .tmp 3] := Ok.mk' Tryd.func9 (by kernel_rfl) (by kernel_rfl) (by kernel_rfl)

abbrev f_ref20_Join : Nat := 10
def c_ref20_Join_L0 : Cd :=
 (.seq (.seq (.rg [⟨none, [(some 6, .mv (.t 5)), (some 7, .mv (.t 0)), (some 8, .len (.t 7)), (some 9, .bin .lss (.t 6) (.t 8))]⟩] [0, 4, 5, 9])
 (.ite (.t 9)
 .skip
 (.exit 0)))
 (.seq (.block 1 (.seq (.seq (.rg [⟨none, [(some 12, .mv (.t 0)), (some 13, .mv (.t 5)), (some 14, .idxS (.t 12) (.t 13) 1), (some 15, .ld (.t 14) 1 false), (some 16, .call 19 [(.t 15)]), (some 17, .un .not (.t 16))]⟩] [0, 4, 5, 17])
 (.ite (.t 17)
 (.seq (.rg [⟨none, [(some 2, .mv (.c (.string ⟨#[]⟩))), (some 3, .mv (.c (.int .i64 200)))]⟩] [2, 3])
 .ret)
 .skip))
 (.rg [⟨none, [(some 18, .mv (.t 4)), (some 19, .mv (.t 0)), (some 20, .mv (.t 5)), (some 21, .idxS (.t 19) (.t 20) 1), (some 22, .ld (.t 21) 1 false), (some 23, .bin .add (.c (.string ⟨#[47]⟩)) (.t 22)), (some 24, .bin .add (.t 18) (.t 23)), (some 4, .mv (.t 24))]⟩] [0, 4, 5])))
 (.rg [⟨none, [(some 10, .mv (.t 5)), (some 11, .bin .add (.t 10) (.c (.int .i64 1))), (some 5, .mv (.t 11))]⟩] [0, 4, 5])))
def c_ref20_Join : Cd :=
 (.seq (.rg [⟨none, [(some 2, .mv (.c (.string ⟨#[]⟩))), (some 3, .mv (.c (.int .i64 0)))]⟩] [0])
 (.seq (.rg [⟨none, [(some 4, .mv (.c (.string ⟨#[]⟩)))]⟩] [0, 4])
 (.seq (.seq (.rg [⟨none, [(some 5, .mv (.c (.int .i64 0)))]⟩] [0, 4, 5])
 (.block 0 (.loop c_ref20_Join_L0)))
 (.seq (.seq (.rg [⟨none, [(some 25, .mv (.t 0)), (some 26, .len (.t 25)), (some 27, .bin .gtr (.t 26) (.c (.int .i64 64)))]⟩] [4, 27])
 (.ite (.t 27)
 (.seq (.rg [⟨none, [(some 2, .mv (.c (.string ⟨#[]⟩))), (some 3, .mv (.c (.int .i64 3)))]⟩] [2, 3])
 .ret)
 .skip))
 (.seq (.seq (.rg [⟨none, [(some 28, .mv (.t 4)), (some 29, .bin .eql (.t 28) (.c (.string ⟨#[]⟩)))]⟩] [4, 29])
 (.ite (.t 29)
 (.seq (.rg [⟨none, [(some 2, .mv (.c (.string ⟨#[47]⟩))), (some 3, .mv (.c (.int .i64 0)))]⟩] [2, 3])
 .ret)
 .skip))
 (.seq (.rg [⟨none, [(some 30, .mv (.t 4)), (some 2, .mv (.t 30)), (some 3, .mv (.c (.int .i64 0)))]⟩] [2, 3])
 .ret))))))
theorem k_ref20_Join : Ok Tryd.prog 10 c_ref20_Join 31 [] [.tmp 2, .tmp 3] := Ok.mk' Tryd.func10 (by kernel_rfl) (by kernel_rfl) (by kernel_rfl)

end Go.Proofs.YtgjgbpnjodhhiaaDoor.Vc
