/- The code of some functions of the program, its types resolved: printed by a program of this claim. -/
import Derived.Test.YtdpknchgoeboaaaVc10
import Derived.Test.YtdpknchgoeboaaaProg
set_option linter.unusedVariables false
set_option maxRecDepth 100000
namespace Go.Proofs.Ytdpknchgoeboaaa.Vc
open Go Go.Proofs

abbrev f_tree_Tree_told : Nat := 37
def c_tree_Tree_told_L0 : Cd :=
 (.seq (.rg [⟨none, [(some 35, .bin .lss (.t 34) (.t 33))]⟩] [4, 5, 6, 32, 33, 34, 35])
 (.seq (.ite (.t 35)
 .skip
 (.exit 0))
 (.seq (.block 1 (.seq (.rg [⟨none, [(some 36, .idxS (.t 32) (.t 34) 1), (some 37, .ld (.t 36) 1 false), (some 8, .mv (.t 37))]⟩] [4, 5, 6, 8, 32, 33, 34])
 (.rga (.op ⟨none, [(some 38, .fldA (.t 6) 3 3)]⟩ (.op ⟨none, [(some 40, .mv (.t 8))]⟩ (.op ⟨none, [(some 41, .mv (.t 5))]⟩ (.op ⟨none, [(some 42, .nilc (.t 41))]⟩ (.op ⟨none, [(some 43, .fldA (.t 42) 1 2)]⟩ (.op ⟨none, [(some 45, .mv (.t 8))]⟩ (.or (.op ⟨none, [(some 39, .ld (.t 38) 1 false)]⟩ (.op ⟨none, [(some 44, .ld (.t 43) 1 false)]⟩ (.op ⟨none, [(some 46, .mlk none (.t 44) (.t 45) (.string ⟨#[]⟩) false)]⟩ (.op ⟨none, [(some 47, .bld (.c (.s (.string ⟨#[]⟩)) (.c (.s (.string ⟨#[]⟩)) .u)) [(0, (.t 40)), (1, (.t 46))])]⟩ (.op ⟨none, [(some 48, .bldS 103 2 (.c (.s (.string ⟨#[]⟩)) (.c (.s (.string ⟨#[]⟩)) .u)) [(.t 47)])]⟩ (.op ⟨none, [(some 49, .app 103 2 32 (.c (.s (.string ⟨#[]⟩)) (.c (.s (.string ⟨#[]⟩)) .u)) (.t 39) (.t 48))]⟩ (.op ⟨none, [(some 50, .fldA (.t 6) 3 3)]⟩ (.op ⟨none, [(none, .st (.t 50) (.t 49) 1)]⟩ .done)))))))) (.op ⟨none, [(some 44, .ld (.t 43) 1 false)]⟩ (.or (.op ⟨none, [(some 39, .ld (.t 38) 1 false)]⟩ (.op ⟨none, [(some 46, .mlk none (.t 44) (.t 45) (.string ⟨#[]⟩) false)]⟩ (.op ⟨none, [(some 47, .bld (.c (.s (.string ⟨#[]⟩)) (.c (.s (.string ⟨#[]⟩)) .u)) [(0, (.t 40)), (1, (.t 46))])]⟩ (.op ⟨none, [(some 48, .bldS 103 2 (.c (.s (.string ⟨#[]⟩)) (.c (.s (.string ⟨#[]⟩)) .u)) [(.t 47)])]⟩ (.op ⟨none, [(some 49, .app 103 2 32 (.c (.s (.string ⟨#[]⟩)) (.c (.s (.string ⟨#[]⟩)) .u)) (.t 39) (.t 48))]⟩ (.op ⟨none, [(some 50, .fldA (.t 6) 3 3)]⟩ (.op ⟨none, [(none, .st (.t 50) (.t 49) 1)]⟩ .done))))))) (.op ⟨none, [(some 46, .mlk none (.t 44) (.t 45) (.string ⟨#[]⟩) false)]⟩ (.op ⟨none, [(some 47, .bld (.c (.s (.string ⟨#[]⟩)) (.c (.s (.string ⟨#[]⟩)) .u)) [(0, (.t 40)), (1, (.t 46))])]⟩ (.or (.op ⟨none, [(some 39, .ld (.t 38) 1 false)]⟩ (.op ⟨none, [(some 48, .bldS 103 2 (.c (.s (.string ⟨#[]⟩)) (.c (.s (.string ⟨#[]⟩)) .u)) [(.t 47)])]⟩ (.op ⟨none, [(some 49, .app 103 2 32 (.c (.s (.string ⟨#[]⟩)) (.c (.s (.string ⟨#[]⟩)) .u)) (.t 39) (.t 48))]⟩ (.op ⟨none, [(some 50, .fldA (.t 6) 3 3)]⟩ (.op ⟨none, [(none, .st (.t 50) (.t 49) 1)]⟩ .done))))) (.op ⟨none, [(some 48, .bldS 103 2 (.c (.s (.string ⟨#[]⟩)) (.c (.s (.string ⟨#[]⟩)) .u)) [(.t 47)])]⟩ (.op ⟨none, [(some 39, .ld (.t 38) 1 false)]⟩ (.op ⟨none, [(some 49, .app 103 2 32 (.c (.s (.string ⟨#[]⟩)) (.c (.s (.string ⟨#[]⟩)) .u)) (.t 39) (.t 48))]⟩ (.op ⟨none, [(some 50, .fldA (.t 6) 3 3)]⟩ (.op ⟨none, [(none, .st (.t 50) (.t 49) 1)]⟩ .done))))))))))))))))) [4, 5, 6, 32, 33, 34])))
 (.rg [⟨none, [(some 51, .bin .add (.t 34) (.c (.int .i64 1))), (some 34, .mv (.t 51))]⟩] [4, 5, 6, 32, 33, 34]))))
def c_tree_Tree_told_R3 : Cd :=
 (.seq (.seq (.gh (.rg [⟨none, [(some 27, .mv (.t 5)), (some 28, .nilc (.t 27)), (some 29, .fldA (.t 28) 1 2), (some 30, .ld (.t 29) 1 false), (some 31, .call 68 [(.t 30)]), (some 32, .call 67 [(.t 31)]), (none, .gh), (some 33, .len (.t 32)), (some 34, .mv (.c (.int .i64 0)))]⟩] [4, 5, 6, 32, 33, 34]))
 (.block 0 (.loop c_tree_Tree_told_L0)))
 (.seq (.rg [⟨none, [(some 52, .ld (.t 6) 4 true), (none, .st (.t 4) (.t 52) 4)]⟩] [4])
 .ret))
def c_tree_Tree_told : Cd :=
 (.seq (.rg [⟨none, [(some 4, .new 62 (.c (.s (.int .i64 0)) (.c (.s (.int .i64 0)) (.c (.s (.string ⟨#[]⟩)) (.c (.s (.slice none 0 0)) .u)))))]⟩] [0, 1, 4])
 (.seq (.rg [⟨none, [(some 9, .mv (.t 0)), (some 10, .nilc (.t 9)), (some 11, .fldA (.t 10) 0 0), (some 12, .ld (.t 11) 1 false), (some 13, .mv (.t 1)), (some 14, .mlk (some .i64) (.t 12) (.t 13) (.pointer none) false), (some 5, .mv (.t 14))]⟩] [1, 4, 5])
 (.seq (.rga (.op ⟨none, [(some 15, .mv (.t 1))]⟩ (.op ⟨none, [(some 16, .mv (.t 5))]⟩ (.op ⟨none, [(some 17, .nilc (.t 16))]⟩ (.op ⟨none, [(some 18, .fldA (.t 17) 0 0)]⟩ (.op ⟨none, [(some 19, .fldA (.t 18) 0 0)]⟩ (.op ⟨none, [(some 21, .mv (.t 5))]⟩ (.op ⟨none, [(some 22, .nilc (.t 21))]⟩ (.op ⟨none, [(some 23, .fldA (.t 22) 0 0)]⟩ (.op ⟨none, [(some 24, .fldA (.t 23) 1 1)]⟩ (.or (.op ⟨none, [(some 20, .ld (.t 19) 1 false)]⟩ (.or (.op ⟨none, [(some 25, .ld (.t 24) 1 false)]⟩ (.op ⟨none, [(some 26, .bld (.c (.s (.int .i64 0)) (.c (.s (.int .i64 0)) (.c (.s (.string ⟨#[]⟩)) (.c (.s (.slice none 0 0)) .u)))) [(0, (.t 15)), (1, (.t 20)), (2, (.t 25))])]⟩ (.op ⟨none, [(some 6, .new 62 (.c (.s (.int .i64 0)) (.c (.s (.int .i64 0)) (.c (.s (.string ⟨#[]⟩)) (.c (.s (.slice none 0 0)) .u)))))]⟩ (.op ⟨none, [(none, .st (.t 6) (.t 26) 4)]⟩ .done)))) (.op ⟨none, [(some 6, .new 62 (.c (.s (.int .i64 0)) (.c (.s (.int .i64 0)) (.c (.s (.string ⟨#[]⟩)) (.c (.s (.slice none 0 0)) .u)))))]⟩ (.op ⟨none, [(some 25, .ld (.t 24) 1 false)]⟩ (.op ⟨none, [(some 26, .bld (.c (.s (.int .i64 0)) (.c (.s (.int .i64 0)) (.c (.s (.string ⟨#[]⟩)) (.c (.s (.slice none 0 0)) .u)))) [(0, (.t 15)), (1, (.t 20)), (2, (.t 25))])]⟩ (.op ⟨none, [(none, .st (.t 6) (.t 26) 4)]⟩ .done)))))) (.or (.op ⟨none, [(some 25, .ld (.t 24) 1 false)]⟩ (.or (.op ⟨none, [(some 20, .ld (.t 19) 1 false)]⟩ (.op ⟨none, [(some 26, .bld (.c (.s (.int .i64 0)) (.c (.s (.int .i64 0)) (.c (.s (.string ⟨#[]⟩)) (.c (.s (.slice none 0 0)) .u)))) [(0, (.t 15)), (1, (.t 20)), (2, (.t 25))])]⟩ (.op ⟨none, [(some 6, .new 62 (.c (.s (.int .i64 0)) (.c (.s (.int .i64 0)) (.c (.s (.string ⟨#[]⟩)) (.c (.s (.slice none 0 0)) .u)))))]⟩ (.op ⟨none, [(none, .st (.t 6) (.t 26) 4)]⟩ .done)))) (.op ⟨none, [(some 6, .new 62 (.c (.s (.int .i64 0)) (.c (.s (.int .i64 0)) (.c (.s (.string ⟨#[]⟩)) (.c (.s (.slice none 0 0)) .u)))))]⟩ (.op ⟨none, [(some 20, .ld (.t 19) 1 false)]⟩ (.op ⟨none, [(some 26, .bld (.c (.s (.int .i64 0)) (.c (.s (.int .i64 0)) (.c (.s (.string ⟨#[]⟩)) (.c (.s (.slice none 0 0)) .u)))) [(0, (.t 15)), (1, (.t 20)), (2, (.t 25))])]⟩ (.op ⟨none, [(none, .st (.t 6) (.t 26) 4)]⟩ .done)))))) (.op ⟨none, [(some 6, .new 62 (.c (.s (.int .i64 0)) (.c (.s (.int .i64 0)) (.c (.s (.string ⟨#[]⟩)) (.c (.s (.slice none 0 0)) .u)))))]⟩ (.or (.op ⟨none, [(some 20, .ld (.t 19) 1 false)]⟩ (.op ⟨none, [(some 25, .ld (.t 24) 1 false)]⟩ (.op ⟨none, [(some 26, .bld (.c (.s (.int .i64 0)) (.c (.s (.int .i64 0)) (.c (.s (.string ⟨#[]⟩)) (.c (.s (.slice none 0 0)) .u)))) [(0, (.t 15)), (1, (.t 20)), (2, (.t 25))])]⟩ (.op ⟨none, [(none, .st (.t 6) (.t 26) 4)]⟩ .done)))) (.op ⟨none, [(some 25, .ld (.t 24) 1 false)]⟩ (.op ⟨none, [(some 20, .ld (.t 19) 1 false)]⟩ (.op ⟨none, [(some 26, .bld (.c (.s (.int .i64 0)) (.c (.s (.int .i64 0)) (.c (.s (.string ⟨#[]⟩)) (.c (.s (.slice none 0 0)) .u)))) [(0, (.t 15)), (1, (.t 20)), (2, (.t 25))])]⟩ (.op ⟨none, [(none, .st (.t 6) (.t 26) 4)]⟩ .done))))))))))))))))) [4, 5, 6])
 c_tree_Tree_told_R3)))
theorem k_tree_Tree_told : Ok Try.prog 37 c_tree_Tree_told 53 [(2, 999999), (6, 999999)] [.cell 4 4 true] := Ok.mk' Try.func37 (by kernel_rfl) (by kernel_rfl) (by kernel_rfl)

abbrev f_tree_Tree_Nodes : Nat := 13
def c_tree_Tree_Nodes_L0 : Cd :=
 (.seq (.rg [⟨none, [(some 17, .bin .lss (.t 16) (.t 15))]⟩] [0, 3, 14, 15, 16, 17])
 (.seq (.ite (.t 17)
 .skip
 (.exit 0))
 (.seq (.block 1 (.seq (.rg [⟨none, [(some 18, .idxS (.t 14) (.t 16) 1), (some 19, .ld (.t 18) 1 false), (some 5, .mv (.t 19))]⟩] [0, 3, 5, 14, 15, 16])
 (.seq (.rg [⟨none, [(some 20, .mv (.t 0)), (some 21, .mv (.t 5)), (some 22, .call 37 [(.t 20), (.t 21)]), (some 6, .new 62 (.c (.s (.int .i64 0)) (.c (.s (.int .i64 0)) (.c (.s (.string ⟨#[]⟩)) (.c (.s (.slice none 0 0)) .u))))), (none, .st (.t 6) (.t 22) 4)]⟩] [0, 3, 5, 6, 14, 15, 16])
 (.seq (.rg [⟨none, [(some 23, .mv (.t 5)), (some 24, .call 38 [(.t 23)]), (some 25, .un .not (.t 24)), (some 26, .mv (.t 25))]⟩, ⟨some (26, false), [(some 27, .fldA (.t 6) 3 3), (some 28, .ld (.t 27) 1 false), (some 29, .len (.t 28)), (some 30, .bin .gtr (.t 29) (.c (.int .i64 0)))]⟩, ⟨none, [(some 31, .pick (.t 26) (.c (.bool true)) (.t 30))]⟩] [0, 3, 6, 14, 15, 16, 31])
 (.ite (.t 31)
 (.rg [⟨none, [(some 32, .mv (.t 3)), (some 33, .ld (.t 6) 4 true), (some 34, .bldS 62 4 (.c (.s (.int .i64 0)) (.c (.s (.int .i64 0)) (.c (.s (.string ⟨#[]⟩)) (.c (.s (.slice none 0 0)) .u)))) [(.t 33)]), (some 35, .app 62 4 56 (.c (.s (.int .i64 0)) (.c (.s (.int .i64 0)) (.c (.s (.string ⟨#[]⟩)) (.c (.s (.slice none 0 0)) .u)))) (.t 32) (.t 34)), (some 3, .mv (.t 35))]⟩] [0, 3, 14, 15, 16])
 .skip)))))
 (.rg [⟨none, [(some 36, .bin .add (.t 16) (.c (.int .i64 1))), (some 16, .mv (.t 36))]⟩] [0, 3, 14, 15, 16]))))
def c_tree_Tree_Nodes : Cd :=
 (.seq (.rg [⟨none, [(some 2, .mv (.c (.slice none 0 0)))]⟩] [0])
 (.seq (.seq (.rg [⟨none, [(some 7, .mv (.t 0)), (some 8, .call 34 [(.t 7)])]⟩] [0, 8])
 (.ite (.t 8)
 (.seq (.rg [⟨none, [(some 2, .mv (.c (.slice none 0 0)))]⟩] [2])
 .ret)
 .skip))
 (.seq (.rg [⟨none, [(some 3, .mv (.c (.slice none 0 0)))]⟩] [0, 3])
 (.seq (.seq (.rg [⟨none, [(none, .gh), (some 9, .mv (.t 0)), (some 10, .nilc (.t 9)), (some 11, .fldA (.t 10) 0 0), (some 12, .ld (.t 11) 1 false), (some 13, .call 36 [(.t 12)]), (some 14, .call 35 [(.t 13)]), (none, .gh), (some 15, .len (.t 14)), (some 16, .mv (.c (.int .i64 0)))]⟩] [0, 3, 14, 15, 16])
 (.block 0 (.loop c_tree_Tree_Nodes_L0)))
 (.seq (.rg [⟨none, [(some 37, .mv (.t 3)), (some 2, .mv (.t 37)), (none, .gh)]⟩] [2])
 .ret)))))
theorem k_tree_Tree_Nodes : Ok Try.prog 13 c_tree_Tree_Nodes 38 [] [.tmp 2] := Ok.mk' Try.func13 (by kernel_rfl) (by kernel_rfl) (by kernel_rfl)

abbrev f_tree_Same : Nat := 18
def c_tree_Same : Cd :=
 (.seq (.rg [⟨none, [(some 4, .mv (.c (.bool false)))]⟩] [0, 1])
 (.seq (.rg [⟨none, [(some 5, .mv (.t 0)), (some 6, .mv (.t 1)), (some 7, .call 44 [(.t 5), (.t 6), (.c (.func (.func 45) #[] #[]))]), (some 4, .mv (.t 7))]⟩] [4])
 .ret))
theorem k_tree_Same : Ok Try.prog 18 c_tree_Same 8 [] [.tmp 4] := Ok.mk' Try.func18 (by kernel_rfl) (by kernel_rfl) (by kernel_rfl)

abbrev f_tree_Same_1 : Nat := 45
def c_tree_Same_1 : Cd :=
 (.seq (.rg [⟨none, [(some 2, .box 62 (.t 0)), (some 3, .box 62 (.t 1)), (some 4, .mv (.c (.bool false)))]⟩] [2, 3])
 (.seq (.rg [⟨none, [(some 5, .fldA (.t 2) 0 0), (some 6, .ld (.t 5) 1 false), (some 7, .fldA (.t 3) 0 0), (some 8, .ld (.t 7) 1 false), (some 9, .bin .eql (.t 6) (.t 8)), (some 10, .mv (.t 9))]⟩, ⟨some (10, true), [(some 11, .fldA (.t 2) 1 1), (some 12, .ld (.t 11) 1 false), (some 13, .fldA (.t 3) 1 1), (some 14, .ld (.t 13) 1 false), (some 15, .bin .eql (.t 12) (.t 14))]⟩, ⟨none, [(some 16, .pick (.t 10) (.t 15) (.c (.bool false))), (some 17, .mv (.t 16))]⟩, ⟨some (17, true), [(some 18, .fldA (.t 2) 2 2), (some 19, .ld (.t 18) 1 false), (some 20, .fldA (.t 3) 2 2), (some 21, .ld (.t 20) 1 false), (some 22, .bin .eql (.t 19) (.t 21))]⟩, ⟨none, [(some 23, .pick (.t 17) (.t 22) (.c (.bool false))), (some 24, .mv (.t 23))]⟩, ⟨some (24, true), [(some 25, .fldA (.t 2) 3 3), (some 26, .ld (.t 25) 1 false), (some 27, .fldA (.t 3) 3 3), (some 28, .ld (.t 27) 1 false), (some 29, .call 46 [(.t 26), (.t 28)])]⟩, ⟨none, [(some 30, .pick (.t 24) (.t 29) (.c (.bool false))), (some 4, .mv (.t 30))]⟩] [4])
 .ret))
theorem k_tree_Same_1 : Ok Try.prog 45 c_tree_Same_1 31 [] [.tmp 4] := Ok.mk' Try.func45 (by kernel_rfl) (by kernel_rfl) (by kernel_rfl)

abbrev f_slices_EqualFunc : Nat := 44
def c_slices_EqualFunc_L0 : Cd :=
 (.seq (.rg [⟨none, [(some 18, .bin .lss (.t 17) (.t 16))]⟩] [1, 2, 15, 16, 17, 18])
 (.seq (.ite (.t 18)
 .skip
 (.exit 0))
 (.seq (.block 1 (.seq (.rg [⟨none, [(some 19, .mv (.t 17)), (some 20, .idxS (.t 15) (.t 17) 4), (some 21, .ld (.t 20) 4 true), (some 8, .new 62 (.c (.s (.int .i64 0)) (.c (.s (.int .i64 0)) (.c (.s (.string ⟨#[]⟩)) (.c (.s (.slice none 0 0)) .u))))), (some 7, .mv (.t 19)), (none, .st (.t 8) (.t 21) 4)]⟩] [1, 2, 7, 8, 15, 16, 17])
 (.seq (.rg [⟨none, [(some 22, .mv (.t 1)), (some 23, .mv (.t 7)), (some 24, .idxS (.t 22) (.t 23) 4), (some 25, .ld (.t 24) 4 true), (some 9, .new 62 (.c (.s (.int .i64 0)) (.c (.s (.int .i64 0)) (.c (.s (.string ⟨#[]⟩)) (.c (.s (.slice none 0 0)) .u))))), (none, .st (.t 9) (.t 25) 4)]⟩] [1, 2, 8, 9, 15, 16, 17])
 (.seq (.rg [⟨none, [(some 26, .mv (.t 2)), (some 27, .ld (.t 8) 4 true), (some 28, .ld (.t 9) 4 true), (some 29, .callV (.t 26) [(.t 27), (.t 28)]), (some 30, .un .not (.t 29))]⟩] [1, 2, 15, 16, 17, 30])
 (.ite (.t 30)
 (.seq (.rg [⟨none, [(some 6, .mv (.c (.bool false)))]⟩] [6])
 .ret)
 .skip)))))
 (.rg [⟨none, [(some 31, .bin .add (.t 17) (.c (.int .i64 1))), (some 17, .mv (.t 31))]⟩] [1, 2, 15, 16, 17]))))
def c_slices_EqualFunc : Cd :=
 (.seq (.rg [⟨none, [(some 6, .mv (.c (.bool false)))]⟩] [0, 1, 2])
 (.seq (.seq (.rg [⟨none, [(some 10, .mv (.t 0)), (some 11, .len (.t 10)), (some 12, .mv (.t 1)), (some 13, .len (.t 12)), (some 14, .bin .neq (.t 11) (.t 13))]⟩] [0, 1, 2, 14])
 (.ite (.t 14)
 (.seq (.rg [⟨none, [(some 6, .mv (.c (.bool false)))]⟩] [6])
 .ret)
 .skip))
 (.seq (.seq (.rg [⟨none, [(some 15, .mv (.t 0)), (some 16, .len (.t 15)), (some 17, .mv (.c (.int .i64 0)))]⟩] [1, 2, 15, 16, 17])
 (.block 0 (.loop c_slices_EqualFunc_L0)))
 (.seq (.rg [⟨none, [(some 6, .mv (.c (.bool true)))]⟩] [6])
 .ret))))
theorem k_slices_EqualFunc : Ok Try.prog 44 c_slices_EqualFunc 32 [] [.tmp 6] := Ok.mk' Try.func44 (by kernel_rfl) (by kernel_rfl) (by kernel_rfl)

abbrev f_slices_Equal : Nat := 46
def c_slices_Equal_L0 : Cd :=
 (.seq (.rg [⟨none, [(some 14, .bin .lss (.t 13) (.t 12))]⟩] [0, 1, 12, 13, 14])
 (.seq (.ite (.t 14)
 .skip
 (.exit 0))
 (.seq (.block 1 (.seq (.rg [⟨none, [(some 15, .mv (.t 13)), (some 5, .mv (.t 15))]⟩] [0, 1, 5, 12, 13])
 (.seq (.rgq [⟨none, [(some 16, .mv (.t 0)), (some 17, .mv (.t 5)), (some 18, .idxS (.t 16) (.t 17) 2), (some 19, .ld (.t 18) 2 true), (some 20, .mv (.t 1)), (some 21, .mv (.t 5)), (some 22, .idxS (.t 20) (.t 21) 2), (some 23, .ld (.t 22) 2 true)]⟩] [⟨none, [(some 24, .eqA true 103 (.t 19) (.t 23))]⟩] [0, 1, 12, 13, 24])
 (.ite (.t 24)
 (.seq (.rg [⟨none, [(some 4, .mv (.c (.bool false)))]⟩] [4])
 .ret)
 .skip))))
 (.rg [⟨none, [(some 25, .bin .add (.t 13) (.c (.int .i64 1))), (some 13, .mv (.t 25))]⟩] [0, 1, 12, 13]))))
def c_slices_Equal : Cd :=
 (.seq (.rg [⟨none, [(some 4, .mv (.c (.bool false)))]⟩] [0, 1])
 (.seq (.seq (.rg [⟨none, [(some 6, .mv (.t 0)), (some 7, .len (.t 6)), (some 8, .mv (.t 1)), (some 9, .len (.t 8)), (some 10, .bin .neq (.t 7) (.t 9))]⟩] [0, 1, 10])
 (.ite (.t 10)
 (.seq (.rg [⟨none, [(some 4, .mv (.c (.bool false)))]⟩] [4])
 .ret)
 .skip))
 (.seq (.seq (.rg [⟨none, [(some 11, .mv (.t 0)), (some 12, .len (.t 11)), (some 13, .mv (.c (.int .i64 0)))]⟩] [0, 1, 12, 13])
 (.block 0 (.loop c_slices_Equal_L0)))
 (.seq (.rg [⟨none, [(some 4, .mv (.c (.bool true)))]⟩] [4])
 .ret))))
theorem k_slices_Equal : Ok Try.prog 46 c_slices_Equal 26 [(6, 8)] [.tmp 4] := Ok.mk' Try.func46 (by kernel_rfl) (by kernel_rfl) (by kernel_rfl)

end Go.Proofs.Ytdpknchgoeboaaa.Vc
