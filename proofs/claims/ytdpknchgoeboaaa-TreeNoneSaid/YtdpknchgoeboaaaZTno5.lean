/- TreeNone: for every input the law answers true and leaves its argument as it was. No condition. -/
import Derived.Test.YtdpknchgoeboaaaProg
import Derived.RangeFuncKeeps
import Derived.Shelf.Abstract
import Derived.Test.YtdpknchgoeboaaaRows
import Derived.Test.YtdpknchgoeboaaaZTno4
/- The code of some functions of the program, its types resolved: printed by a program of this claim. -/
set_option linter.unusedVariables false
set_option maxRecDepth 100000
namespace Go.Proofs.Ytdpknchgoeboaaa.Vc
open Go Go.Proofs

abbrev f_tree_Tree_Children : Nat := 28
def c_tree_Tree_Children_L0 : Cd :=
 (.seq (.rg [⟨none, [(some 28, .nxt (.t 27)), (some 29, .ext (.t 28) 0)]⟩] [0, 5, 27, 29])
 (.seq (.ite (.t 29)
 .skip
 (.exit 0))
 (.block 1 (.seq (.rg [⟨none, [(some 30, .ent (.t 27)), (some 31, .ext (.t 30) 0), (some 6, .mv (.t 31))]⟩] [0, 5, 6, 27])
 (.rg [⟨none, [(some 32, .mv (.t 5)), (some 33, .mv (.t 0)), (some 34, .nilc (.t 33)), (some 35, .fldA (.t 34) 0 0), (some 36, .ld (.t 35) 1 false), (some 37, .mv (.t 6)), (some 38, .mlk (some .i64) (.t 36) (.t 37) (.pointer none) false), (some 39, .nilc (.t 38)), (some 40, .fldA (.t 39) 0 0), (some 41, .fldA (.t 40) 1 1), (some 42, .ld (.t 41) 1 false), (some 43, .mv (.t 6)), (some 44, .bld (.c (.s (.string ⟨#[]⟩)) (.c (.s (.int .i64 0)) .u)) [(0, (.t 42)), (1, (.t 43))]), (some 45, .bldS 69 2 (.c (.s (.string ⟨#[]⟩)) (.c (.s (.int .i64 0)) .u)) [(.t 44)]), (some 46, .app 69 2 24 (.c (.s (.string ⟨#[]⟩)) (.c (.s (.int .i64 0)) .u)) (.t 32) (.t 45)), (some 5, .mv (.t 46))]⟩] [0, 5, 27])))))
def c_tree_Tree_Children : Cd :=
 (.seq (.rg [⟨none, [(some 4, .mv (.c (.slice none 0 0)))]⟩] [0, 1])
 (.seq (.seq (.rg [⟨none, [(some 7, .mv (.t 0)), (some 8, .call 34 [(.t 7)]), (some 9, .mv (.t 8))]⟩, ⟨some (9, false), [(some 10, .mv (.t 0)), (some 11, .nilc (.t 10)), (some 12, .fldA (.t 11) 0 0), (some 13, .ld (.t 12) 1 false), (some 14, .mv (.t 1)), (some 15, .mlk (some .i64) (.t 13) (.t 14) (.pointer none) false), (some 16, .eqA false 90 (.t 15) (.c (.pointer none)))]⟩, ⟨none, [(some 17, .pick (.t 9) (.c (.bool true)) (.t 16))]⟩] [0, 1, 17])
 (.ite (.t 17)
 (.seq (.rg [⟨none, [(some 4, .mv (.c (.slice none 0 0)))]⟩] [4])
 .ret)
 .skip))
 (.seq (.rg [⟨none, [(some 5, .mv (.c (.slice none 0 0)))]⟩] [0, 1, 5])
 (.seq (.seq (.rg [⟨none, [(some 18, .mv (.t 0)), (some 19, .nilc (.t 18)), (some 20, .fldA (.t 19) 0 0), (some 21, .ld (.t 20) 1 false), (some 22, .mv (.t 1)), (some 23, .mlk (some .i64) (.t 21) (.t 22) (.pointer none) false), (some 24, .nilc (.t 23)), (some 25, .fldA (.t 24) 2 3), (some 26, .ld (.t 25) 1 false), (some 27, .rng (some .i64) (.t 26))]⟩] [0, 5, 27])
 (.block 0 (.loop c_tree_Tree_Children_L0)))
 (.seq (.rg [⟨none, [(some 47, .mv (.t 5)), (some 48, .call 57 [(.t 47), (.c (.func (.func 58) #[] #[]))])]⟩] [5])
 (.seq (.rg [⟨none, [(some 49, .mv (.t 5)), (some 4, .mv (.t 49))]⟩] [4])
 .ret))))))
theorem k_tree_Tree_Children : Ok Try.prog 28 c_tree_Tree_Children 50 [] [.tmp 4] := Ok.mk' Try.func28 (by kernel_rfl) (by kernel_rfl) (by kernel_rfl)

end Go.Proofs.Ytdpknchgoeboaaa.Vc

/- The code of some functions of the program, its types resolved: printed by a program of this claim. -/
set_option linter.unusedVariables false
set_option maxRecDepth 100000
namespace Go.Proofs.Ytdpknchgoeboaaa.Vc
open Go Go.Proofs

abbrev f_tree_Tree_Clone : Nat := 32
def c_tree_Tree_Clone_L0 : Cd :=
 (.seq (.rg [⟨none, [(some 18, .nxt (.t 17)), (some 19, .ext (.t 18) 0)]⟩] [3, 17, 19])
 (.seq (.ite (.t 19)
 .skip
 (.exit 0))
 (.block 1 (.seq (.rg [⟨none, [(some 20, .ent (.t 17)), (some 21, .ext (.t 20) 0), (some 22, .ext (.t 20) 1), (some 4, .mv (.t 21)), (some 5, .mv (.t 22))]⟩] [3, 4, 5, 17])
 (.rga (.held [] (.op ⟨none, [(some 23, .mv (.t 3))]⟩ (.op ⟨none, [(some 24, .nilc (.t 23))]⟩ (.op ⟨none, [(some 25, .fldA (.t 24) 0 0)]⟩ (.op ⟨none, [(some 27, .mv (.t 4))]⟩ (.op ⟨none, [(some 28, .mv (.t 5))]⟩ (.op ⟨none, [(some 29, .nilc (.t 28))]⟩ (.op ⟨none, [(some 30, .fldA (.t 29) 0 0)]⟩ (.op ⟨none, [(some 32, .mv (.t 5))]⟩ (.op ⟨none, [(some 33, .nilc (.t 32))]⟩ (.op ⟨none, [(some 34, .fldA (.t 33) 1 2)]⟩ (.op ⟨none, [(some 37, .mv (.t 5))]⟩ (.op ⟨none, [(some 38, .nilc (.t 37))]⟩ (.op ⟨none, [(some 39, .fldA (.t 38) 2 3)]⟩ (.first ⟨none, [(some 26, .ld (.t 25) 1 false)]⟩ (.first ⟨none, [(some 31, .ld (.t 30) 2 true)]⟩ (.first ⟨none, [(some 35, .ld (.t 34) 1 false)]⟩ (.first ⟨none, [(some 40, .ld (.t 39) 1 false)]⟩ (.op ⟨none, [(some 36, .call 62 [(.t 35)])]⟩ (.op ⟨none, [(some 41, .call 63 [(.t 40)])]⟩ (.op ⟨none, [(some 42, .bld (.c (.c (.s (.int .i64 0)) (.c (.s (.string ⟨#[]⟩)) .u)) (.c (.s (.map none)) (.c (.s (.map none)) .u))) [(0, (.t 31)), (1, (.t 36)), (2, (.t 41))])]⟩ (.op ⟨none, [(some 43, .box 98 (.t 42))]⟩ (.op ⟨none, [(none, .mup (some .i64) (.t 26) (.t 27) (.t 43))]⟩ .done))))))))))))))))))))))) [3, 17])))))
def c_tree_Tree_Clone : Cd :=
 (.seq (.rg [⟨none, [(some 2, .mv (.c (.pointer none)))]⟩] [0])
 (.seq (.seq (.rg [⟨none, [(some 6, .mv (.t 0)), (some 7, .call 34 [(.t 6)])]⟩] [0, 7])
 (.ite (.t 7)
 (.seq (.rg [⟨none, [(some 2, .mv (.c (.pointer none)))]⟩] [2])
 .ret)
 .skip))
 (.seq (.rg [⟨none, [(some 8, .mkm), (some 9, .bld (.c (.s (.int .u8 0)) .u) []), (some 10, .box 124 (.t 9)), (some 11, .bld (.c (.s (.map none)) (.c (.s (.pointer none)) (.c (.s (.int .i64 0)) (.c (.s (.slice none 0 0)) (.c (.s (.int .i64 0)) .u))))) [(0, (.t 8)), (1, (.t 10))]), (some 12, .box 76 (.t 11)), (some 3, .mv (.t 12))]⟩] [0, 3])
 (.seq (.seq (.rg [⟨none, [(some 13, .mv (.t 0)), (some 14, .nilc (.t 13)), (some 15, .fldA (.t 14) 0 0), (some 16, .ld (.t 15) 1 false), (some 17, .rng (some .i64) (.t 16))]⟩] [3, 17])
 (.block 0 (.loop c_tree_Tree_Clone_L0)))
 (.seq (.rg [⟨none, [(some 44, .mv (.t 3)), (some 2, .mv (.t 44))]⟩] [2])
 .ret)))))
theorem k_tree_Tree_Clone : Ok Try.prog 32 c_tree_Tree_Clone 45 [(7, 999998)] [.tmp 2] := Ok.mk' Try.func32 (by kernel_rfl) (by kernel_rfl) (by kernel_rfl)

abbrev f_tree_Tree_Walk : Nat := 25
def c_tree_Tree_Walk : Cd :=
 (.seq (.rg [⟨none, [(some 4, .mv (.c .nilFunc))]⟩] [0, 1])
 (.seq (.rg [⟨none, [(some 5, .new 113 (.s (.slice none 0 0)))]⟩] [0, 1, 5])
 (.seq (.seq (.rg [⟨none, [(some 6, .mv (.t 0)), (some 7, .call 34 [(.t 6)]), (some 8, .un .not (.t 7)), (some 9, .mv (.t 8))]⟩, ⟨some (9, true), [(some 10, .mv (.t 0)), (some 11, .nilc (.t 10)), (some 12, .fldA (.t 11) 0 0), (some 13, .ld (.t 12) 1 false), (some 14, .mv (.t 1)), (some 15, .mlk (some .i64) (.t 13) (.t 14) (.pointer none) false), (some 16, .eqA true 90 (.t 15) (.c (.pointer none)))]⟩, ⟨none, [(some 17, .pick (.t 9) (.t 16) (.c (.bool false)))]⟩] [0, 1, 5, 17])
 (.ite (.t 17)
 (.rg [⟨none, [(some 18, .mv (.t 0)), (some 19, .mv (.t 1)), (some 20, .call 55 [(.t 18), (.t 19), (.c (.int .i64 0)), (.c (.slice none 0 0))]), (none, .st (.t 5) (.t 20) 1)]⟩] [5])
 .skip))
 (.seq (.rg [⟨none, [(none, .gh), (some 21, .mkf 56 [(.t 5)]), (some 4, .mv (.t 21))]⟩] [4])
 .ret))))
theorem k_tree_Tree_Walk : Ok Try.prog 25 c_tree_Tree_Walk 22 [] [.tmp 4] := Ok.mk' Try.func25 (by kernel_rfl) (by kernel_rfl) (by kernel_rfl)

abbrev f_tree_Tree_Walk_1 : Nat := 56
def c_tree_Tree_Walk_1_L0 : Cd :=
 (.seq (.rg [⟨none, [(some 8, .bin .lss (.t 7) (.t 6))]⟩] [0, 5, 6, 7, 8])
 (.seq (.ite (.t 8)
 .skip
 (.exit 0))
 (.seq (.block 1 (.seq (.rg [⟨none, [(some 9, .idxS (.t 5) (.t 7) 2), (some 10, .ld (.t 9) 2 true), (some 4, .new 117 (.c (.s (.int .i64 0)) (.c (.s (.int .i64 0)) .u))), (none, .st (.t 4) (.t 10) 2)]⟩] [0, 4, 5, 6, 7])
 (.seq (.rg [⟨none, [(some 11, .mv (.t 0)), (some 12, .fldA (.t 4) 0 0), (some 13, .ld (.t 12) 1 false), (some 14, .fldA (.t 4) 1 1), (some 15, .ld (.t 14) 1 false), (some 16, .callV (.t 11) [(.t 13), (.t 15)]), (some 17, .un .not (.t 16))]⟩] [0, 5, 6, 7, 17])
 (.ite (.t 17)
 .ret
 .skip))))
 (.rg [⟨none, [(some 18, .bin .add (.t 7) (.c (.int .i64 1))), (some 7, .mv (.t 18))]⟩] [0, 5, 6, 7]))))
def c_tree_Tree_Walk_1 : Cd :=
 (.seq (.rg [⟨none, [(some 5, .ld (.t 1) 1 false), (some 6, .len (.t 5)), (some 7, .mv (.c (.int .i64 0)))]⟩] [0, 5, 6, 7])
 (.block 0 (.loop c_tree_Tree_Walk_1_L0)))
theorem k_tree_Tree_Walk_1 : Ok Try.prog 56 c_tree_Tree_Walk_1 19 [] [] := Ok.mk' Try.func56 (by kernel_rfl) (by kernel_rfl) (by kernel_rfl)

abbrev f_law12_TreeNone : Nat := 8
noncomputable def c_law12_TreeNone_W0 : Code := ((((Try.f8.body.map rawsC).getD [])[0]?).getD .skip)
noncomputable def c_law12_TreeNone_L0 : Cd :=
 (.seq (.rg [⟨none, [(some 20, .bin .lss (.t 19) (.t 18))]⟩] [1, 2, 17, 18, 19, 20])
 (.seq (.ite (.t 20)
 .skip
 (.exit 0))
 (.seq (.block 1 (.seq (.rg [⟨none, [(some 21, .idxS (.t 17) (.t 19) 1), (some 22, .ld (.t 21) 1 false), (some 4, .mv (.t 22))]⟩] [1, 2, 4, 17, 18, 19])
 (.seq (.rg [⟨none, [(some 24, .mv (.t 4)), (some 25, .fldA (.t 1) 1 1), (some 26, .ld (.t 25) 8 true), (some 27, .call 16 [(.t 24), (.t 26)]), (some 23, .mv (.t 27)), (some 28, .ext (.t 23) 0), (some 29, .ext (.t 23) 1), (some 5, .new 41 (.c (.s (.pointer none)) (.c (.s (.int .i64 0)) (.c (.c (.c (.s (.int .i64 0)) (.c (.s (.int .i64 0)) .u)) (.c (.s (.int .i64 0)) (.c (.s (.int .i64 0)) (.c (.s (.int .i64 0)) (.c (.s (.string ⟨#[]⟩)) (.c (.s (.string ⟨#[]⟩)) (.c (.s (.string ⟨#[]⟩)) .u))))))) (.c (.c (.s (.int .i64 0)) (.c (.s (.string ⟨#[]⟩)) .u)) (.c (.s (.string ⟨#[]⟩)) .u)))))), (none, .st (.t 5) (.t 28) 13), (some 6, .mv (.t 29))]⟩] [1, 2, 4, 6, 17, 18, 19])
 (.seq (.rg [⟨none, [(some 31, .mv (.t 4)), (some 32, .fldA (.t 1) 3 10), (some 33, .ld (.t 32) 1 false), (some 34, .call 26 [(.t 31), (.t 33)]), (some 30, .mv (.t 34)), (some 35, .ext (.t 30) 0), (some 36, .ext (.t 30) 1), (some 7, .new 62 (.c (.s (.int .i64 0)) (.c (.s (.int .i64 0)) (.c (.s (.string ⟨#[]⟩)) (.c (.s (.slice none 0 0)) .u))))), (none, .st (.t 7) (.t 35) 4), (some 8, .mv (.t 36))]⟩] [1, 2, 4, 6, 7, 8, 17, 18, 19])
 (.seq (.rg [⟨none, [(some 38, .mv (.t 4)), (some 39, .fldA (.t 1) 3 10), (some 40, .ld (.t 39) 1 false), (some 41, .fldA (.t 1) 5 12), (some 42, .ld (.t 41) 1 false), (some 43, .call 29 [(.t 38), (.t 40), (.t 42)]), (some 37, .mv (.t 43)), (some 44, .ext (.t 37) 0), (some 45, .ext (.t 37) 1), (some 9, .mv (.t 44)), (some 10, .mv (.t 45))]⟩] [1, 2, 4, 6, 7, 8, 9, 10, 17, 18, 19])
 (.seq (.rg [⟨none, [(some 47, .mv (.t 4)), (some 48, .fldA (.t 1) 3 10), (some 49, .ld (.t 48) 1 false), (some 50, .fldA (.t 1) 5 12), (some 51, .ld (.t 50) 1 false), (some 52, .call 30 [(.t 47), (.t 49), (.t 51)]), (some 46, .mv (.t 52)), (some 53, .ext (.t 46) 0), (some 54, .ext (.t 46) 1), (some 11, .mv (.t 53)), (some 12, .mv (.t 54))]⟩] [1, 2, 4, 6, 7, 8, 9, 10, 11, 12, 17, 18, 19])
 (.seq (.seq (.rg [⟨none, [(some 55, .mv (.t 6)), (some 56, .mv (.t 55))]⟩, ⟨some (56, false), [(some 57, .mv (.t 8))]⟩, ⟨none, [(some 58, .pick (.t 56) (.c (.bool true)) (.t 57)), (some 59, .mv (.t 58))]⟩, ⟨some (59, false), [(some 60, .mv (.t 10))]⟩, ⟨none, [(some 61, .pick (.t 59) (.c (.bool true)) (.t 60)), (some 62, .mv (.t 61))]⟩, ⟨some (62, false), [(some 63, .mv (.t 12))]⟩, ⟨none, [(some 64, .pick (.t 62) (.c (.bool true)) (.t 63)), (some 65, .mv (.t 64))]⟩, ⟨some (65, false), [(some 66, .mv (.t 9)), (some 67, .bin .neq (.t 66) (.c (.int .i64 0)))]⟩, ⟨none, [(some 68, .pick (.t 65) (.c (.bool true)) (.t 67)), (some 69, .mv (.t 68))]⟩, ⟨some (69, false), [(some 70, .mv (.t 11)), (some 71, .bin .neq (.t 70) (.c (.string ⟨#[]⟩)))]⟩, ⟨none, [(some 72, .pick (.t 69) (.c (.bool true)) (.t 71)), (some 73, .mv (.t 72))]⟩, ⟨some (73, false), [(some 74, .ld (.t 7) 4 true), (some 75, .bld (.c (.s (.int .i64 0)) (.c (.s (.int .i64 0)) (.c (.s (.string ⟨#[]⟩)) (.c (.s (.slice none 0 0)) .u)))) []), (some 76, .call 31 [(.t 74), (.t 75)]), (some 77, .un .not (.t 76))]⟩, ⟨none, [(some 78, .pick (.t 73) (.c (.bool true)) (.t 77)), (some 79, .mv (.t 78))]⟩, ⟨some (79, false), [(some 80, .mv (.t 4)), (some 81, .fldA (.t 1) 1 1), (some 82, .ld (.t 81) 8 true), (some 83, .call 15 [(.t 80), (.t 82)])]⟩, ⟨none, [(some 84, .pick (.t 79) (.c (.bool true)) (.t 83)), (some 85, .mv (.t 84))]⟩, ⟨some (85, false), [(some 86, .mv (.t 4)), (some 87, .bld (.c (.s (.pointer none)) (.c (.s (.int .i64 0)) (.c (.c (.c (.s (.int .i64 0)) (.c (.s (.int .i64 0)) .u)) (.c (.s (.int .i64 0)) (.c (.s (.int .i64 0)) (.c (.s (.int .i64 0)) (.c (.s (.string ⟨#[]⟩)) (.c (.s (.string ⟨#[]⟩)) (.c (.s (.string ⟨#[]⟩)) .u))))))) (.c (.c (.s (.int .i64 0)) (.c (.s (.string ⟨#[]⟩)) .u)) (.c (.s (.string ⟨#[]⟩)) .u))))) []), (some 88, .call 17 [(.t 86), (.t 87)]), (some 89, .bin .neq (.t 88) (.c (.int .i64 2)))]⟩, ⟨none, [(some 90, .pick (.t 85) (.c (.bool true)) (.t 89)), (some 91, .mv (.t 90))]⟩, ⟨some (91, false), [(some 92, .mv (.t 4)), (some 93, .fldA (.t 1) 3 10), (some 94, .ld (.t 93) 1 false), (some 95, .fldA (.t 1) 3 10), (some 96, .ld (.t 95) 1 false), (some 97, .call 27 [(.t 92), (.t 94), (.t 96)])]⟩, ⟨none, [(some 98, .pick (.t 91) (.c (.bool true)) (.t 97))]⟩] [1, 2, 4, 17, 18, 19, 98])
 (.ite (.t 98)
 (.seq (.rg [⟨none, [(none, .st (.t 2) (.c (.bool false)) 1)]⟩] [2])
 .ret)
 .skip))
 (.seq (.seq (.rg [⟨none, [(some 99, .mv (.t 4)), (some 100, .fldA (.t 1) 3 10), (some 101, .ld (.t 100) 1 false), (some 102, .call 28 [(.t 99), (.t 101)]), (some 103, .len (.t 102)), (some 104, .bin .neq (.t 103) (.c (.int .i64 0))), (some 105, .mv (.t 104))]⟩, ⟨some (105, false), [(some 106, .mv (.t 4)), (some 107, .call 13 [(.t 106)]), (some 108, .len (.t 107)), (some 109, .bin .neq (.t 108) (.c (.int .i64 0)))]⟩, ⟨none, [(some 110, .pick (.t 105) (.c (.bool true)) (.t 109)), (some 111, .mv (.t 110))]⟩, ⟨some (111, false), [(some 112, .mv (.t 4)), (some 113, .call 14 [(.t 112)]), (some 114, .bin .neq (.t 113) (.c (.int .i64 0)))]⟩, ⟨none, [(some 115, .pick (.t 111) (.c (.bool true)) (.t 114)), (some 116, .mv (.t 115))]⟩, ⟨some (116, false), [(some 117, .mv (.t 4)), (some 118, .call 32 [(.t 117)]), (some 119, .eqA true 25 (.t 118) (.c (.pointer none)))]⟩, ⟨none, [(some 120, .pick (.t 116) (.c (.bool true)) (.t 119))]⟩] [1, 2, 4, 17, 18, 19, 120])
 (.ite (.t 120)
 (.seq (.rg [⟨none, [(none, .st (.t 2) (.c (.bool false)) 1)]⟩] [2])
 .ret)
 .skip))
 (.seq (.rg [⟨none, [(some 121, .mv (.t 4)), (some 122, .call 25 [(.t 121), (.c (.int .i64 1))])]⟩] [1, 2, 17, 18, 19, 122])
 (.block 2 (.raw c_law12_TreeNone_W0)))))))))))
 (.rg [⟨none, [(some 125, .bin .add (.t 19) (.c (.int .i64 1))), (some 19, .mv (.t 125))]⟩] [1, 2, 17, 18, 19]))))
noncomputable def c_law12_TreeNone : Cd :=
 (.seq (.rg [⟨none, [(some 1, .box 72 (.t 0)), (some 2, .new 4 (.s (.bool false)))]⟩] [1, 2])
 (.seq (.seq (.rg [⟨none, [(some 13, .call 9 []), (some 14, .un .not (.t 13))]⟩] [1, 2, 14])
 (.ite (.t 14)
 (.seq (.rg [⟨none, [(none, .st (.t 2) (.c (.bool false)) 1)]⟩] [2])
 .ret)
 .skip))
 (.seq (.seq (.rg [⟨none, [(some 15, .bld (.c (.s (.map none)) (.c (.s (.pointer none)) (.c (.s (.int .i64 0)) (.c (.s (.slice none 0 0)) (.c (.s (.int .i64 0)) .u))))) []), (some 16, .box 76 (.t 15)), (none, .gh), (some 17, .bldS 25 1 (.s (.pointer none)) [(.c (.pointer none)), (.t 16)]), (some 18, .len (.t 17)), (some 19, .mv (.c (.int .i64 0)))]⟩] [1, 2, 17, 18, 19])
 (.block 0 (.loop c_law12_TreeNone_L0)))
 (.seq (.rg [⟨none, [(none, .st (.t 2) (.c (.bool true)) 1)]⟩] [2])
 .ret))))
theorem k_law12_TreeNone : Ok Try.prog 8 c_law12_TreeNone 126 [] [.cell 2 1 false] := Ok.mk' Try.func8 (by kernel_rfl) (by kernel_rfl) (by kernel_rfl)

end Go.Proofs.Ytdpknchgoeboaaa.Vc

/- A loop over a function that asks for no round. -/
set_option linter.unusedVariables false
set_option linter.unusedSimpArgs false
namespace Go.Proofs.Ytdpknchgoeboaaa.Vc
open Go Go.Shelf

theorem kept_alloc (w : World) (o : Obj) : Kept PH.no w (w.alloc o) := by
  refine ⟨rfl, rfl, rfl, by rw [World.size_alloc]; omega, fun k hk _ => ?_⟩
  show (w.heap.push o)[k]? = _
  rw [Array.getElem?_push_lt hk, Array.getElem?_eq_getElem hk]
theorem kept_trans {a b c : World} (h1 : Kept PH.no a b) (h2 : Kept PH.no b c) : Kept PH.no a c := by
  obtain ⟨k1, k2, k3, k4, k5⟩ := h1
  obtain ⟨q1, q2, q3, q4, q5⟩ := h2
  exact ⟨q1.trans k1, q2.trans k2, q3.trans k3, by omega, fun k hk hn => (q5 k (by omega) hn).trans (k5 k hk hn)⟩
theorem wp_rangeFunc_never {P : Program} {g : Operand} {ps : Array Tmp} {assign body : Code} {Q : Exit → Act → World → Prop} {a : Act} {w : World} {gf : Nat} {lb : List Value}
    (hg : a.eval g = .func (.func gf) #[] lb.toArray) (eg : ∀ args w, (callFunc gf args).run P w = .ok (.enter gf args) w)
    (hs : ∀ l W, Kept PH.no w W → Spec P gf (.func (.yield l) #[] #[] :: lb) PH.no W fun rs _ => rs = [])
    (hQ : ∀ D W, w.heap.size ≤ D → Kept PH.no w W → W.heap[D]? = some (.deferred (some [])) → Q .normal { a with defers := { target := .collected D, args := #[] } :: a.defers } W) :
    (Code.rangeFunc g ps assign body).wp P Q a w := by
  refine (wpIn_wide (n := 0)).1 (wpIn_rangeFunc ?_)
  intro fn _
  obtain ⟨rec, hrec⟩ : ∃ rec : LoopState → Option Code → Loop, rec = fun st pe => { state := st, pending := pe, fn, tmps := a.tmps, params := ps, assign, body, defers := w.heap.size } := ⟨_, rfl⟩
  obtain ⟨W1, hW1⟩ : ∃ W1, (w.alloc (.deferred (some []))).alloc (.loop (rec .ready none)) = W1 := ⟨_, rfl⟩
  have hk1 : Kept PH.no w W1 := by rw [← hW1]; exact kept_trans (kept_alloc _ _) (kept_alloc _ _)
  have hsz : W1.heap.size = w.heap.size + 2 := by rw [← hW1, World.size_alloc, World.size_alloc]
  have hL1 : W1.heap[w.heap.size + 1]? = some (.loop (rec .ready none)) := by
    rw [← hW1]; have := World.alloc_heap_new (w.alloc (.deferred (some []))) (.loop (rec .ready none)); rwa [World.size_alloc] at this
  have hK1 : W1.heap[w.heap.size]? = some (.deferred (some [])) := by
    rw [← hW1]
    have h2 := (kept_alloc (w.alloc (.deferred (some []))) (.loop (rec .ready none))).2.2.2.2 w.heap.size (by rw [World.size_alloc]; omega) rfl
    rw [h2]
    exact World.alloc_heap_new w _
  refine ⟨w.heap.size + 1, [{ target := .collected w.heap.size, args := #[] }], W1, { target := .fn (.func gf) lb.toArray, args := #[.func (.yield (w.heap.size + 1)) #[] #[]] }, W1, gf,
    #[.func (.yield (w.heap.size + 1)) #[] #[]] ++ lb.toArray, W1, ?_, ?_, ?_, ?_, (fun h => by cases h), ?_⟩
  · rw [← hW1, hrec]; exact run_enterLoop_outer _ _ _ _ _
  · simp only [resolve, hg]
    simp [go_sem]
  · intro f' _; trivial
  · simp [invoke, go_sem, eg]
  · refine callsIn_wide.2 ?_
    have h := hs (w.heap.size + 1) W1 hk1 (fun b o hb => by cases hb)
    have hargs : (Value.func (.yield (w.heap.size + 1)) #[] #[] :: lb).toArray = #[Value.func (.yield (w.heap.size + 1)) #[] #[]] ++ lb.toArray := by simp
    rw [hargs] at h
    refine h.mono fun e W2 he => ?_
    obtain ⟨rs, m', rfl, _, _, _, _, hk2⟩ := he
    have hl2 : W2.heap[w.heap.size + 1]? = some (.loop (rec .ready none)) := (hk2.2.2.2.2 _ (by omega) rfl).trans hL1
    have hd2 : W2.heap[w.heap.size]? = some (.deferred (some [])) := (hk2.2.2.2.2 _ (by omega) rfl).trans hK1
    refine ⟨none, _, by have := run_endLoop (P := P) hl2 (by rw [hrec]; simp); rw [hrec] at this; exact this, ?_⟩
    have hk3 := kept_trans hk1 hk2
    refine hQ w.heap.size _ (Nat.le_refl _) ?_ ((World.putObj_heap_other (by omega)).trans hd2)
    obtain ⟨q1, q2, q3, q4, q5⟩ := hk3
    exact ⟨q1, q2, q3, by rw [World.putObj_size]; exact q4, fun k hk hn => by rw [World.putObj_heap_other (by omega)]; exact q5 k hk hn⟩
/-- A loop over a function that asks for no round: a mark more, nothing else. -/
theorem raw_never {C : Ctx} {Q : QT} {σ : SS} {code : Code} {t gf : Nat} {lb : List Value} (hc : code = .rangeFunc (.tmp t) (rfPs code) (rfAs code) (rfBd code))
    (ht : look σ.fr t = some (.g (.s (.func (.func gf) #[] lb.toArray)))) (eg : ∀ args w, (callFunc gf args).run C.P w = .ok (.enter gf args) w)
    (hs : ∀ l w, C.u0.le w → (∀ u ∈ σ.ph, u.le w) → σ.m.le w → Spec C.P gf (.func (.yield l) #[] #[] :: lb) PH.no w fun rs _ => rs = [])
    (hK : ∀ u, Q .normal { σ with ph := u :: σ.ph }) : vc C (.raw code) Q σ := by
  intro act w hR
  obtain ⟨loc, hF, hH⟩ := hR
  have hev : act.eval (.tmp t) = .func (.func gf) #[] lb.toArray := by
    obtain ⟨v, hv, hr⟩ := hF.slots t _ ht
    obtain ⟨_, rfl⟩ := hr
    simp [Act.eval, hv, GV.val]
  rw [hc]
  refine wp_rangeFunc_never hev eg (fun l W hk => ?_) fun D W hD hk hW => ?_
  · have hA := (hH.after (m := σ.m) (m1 := PH.no) (mr := σ.m) (m' := PH.no) (uni_no _).symm (dis_no _) (fun b o hb => by cases hb) (fun b hb => absurd rfl hb) hk).2.2.1
    exact hs l W hA.u0le (fun u hu => (hA.phs u hu).1) hA.mle
  · have hA := (hH.after (m := σ.m) (m1 := PH.no) (mr := σ.m) (m' := one D (.deferred (some []))) (uni_no _).symm (dis_no _) (fun b o hb => by
        simp only [one] at hb
        split at hb
        · rename_i e; subst e; cases hb; exact hW
        · cases hb) (fun b hb => .inr (by
        simp only [one] at hb
        split at hb
        · rename_i e; omega
        · exact absurd rfl hb)) hk).2.1
    refine ⟨_, hK (one D (.deferred (some []))), loc, ⟨⟨List.pairwise_cons.2 ⟨fun d hd => ?_, hF.defers.1⟩, fun d hd => ?_⟩, hF.size, hF.slots⟩, hA⟩
    · obtain ⟨D', u, h1, h2, h3⟩ := hF.defers.2 d hd
      rw [h1]
      intro e
      have e : D = D' := by simpa using e
      have := (hH.phs u h2).1 D' _ h3
      have hlt := (Array.getElem?_eq_some_iff.1 this).1
      omega
    · rcases List.mem_cons.1 hd with rfl | hd
      · exact ⟨D, one D (.deferred (some [])), rfl, by simp, by simp [one]⟩
      · obtain ⟨D', u, h1, h2, h3⟩ := hF.defers.2 d hd
        exact ⟨D', u, h1, List.mem_cons_of_mem _ h2, h3⟩
end Go.Proofs.Ytdpknchgoeboaaa.Vc

/- A tree that no call made: what each call answers. -/
set_option linter.unusedVariables false
set_option linter.unusedSimpArgs false
set_option maxRecDepth 100000
namespace Go.Proofs.Ytdpknchgoeboaaa.Vc
open Go Go.Proofs

/-- A tree that no call made. -/
def NoneT (u : PH) (v : Value) : Prop := v = .pointer none ∨ ∃ b e, v = ptr b ∧ u b = some (.cells #[.map none, .pointer none, .int .i64 0, .slice none 0 0, .int .i64 0] e (0, 0))
theorem NoneT.one {u : PH} {v : Value} (h : NoneT u v) : v.oneCell' = true := by
  rcases h with rfl | ⟨b, e, rfl, _⟩ <;> rfl
theorem NoneT.up {u u' : PH} {v : Value} (h : NoneT u v) (hs : PH.sub u u') : NoneT u' v := by
  rcases h with h | ⟨b, e, h1, h2⟩
  · exact .inl h
  · exact .inr ⟨b, e, h1, hs _ _ h2⟩
theorem eqG_map0 {P : Program} {t k e : TypeId} (ht : P.underlying t = some (.map k e)) : EqG P t (.s (.map none)) (.s (.map none)) true := by
  have h0 : ∀ d w, (_root_.Go.Op.equalIn (d + 1) t (.map none) (.map none)).run P w = .ok true w := fun d w => by
    simp [_root_.Go.Op.equalIn, Sem.run_bind, run_underlying' ht]
  have h : ∀ w, (_root_.Go.Op.equal t (.map none) (.map none)).run P w = .ok true w := fun w => h0 9999 w
  intro x y w
  exact ⟨by simp [eqGuard, binOp, Sem.run_bind, GV.val, h], by simp [eqGuard, binOp, Sem.run_bind, GV.val, h]⟩
theorem seen_c0 {C : Ctx} {ph : List PH} {m u : PH} (hk : KN C.u0 (m :: ph) u) {b : Nat} {cs : Array Value} {e : TypeId} {fz : Nat × Nat} (h : u b = some (.cells cs e fz)) {j : Nat} {v : Value} (hj : cs[j]? = some v) (hv : v.oneCell' = true) : Seen C ph m b j (.s v) :=
  seen_of hk h hv fun i w hi => by
    cases i with
    | zero =>
      obtain rfl : v = w := by simpa [GV.flat] using hi
      simpa using hj
    | succ i => simp [GV.flat] at hi
theorem avs_two {u : PH} {a b : Value} (ha : a.oneCell' = true) (hb : b.oneCell' = true) : ∀ x ∈ [AV.g (.s a), .g (.s b)], x.ok u := by
  intro x hx
  simp only [List.mem_cons, List.not_mem_nil, or_false] at hx
  rcases hx with rfl | rfl
  · exact ha
  · exact hb
theorem avs_three {u : PH} {a b c : Value} (ha : a.oneCell' = true) (hb : b.oneCell' = true) (hc : c.oneCell' = true) : ∀ x ∈ [AV.g (.s a), .g (.s b), .g (.s c)], x.ok u := by
  intro x hx
  simp only [List.mem_cons, List.not_mem_nil, or_false] at hx
  rcases hx with rfl | rfl | rfl
  · exact ha
  · exact hb
  · exact hc
section
variable {w : World} {u : PH} {v : Value}
theorem noneT_is (hu : u.le w) (h : NoneT u v) : Spec Try.prog f_tree_Tree_none [v] PH.no w fun rs _ => rs = [.s (.bool true)] := by
  refine spec_val k_tree_Tree_none (Qf := fun rs => rs = [.s (.bool true)]) [.g (.s v)] (by simp) (by simp [AV.ok, GV.ok, h.one]) ?_
  have hk : ∀ {l : List PH}, KN (⟨Try.prog, 12, w, PH.no⟩ : Ctx).u0 l u := kn_u hu
  rcases h with rfl | ⟨b, e, rfl, hb⟩
  · simp (maxSteps := 2000000) only [c_tree_Tree_none, vc_seq, vc_rg, thenQ_n, kKeep_eq, segs_nil, segs_n, ops_nil, ops_cons, vcOp, ev, look, put_mk, keep_mk, keepL, Value.oneCell', cond_true, ↓reduceIte, reduceCtorEq, initF, initP]
    refine eq_of (eqG_nilp Try.underlying25) ?_
    simp (maxSteps := 2000000) only [vc_ret, thenQ_n, kKeep_eq, segs_nil, segs_n, segs_g, ops_nil, ops_cons, vcOp, RO.isGh, skip_mk, skipL, ev, look, put_mk, keep_mk, keepL, Value.oneCell', cond_true, cond_false, Nat.reduceEqDiff, ↓reduceIte, Bool.not_false, finW_r, resL, resOne, ↓br_tt, ↓br_tf, Bool.bne_false]
  · unfold ptr
    simp (maxSteps := 2000000) only [c_tree_Tree_none, vc_seq, vc_rg, thenQ_n, kKeep_eq, segs_nil, segs_n, ops_nil, ops_cons, vcOp, ev, look, put_mk, keep_mk, keepL, Value.oneCell', cond_true, ↓reduceIte, reduceCtorEq, initF, initP]
    refine eq_of (eqG_ptr Try.underlying25 _) ?_
    simp (maxSteps := 2000000) only [segs_g, ops_nil, ops_cons, vcOp, ev, look, put_mk, ↓reduceIte, reduceCtorEq, Nat.add_zero, ↓br_ff, Bool.bne_false]
    refine ld_of _ (seen_c0 hk hb (j := 0) rfl rfl) rfl ?_
    simp (maxSteps := 2000000) only [ops_cons, vcOp, ev, look, put_mk, Value.oneCell', cond_true, ↓reduceIte]
    refine eq_of (eqG_map0 Try.underlying73) ?_
    simp (maxSteps := 2000000) only [vc_ret, thenQ_n, kKeep_eq, segs_nil, segs_n, ops_nil, ops_cons, vcOp, ev, look, put_mk, keep_mk, keepL, Value.oneCell', cond_true, Nat.reduceEqDiff, ↓reduceIte, finW_r, resL, resOne, ↓br_ft, Bool.bne_false]
theorem Len_noneT (hu : u.le w) (h : NoneT u v) : Spec Try.prog f_tree_Tree_Len [v] PH.no w fun rs _ => rs = [.s (.int .i64 0)] := by
  refine spec_val k_tree_Tree_Len (Qf := fun rs => rs = [.s (.int .i64 0)]) [.g (.s v)] (by simp) (by simp [AV.ok, GV.ok, h.one]) ?_
  simp (maxSteps := 2000000) only [c_tree_Tree_Len, vc_seq, vc_rg, thenQ_n, kKeep_eq, segs_nil, segs_n, ops_nil, ops_cons, vcOp, ev, look, put_mk, keep_mk, keepL, Value.oneCell', cond_true, ↓reduceIte, reduceCtorEq, initF, initP]
  refine call_is _ [.s (.bool true)] rfl rfl (fun w' vs hv hw => ?_) ?_
  · obtain ⟨vs, rfl, _, hv⟩ := argsV_g hv
    obtain rfl := argsV_nil hv
    intro _
    exact noneT_is (fun b o h => hw b o (by rw [u0_no]; exact hu b o h)) h
  simp (maxSteps := 2000000) only [retS, vc_ret, vc_seq, vc_rg, vc_ite, thenQ_n, thenQ_r, kKeep_eq, segs_nil, segs_n, ops_nil, ops_cons, vcOp, ev, look, put_mk, keep_mk, keepL, Value.oneCell', cond_true, ↓reduceIte, reduceCtorEq, finW_r, resL, resOne, ↓br_tt]
theorem May_noneT (hu : u.le w) (h : NoneT u v) (op : Op) : Spec Try.prog f_tree_Tree_May [v, (gOp op).val] PH.no w fun rs _ => rs = [.s (.bool false)] := by
  refine spec_val k_tree_Tree_May (Qf := fun rs => rs = [.s (.bool false)]) [.g (.s v), .g (gOp op)] (by simp) (by simp [AV.ok, GV.ok, h.one, gOp_ok]) ?_
  simp (maxSteps := 2000000) only [c_tree_Tree_May, vc_seq, vc_rg, thenQ_n, kKeep_eq, segs_nil, segs_n, ops_nil, ops_cons, vcOp, ev, look, updL, put_mk, keep_mk, keepL, Value.oneCell', cond_true, Nat.reduceEqDiff, ↓reduceIte, reduceCtorEq, Nat.zero_add, Bool.true_and, true_and, initF, initP]
  refine call_is _ [.s (.bool true)] rfl rfl (fun w' vs hv hw => ?_) ?_
  · obtain ⟨vs, rfl, _, hv⟩ := argsV_g hv
    obtain rfl := argsV_nil hv
    intro _
    exact noneT_is (fun b o h => hw b o (by rw [u0_no]; exact hu b o h)) h
  simp (maxSteps := 2000000) only [retS, vc_ret, vc_seq, vc_rg, vc_ite, thenQ_n, thenQ_r, kKeep_eq, segs_nil, segs_n, ops_nil, ops_cons, vcOp, ev, look, put_mk, keep_mk, keepL, Value.oneCell', cond_true, Nat.reduceEqDiff, ↓reduceIte, reduceCtorEq, finW_r, resL, resOne, ↓br_tt]
theorem Do_noneT (hu : u.le w) (h : NoneT u v) (op : Op) : Spec Try.prog f_tree_Tree_Do [v, (gOp op).val] PH.no w fun rs _ => rs = [gUndo zUndo, .s (.bool false)] := by
  refine spec_val k_tree_Tree_Do (Qf := fun rs => rs = [gUndo zUndo, .s (.bool false)]) [.g (.s v), .g (gOp op)] (by simp) (by simp [AV.ok, GV.ok, h.one, gOp_ok]) ?_
  simp (maxSteps := 2000000) only [c_tree_Tree_Do, vc_seq, vc_rg, thenQ_n, kKeep_eq, segs_nil, segs_n, ops_nil, ops_cons, vcOp, ev, look, updL, put_mk, keep_mk, keepL, Value.oneCell', cond_true, Nat.reduceEqDiff, ↓reduceIte, reduceCtorEq, Nat.zero_add, Bool.true_and, true_and, initF, initP, getT_nil, gStamp_zero, gOp_fits, gOp_zero, gPlace_zero, gUndo_zero]
  refine call_is _ [.s (.bool false)] rfl rfl (fun w' vs hv hw => ?_) ?_
  · obtain ⟨vs, rfl, _, hv⟩ := argsV_g hv
    obtain ⟨vs, rfl, _, hv⟩ := argsV_g hv
    obtain rfl := argsV_nil hv
    intro _
    exact May_noneT (fun b o h => hw b o (by rw [u0_no]; exact hu b o h)) h op
  simp (maxSteps := 2000000) only [retS, vc_ret, vc_seq, vc_rg, vc_ite, thenQ_n, thenQ_r, kKeep_eq, segs_nil, segs_n, ops_nil, ops_cons, vcOp, ev, evL, gvL, look, updL, put_mk, put_mk0, keep_mk, keepL, unV, Value.oneCell', cond_true, Nat.reduceEqDiff, ↓reduceIte, reduceCtorEq, Bool.and_true, Bool.not_false, and_true, List.map_nil, finW_r, resL, resOne, Option.bind_some, ↓br_tt, GV.bldT, GV.bldC, getT_nil, setT_nil, get_nil, gUndo_sz, gUndo_fits, gUndo_same]
theorem Back_noneT (hu : u.le w) (h : NoneT u v) : Spec Try.prog f_tree_Tree_Back [v, (gUndo zUndo).val] PH.no w fun rs _ => rs = [.s (.int .i64 2)] := by
  refine spec_val k_tree_Tree_Back (Qf := fun rs => rs = [.s (.int .i64 2)]) [.g (.s v), .g (gUndo zUndo)] (by simp) (by simpa [AV.ok, GV.ok, h.one] using gUndo_ok zUndo rfl) ?_
  simp (maxSteps := 2000000) only [c_tree_Tree_Back, vc_seq, vc_rg, thenQ_n, kKeep_eq, segs_nil, segs_n, ops_nil, ops_cons, vcOp, ev, look, updL, put_mk, keep_mk, keepL, Value.oneCell', cond_true, Nat.reduceEqDiff, ↓reduceIte, reduceCtorEq, Nat.zero_add, Bool.true_and, true_and, initF, initP, gStamp_zero, gOp_zero, gPlace_zero, gUndo_zero]
  refine call_is _ [.s (.bool true)] rfl rfl (fun w' vs hv hw => ?_) ?_
  · obtain ⟨vs, rfl, _, hv⟩ := argsV_g hv
    obtain rfl := argsV_nil hv
    intro _
    exact noneT_is (fun b o h => hw b o (by rw [u0_no]; exact hu b o h)) h
  simp (maxSteps := 2000000) only [retS, vc_ret, vc_seq, vc_rg, vc_ite, thenQ_n, thenQ_r, kKeep_eq, segs_nil, segs_n, ops_nil, ops_cons, vcOp, ev, look, put_mk, keep_mk, keepL, Value.oneCell', cond_true, Nat.reduceEqDiff, ↓reduceIte, reduceCtorEq, finW_r, resL, resOne, ↓br_tt]
theorem Node_noneT (hu : u.le w) (h : NoneT u v) (n : Int) : Spec Try.prog f_tree_Tree_Node [v, .int .i64 n] PH.no w fun rs _ => rs = [gTreeNode zTreeNode, .s (.bool false)] := by
  refine spec_val k_tree_Tree_Node (Qf := fun rs => rs = [gTreeNode zTreeNode, .s (.bool false)]) [.g (.s v), .g (.s (.int .i64 n))] (by simp) (avs_two h.one rfl) ?_
  simp (maxSteps := 2000000) only [c_tree_Tree_Node, vc_seq, vc_rg, thenQ_n, kKeep_eq, segs_nil, segs_n, ops_nil, ops_cons, vcOp, ev, look, updL, put_mk, keep_mk, keepL, Value.oneCell', cond_true, Nat.reduceEqDiff, ↓reduceIte, reduceCtorEq, Nat.zero_add, Bool.true_and, true_and, initF, initP, gTreeNode_zero]
  refine call_is _ [.s (.bool true)] rfl rfl (fun w' vs hv hw => ?_) ?_
  · obtain ⟨vs, rfl, _, hv⟩ := argsV_g hv
    obtain rfl := argsV_nil hv
    intro _
    exact noneT_is (fun b o h => hw b o (by rw [u0_no]; exact hu b o h)) h
  simp (maxSteps := 2000000) only [retS, vc_ret, vc_seq, vc_rg, vc_ite, thenQ_n, thenQ_r, kKeep_eq, segs_nil, segs_n, segs_g, ops_nil, ops_cons, vcOp, RO.isGh, skip_mk, skipL, ev, evL, gvL, look, updL, put_mk, put_mk0, keep_mk, keepL, Value.oneCell', cond_true, cond_false, Nat.reduceEqDiff, ↓reduceIte, reduceCtorEq, Bool.and_true, Bool.not_false, and_true, List.map_nil, finW_r, resL, resOne, Option.bind_some, ↓br_tt, ↓br_tf, GV.bldT, GV.bldC, getT_nil, setT_nil, get_nil, gTreeNode_sz, gTreeNode_fits, gTreeNode_same]
theorem Children_noneT (hu : u.le w) (h : NoneT u v) (n : Int) : Spec Try.prog f_tree_Tree_Children [v, .int .i64 n] PH.no w fun rs _ => rs = [.s (.slice none 0 0)] := by
  refine spec_val k_tree_Tree_Children (Qf := fun rs => rs = [.s (.slice none 0 0)]) [.g (.s v), .g (.s (.int .i64 n))] (by simp) (avs_two h.one rfl) ?_
  simp (maxSteps := 2000000) only [c_tree_Tree_Children, vc_seq, vc_rg, thenQ_n, kKeep_eq, segs_nil, segs_n, ops_nil, ops_cons, vcOp, ev, look, put_mk, keep_mk, keepL, Value.oneCell', cond_true, Nat.reduceEqDiff, ↓reduceIte, reduceCtorEq, Nat.zero_add, initF, initP]
  refine call_is _ [.s (.bool true)] rfl rfl (fun w' vs hv hw => ?_) ?_
  · obtain ⟨vs, rfl, _, hv⟩ := argsV_g hv
    obtain rfl := argsV_nil hv
    intro _
    exact noneT_is (fun b o h => hw b o (by rw [u0_no]; exact hu b o h)) h
  simp (maxSteps := 2000000) only [retS, vc_ret, vc_seq, vc_rg, vc_ite, thenQ_n, thenQ_r, kKeep_eq, segs_nil, segs_n, segs_g, ops_nil, ops_cons, vcOp, RO.isGh, skip_mk, skipL, ev, look, put_mk, keep_mk, keepL, Value.oneCell', cond_true, cond_false, Nat.reduceEqDiff, ↓reduceIte, reduceCtorEq, Bool.not_false, finW_r, resL, resOne, ↓br_tt, ↓br_tf]
theorem Lookup_noneT (hu : u.le w) (h : NoneT u v) (n : Int) (s : ByteArray) : Spec Try.prog f_tree_Tree_Lookup [v, .int .i64 n, .string s] PH.no w fun rs _ => rs = [.s (.int .i64 0), .s (.bool false)] := by
  refine spec_val k_tree_Tree_Lookup (Qf := fun rs => rs = [.s (.int .i64 0), .s (.bool false)]) [.g (.s v), .g (.s (.int .i64 n)), .g (.s (.string s))] (by simp) (avs_three h.one rfl rfl) ?_
  simp (maxSteps := 2000000) only [c_tree_Tree_Lookup, vc_seq, vc_rg, thenQ_n, kKeep_eq, segs_nil, segs_n, ops_nil, ops_cons, vcOp, ev, look, put_mk, keep_mk, keepL, Value.oneCell', cond_true, Nat.reduceEqDiff, Nat.reduceAdd, ↓reduceIte, reduceCtorEq, Nat.zero_add, initF, initP, Int.reduceAdd]
  refine call_is _ [.s (.bool true)] rfl rfl (fun w' vs hv hw => ?_) ?_
  · obtain ⟨vs, rfl, _, hv⟩ := argsV_g hv
    obtain rfl := argsV_nil hv
    intro _
    exact noneT_is (fun b o h => hw b o (by rw [u0_no]; exact hu b o h)) h
  simp (maxSteps := 2000000) only [retS, vc_ret, vc_seq, vc_rg, vc_ite, thenQ_n, thenQ_r, kKeep_eq, segs_nil, segs_n, segs_g, ops_nil, ops_cons, vcOp, RO.isGh, skip_mk, skipL, ev, look, put_mk, keep_mk, keepL, Value.oneCell', cond_true, cond_false, Nat.reduceEqDiff, ↓reduceIte, reduceCtorEq, Bool.not_false, finW_r, resL, resOne, ↓br_tt, ↓br_tf]
theorem Attr_noneT (hu : u.le w) (h : NoneT u v) (n : Int) (s : ByteArray) : Spec Try.prog f_tree_Tree_Attr [v, .int .i64 n, .string s] PH.no w fun rs _ => rs = [.s (.string ⟨#[]⟩), .s (.bool false)] := by
  refine spec_val k_tree_Tree_Attr (Qf := fun rs => rs = [.s (.string ⟨#[]⟩), .s (.bool false)]) [.g (.s v), .g (.s (.int .i64 n)), .g (.s (.string s))] (by simp) (avs_three h.one rfl rfl) ?_
  simp (maxSteps := 2000000) only [c_tree_Tree_Attr, vc_seq, vc_rg, thenQ_n, kKeep_eq, segs_nil, segs_n, ops_nil, ops_cons, vcOp, ev, look, put_mk, keep_mk, keepL, Value.oneCell', cond_true, Nat.reduceEqDiff, Nat.reduceAdd, ↓reduceIte, reduceCtorEq, Nat.zero_add, initF, initP, Int.reduceAdd]
  refine call_is _ [.s (.bool true)] rfl rfl (fun w' vs hv hw => ?_) ?_
  · obtain ⟨vs, rfl, _, hv⟩ := argsV_g hv
    obtain rfl := argsV_nil hv
    intro _
    exact noneT_is (fun b o h => hw b o (by rw [u0_no]; exact hu b o h)) h
  simp (maxSteps := 2000000) only [retS, vc_ret, vc_seq, vc_rg, vc_ite, thenQ_n, thenQ_r, kKeep_eq, segs_nil, segs_n, segs_g, ops_nil, ops_cons, vcOp, RO.isGh, skip_mk, skipL, ev, look, put_mk, keep_mk, keepL, Value.oneCell', cond_true, cond_false, Nat.reduceEqDiff, ↓reduceIte, reduceCtorEq, Bool.not_false, finW_r, resL, resOne, ↓br_tt, ↓br_tf]
theorem Below_noneT (hu : u.le w) (h : NoneT u v) (n k : Int) : Spec Try.prog f_tree_Tree_Below [v, .int .i64 n, .int .i64 k] PH.no w fun rs _ => rs = [.s (.bool false)] := by
  refine spec_val k_tree_Tree_Below (Qf := fun rs => rs = [.s (.bool false)]) [.g (.s v), .g (.s (.int .i64 n)), .g (.s (.int .i64 k))] (by simp) (avs_three h.one rfl rfl) ?_
  simp (maxSteps := 2000000) only [c_tree_Tree_Below, vc_seq, vc_rg, thenQ_n, kKeep_eq, segs_nil, segs_n, ops_nil, ops_cons, vcOp, ev, look, put_mk, keep_mk, keepL, Value.oneCell', cond_true, Nat.reduceEqDiff, Nat.reduceAdd, ↓reduceIte, reduceCtorEq, Nat.zero_add, initF, initP, Int.reduceAdd]
  refine call_is _ [.s (.bool true)] rfl rfl (fun w' vs hv hw => ?_) ?_
  · obtain ⟨vs, rfl, _, hv⟩ := argsV_g hv
    obtain rfl := argsV_nil hv
    intro _
    exact noneT_is (fun b o h => hw b o (by rw [u0_no]; exact hu b o h)) h
  simp (maxSteps := 2000000) only [retS, vc_ret, thenQ_n, kKeep_eq, segs_nil, segs_n, segs_g, ops_nil, ops_cons, vcOp, RO.isGh, skip_mk, skipL, ev, look, put_mk, keep_mk, keepL, unV, Value.oneCell', cond_true, cond_false, Nat.reduceEqDiff, ↓reduceIte, Bool.not_true, finW_r, resL, resOne, ↓br_ft]
theorem Nodes_noneT (hu : u.le w) (h : NoneT u v) : Spec Try.prog f_tree_Tree_Nodes [v] PH.no w fun rs _ => rs = [.s (.slice none 0 0)] := by
  refine spec_val k_tree_Tree_Nodes (Qf := fun rs => rs = [.s (.slice none 0 0)]) [.g (.s v)] (by simp) (by simp [AV.ok, GV.ok, h.one]) ?_
  simp (maxSteps := 2000000) only [c_tree_Tree_Nodes, vc_seq, vc_rg, thenQ_n, kKeep_eq, segs_nil, segs_n, ops_nil, ops_cons, vcOp, ev, look, put_mk, keep_mk, keepL, Value.oneCell', cond_true, ↓reduceIte, reduceCtorEq, initF, initP]
  refine call_is _ [.s (.bool true)] rfl rfl (fun w' vs hv hw => ?_) ?_
  · obtain ⟨vs, rfl, _, hv⟩ := argsV_g hv
    obtain rfl := argsV_nil hv
    intro _
    exact noneT_is (fun b o h => hw b o (by rw [u0_no]; exact hu b o h)) h
  simp (maxSteps := 2000000) only [retS, vc_ret, vc_seq, vc_rg, vc_ite, thenQ_n, thenQ_r, kKeep_eq, segs_nil, segs_n, ops_nil, ops_cons, vcOp, ev, look, put_mk, keep_mk, keepL, Value.oneCell', cond_true, ↓reduceIte, reduceCtorEq, finW_r, resL, resOne, ↓br_tt]
theorem Clone_noneT (hu : u.le w) (h : NoneT u v) : Spec Try.prog f_tree_Tree_Clone [v] PH.no w fun rs _ => rs = [.s (.pointer none)] := by
  refine spec_val k_tree_Tree_Clone (Qf := fun rs => rs = [.s (.pointer none)]) [.g (.s v)] (by simp) (by simp [AV.ok, GV.ok, h.one]) ?_
  simp (maxSteps := 2000000) only [c_tree_Tree_Clone, vc_seq, vc_rg, thenQ_n, kKeep_eq, segs_nil, segs_n, ops_nil, ops_cons, vcOp, ev, look, put_mk, keep_mk, keepL, Value.oneCell', cond_true, ↓reduceIte, reduceCtorEq, initF, initP]
  refine call_is _ [.s (.bool true)] rfl rfl (fun w' vs hv hw => ?_) ?_
  · obtain ⟨vs, rfl, _, hv⟩ := argsV_g hv
    obtain rfl := argsV_nil hv
    intro _
    exact noneT_is (fun b o h => hw b o (by rw [u0_no]; exact hu b o h)) h
  simp (maxSteps := 2000000) only [retS, vc_ret, vc_seq, vc_rg, vc_ite, thenQ_n, thenQ_r, kKeep_eq, segs_nil, segs_n, ops_nil, ops_cons, vcOp, ev, look, put_mk, keep_mk, keepL, Value.oneCell', cond_true, ↓reduceIte, reduceCtorEq, finW_r, resL, resOne, ↓br_tt]
/-- Walk: a function that goes through nothing. -/
theorem Walk_noneT (hu : u.le w) (h : NoneT u v) (n : Int) : Spec Try.prog f_tree_Tree_Walk [v, .int .i64 n] PH.no w fun rs m' => ∃ b e, rs = [.s (.func (.func f_tree_Tree_Walk_1) #[] #[ptr b])] ∧ m' b = some (.cells #[.slice none 0 0] e (0, 0)) := by
  refine spec_of k_tree_Tree_Walk [.g (.s v), .g (.s (.int .i64 n))] (by simp) (avs_two h.one rfl) ?_
  simp (maxSteps := 2000000) only [c_tree_Tree_Walk, vc_seq, vc_rg, thenQ_n, kKeep_eq, segs_nil, segs_n, ops_nil, ops_cons, vcOp, ev, look, updL, put_mk, keep_mk, keepL, Value.oneCell', cond_true, Nat.reduceEqDiff, ↓reduceIte, reduceCtorEq, Nat.zero_add, Bool.true_and, true_and, initF, initP, ptr]
  refine call_is _ [.s (.bool true)] rfl rfl (fun w' vs hv hw => ?_) ?_
  · obtain ⟨vs, rfl, _, hv⟩ := argsV_g hv
    obtain rfl := argsV_nil hv
    intro _
    exact noneT_is (fun b o h => hw b o (by rw [u0_no]; exact hu b o h)) h
  simp (maxSteps := 2000000) only [retS, vc_skip, vc_seq, vc_rg, vc_ite, thenQ_n, kKeep_eq, segs_nil, segs_n, segs_g, ops_nil, ops_cons, vcOp, RO.isGh, skip_mk, skipL, ev, look, put_mk, keep_mk, keepL, unV, Value.oneCell', cond_true, cond_false, Nat.reduceEqDiff, ↓reduceIte, reduceCtorEq, Bool.not_true, ↓br_ft]
  refine gh_pubBox 5 5 rfl rfl fun v u2 hv hp hd => ?_
  obtain ⟨hok, b, e, rfl, rfl⟩ := hp
  simp (maxSteps := 2000000) only [dropK, vc_ret, thenQ_n, kKeep_eq, finQ_r, segs_nil, ops_nil, ops_cons, vcOp, ev, evL, scL, look, put_mk, keep_mk, keepL, cond_true, cond_false, ↓reduceIte, BEq.rfl, Option.map_some, kill, SV.mentions]
  exact fin_m (rs := [.s (.func (.func f_tree_Tree_Walk_1) #[] #[ptr b])]) _ rfl (fun _ _ h => h) ⟨b, e, rfl, by simp [uni, one, GV.flat]⟩
theorem Walk1_noneT (hu : u.le w) {b : Nat} {e : TypeId} (h : u b = some (.cells #[.slice none 0 0] e (0, 0))) (yv : Value) (hy : yv.oneCell' = true) : Spec Try.prog f_tree_Tree_Walk_1 [yv, ptr b] PH.no w fun rs _ => rs = [] := by
  refine spec_val k_tree_Tree_Walk_1 (Qf := fun rs => rs = []) [.g (.s yv), .g (.s (ptr b))] (by simp) (avs_two hy rfl) ?_
  have hk : ∀ {l : List PH}, KN (⟨Try.prog, 19, w, PH.no⟩ : Ctx).u0 l u := kn_u hu
  unfold ptr
  simp (maxSteps := 2000000) only [c_tree_Tree_Walk_1, vc_seq, vc_rg, segs_n, ops_cons, vcOp, ev, look, ↓reduceIte, reduceCtorEq, Nat.zero_add, initF, initP]
  refine ld_of (.s (.slice none 0 0)) (seen_c0 hk h (j := 0) (v := .slice none 0 0) rfl rfl) rfl ?_
  simp (maxSteps := 2000000) only [vc_block, thenQ_n, kKeep_eq, segs_nil, ops_nil, ops_cons, vcOp, ev, look, put_mk, keep_mk, keepL, Value.oneCell', cond_true, Nat.reduceEqDiff, ↓reduceIte, reduceCtorEq]
  refine vc_loop (ι := Unit) (fun _ => ⟨[(0, .g (.s (yv))), (5, .g (.s (.slice none 0 0))), (6, .g (.s (.int .i64 ((0 : Nat))))), (7, .g (.s (.int .i64 (0))))], [], [], PH.no⟩) (fun _ => True) (fun _ => 0) () trivial (ge_of ?_ ?_ rfl rfl rfl) ?_
  · simp [frIn, look]
  · simp [pvIn, look]
  intro _ _
  simp (maxSteps := 2000000) only [c_tree_Tree_Walk_1_L0, vc_skip, vc_exit, vc_seq, vc_block, vc_rg, vc_ite, thenQ_n, thenQ_e, blockQ_e, kKeep_eq, loopQ_e, segs_nil, segs_n, ops_nil, ops_cons, vcOp, ev, look, put_mk, keep_mk, keepL, binV, binC, Nat.reduceEqDiff, ↓reduceIte, reduceCtorEq, Bool.true_and, true_and, finW_n, resL, decide_eq_true_eq, decide_eq_false_iff_not, br_t, gStamp_zero]
  exact ⟨fun h => by omega, fun _ => trivial⟩
end
end Go.Proofs.Ytdpknchgoeboaaa.Vc

/- A step of a tree's law, as a plain struct. -/
set_option linter.unusedVariables false
set_option linter.unusedSimpArgs false
namespace Go.Proofs.Ytdpknchgoeboaaa.Vc
open Go

structure LOp where
  dk : Int
  op : Op
  which : Int
  n : Int
  m : Int
  name : ByteArray
  stop : Int
def zLOp : LOp := ⟨0, zOp, 0, 0, 0, ⟨#[]⟩, 0⟩
def gLOp (x : LOp) : GV := .c (.s (.int .i64 x.dk)) (.c (gOp x.op) (.c (.s (.int .i64 x.which)) (.c (.s (.int .i64 x.n)) (.c (.s (.int .i64 x.m)) (.c (.s (.string x.name)) (.c (.s (.int .i64 x.stop)) .u))))))
theorem gLOp_ok (x : LOp) : (gLOp x).ok := ⟨rfl, gOp_ok _, rfl, rfl, rfl, rfl, rfl, trivial⟩
theorem gLOp_sz (x : LOp) : (gLOp x).sz = 14 := by simp [gLOp, GV.sz, gVec_sz, gVec2_sz, gStamp_sz, gOp_sz, gPlace_sz, gUndo_sz, gTreeNode_sz, gAttr_sz, gChild_sz]
theorem gLOp_fits (x : LOp) : (gLOp x).fits 14 true = true := by
  show (true && (gLOp x).sz == 14) = true
  rw [gLOp_sz]; rfl
theorem gLOp_isS (x : LOp) : (gLOp x).isS = false := rfl
theorem gLOp_same (x y : LOp) : (gLOp x).same (gLOp y) = True := eq_true ⟨trivial, (by rw [gOp_same]; trivial), trivial, trivial, trivial, trivial, trivial, trivial⟩
theorem gLOp_fld0 (x : LOp) : (gLOp x).fld 0 0 = true := by simp [gLOp, GV.fld, GV.sz, gVec_sz, gVec2_sz, gStamp_sz, gOp_sz, gPlace_sz, gUndo_sz, gTreeNode_sz, gAttr_sz, gChild_sz]
theorem gLOp_get0 (x : LOp) (p : List Nat) : (gLOp x).getT (0 :: p) = GV.getT (.s (.int .i64 x.dk)) p := by simp [gLOp, GV.getT]
theorem gLOp_set0 (x : LOp) (v : Int) : (gLOp x).setT [0] (.s (.int .i64 v)) = gLOp { x with dk := v } := by simp [gLOp, GV.setT, setT_nil]
theorem gLOp_fld1 (x : LOp) : (gLOp x).fld 1 1 = true := by simp [gLOp, GV.fld, GV.sz, gVec_sz, gVec2_sz, gStamp_sz, gOp_sz, gPlace_sz, gUndo_sz, gTreeNode_sz, gAttr_sz, gChild_sz]
theorem gLOp_get1 (x : LOp) (p : List Nat) : (gLOp x).getT (1 :: p) = GV.getT (gOp x.op) p := by simp [gLOp, GV.getT]
theorem gLOp_set1 (x : LOp) (v : Op) : (gLOp x).setT [1] (gOp v) = gLOp { x with op := v } := by simp [gLOp, GV.setT, setT_nil]
theorem gLOp_fld2 (x : LOp) : (gLOp x).fld 2 9 = true := by simp [gLOp, GV.fld, GV.sz, gVec_sz, gVec2_sz, gStamp_sz, gOp_sz, gPlace_sz, gUndo_sz, gTreeNode_sz, gAttr_sz, gChild_sz]
theorem gLOp_get2 (x : LOp) (p : List Nat) : (gLOp x).getT (2 :: p) = GV.getT (.s (.int .i64 x.which)) p := by simp [gLOp, GV.getT]
theorem gLOp_set2 (x : LOp) (v : Int) : (gLOp x).setT [2] (.s (.int .i64 v)) = gLOp { x with which := v } := by simp [gLOp, GV.setT, setT_nil]
theorem gLOp_fld3 (x : LOp) : (gLOp x).fld 3 10 = true := by simp [gLOp, GV.fld, GV.sz, gVec_sz, gVec2_sz, gStamp_sz, gOp_sz, gPlace_sz, gUndo_sz, gTreeNode_sz, gAttr_sz, gChild_sz]
theorem gLOp_get3 (x : LOp) (p : List Nat) : (gLOp x).getT (3 :: p) = GV.getT (.s (.int .i64 x.n)) p := by simp [gLOp, GV.getT]
theorem gLOp_set3 (x : LOp) (v : Int) : (gLOp x).setT [3] (.s (.int .i64 v)) = gLOp { x with n := v } := by simp [gLOp, GV.setT, setT_nil]
theorem gLOp_fld4 (x : LOp) : (gLOp x).fld 4 11 = true := by simp [gLOp, GV.fld, GV.sz, gVec_sz, gVec2_sz, gStamp_sz, gOp_sz, gPlace_sz, gUndo_sz, gTreeNode_sz, gAttr_sz, gChild_sz]
theorem gLOp_get4 (x : LOp) (p : List Nat) : (gLOp x).getT (4 :: p) = GV.getT (.s (.int .i64 x.m)) p := by simp [gLOp, GV.getT]
theorem gLOp_set4 (x : LOp) (v : Int) : (gLOp x).setT [4] (.s (.int .i64 v)) = gLOp { x with m := v } := by simp [gLOp, GV.setT, setT_nil]
theorem gLOp_fld5 (x : LOp) : (gLOp x).fld 5 12 = true := by simp [gLOp, GV.fld, GV.sz, gVec_sz, gVec2_sz, gStamp_sz, gOp_sz, gPlace_sz, gUndo_sz, gTreeNode_sz, gAttr_sz, gChild_sz]
theorem gLOp_get5 (x : LOp) (p : List Nat) : (gLOp x).getT (5 :: p) = GV.getT (.s (.string x.name)) p := by simp [gLOp, GV.getT]
theorem gLOp_set5 (x : LOp) (v : ByteArray) : (gLOp x).setT [5] (.s (.string v)) = gLOp { x with name := v } := by simp [gLOp, GV.setT, setT_nil]
theorem gLOp_fld6 (x : LOp) : (gLOp x).fld 6 13 = true := by simp [gLOp, GV.fld, GV.sz, gVec_sz, gVec2_sz, gStamp_sz, gOp_sz, gPlace_sz, gUndo_sz, gTreeNode_sz, gAttr_sz, gChild_sz]
theorem gLOp_get6 (x : LOp) (p : List Nat) : (gLOp x).getT (6 :: p) = GV.getT (.s (.int .i64 x.stop)) p := by simp [gLOp, GV.getT]
theorem gLOp_set6 (x : LOp) (v : Int) : (gLOp x).setT [6] (.s (.int .i64 v)) = gLOp { x with stop := v } := by simp [gLOp, GV.setT, setT_nil]
theorem gLOp_zero : GV.c (.s (.int .i64 0)) (.c (gOp zOp) (.c (.s (.int .i64 0)) (.c (.s (.int .i64 0)) (.c (.s (.int .i64 0)) (.c (.s (.string ⟨#[]⟩)) (.c (.s (.int .i64 0)) .u)))))) = gLOp zLOp := by simp only [gLOp, zLOp]
theorem getD_gLOp (l : List LOp) (i : Nat) : (l.map gLOp).getD i (gLOp zLOp) = gLOp (l.getD i zLOp) := by
  rw [List.getD_eq_getElem?_getD, List.getElem?_map, List.getD_eq_getElem?_getD]
  cases l[i]? <;> rfl

end Go.Proofs.Ytdpknchgoeboaaa.Vc

/- The code of some functions of the program, its types resolved: printed by a program of this claim. -/
set_option linter.unusedVariables false
set_option maxRecDepth 100000
namespace Go.Proofs.Ytdpknchgoeboaaa.Vc
open Go Go.Proofs

abbrev f_ref12_New : Nat := 48
def c_ref12_New : Cd :=
 (.seq (.rg [⟨none, [(some 0, .mv (.c (.pointer none)))]⟩] [])
 (.seq (.rg [⟨none, [(some 1, .bld (.c (.s (.int .i64 0)) (.c (.s (.int .i64 0)) (.c (.s (.string ⟨#[]⟩)) (.c (.s (.slice none 0 0)) .u)))) [(0, (.c (.int .i64 1)))]), (some 2, .bld (.c (.s (.int .i64 0)) (.c (.s (.int .i64 0)) (.c (.s (.string ⟨#[]⟩)) (.c (.s (.slice none 0 0)) .u)))) [(0, (.c (.int .i64 2)))]), (some 3, .bldS 62 4 (.c (.s (.int .i64 0)) (.c (.s (.int .i64 0)) (.c (.s (.string ⟨#[]⟩)) (.c (.s (.slice none 0 0)) .u)))) [(.t 1), (.t 2)]), (none, .gh), (some 4, .bld (.c (.s (.slice none 0 0)) (.c (.s (.slice none 0 0)) .u)) [(0, (.t 3))]), (some 5, .box 109 (.t 4)), (none, .gh), (some 0, .mv (.t 5))]⟩] [0])
 .ret))
theorem k_ref12_New : Ok Try.prog 48 c_ref12_New 6 [] [.tmp 0] := Ok.mk' Try.func48 (by kernel_rfl) (by kernel_rfl) (by kernel_rfl)

abbrev f_ref12_Tree_find : Nat := 52
def c_ref12_Tree_find_L0 : Cd :=
 (.seq (.seq (.rg [⟨none, [(some 7, .mv (.t 6)), (some 8, .mv (.t 0)), (some 9, .nilc (.t 8)), (some 10, .fldA (.t 9) 0 0), (some 11, .ld (.t 10) 1 false), (some 12, .len (.t 11)), (some 13, .bin .lss (.t 7) (.t 12)), (some 14, .mv (.t 13))]⟩, ⟨some (14, true), [(some 15, .mv (.t 0)), (some 16, .nilc (.t 15)), (some 17, .fldA (.t 16) 0 0), (some 18, .ld (.t 17) 1 false), (some 19, .mv (.t 6)), (some 20, .idxS (.t 18) (.t 19) 4), (some 21, .fldA (.t 20) 0 0), (some 22, .ld (.t 21) 1 false), (some 23, .mv (.t 1)), (some 24, .bin .lss (.t 22) (.t 23))]⟩, ⟨none, [(some 25, .pick (.t 14) (.t 24) (.c (.bool false)))]⟩] [0, 1, 6, 25])
 (.ite (.t 25)
 .skip
 (.exit 0)))
 (.block 1 (.rg [⟨none, [(some 26, .mv (.t 6)), (some 27, .bin .add (.t 26) (.c (.int .i64 1))), (some 6, .mv (.t 27))]⟩] [0, 1, 6])))
def c_ref12_Tree_find : Cd :=
 (.seq (.rg [⟨none, [(some 4, .mv (.c (.int .i64 0))), (some 5, .mv (.c (.bool false)))]⟩] [0, 1])
 (.seq (.rg [⟨none, [(some 6, .mv (.c (.int .i64 0)))]⟩] [0, 1, 6])
 (.seq (.block 0 (.loop c_ref12_Tree_find_L0))
 (.seq (.rgq [⟨none, [(some 28, .mv (.t 6)), (some 29, .mv (.t 6)), (some 30, .mv (.t 0)), (some 31, .nilc (.t 30)), (some 32, .fldA (.t 31) 0 0), (some 33, .ld (.t 32) 1 false), (some 34, .len (.t 33)), (some 35, .bin .lss (.t 29) (.t 34)), (some 36, .mv (.t 35))]⟩, ⟨some (36, true), [(some 37, .mv (.t 0)), (some 38, .nilc (.t 37)), (some 39, .fldA (.t 38) 0 0), (some 40, .ld (.t 39) 1 false), (some 41, .mv (.t 6)), (some 42, .idxS (.t 40) (.t 41) 4), (some 43, .fldA (.t 42) 0 0), (some 44, .ld (.t 43) 1 false), (some 45, .mv (.t 1)), (some 46, .bin .eql (.t 44) (.t 45))]⟩, ⟨none, [(some 47, .pick (.t 36) (.t 46) (.c (.bool false))), (some 4, .mv (.t 28))]⟩] [⟨none, [(some 5, .mv (.t 47))]⟩] [4, 5])
 .ret))))
theorem k_ref12_Tree_find : Ok Try.prog 52 c_ref12_Tree_find 48 [(4, 21)] [.tmp 4, .tmp 5] := Ok.mk' Try.func52 (by kernel_rfl) (by kernel_rfl) (by kernel_rfl)

abbrev f_ref12_clone : Nat := 51
def c_ref12_clone_L0 : Cd :=
 (.seq (.seq (.rg [⟨none, [(some 6, .mv (.t 4)), (some 7, .mv (.t 0)), (some 8, .len (.t 7)), (some 9, .bin .lss (.t 6) (.t 8))]⟩] [0, 3, 4, 9])
 (.ite (.t 9)
 .skip
 (.exit 0)))
 (.seq (.block 1 (.seq (.rg [⟨none, [(some 12, .mv (.t 0)), (some 13, .mv (.t 4)), (some 14, .idxS (.t 12) (.t 13) 4), (some 15, .ld (.t 14) 4 true), (some 5, .new 62 (.c (.s (.int .i64 0)) (.c (.s (.int .i64 0)) (.c (.s (.string ⟨#[]⟩)) (.c (.s (.slice none 0 0)) .u))))), (none, .st (.t 5) (.t 15) 4)]⟩] [0, 3, 4, 5])
 (.seq (.rg [⟨none, [(some 16, .fldA (.t 5) 3 3), (some 17, .ld (.t 16) 1 false), (none, .gh), (some 18, .app 103 2 32 (.c (.s (.string ⟨#[]⟩)) (.c (.s (.string ⟨#[]⟩)) .u)) (.c (.slice none 0 0)) (.t 17)), (none, .gh), (some 19, .fldA (.t 5) 3 3), (none, .st (.t 19) (.t 18) 1)]⟩] [0, 3, 4, 5])
 (.rg [⟨none, [(some 20, .mv (.t 3)), (some 21, .ld (.t 5) 4 true), (some 22, .bldS 62 4 (.c (.s (.int .i64 0)) (.c (.s (.int .i64 0)) (.c (.s (.string ⟨#[]⟩)) (.c (.s (.slice none 0 0)) .u)))) [(.t 21)]), (some 23, .app 62 4 56 (.c (.s (.int .i64 0)) (.c (.s (.int .i64 0)) (.c (.s (.string ⟨#[]⟩)) (.c (.s (.slice none 0 0)) .u)))) (.t 20) (.t 22)), (some 3, .mv (.t 23))]⟩] [0, 3, 4]))))
 (.rg [⟨none, [(some 10, .mv (.t 4)), (some 11, .bin .add (.t 10) (.c (.int .i64 1))), (some 4, .mv (.t 11))]⟩] [0, 3, 4])))
def c_ref12_clone : Cd :=
 (.seq (.rg [⟨none, [(some 2, .mv (.c (.slice none 0 0)))]⟩] [0])
 (.seq (.rg [⟨none, [(some 3, .mv (.c (.slice none 0 0)))]⟩] [0, 3])
 (.seq (.seq (.rg [⟨none, [(none, .gh), (some 4, .mv (.c (.int .i64 0)))]⟩] [0, 3, 4])
 (.block 0 (.loop c_ref12_clone_L0)))
 (.seq (.rg [⟨none, [(some 24, .mv (.t 3)), (none, .gh), (some 2, .mv (.t 24))]⟩] [2])
 .ret))))
theorem k_ref12_clone : Ok Try.prog 51 c_ref12_clone 25 [] [.tmp 2] := Ok.mk' Try.func51 (by kernel_rfl) (by kernel_rfl) (by kernel_rfl)

abbrev f_ref12_Tree_put : Nat := 50
def c_ref12_Tree_put : Cd :=
 (.seq (.rg [⟨none, [(some 3, .box 62 (.t 1))]⟩] [0, 3])
 (.seq (.rg [⟨none, [(some 8, .mv (.t 0)), (some 9, .fldA (.t 3) 0 0), (some 10, .ld (.t 9) 1 false), (some 11, .call 52 [(.t 8), (.t 10)]), (some 7, .mv (.t 11)), (some 12, .ext (.t 7) 0), (some 13, .ext (.t 7) 1), (some 4, .mv (.t 12)), (some 5, .mv (.t 13))]⟩] [0, 3, 4, 5])
 (.seq (.seq (.rg [⟨none, [(some 14, .mv (.t 5))]⟩] [0, 3, 4, 14])
 (.ite (.t 14)
 (.seq (.rgq [⟨none, [(some 15, .mv (.t 0)), (some 16, .nilc (.t 15)), (some 17, .fldA (.t 16) 0 0), (some 18, .ld (.t 17) 1 false), (some 19, .mv (.t 4)), (some 20, .ld (.t 3) 4 true)]⟩] [⟨none, [(some 21, .idxS (.t 18) (.t 19) 4), (none, .st (.t 21) (.t 20) 4)]⟩] [])
 .ret)
 .skip))
 (.seq (.rg [⟨none, [(some 22, .mv (.t 0)), (some 23, .nilc (.t 22)), (some 24, .fldA (.t 23) 0 0), (some 25, .ld (.t 24) 1 false), (some 26, .mv (.t 4)), (some 27, .sl 4 (.t 25) none (some (.t 26))), (none, .gh), (none, .gh), (some 28, .app 62 4 56 (.c (.s (.int .i64 0)) (.c (.s (.int .i64 0)) (.c (.s (.string ⟨#[]⟩)) (.c (.s (.slice none 0 0)) .u)))) (.c (.slice none 0 0)) (.t 27)), (some 6, .mv (.t 28))]⟩] [0, 3, 4, 6])
 (.seq (.rg [⟨none, [(some 29, .mv (.t 6)), (some 30, .ld (.t 3) 4 true), (some 31, .bldS 62 4 (.c (.s (.int .i64 0)) (.c (.s (.int .i64 0)) (.c (.s (.string ⟨#[]⟩)) (.c (.s (.slice none 0 0)) .u)))) [(.t 30)]), (some 32, .app 62 4 56 (.c (.s (.int .i64 0)) (.c (.s (.int .i64 0)) (.c (.s (.string ⟨#[]⟩)) (.c (.s (.slice none 0 0)) .u)))) (.t 29) (.t 31)), (some 6, .mv (.t 32))]⟩] [0, 4, 6])
 (.rg [⟨none, [(some 33, .mv (.t 0)), (some 34, .mv (.t 6)), (some 35, .mv (.t 0)), (some 36, .nilc (.t 35)), (some 37, .fldA (.t 36) 0 0), (some 38, .ld (.t 37) 1 false), (some 39, .mv (.t 4)), (some 40, .sl 4 (.t 38) (some (.t 39)) none), (none, .gh), (some 41, .app 62 4 56 (.c (.s (.int .i64 0)) (.c (.s (.int .i64 0)) (.c (.s (.string ⟨#[]⟩)) (.c (.s (.slice none 0 0)) .u)))) (.t 34) (.t 40)), (none, .gh), (some 42, .nilc (.t 33)), (some 43, .fldA (.t 42) 0 0), (none, .st (.t 43) (.t 41) 1)]⟩] []))))))
theorem k_ref12_Tree_put : Ok Try.prog 50 c_ref12_Tree_put 44 [(3, 6)] [] := Ok.mk' Try.func50 (by kernel_rfl) (by kernel_rfl) (by kernel_rfl)

abbrev f_ref12_attrs : Nat := 49
def c_ref12_attrs_L0 : Cd :=
 (.seq (.seq (.rg [⟨none, [(some 4, .mv (.t 3)), (some 5, .mv (.t 0)), (some 6, .len (.t 5)), (some 7, .bin .lss (.t 4) (.t 6))]⟩] [0, 3, 7])
 (.ite (.t 7)
 .skip
 (.exit 0)))
 (.seq (.block 1 (.seq (.rgq [⟨none, [(some 10, .mv (.t 0)), (some 11, .mv (.t 3)), (some 12, .idxS (.t 10) (.t 11) 2), (some 13, .fldA (.t 12) 0 0), (some 14, .ld (.t 13) 1 false), (some 15, .bin .eql (.t 14) (.c (.string ⟨#[]⟩))), (some 16, .mv (.t 15))]⟩, ⟨some (16, false), [(some 17, .mv (.t 0)), (some 18, .mv (.t 3)), (some 19, .idxS (.t 17) (.t 18) 2), (some 20, .fldA (.t 19) 0 0), (some 21, .ld (.t 20) 1 false), (some 22, .lenS (.t 21)), (some 23, .bin .gtr (.t 22) (.c (.int .i64 255)))]⟩, ⟨none, [(some 24, .pick (.t 16) (.c (.bool true)) (.t 23)), (some 25, .mv (.t 24))]⟩, ⟨some (25, false), [(some 26, .mv (.t 0)), (some 27, .mv (.t 3)), (some 28, .idxS (.t 26) (.t 27) 2), (some 29, .fldA (.t 28) 1 1), (some 30, .ld (.t 29) 1 false), (some 31, .bin .eql (.t 30) (.c (.string ⟨#[]⟩)))]⟩, ⟨none, [(some 32, .pick (.t 25) (.c (.bool true)) (.t 31)), (some 33, .mv (.t 32))]⟩, ⟨some (33, false), [(some 34, .mv (.t 0)), (some 35, .mv (.t 3)), (some 36, .idxS (.t 34) (.t 35) 2), (some 37, .fldA (.t 36) 1 1), (some 38, .ld (.t 37) 1 false), (some 39, .lenS (.t 38)), (some 40, .bin .gtr (.t 39) (.c (.int .i64 255)))]⟩, ⟨none, [(some 41, .pick (.t 33) (.c (.bool true)) (.t 40)), (some 42, .mv (.t 41))]⟩, ⟨some (42, false), [(some 43, .mv (.t 3)), (some 44, .bin .gtr (.t 43) (.c (.int .i64 0))), (some 45, .mv (.t 44))]⟩, ⟨some (45, true), [(some 46, .mv (.t 0)), (some 47, .mv (.t 3)), (some 48, .idxS (.t 46) (.t 47) 2), (some 49, .fldA (.t 48) 0 0), (some 50, .ld (.t 49) 1 false), (some 51, .mv (.t 0)), (some 52, .mv (.t 3)), (some 53, .bin .sub (.t 52) (.c (.int .i64 1))), (some 54, .idxS (.t 51) (.t 53) 2), (some 55, .fldA (.t 54) 0 0), (some 56, .ld (.t 55) 1 false)]⟩] [⟨some (45, true), [(some 57, .bin .leq (.t 50) (.t 56))]⟩, ⟨some (42, false), [(some 58, .pick (.t 45) (.t 57) (.c (.bool false)))]⟩, ⟨none, [(some 59, .pick (.t 42) (.c (.bool true)) (.t 58))]⟩] [0, 3, 59])
 (.ite (.t 59)
 (.seq (.rg [⟨none, [(some 2, .mv (.c (.bool false)))]⟩] [2])
 .ret)
 .skip)))
 (.rg [⟨none, [(some 8, .mv (.t 3)), (some 9, .bin .add (.t 8) (.c (.int .i64 1))), (some 3, .mv (.t 9))]⟩] [0, 3])))
def c_ref12_attrs : Cd :=
 (.seq (.rg [⟨none, [(some 2, .mv (.c (.bool false)))]⟩] [0])
 (.seq (.seq (.rg [⟨none, [(some 3, .mv (.c (.int .i64 0)))]⟩] [0, 3])
 (.block 0 (.loop c_ref12_attrs_L0)))
 (.seq (.rg [⟨none, [(some 2, .mv (.c (.bool true)))]⟩] [2])
 .ret)))
theorem k_ref12_attrs : Ok Try.prog 49 c_ref12_attrs 60 [(4, 47)] [.tmp 2] := Ok.mk' Try.func49 (by kernel_rfl) (by kernel_rfl) (by kernel_rfl)

abbrev f_ref12_set : Nat := 54
def c_ref12_set_L0 : Cd :=
 (.seq (.seq (.rg [⟨none, [(some 12, .mv (.t 9)), (some 13, .mv (.t 0)), (some 14, .len (.t 13)), (some 15, .bin .lss (.t 12) (.t 14))]⟩] [0, 1, 2, 7, 8, 9, 15])
 (.ite (.t 15)
 .skip
 (.exit 0)))
 (.seq (.block 1 (.seq (.seq (.rg [⟨none, [(some 18, .mv (.t 8)), (some 19, .un .not (.t 18)), (some 20, .mv (.t 19))]⟩, ⟨some (20, true), [(some 21, .mv (.t 0)), (some 22, .mv (.t 9)), (some 23, .idxS (.t 21) (.t 22) 2), (some 24, .fldA (.t 23) 0 0), (some 25, .ld (.t 24) 1 false), (some 26, .mv (.t 1)), (some 27, .bin .geq (.t 25) (.t 26))]⟩, ⟨none, [(some 28, .pick (.t 20) (.t 27) (.c (.bool false)))]⟩] [0, 1, 2, 7, 8, 9, 28])
 (.ite (.t 28)
 (.seq (.rg [⟨none, [(some 29, .mv (.t 7)), (some 30, .mv (.t 1)), (some 31, .mv (.t 2)), (some 32, .bld (.c (.s (.string ⟨#[]⟩)) (.c (.s (.string ⟨#[]⟩)) .u)) [(0, (.t 30)), (1, (.t 31))]), (some 33, .bldS 103 2 (.c (.s (.string ⟨#[]⟩)) (.c (.s (.string ⟨#[]⟩)) .u)) [(.t 32)]), (some 34, .app 103 2 32 (.c (.s (.string ⟨#[]⟩)) (.c (.s (.string ⟨#[]⟩)) .u)) (.t 29) (.t 33)), (some 7, .mv (.t 34))]⟩] [0, 1, 2, 7, 9])
 (.rg [⟨none, [(some 8, .mv (.c (.bool true)))]⟩] [0, 1, 2, 7, 8, 9]))
 .skip))
 (.seq (.rg [⟨none, [(some 35, .mv (.t 0)), (some 36, .mv (.t 9)), (some 37, .idxS (.t 35) (.t 36) 2), (some 38, .fldA (.t 37) 0 0), (some 39, .ld (.t 38) 1 false), (some 40, .mv (.t 1)), (some 41, .bin .neq (.t 39) (.t 40))]⟩] [0, 1, 2, 7, 8, 9, 41])
 (.ite (.t 41)
 (.rg [⟨none, [(some 42, .mv (.t 7)), (some 43, .mv (.t 0)), (some 44, .mv (.t 9)), (some 45, .idxS (.t 43) (.t 44) 2), (some 46, .ld (.t 45) 2 true), (some 47, .bldS 103 2 (.c (.s (.string ⟨#[]⟩)) (.c (.s (.string ⟨#[]⟩)) .u)) [(.t 46)]), (some 48, .app 103 2 32 (.c (.s (.string ⟨#[]⟩)) (.c (.s (.string ⟨#[]⟩)) .u)) (.t 42) (.t 47)), (some 7, .mv (.t 48))]⟩] [0, 1, 2, 7, 8, 9])
 .skip))))
 (.rg [⟨none, [(some 16, .mv (.t 9)), (some 17, .bin .add (.t 16) (.c (.int .i64 1))), (some 9, .mv (.t 17))]⟩] [0, 1, 2, 7, 8, 9])))
def c_ref12_set : Cd :=
 (.seq (.rg [⟨none, [(some 6, .mv (.c (.slice none 0 0)))]⟩] [0, 1, 2])
 (.seq (.rg [⟨none, [(some 7, .mv (.c (.slice none 0 0)))]⟩] [0, 1, 2, 7])
 (.seq (.rg [⟨none, [(none, .gh), (some 10, .mv (.t 2)), (some 11, .bin .eql (.t 10) (.c (.string ⟨#[]⟩))), (some 8, .mv (.t 11))]⟩] [0, 1, 2, 7, 8])
 (.seq (.seq (.rg [⟨none, [(some 9, .mv (.c (.int .i64 0)))]⟩] [0, 1, 2, 7, 8, 9])
 (.block 0 (.loop c_ref12_set_L0)))
 (.seq (.seq (.rg [⟨none, [(some 49, .mv (.t 8)), (some 50, .un .not (.t 49))]⟩] [1, 2, 7, 50])
 (.ite (.t 50)
 (.rg [⟨none, [(some 51, .mv (.t 7)), (some 52, .mv (.t 1)), (some 53, .mv (.t 2)), (some 54, .bld (.c (.s (.string ⟨#[]⟩)) (.c (.s (.string ⟨#[]⟩)) .u)) [(0, (.t 52)), (1, (.t 53))]), (some 55, .bldS 103 2 (.c (.s (.string ⟨#[]⟩)) (.c (.s (.string ⟨#[]⟩)) .u)) [(.t 54)]), (some 56, .app 103 2 32 (.c (.s (.string ⟨#[]⟩)) (.c (.s (.string ⟨#[]⟩)) .u)) (.t 51) (.t 55)), (some 7, .mv (.t 56))]⟩] [7])
 .skip))
 (.seq (.rg [⟨none, [(some 57, .mv (.t 7)), (none, .gh), (some 6, .mv (.t 57))]⟩] [6])
 .ret))))))
theorem k_ref12_set : Ok Try.prog 54 c_ref12_set 58 [] [.tmp 6] := Ok.mk' Try.func54 (by kernel_rfl) (by kernel_rfl) (by kernel_rfl)

abbrev f_ref12_SameNode : Nat := 31
def c_ref12_SameNode_L0 : Cd :=
 (.seq (.seq (.rg [⟨none, [(some 34, .mv (.t 5)), (some 35, .fldA (.t 2) 3 3), (some 36, .ld (.t 35) 1 false), (some 37, .len (.t 36)), (some 38, .bin .lss (.t 34) (.t 37))]⟩] [2, 3, 5, 38])
 (.ite (.t 38)
 .skip
 (.exit 0)))
 (.seq (.block 1 (.seq (.rgq [⟨none, [(some 41, .fldA (.t 2) 3 3), (some 42, .ld (.t 41) 1 false), (some 43, .mv (.t 5)), (some 44, .idxS (.t 42) (.t 43) 2), (some 45, .ld (.t 44) 2 true), (some 46, .fldA (.t 3) 3 3), (some 47, .ld (.t 46) 1 false), (some 48, .mv (.t 5)), (some 49, .idxS (.t 47) (.t 48) 2), (some 50, .ld (.t 49) 2 true)]⟩] [⟨none, [(some 51, .eqA true 103 (.t 45) (.t 50))]⟩] [2, 3, 5, 51])
 (.ite (.t 51)
 (.seq (.rg [⟨none, [(some 4, .mv (.c (.bool false)))]⟩] [4])
 .ret)
 .skip)))
 (.rg [⟨none, [(some 39, .mv (.t 5)), (some 40, .bin .add (.t 39) (.c (.int .i64 1))), (some 5, .mv (.t 40))]⟩] [2, 3, 5])))
def c_ref12_SameNode : Cd :=
 (.seq (.rg [⟨none, [(some 2, .box 62 (.t 0)), (some 3, .box 62 (.t 1)), (some 4, .mv (.c (.bool false)))]⟩] [2, 3])
 (.seq (.seq (.rg [⟨none, [(some 6, .fldA (.t 2) 0 0), (some 7, .ld (.t 6) 1 false), (some 8, .fldA (.t 3) 0 0), (some 9, .ld (.t 8) 1 false), (some 10, .bin .neq (.t 7) (.t 9)), (some 11, .mv (.t 10))]⟩, ⟨some (11, false), [(some 12, .fldA (.t 2) 1 1), (some 13, .ld (.t 12) 1 false), (some 14, .fldA (.t 3) 1 1), (some 15, .ld (.t 14) 1 false), (some 16, .bin .neq (.t 13) (.t 15))]⟩, ⟨none, [(some 17, .pick (.t 11) (.c (.bool true)) (.t 16)), (some 18, .mv (.t 17))]⟩, ⟨some (18, false), [(some 19, .fldA (.t 2) 2 2), (some 20, .ld (.t 19) 1 false), (some 21, .fldA (.t 3) 2 2), (some 22, .ld (.t 21) 1 false), (some 23, .bin .neq (.t 20) (.t 22))]⟩, ⟨none, [(some 24, .pick (.t 18) (.c (.bool true)) (.t 23)), (some 25, .mv (.t 24))]⟩, ⟨some (25, false), [(some 26, .fldA (.t 2) 3 3), (some 27, .ld (.t 26) 1 false), (some 28, .len (.t 27)), (some 29, .fldA (.t 3) 3 3), (some 30, .ld (.t 29) 1 false), (some 31, .len (.t 30)), (some 32, .bin .neq (.t 28) (.t 31))]⟩, ⟨none, [(some 33, .pick (.t 25) (.c (.bool true)) (.t 32))]⟩] [2, 3, 33])
 (.ite (.t 33)
 (.seq (.rg [⟨none, [(some 4, .mv (.c (.bool false)))]⟩] [4])
 .ret)
 .skip))
 (.seq (.seq (.rg [⟨none, [(some 5, .mv (.c (.int .i64 0)))]⟩] [2, 3, 5])
 (.block 0 (.loop c_ref12_SameNode_L0)))
 (.seq (.rg [⟨none, [(some 4, .mv (.c (.bool true)))]⟩] [4])
 .ret))))
theorem k_ref12_SameNode : Ok Try.prog 31 c_ref12_SameNode 52 [(6, 10)] [.tmp 4] := Ok.mk' Try.func31 (by kernel_rfl) (by kernel_rfl) (by kernel_rfl)

abbrev f_ref12_Same : Nat := 21
def c_ref12_Same_L0 : Cd :=
 (.seq (.seq (.rg [⟨none, [(some 11, .mv (.t 5)), (some 12, .mv (.t 0)), (some 13, .len (.t 12)), (some 14, .bin .lss (.t 11) (.t 13))]⟩] [0, 1, 5, 14])
 (.ite (.t 14)
 .skip
 (.exit 0)))
 (.seq (.block 1 (.seq (.rgq [⟨none, [(some 17, .mv (.t 0)), (some 18, .mv (.t 5)), (some 19, .idxS (.t 17) (.t 18) 4), (some 20, .ld (.t 19) 4 true), (some 21, .mv (.t 1)), (some 22, .mv (.t 5)), (some 23, .idxS (.t 21) (.t 22) 4), (some 24, .ld (.t 23) 4 true)]⟩] [⟨none, [(some 25, .call 31 [(.t 20), (.t 24)]), (some 26, .un .not (.t 25))]⟩] [0, 1, 5, 26])
 (.ite (.t 26)
 (.seq (.rg [⟨none, [(some 4, .mv (.c (.bool false)))]⟩] [4])
 .ret)
 .skip)))
 (.rg [⟨none, [(some 15, .mv (.t 5)), (some 16, .bin .add (.t 15) (.c (.int .i64 1))), (some 5, .mv (.t 16))]⟩] [0, 1, 5])))
def c_ref12_Same : Cd :=
 (.seq (.rg [⟨none, [(some 4, .mv (.c (.bool false)))]⟩] [0, 1])
 (.seq (.seq (.rg [⟨none, [(some 6, .mv (.t 0)), (some 7, .len (.t 6)), (some 8, .mv (.t 1)), (some 9, .len (.t 8)), (some 10, .bin .neq (.t 7) (.t 9))]⟩] [0, 1, 10])
 (.ite (.t 10)
 (.seq (.rg [⟨none, [(some 4, .mv (.c (.bool false)))]⟩] [4])
 .ret)
 .skip))
 (.seq (.seq (.rg [⟨none, [(some 5, .mv (.c (.int .i64 0)))]⟩] [0, 1, 5])
 (.block 0 (.loop c_ref12_Same_L0)))
 (.seq (.rg [⟨none, [(some 4, .mv (.c (.bool true)))]⟩] [4])
 .ret))))
theorem k_ref12_Same : Ok Try.prog 21 c_ref12_Same 27 [(6, 8)] [.tmp 4] := Ok.mk' Try.func21 (by kernel_rfl) (by kernel_rfl) (by kernel_rfl)

abbrev f_ref12_Plain : Nat := 22
def c_ref12_Plain_L0 : Cd :=
 (.seq (.seq (.rg [⟨none, [(some 5, .mv (.t 4)), (some 6, .mv (.t 0)), (some 7, .len (.t 6)), (some 8, .bin .lss (.t 5) (.t 7))]⟩] [0, 3, 4, 8])
 (.ite (.t 8)
 .skip
 (.exit 0)))
 (.seq (.block 1 (.seq (.rg [⟨none, [(some 11, .mv (.t 0)), (some 12, .mv (.t 4)), (some 13, .idxS (.t 11) (.t 12) 4), (some 14, .fldA (.t 13) 0 0), (some 15, .ld (.t 14) 1 false), (some 16, .bin .gtr (.t 15) (.c (.int .i64 2))), (some 17, .mv (.t 16))]⟩, ⟨some (17, false), [(some 18, .mv (.t 0)), (some 19, .mv (.t 4)), (some 20, .idxS (.t 18) (.t 19) 4), (some 21, .fldA (.t 20) 3 3), (some 22, .ld (.t 21) 1 false), (some 23, .len (.t 22)), (some 24, .bin .gtr (.t 23) (.c (.int .i64 0)))]⟩, ⟨none, [(some 25, .pick (.t 17) (.c (.bool true)) (.t 24))]⟩] [0, 3, 4, 25])
 (.ite (.t 25)
 (.rg [⟨none, [(some 26, .mv (.t 3)), (some 27, .mv (.t 0)), (some 28, .mv (.t 4)), (some 29, .idxS (.t 27) (.t 28) 4), (some 30, .ld (.t 29) 4 true), (some 31, .bldS 62 4 (.c (.s (.int .i64 0)) (.c (.s (.int .i64 0)) (.c (.s (.string ⟨#[]⟩)) (.c (.s (.slice none 0 0)) .u)))) [(.t 30)]), (some 32, .app 62 4 56 (.c (.s (.int .i64 0)) (.c (.s (.int .i64 0)) (.c (.s (.string ⟨#[]⟩)) (.c (.s (.slice none 0 0)) .u)))) (.t 26) (.t 31)), (some 3, .mv (.t 32))]⟩] [0, 3, 4])
 .skip)))
 (.rg [⟨none, [(some 9, .mv (.t 4)), (some 10, .bin .add (.t 9) (.c (.int .i64 1))), (some 4, .mv (.t 10))]⟩] [0, 3, 4])))
def c_ref12_Plain : Cd :=
 (.seq (.rg [⟨none, [(some 2, .mv (.c (.slice none 0 0)))]⟩] [0])
 (.seq (.rg [⟨none, [(some 3, .mv (.c (.slice none 0 0)))]⟩] [0, 3])
 (.seq (.seq (.rg [⟨none, [(none, .gh), (some 4, .mv (.c (.int .i64 0)))]⟩] [0, 3, 4])
 (.block 0 (.loop c_ref12_Plain_L0)))
 (.seq (.rg [⟨none, [(some 33, .mv (.t 3)), (some 34, .call 51 [(.t 33)]), (some 2, .mv (.t 34))]⟩] [2])
 .ret))))
theorem k_ref12_Plain : Ok Try.prog 22 c_ref12_Plain 35 [] [.tmp 2] := Ok.mk' Try.func22 (by kernel_rfl) (by kernel_rfl) (by kernel_rfl)

abbrev f_ref12_Tree_Nodes : Nat := 24
def c_ref12_Tree_Nodes : Cd :=
 (.seq (.rg [⟨none, [(some 2, .mv (.c (.slice none 0 0)))]⟩] [0])
 (.seq (.rg [⟨none, [(some 3, .mv (.t 0)), (some 4, .nilc (.t 3)), (some 5, .fldA (.t 4) 0 0), (some 6, .ld (.t 5) 1 false), (some 7, .call 22 [(.t 6)]), (some 2, .mv (.t 7))]⟩] [2])
 .ret))
theorem k_ref12_Tree_Nodes : Ok Try.prog 24 c_ref12_Tree_Nodes 8 [] [.tmp 2] := Ok.mk' Try.func24 (by kernel_rfl) (by kernel_rfl) (by kernel_rfl)

end Go.Proofs.Ytdpknchgoeboaaa.Vc

/- The document's lists of nodes: compared. -/
set_option linter.unusedVariables false
set_option linter.unusedSimpArgs false
set_option maxRecDepth 100000
namespace Go.Proofs.Ytdpknchgoeboaaa.Vc
open Go Go.Proofs

theorem SlR.spot {u : PH} {a : Option Addr} {n c z : Nat} {xs : List GV} (h : SlR u (.slice a n c) z xs) (hne : 0 < xs.length) :
    ∃ b o, a = some ⟨b, o, none⟩ ∧ n = xs.length ∧ n ≤ c ∧ ∀ {C : Ctx} {ph : List PH} {m : PH}, KN C.u0 (m :: ph) u → ∀ i x, xs[i]? = some x → Seen C ph m b (o + i * z) x := by
  rcases h.shape with ⟨h1, _⟩ | ⟨_, b, o, c', h1, h2, h3⟩
  · subst h1; simp at hne
  · simp only [Value.slice.injEq] at h1
    obtain ⟨rfl, rfl, rfl⟩ := h1
    exact ⟨b, o, rfl, rfl, h2, h3⟩
theorem seen_fst {C : Ctx} {ph : List PH} {m : PH} {b o : Nat} {x y : GV} (h : Seen C ph m b o (.c x y)) : Seen C ph m b o x := by
  obtain ⟨h1, cs, e, fz, h2, h3⟩ := h
  exact ⟨h1.1, cs, e, fz, h2, fun j v hj => h3 j v (by
    rw [GV.flat, List.getElem?_append_left (List.getElem?_eq_some_iff.1 hj).1]; exact hj)⟩
theorem seen_snd {C : Ctx} {ph : List PH} {m : PH} {b o k : Nat} {x y : GV} (h : Seen C ph m b o (.c x y)) (hk : k = o + x.sz) : Seen C ph m b k y := by
  obtain ⟨h1, cs, e, fz, h2, h3⟩ := h
  subst hk
  exact ⟨h1.2, cs, e, fz, h2, fun j v hj => by
    have := h3 (x.sz + j) v (by
      rw [GV.flat, List.getElem?_append_right (by rw [GV.flat_len x h1.1]; omega), GV.flat_len x h1.1, Nat.add_sub_cancel_left]; exact hj)
    rw [Nat.add_assoc]; exact this⟩
theorem seen_TN {C : Ctx} {ph : List PH} {m : PH} {b o : Nat} {t : TreeNode} (h : Seen C ph m b o (gTreeNode t)) : Seen C ph m b o (.s (.int .i64 t.node)) ∧ Seen C ph m b (o + 1) (.s (.int .i64 t.parent)) ∧ Seen C ph m b (o + 2) (.s (.string t.name)) ∧ Seen C ph m b (o + 3) (.s t.attrs) := by
  have h1 := seen_snd (k := o + 1) h rfl
  have h2 := seen_snd (k := o + 2) h1 rfl
  have h3 := seen_snd (k := o + 3) h2 rfl
  exact ⟨seen_fst h, seen_fst h1, seen_fst h2, seen_fst h3⟩
theorem seen_AT {C : Ctx} {ph : List PH} {m : PH} {b o : Nat} {t : Attr} (h : Seen C ph m b o (gAttr t)) : Seen C ph m b o (.s (.string t.key)) ∧ Seen C ph m b (o + 1) (.s (.string t.value)) :=
  ⟨seen_fst h, seen_fst (seen_snd (k := o + 1) h rfl)⟩
theorem TnOk_one {u : PH} {t : TreeNode} {l : List Attr} (h : SlR u t.attrs 2 (l.map gAttr)) : t.attrs.oneCell' = true := by
  rcases h.2 with ⟨e, _⟩ | ⟨ad, c, e, _⟩ <;> rw [e] <;> rfl

theorem rSameNode_spec (w : World) (t1 t2 : TreeNode) (a b : TN) (u : PH) (hu : u.le w) (h1 : t1.node = a.node ∧ t1.parent = a.parent ∧ t1.name = a.name ∧ SlR u t1.attrs 2 (a.attrs.map gAttr)) (h2 : t2.node = b.node ∧ t2.parent = b.parent ∧ t2.name = b.name ∧ SlR u t2.attrs 2 (b.attrs.map gAttr))
    (hb : a.attrs.length ≤ 140737488355328) :
    Spec Try.prog f_ref12_SameNode [(gTreeNode t1).val, (gTreeNode t2).val] PH.no w fun rs _ => rs = [.s (.bool (decide (a = b)))] := by
  refine spec_val k_ref12_SameNode (Qf := fun rs => rs = [.s (.bool (decide (a = b)))]) [.g (gTreeNode t1), .g (gTreeNode t2)] (by simp) (by simp [AV.ok, gTreeNode_ok t1 (TnOk_one h1.2.2.2), gTreeNode_ok t2 (TnOk_one h2.2.2.2)]) ?_
  obtain ⟨n1, p1, m1, la⟩ := a
  obtain ⟨n2, p2, m2, lb⟩ := b
  obtain ⟨n1', p1', m1', v1⟩ := t1
  obtain ⟨n2', p2', m2', v2⟩ := t2
  obtain ⟨e1, e2, e3, h1⟩ := h1
  obtain ⟨g1, g2, g3, h2⟩ := h2
  simp only at e1 e2 e3 g1 g2 g3 h1 h2 hb
  subst e1; subst e2; subst e3; subst g1; subst g2; subst g3
  obtain ⟨a1, c1, hv1⟩ := slr_len h1
  obtain ⟨a2, c2, hv2⟩ := slr_len h2
  rw [List.length_map] at hv1 hv2
  subst hv1; subst hv2
  simp (maxSteps := 2000000) only [c_ref12_SameNode, vc_skip, vc_ret, vc_seq, vc_block, vc_rg, vc_ite, thenQ_n, thenQ_r, kKeep_eq, segs_nil, segs_n, segs_g, ops_nil, ops_cons, vcOp, RO.isGh, skip_mk, skipL, ev, look, updL, put_mk, keep_mk, keepL, binV, binC, GV.getT, Value.oneCell', cond_true, cond_false, Nat.reduceEqDiff, ↓reduceIte, reduceCtorEq, List.nil_append, Nat.zero_add, Bool.true_and, Bool.not_false, true_and, initF, initP, finW_r, resL, resOne, ↓br_tt, ↓br_tf, ↓br_ft, br_t, br_f, getT_nil, fits_s, gTreeNode_fld0, gTreeNode_get0, gTreeNode_fld1, gTreeNode_get1, gTreeNode_fld2, gTreeNode_get2, gTreeNode_fld3, gTreeNode_get3]
  refine ⟨fun k1 => ⟨fun k2 => ⟨fun k3 => ⟨fun k4 => ?_, fun k4 => ?_⟩, fun k3 => ?_⟩, fun k2 => ?_⟩, fun k1 => ?_⟩
  · rw [bne_iff_ne] at k4
    rw [decide_eq_false fun e => k4 (by cases e; rfl)]
  · rw [bne_eq_false_iff_eq] at k1 k2 k4
    simp only [Bool.not_eq_false', decide_eq_true_eq] at k3
    have hll : la.length = lb.length := by omega
    subst k1; subst k2; subst k3
    refine vc_loop (ι := Nat) (fun i => ⟨[(2, .ref 2 []), (3, .ref 3 []), (5, .g (.s (.int .i64 (i))))], [(2, .box (gTreeNode ⟨n1', p1', m1', .slice a1 la.length c1⟩)), (3, .box (gTreeNode ⟨n1', p1', m1', .slice a2 lb.length c2⟩))], [], PH.no⟩) (fun i => i ≤ la.length ∧ la.take i = lb.take i) (fun i => la.length - i) 0 (by simp) (ge_of ?_ ?_ rfl rfl rfl) ?_
    · simp [frIn, look]
    · simp [pvIn, look]
    rintro i ⟨hi, hj⟩
    generalize hQ : loopQ _ _ _ _ _ = Q
    by_cases hlt : i < la.length
    · obtain ⟨b1, o1, rfl, _, _, s1⟩ := h1.spot (by simp; omega)
      obtain ⟨b2, o2, rfl, _, _, s2⟩ := h2.spot (by simp; omega)
      have hx1 : (la.map gAttr)[i]? = some (gAttr (la.getD i zAttr)) := by rw [List.getElem?_map, List.getD_eq_getElem?_getD, List.getElem?_eq_getElem hlt]; rfl
      have hx2 : (lb.map gAttr)[i]? = some (gAttr (lb.getD i zAttr)) := by rw [List.getElem?_map, List.getD_eq_getElem?_getD, List.getElem?_eq_getElem (by omega)]; rfl
      simp (maxSteps := 2000000) only [c_ref12_SameNode_L0, vc_skip, vc_exit, vc_seq, vc_block, vc_rg, vc_rgq, vc_ite, thenQ_n, thenQ_e, kKeep_eq, segs_nil, segs_n, ops_nil, ops_cons, qsegs_n, qops_cons, vcqOp, vcOp, isRd, ev, look, put_mk, keep_mk, keepL, binV, binC, GV.getT, Nat.reduceEqDiff, ↓reduceIte, List.nil_append, Bool.true_and, Bool.not_false, true_and, Int.toNat_natCast, decide_eq_true_eq, decide_eq_false_iff_not, br_t, getT_nil, fits_s, gTreeNode_fld3, gTreeNode_get3]
      refine ⟨fun _ => ⟨⟨by omega, by omega⟩, ld_of _ (s1 (kn_u hu) i _ hx1) (gAttr_fits _) ?_⟩, fun h => absurd (show (i : Int) < la.length by omega) h⟩
      simp (maxSteps := 2000000) only [qops_cons, vcqOp, vcOp, isRd, ev, look, put_mk, GV.getT, Nat.reduceEqDiff, ↓reduceIte, List.nil_append, Bool.true_and, Bool.not_false, true_and, Int.toNat_natCast, getT_nil, fits_s, gTreeNode_fld3, gTreeNode_get3]
      refine ⟨⟨by omega, by omega⟩, ld_of _ (s2 (kn_u hu) i _ hx2) (gAttr_fits _) ?_⟩
      simp (maxSteps := 2000000) only [segs_n, ops_cons, qsegs_nil, qops_nil, vcOp, ev, look, put_mk, Nat.reduceEqDiff, ↓reduceIte]
      refine eq_of (eqG_attr _ _) ?_
      simp (maxSteps := 2000000) only [Bool.not_eq_true', Bool.not_eq_false', decide_eq_false_iff_not, decide_eq_true_eq, vc_skip, vc_ret, vc_seq, vc_rg, vc_ite, thenQ_n, thenQ_r, blockQ_n, blockQ_r, kKeep_eq, segs_nil, segs_n, ops_nil, ops_cons, vcOp, ev, look, put_mk, keep_mk, keepL, binV, binC, Value.oneCell', cond_true, Nat.reduceEqDiff, ↓reduceIte, Bool.true_and, true_and, decide_eq_true_eq, decide_eq_false_iff_not, br_t, Bool.bne_true]
      refine ⟨fun hne => ?_, fun he => ?_⟩
      · subst hQ
        simp (maxSteps := 2000000) only [thenQ_r, blockQ_r, loopQ_r, look, ↓reduceIte, finW_r, resL, resOne]
        rw [decide_eq_false fun e => hne (by cases e; rfl)]
      · subst hQ; simp only [loopQ_n]; refine ⟨i + 1, ?_, ?_, ge_of ?_ ?_ rfl rfl rfl⟩
        · refine ⟨by omega, ?_⟩
          rw [List.take_add_one, List.take_add_one, hj]
          congr 1
          rw [List.getD_eq_getElem?_getD, List.getD_eq_getElem?_getD, List.getElem?_eq_getElem (by omega), List.getElem?_eq_getElem (by omega)] at he
          rw [List.getElem?_eq_getElem (by omega), List.getElem?_eq_getElem (by omega)]
          simpa using he
        · omega
        · simp only [frIn, look, Nat.reduceEqDiff, ↓reduceIte, Bool.and_true, Bool.true_and, true_and, and_true]
          rw [wrap_n (by omega)]
          try simp
        · simp [pvIn, look]
    · simp (maxSteps := 2000000) only [c_ref12_SameNode_L0, vc_skip, vc_exit, vc_seq, vc_block, vc_rg, vc_rgq, vc_ite, thenQ_n, thenQ_e, kKeep_eq, segs_nil, segs_n, ops_nil, ops_cons, qsegs_nil, qsegs_n, qops_nil, qops_cons, vcqOp, vcOp, isRd, ev, look, put_mk, keep_mk, keepL, rowE, rowD, binV, binC, GV.getT, Nat.reduceEqDiff, ↓reduceIte, List.nil_append, Bool.true_and, Bool.not_false, true_and, decide_eq_true_eq, decide_eq_false_iff_not, br_t, getT_nil, fits_s, gTreeNode_fld3, gTreeNode_get3]
      refine ⟨fun h => absurd (show i < la.length by omega) hlt, fun _ => ?_⟩
      subst hQ
      simp (maxSteps := 2000000) only [vc_ret, vc_seq, vc_rg, thenQ_n, blockQ_e, kKeep_eq, loopQ_e, segs_nil, segs_n, ops_nil, ops_cons, vcOp, ev, look, put_mk, keep_mk, keepL, Value.oneCell', cond_true, ↓reduceIte, finW_r, resL, resOne]
      have e1 : la.take i = la := List.take_of_length_le (by omega)
      have e2 : lb.take i = lb := List.take_of_length_le (by omega)
      rw [e1, e2] at hj
      rw [decide_eq_true (by rw [hj])]
  · rw [decide_eq_false fun e => by cases e; simp at k3]
  · rw [bne_iff_ne] at k2
    rw [decide_eq_false fun e => k2 (by cases e; rfl)]
  · rw [bne_iff_ne] at k1
    rw [decide_eq_false fun e => k1 (by cases e; rfl)]

theorem rSame_spec (w : World) (va vb : Value) (ts1 ts2 : List TreeNode) (l1 l2 : List TN) (u : PH) (hu : u.le w) (ha : SlR u va 4 (ts1.map gTreeNode)) (hb : SlR u vb 4 (ts2.map gTreeNode)) (h1 : TsOk u ts1 l1) (h2 : TsOk u ts2 l2)
    (hn : ts1.length ≤ 140737488355328) (hs1 : ∀ t ∈ l1, t.attrs.length ≤ 140737488355328) :
    Spec Try.prog f_ref12_Same [va, vb] PH.no w fun rs _ => rs = [.s (.bool (decide (l1 = l2)))] := by
  refine spec_val k_ref12_Same (Qf := fun rs => rs = [.s (.bool (decide (l1 = l2)))]) [.ro va 4 (gTreeNode zTreeNode) (ts1.map gTreeNode), .ro vb 4 (gTreeNode zTreeNode) (ts2.map gTreeNode)] (by simp) (by simpa [AV.ok, u0_no] using ⟨ha.up hu.sub, hb.up hu.sub⟩) ?_
  have hl1 := h1.len
  have hl2 := h2.len
  simp (maxSteps := 2000000) only [c_ref12_Same, vc_skip, vc_ret, vc_seq, vc_block, vc_rg, vc_ite, thenQ_n, thenQ_r, kKeep_eq, segs_nil, segs_n, ops_nil, ops_cons, vcOp, ev, look, put_mk, keep_mk, keepL, binV, binC, Value.oneCell', cond_true, Nat.reduceEqDiff, ↓reduceIte, reduceCtorEq, Nat.zero_add, Bool.true_and, true_and, initF, initP, finW_r, resL, resOne, br_t, List.length_map, List.length_map]
  refine ⟨fun hne => ?_, fun heq => ?_⟩
  · rw [bne_iff_ne] at hne
    rw [decide_eq_false fun e => hne (by rw [hl1, hl2, e])]
  rw [bne_eq_false_iff_eq] at heq
  refine vc_loop (ι := Nat) (fun i => ⟨[(0, .row 0 0 (ts1.length)), (1, .row 1 0 (ts2.length)), (5, .g (.s (.int .i64 (i))))], [(0, .ro 4 (gTreeNode zTreeNode) (ts1.map gTreeNode)), (1, .ro 4 (gTreeNode zTreeNode) (ts2.map gTreeNode))], [], PH.no⟩) (fun i => i ≤ ts1.length ∧ l1.take i = l2.take i) (fun i => ts1.length - i) 0 (by simp) (ge_of ?_ ?_ rfl rfl rfl) ?_
  · simp [frIn, look]
  · simp [pvIn, look]
  rintro i ⟨hi, hj⟩
  generalize hQ : loopQ _ _ _ _ _ = Q
  simp (maxSteps := 2000000) only [c_ref12_Same_L0, vc_skip, vc_exit, vc_seq, vc_block, vc_rg, vc_rgq, vc_ite, thenQ_n, thenQ_e, kKeep_eq, segs_nil, segs_n, ops_nil, ops_cons, qsegs_nil, qsegs_n, qops_nil, qops_cons, vcqOp, vcOp, isRd, ev, look, put_mk, keep_mk, keepL, rowE, rowD, binV, binC, Nat.reduceEqDiff, ↓reduceIte, reduceCtorEq, Nat.zero_add, Bool.true_and, true_and, Int.toNat_natCast, decide_eq_true_eq, decide_eq_false_iff_not, br_t, getT_nil, gTreeNode_fits, getD_gTreeNode]
  refine ⟨fun hlt => ⟨⟨by omega, by omega⟩, ⟨by omega, by omega⟩, ?_⟩, fun hlt => ?_⟩
  · have g1 := h1.at i (by omega)
    have g2 := h2.at i (by omega)
    have hm1 : l1.getD i zTN ∈ l1 := by rw [List.getD_eq_getElem?_getD, List.getElem?_eq_getElem (by omega)]; exact List.getElem_mem _
    refine call_is _ [.s (.bool (decide (l1.getD i zTN = l2.getD i zTN)))] rfl rfl (fun w' vs hv hw => ?_) ?_
    · obtain ⟨vs, rfl, _, hv⟩ := argsV_g hv
      obtain ⟨vs, rfl, _, hv⟩ := argsV_g hv
      obtain rfl := argsV_nil hv
      intro _
      exact rSameNode_spec w' _ _ _ _ u (fun b o h => hw b o (by rw [u0_no]; exact hu b o h)) g1 g2 (hs1 _ hm1)
    simp (maxSteps := 2000000) only [retS, Bool.not_eq_true', Bool.not_eq_false', decide_eq_false_iff_not, decide_eq_true_eq, vc_skip, vc_ret, vc_seq, vc_rg, vc_ite, thenQ_n, thenQ_r, blockQ_n, blockQ_r, kKeep_eq, segs_nil, segs_n, ops_nil, ops_cons, vcOp, ev, look, put_mk, keep_mk, keepL, binV, binC, unV, Value.oneCell', cond_true, Nat.reduceEqDiff, ↓reduceIte, reduceCtorEq, Bool.true_and, true_and, decide_eq_true_eq, decide_eq_false_iff_not, br_t]
    refine ⟨fun hne => ?_, fun he => ?_⟩
    · subst hQ
      simp (maxSteps := 2000000) only [thenQ_r, blockQ_r, loopQ_r, look, ↓reduceIte, finW_r, resL, resOne]
      rw [decide_eq_false fun e => hne (by rw [e])]
    · subst hQ; simp only [loopQ_n]; refine ⟨i + 1, ?_, ?_, ge_of ?_ ?_ rfl rfl rfl⟩
      · refine ⟨by omega, ?_⟩
        rw [List.take_add_one, List.take_add_one, hj]
        congr 1
        rw [List.getD_eq_getElem?_getD, List.getD_eq_getElem?_getD, List.getElem?_eq_getElem (by omega), List.getElem?_eq_getElem (by omega)] at he
        rw [List.getElem?_eq_getElem (by omega), List.getElem?_eq_getElem (by omega)]
        simpa using he
      · omega
      · simp only [frIn, look, Nat.reduceEqDiff, ↓reduceIte, reduceCtorEq, Bool.and_true, Bool.true_and, true_and, and_true]
        rw [wrap_n (by omega)]
        try simp
      · simp [pvIn, look]
  · subst hQ
    simp (maxSteps := 2000000) only [vc_ret, vc_seq, vc_rg, thenQ_n, blockQ_e, kKeep_eq, loopQ_e, segs_nil, segs_n, ops_nil, ops_cons, vcOp, ev, look, put_mk, keep_mk, keepL, Value.oneCell', cond_true, ↓reduceIte, finW_r, resL, resOne]
    have e1 : l1.take i = l1 := List.take_of_length_le (by omega)
    have e2 : l2.take i = l2 := List.take_of_length_le (by omega)
    rw [e1, e2] at hj
    rw [decide_eq_true hj]
end Go.Proofs.Ytdpknchgoeboaaa.Vc

/- TreeNone: a tree that no call made: the law answers true and leaves its argument as it was. -/
set_option linter.unusedVariables false
set_option linter.unusedSimpArgs false
set_option maxRecDepth 100000
namespace Go.Proofs.Ytdpknchgoeboaaa.Vc
open Go Go.Proofs Go.Shelf Go.Proofs.Ytdpknchgoeboaaa Go.ChangeShapes Go.WideShapes Go.ChangeAt

theorem same0 (w : World) : Spec Try.prog f_ref12_SameNode [(gTreeNode zTreeNode).val, (gTreeNode zTreeNode).val] PH.no w fun rs _ => rs = [.s (.bool true)] := by
  have := rSameNode_spec w zTreeNode zTreeNode ⟨0, 0, ⟨#[]⟩, []⟩ ⟨0, 0, ⟨#[]⟩, []⟩ w.ph (fun _ _ h => h) ⟨rfl, rfl, rfl, fun x hx => by simp at hx, .inl ⟨rfl, rfl⟩⟩ ⟨rfl, rfl, rfl, fun x hx => by simp at hx, .inl ⟨rfl, rfl⟩⟩ (by simp)
  rwa [decide_eq_true rfl] at this
theorem TreeNone_spec (w : World) (o : LOp) : Spec Try.prog f_law12_TreeNone [(gLOp o).val] PH.no w fun rs _ => rs = [.s (.bool true)] := by
  refine spec_val k_law12_TreeNone (Qf := fun rs => rs = [.s (.bool true)]) [.g (gLOp o)] (by simp) (by simpa [AV.ok] using gLOp_ok o) ?_
  simp (maxSteps := 2000000) only [c_law12_TreeNone, vc_seq, vc_rg, thenQ_n, kKeep_eq, segs_nil, segs_n, ops_nil, ops_cons, vcOp, ev, look, updL, keep_mk, keepL, Nat.reduceEqDiff, ↓reduceIte, Bool.true_and, true_and, initF, initP]
  refine call_is _ [.s (.bool true)] rfl rfl (fun w' vs hv hw => ?_) ?_
  · obtain rfl := argsV_nil hv
    intro _
    exact begun_spec w'
  simp (maxSteps := 2000000) only [retS, vc_skip, vc_seq, vc_rg, vc_ite, thenQ_n, kKeep_eq, segs_nil, segs_n, ops_nil, ops_cons, vcOp, ev, evL, gvL, look, updL, put_mk, keep_mk, keepL, unV, Nat.reduceEqDiff, ↓reduceIte, Bool.true_and, Bool.not_true, true_and, List.map_nil, ↓br_ft, GV.bldT, GV.bldC]
  refine gh_pubBox 16 16 rfl rfl fun v u2 hv hp hd => ?_
  obtain ⟨hok, b, e, rfl, rfl⟩ := hp
  simp (maxSteps := 2000000) only [dropK, vc_block, thenQ_n, kKeep_eq, segs_nil, ops_nil, ops_cons, vcOp, ev, evL, gvL, look, updL, put_mk, keep_mk, keepL, GV.sz, Value.oneCell', cond_true, cond_false, Nat.reduceEqDiff, Nat.reduceAdd, Nat.reduceBEq, ↓reduceIte, Nat.zero_add, Bool.and_true, Bool.true_and, BEq.rfl, true_and, and_true, Option.map_some, szAll, List.length_cons, List.length_nil, Int.reduceAdd, kill, SV.mentions]
  generalize hM : uni (one b (Obj.cells _ e (0, 0))) PH.no = M
  have hb0 : NoneT M (ptr b) := .inr ⟨b, e, rfl, by rw [← hM]; simp [uni, one, GV.flat]⟩
  refine vc_loop (ι := Nat × List PH) (fun q => ⟨[(1, .ref 1 []), (2, .ref 2 []), (17, .row 17 0 (2)), (18, .g (.s (.int .i64 ((2 : Nat) : Int)))), (19, .g (.s (.int .i64 (q.1))))], [(1, .box (gLOp o)), (2, .box (.s (.bool false))), (17, .row 25 1 (.s (.pointer none)) [.s (.pointer none), .s (.pointer (some ⟨b, 0, none⟩))])], q.2, M⟩) (fun q => q.1 ≤ 2) (fun q => 2 - q.1) (0, []) (by simp) (ge_of ?_ ?_ rfl rfl rfl) ?_
  · simp [frIn, look]
  · simp [pvIn, look]
  rintro ⟨i, phs⟩ hi
  simp only at hi
  generalize hQ : loopQ _ _ _ _ _ = Q
  simp (maxSteps := 2000000) only [c_law12_TreeNone_L0, vc_skip, vc_exit, vc_seq, vc_block, vc_rg, vc_ite, thenQ_n, thenQ_e, kKeep_eq, segs_nil, segs_n, ops_nil, ops_cons, vcOp, ev, look, put_mk, keep_mk, keepL, rowE, rowD, binV, binC, Nat.reduceEqDiff, ↓reduceIte, List.nil_append, Nat.zero_add, Bool.true_and, true_and, Int.toNat_natCast, decide_eq_true_eq, decide_eq_false_iff_not, br_t, getT_nil, gStamp_zero, gOp_fits, gOp_zero, gPlace_zero, gUndo_zero, gTreeNode_zero, gLOp_fld1, gLOp_get1]
  refine ⟨fun hlt => ⟨⟨by omega, by omega⟩, ?_⟩, fun hge => ?_⟩
  · obtain ⟨v, hv0, hn⟩ : ∃ v, ([GV.s (.pointer none), .s (.pointer (some ⟨b, 0, none⟩))] : List GV).getD i (.s (.pointer none)) = .s v ∧ NoneT M v := by
      rcases (show i = 0 ∨ i = 1 by omega) with rfl | rfl
      · exact ⟨_, rfl, .inl rfl⟩
      · exact ⟨_, rfl, hb0⟩
    rw [hv0]
    refine ⟨rfl, ?_⟩
    · skip
      refine call_ism _ [gUndo zUndo, .s (.bool false)] rfl rfl (fun w' vs hv _ _ hm => ?_) ?_
      · obtain ⟨vs, rfl, _, hv⟩ := argsV_g hv
        obtain ⟨vs, rfl, _, hv⟩ := argsV_g hv
        obtain rfl := argsV_nil hv
        exact Do_noneT hm hn o.op
      simp (maxSteps := 2000000) only [retS, List.getElem?_cons_zero, List.getElem?_cons_succ, vc_seq, vc_rg, thenQ_n, kKeep_eq, segs_nil, segs_n, ops_nil, ops_cons, vcOp, ev, look, updL, put_mk, put_mk0, keep_mk, keepL, GV.getT, Nat.reduceEqDiff, ↓reduceIte, List.nil_append, Bool.and_true, Bool.true_and, Bool.not_false, true_and, and_true, getT_nil, setT_nil, fits_s, gUndo_sz, gUndo_same, gLOp_fld3, gLOp_get3]
      refine call_ism _ [gTreeNode zTreeNode, .s (.bool false)] rfl rfl (fun w' vs hv _ _ hm => ?_) ?_
      · obtain ⟨vs, rfl, _, hv⟩ := argsV_g hv
        obtain ⟨vs, rfl, _, hv⟩ := argsV_g hv
        obtain rfl := argsV_nil hv
        exact Node_noneT hm hn o.n
      simp (maxSteps := 2000000) only [retS, List.getElem?_cons_zero, List.getElem?_cons_succ, vc_seq, vc_rg, thenQ_n, kKeep_eq, segs_nil, segs_n, ops_nil, ops_cons, vcOp, ev, look, updL, put_mk, put_mk0, keep_mk, keepL, GV.getT, Nat.reduceEqDiff, ↓reduceIte, List.nil_append, Bool.and_true, Bool.true_and, Bool.not_false, true_and, and_true, getT_nil, setT_nil, fits_s, gTreeNode_sz, gTreeNode_same, gLOp_fld3, gLOp_get3, gLOp_fld5, gLOp_get5]
      refine call_ism _ [.s (.int .i64 0), .s (.bool false)] rfl rfl (fun w' vs hv _ _ hm => ?_) ?_
      · obtain ⟨vs, rfl, _, hv⟩ := argsV_g hv
        obtain ⟨vs, rfl, _, hv⟩ := argsV_g hv
        obtain ⟨vs, rfl, _, hv⟩ := argsV_g hv
        obtain rfl := argsV_nil hv
        exact Lookup_noneT hm hn o.n o.name
      simp (maxSteps := 2000000) only [retS, List.getElem?_cons_zero, List.getElem?_cons_succ, vc_seq, vc_rg, thenQ_n, kKeep_eq, segs_nil, segs_n, ops_nil, ops_cons, vcOp, ev, look, put_mk, keep_mk, keepL, GV.getT, Nat.reduceEqDiff, ↓reduceIte, List.nil_append, Bool.true_and, Bool.not_false, true_and, getT_nil, fits_s, gLOp_fld3, gLOp_get3, gLOp_fld5, gLOp_get5]
      refine call_ism _ [.s (.string ⟨#[]⟩), .s (.bool false)] rfl rfl (fun w' vs hv _ _ hm => ?_) ?_
      · obtain ⟨vs, rfl, _, hv⟩ := argsV_g hv
        obtain ⟨vs, rfl, _, hv⟩ := argsV_g hv
        obtain ⟨vs, rfl, _, hv⟩ := argsV_g hv
        obtain rfl := argsV_nil hv
        exact Attr_noneT hm hn o.n o.name
      simp (maxSteps := 2000000) only [retS, List.getElem?_cons_zero, List.getElem?_cons_succ, vc_ret, vc_seq, vc_rg, vc_ite, thenQ_n, thenQ_r, blockQ_r, kKeep_eq, segs_nil, segs_n, segs_g, ops_nil, ops_cons, vcOp, RO.isGh, skip_mk, skipL, ev, evL, gvL, look, updL, put_mk, put_mk0, keep_mk, keepL, binV, binC, GV.getT, GV.sz, GV.same, GV.setT, Value.oneCell', cond_true, cond_false, Nat.reduceEqDiff, ↓reduceIte, Bool.and_true, Bool.true_and, Bool.not_true, Bool.not_false, decide_true, true_and, and_true, List.map_nil, ↓br_tt, ↓br_ff, ↓br_tf, ↓br_ft, br_f, GV.bldT, GV.bldC, getT_nil, gTreeNode_fits]
      refine ⟨fun _ => ?_, fun h => absurd h (by decide)⟩
      refine call_ism _ [.s (.bool true)] rfl rfl (fun w' vs hv _ _ hm => ?_) ?_
      · obtain ⟨vs, rfl, _, hv⟩ := argsV_g hv
        obtain ⟨vs, rfl, _, hv⟩ := argsV_g hv
        obtain rfl := argsV_nil hv
        exact same0 w'
      simp (maxSteps := 2000000) only [retS, segs_n, segs_g, ops_nil, ops_cons, vcOp, ev, look, put_mk, unV, Value.oneCell', cond_true, Nat.reduceEqDiff, ↓reduceIte, List.nil_append, Bool.true_and, Bool.not_true, true_and, ↓br_ff, ↓br_ft, getT_nil, gOp_fits, gLOp_fld1, gLOp_get1]
      refine call_ism _ [.s (.bool false)] rfl rfl (fun w' vs hv _ _ hm => ?_) ?_
      · obtain ⟨vs, rfl, _, hv⟩ := argsV_g hv
        obtain ⟨vs, rfl, _, hv⟩ := argsV_g hv
        obtain rfl := argsV_nil hv
        exact May_noneT hm hn o.op
      simp (maxSteps := 2000000) only [retS, segs_n, segs_g, ops_nil, ops_cons, vcOp, ev, evL, gvL, look, put_mk, Value.oneCell', cond_true, Nat.reduceEqDiff, ↓reduceIte, Bool.true_and, true_and, List.map_nil, ↓br_ff, ↓br_ft, GV.bldT, GV.bldC]
      refine call_ism _ [.s (.int .i64 2)] rfl rfl (fun w' vs hv _ _ hm => ?_) ?_
      · obtain ⟨vs, rfl, _, hv⟩ := argsV_g hv
        obtain ⟨vs, rfl, _, hv⟩ := argsV_g hv
        obtain rfl := argsV_nil hv
        exact Back_noneT hm hn
      simp (maxSteps := 2000000) only [retS, vc_ret, vc_seq, vc_rg, vc_ite, thenQ_n, thenQ_r, blockQ_r, kKeep_eq, segs_nil, segs_n, segs_g, ops_nil, ops_cons, vcOp, RO.isGh, skip_mk, skipL, ev, look, updL, put_mk, put_mk0, keep_mk, keepL, binV, binC, GV.getT, GV.sz, GV.same, GV.setT, Value.oneCell', cond_true, cond_false, Nat.reduceEqDiff, ↓reduceIte, List.nil_append, Bool.and_true, Bool.true_and, Bool.not_false, true_and, and_true, ↓br_tt, ↓br_ft, br_f, getT_nil, fits_s, gLOp_fld3, gLOp_get3]
      refine ⟨fun _ => ?_, fun h => absurd h (by decide)⟩
      refine call_ism _ [.s (.bool false)] rfl rfl (fun w' vs hv _ _ hm => ?_) ?_
      · obtain ⟨vs, rfl, _, hv⟩ := argsV_g hv
        obtain ⟨vs, rfl, _, hv⟩ := argsV_g hv
        obtain ⟨vs, rfl, _, hv⟩ := argsV_g hv
        obtain rfl := argsV_nil hv
        exact Below_noneT hm hn o.n o.n
      simp (maxSteps := 2000000) only [retS, vc_skip, vc_seq, vc_rg, vc_ite, thenQ_n, kKeep_eq, segs_nil, segs_n, ops_nil, ops_cons, vcOp, ev, look, put_mk, keep_mk, keepL, GV.getT, Value.oneCell', cond_true, Nat.reduceEqDiff, ↓reduceIte, List.nil_append, Bool.true_and, Bool.not_false, true_and, ↓br_ft, getT_nil, fits_s, gLOp_fld3, gLOp_get3]
      refine call_ism _ [.s (.slice none 0 0)] rfl rfl (fun w' vs hv _ _ hm => ?_) ?_
      · obtain ⟨vs, rfl, _, hv⟩ := argsV_g hv
        obtain ⟨vs, rfl, _, hv⟩ := argsV_g hv
        obtain rfl := argsV_nil hv
        exact Children_noneT hm hn o.n
      simp (maxSteps := 2000000) only [retS, vc_ret, vc_seq, vc_rg, vc_ite, thenQ_n, thenQ_r, blockQ_r, kKeep_eq, segs_nil, segs_n, segs_g, ops_nil, ops_cons, vcOp, RO.isGh, skip_mk, skipL, ev, look, updL, put_mk, put_mk0, keep_mk, keepL, binV, binC, GV.getT, GV.sz, GV.same, GV.setT, Value.oneCell', cond_true, cond_false, Nat.reduceEqDiff, ↓reduceIte, Bool.and_true, Bool.true_and, Bool.not_false, true_and, and_true, ↓br_tt, ↓br_tf, br_f]
      refine ⟨fun _ => ?_, fun h => absurd h (by decide)⟩
      refine call_ism _ [.s (.slice none 0 0)] rfl rfl (fun w' vs hv _ _ hm => ?_) ?_
      · obtain ⟨vs, rfl, _, hv⟩ := argsV_g hv
        obtain rfl := argsV_nil hv
        exact Nodes_noneT hm hn
      simp (maxSteps := 2000000) only [retS, vc_ret, vc_seq, vc_rg, vc_ite, thenQ_n, thenQ_r, blockQ_r, kKeep_eq, segs_nil, segs_n, segs_g, ops_nil, ops_cons, vcOp, RO.isGh, skip_mk, skipL, ev, look, updL, put_mk, put_mk0, keep_mk, keepL, binV, binC, GV.getT, GV.sz, GV.same, GV.setT, Value.oneCell', cond_true, cond_false, Nat.reduceEqDiff, ↓reduceIte, Bool.and_true, Bool.true_and, Bool.not_false, true_and, and_true, ↓br_tt, ↓br_tf, ↓br_ft, br_f]
      refine ⟨fun _ => ?_, fun h => absurd h (by decide)⟩
      refine call_ism _ [.s (.int .i64 0)] rfl rfl (fun w' vs hv _ _ hm => ?_) ?_
      · obtain ⟨vs, rfl, _, hv⟩ := argsV_g hv
        obtain rfl := argsV_nil hv
        exact Len_noneT hm hn
      simp (maxSteps := 2000000) only [retS, vc_ret, vc_seq, vc_rg, vc_ite, thenQ_n, thenQ_r, blockQ_r, kKeep_eq, segs_nil, segs_n, segs_g, ops_nil, ops_cons, vcOp, RO.isGh, skip_mk, skipL, ev, look, updL, put_mk, put_mk0, keep_mk, keepL, binV, binC, GV.getT, GV.sz, GV.same, GV.setT, Value.oneCell', cond_true, cond_false, Nat.reduceEqDiff, ↓reduceIte, Bool.and_true, Bool.true_and, Bool.not_false, true_and, and_true, ↓br_tt, ↓br_ft, br_f]
      refine ⟨fun _ => ?_, fun h => absurd h (by decide)⟩
      refine call_ism _ [.s (.pointer none)] rfl rfl (fun w' vs hv _ _ hm => ?_) ?_
      · obtain ⟨vs, rfl, _, hv⟩ := argsV_g hv
        obtain rfl := argsV_nil hv
        exact Clone_noneT hm hn
      simp (maxSteps := 2000000) only [retS, ops_cons, vcOp, ev, look, put_mk, Value.oneCell', cond_true, ↓reduceIte]
      refine eq_of (eqG_nilp Try.underlying25) ?_
      simp (maxSteps := 2000000) only [vc_skip, vc_seq, vc_rg, vc_ite, thenQ_n, kKeep_eq, segs_nil, segs_n, ops_nil, ops_cons, vcOp, ev, look, put_mk, keep_mk, keepL, Value.oneCell', cond_true, Nat.reduceEqDiff, ↓reduceIte, Bool.not_true, ↓br_ft, Bool.bne_true]
      refine call_frzm rfl rfl (Q := fun rs m' => ∃ b e, rs = [.s (.func (.func f_tree_Tree_Walk_1) #[] #[ptr b])] ∧ m' b = some (.cells #[.slice none 0 0] e (0, 0))) (fun w' vs hv _ _ hm => ?_) fun rs mW _ hq => ?_
      · obtain ⟨vs, rfl, _, hv⟩ := argsV_g hv
        obtain ⟨vs, rfl, _, hv⟩ := argsV_g hv
        obtain rfl := argsV_nil hv
        exact Walk_noneT hm hn 1
      obtain ⟨bw, ew, rfl, hbw⟩ := hq
      simp (maxSteps := 2000000) only [retS, vc_block, thenQ_n, kKeep_eq, segs_nil, ops_nil, look, put_mk, keep_mk, keepL, Nat.reduceEqDiff, ↓reduceIte, ptr]
      refine raw_never (t := 122) (gf := f_tree_Tree_Walk_1) (lb := [ptr bw]) (by kernel_rfl) rfl (enters_of Try.func56 (by kernel_rfl) rfl) (fun l w' _ hph _ => Walk1_noneT (hph mW (by simp)) hbw _ rfl) fun u => ?_
      simp (maxSteps := 2000000) only [vc_rg, thenQ_n, blockQ_n, kKeep_eq, segs_nil, segs_n, ops_nil, ops_cons, vcOp, ev, look, put_mk, keep_mk, keepL, binV, binC, Value.oneCell', cond_true, Nat.reduceEqDiff, ↓reduceIte, Bool.true_and, true_and]
      subst hQ; simp only [loopQ_n]; refine ⟨(i + 1, u :: mW :: phs), ?_, ?_, ge_of ?_ ?_ rfl rfl rfl⟩
      · simp only; omega
      · simp only; omega
      · simp only [frIn, look, Nat.reduceEqDiff, ↓reduceIte, Bool.and_true, Bool.true_and, true_and, and_true]
        rw [wrap_n (by omega)]
        try simp
      · simp [pvIn, look]
  · subst hQ
    simp (maxSteps := 2000000) only [vc_ret, vc_seq, vc_rg, thenQ_n, blockQ_e, kKeep_eq, loopQ_e, segs_nil, segs_n, ops_nil, ops_cons, vcOp, ev, look, updL, put_mk0, keep_mk, keepL, GV.getT, GV.sz, GV.same, GV.setT, Value.oneCell', cond_true, Nat.reduceEqDiff, ↓reduceIte, Bool.and_true, Bool.not_false, and_true, finW_r, resL, resOne, Option.bind_some, fits_s, get_nil]
end Go.Proofs.Ytdpknchgoeboaaa.Vc

/- TreeNone: for every input the law answers true and leaves its argument as it was. No condition. -/
set_option linter.unusedVariables false
set_option linter.unusedSimpArgs false
set_option maxRecDepth 100000
namespace Go.Proofs.Ytdpknchgoeboaaa.Vc
open Go Go.Proofs Go.Proofs.Ytdpknchgoeboaaa Go.ChangeShapes Go.WideShapes Go.ChangeAt

theorem TreeNone_open {H : Type} (enc : TypeId × Value → H) (W : World) (base : Nat) (vs : List Value) (h : RdVs enc Try.prog W base [72] vs) (_ : W.ShapedOpen Try.prog) : Spec Try.prog f_law12_TreeNone vs PH.no W fun rs _ => rs = [.s (.bool true)] := by
  obtain ⟨v, vs, rfl, h1, h2, h⟩ := rdvs_cons h
  obtain rfl := rdvs_nil h
  obtain ⟨q, rfl, hf⟩ := rdv_agg (n0 := 9) (ks := [.i .i64, .i .i64, .i .i64, .i .i64, .i .i64, .i .i64, .s, .s, .s, .i .i64, .i .i64, .i .i64, .s, .i .i64]) (g := fun q => gLOp ⟨q.x 0, ⟨⟨q.x 1, q.x 2⟩, q.x 3, q.x 4, q.x 5, q.y 6, q.y 7, q.y 8⟩, q.x 9, q.x 10, q.x 11, q.y 12, q.x 13⟩) (by kernel_rfl) (by kernel_rfl) (fun q => rfl) (fun q v e => by cases e) h1 h2
  exact TreeNone_spec W _

theorem TreeNone_lifted (os : Os) (started : os.Started) (H : Type) (enc : TypeId × Value → H) :
    ReturnsInHanded {} Try.checked os f_law12_TreeNone .any (Rows.treeNoneSpec.pre6 enc Try.prog Try.f8 Rows.treeNoneRow.domain false) (Rows.treeNoneSpec.post enc Try.prog Try.f8 false true false false) :=
  law_lifted (C := Try.checked) Try_own Try_laidOut started (by kernel_rfl) Try.func8
    (ChangeSpec.witness6 (enc := enc) (C := Try.checked) false ⟨#[], #[(gLOp zLOp).val], []⟩ 12 (by kernel_rfl) (by kernel_rfl) (by kernel_rfl) (by kernel_rfl))
    (by kernel_rfl) rfl (tb := 4) (by kernel_rfl) (by kernel_rfl) (ts := [72]) (by kernel_rfl) (fun ds h => by match ds, h with | [d0], _ => rfl) (TreeNone_open enc)

theorem TreeNone_holds : Rows.TreeNoneSaid :=
  OpenClaim.holds_of_wide f_law12_TreeNone Try.f8 rfl rfl rfl rfl rfl rfl rfl ⟨rfl, rfl, rfl, rfl, rfl⟩ rfl rfl rfl rfl rfl (by kernel_rfl) Try.func8 (by kernel_rfl)
    (of_decide_eq_true (by kernel_rfl)) (by unfold Func.isWrapper; rw [if_neg (by decide +kernel)]; exact ⟨rfl, rfl⟩)
    (fun os started H enc _ => TreeNone_lifted os started H enc)
#print axioms TreeNone_holds
end Go.Proofs.Ytdpknchgoeboaaa.Vc

