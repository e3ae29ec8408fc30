/- The code of some functions of the program, its types resolved: printed by a program of this claim. -/
import Derived.Test.YtdpknchgoeboaaaVc10
import Derived.Test.YtdpknchgoeboaaaProg
set_option linter.unusedVariables false
set_option maxRecDepth 100000
namespace Go.Proofs.Ytdpknchgoeboaaa.Vc
open Go Go.Proofs

abbrev f_tree_top : Nat := 38
def c_tree_top : Cd :=
 (.seq (.rg [⟨none, [(some 2, .mv (.c (.bool false)))]⟩] [0])
 (.seq (.rg [⟨none, [(some 3, .mv (.t 0)), (some 4, .bin .eql (.t 3) (.c (.int .i64 1))), (some 5, .mv (.t 4))]⟩, ⟨some (5, false), [(some 6, .mv (.t 0)), (some 7, .bin .eql (.t 6) (.c (.int .i64 2)))]⟩, ⟨none, [(some 8, .pick (.t 5) (.c (.bool true)) (.t 7)), (some 2, .mv (.t 8))]⟩] [2])
 .ret))
theorem k_tree_top : Ok Try.prog 38 c_tree_top 9 [] [.tmp 2] := Ok.mk' Try.func38 (by kernel_rfl) (by kernel_rfl) (by kernel_rfl)

abbrev f_tree_Tree_none : Nat := 34
def c_tree_Tree_none : Cd :=
 (.seq (.rg [⟨none, [(some 2, .mv (.c (.bool false)))]⟩] [0])
 (.seq (.rg [⟨none, [(some 3, .mv (.t 0)), (some 4, .eqA false 25 (.t 3) (.c (.pointer none))), (some 5, .mv (.t 4))]⟩, ⟨some (5, false), [(some 6, .mv (.t 0)), (some 7, .nilc (.t 6)), (some 8, .fldA (.t 7) 0 0), (some 9, .ld (.t 8) 1 false), (some 10, .eqA false 73 (.t 9) (.c (.map none)))]⟩, ⟨none, [(some 11, .pick (.t 5) (.c (.bool true)) (.t 10)), (some 2, .mv (.t 11))]⟩] [2])
 .ret))
theorem k_tree_Tree_none : Ok Try.prog 34 c_tree_Tree_none 12 [] [.tmp 2] := Ok.mk' Try.func34 (by kernel_rfl) (by kernel_rfl) (by kernel_rfl)

abbrev f_tree_bare : Nat := 41
def c_tree_bare : Cd :=
 (.seq (.rg [⟨none, [(some 0, .mv (.c (.pointer none)))]⟩] [])
 (.seq (.rg [⟨none, [(some 1, .mkm), (some 2, .mkm), (some 3, .bld (.c (.c (.s (.int .i64 0)) (.c (.s (.string ⟨#[]⟩)) .u)) (.c (.s (.map none)) (.c (.s (.map none)) .u))) [(1, (.t 1)), (2, (.t 2))]), (some 4, .box 98 (.t 3)), (some 0, .mv (.t 4)), (none, .gh)]⟩] [0])
 .ret))
theorem k_tree_bare : Ok Try.prog 41 c_tree_bare 5 [] [.tmp 0] := Ok.mk' Try.func41 (by kernel_rfl) (by kernel_rfl) (by kernel_rfl)

abbrev f_tree_New : Nat := 33
def c_tree_New : Cd :=
 (.seq (.rg [⟨none, [(some 0, .mv (.c (.pointer none)))]⟩] [])
 (.seq (.rg [⟨none, [(some 1, .mkm), (some 2, .call 41 []), (none, .mup (some .i64) (.t 1) (.c (.int .i64 1)) (.t 2)), (some 3, .call 41 []), (none, .mup (some .i64) (.t 1) (.c (.int .i64 2)) (.t 3)), (some 4, .mv (.t 1)), (some 5, .bld (.c (.s (.int .u8 0)) .u) []), (some 6, .box 124 (.t 5)), (none, .gh), (some 7, .bld (.c (.s (.map none)) (.c (.s (.pointer none)) (.c (.s (.int .i64 0)) (.c (.s (.slice none 0 0)) (.c (.s (.int .i64 0)) .u))))) [(0, (.t 4)), (1, (.t 6))]), (some 8, .box 76 (.t 7)), (some 0, .mv (.t 8)), (none, .gh)]⟩] [0])
 .ret))
theorem k_tree_New : Ok Try.prog 33 c_tree_New 9 [] [.tmp 0] := Ok.mk' Try.func33 (by kernel_rfl) (by kernel_rfl) (by kernel_rfl)

abbrev f_tree_Tree_put : Nat := 42
def c_tree_Tree_put_R4 : Cd :=
 (.seq (.gh (.rgq [⟨none, [(some 30, .mv (.t 0)), (some 31, .nilc (.t 30)), (some 32, .fldA (.t 31) 0 0), (some 33, .ld (.t 32) 1 false), (some 34, .mv (.t 1)), (some 35, .mlk (some .i64) (.t 33) (.t 34) (.pointer none) false), (some 36, .ld (.t 5) 2 true)]⟩] [⟨none, [(some 37, .nilc (.t 35)), (some 38, .fldA (.t 37) 0 0), (none, .st (.t 38) (.t 36) 2)]⟩] [0, 1, 5]))
 (.seq (.rgq [⟨none, [(some 39, .mv (.t 0)), (some 40, .nilc (.t 39)), (some 41, .fldA (.t 40) 0 0), (some 42, .ld (.t 41) 1 false), (some 43, .fldA (.t 5) 0 0), (some 44, .ld (.t 43) 1 false)]⟩] [⟨none, [(some 45, .mlk (some .i64) (.t 42) (.t 44) (.pointer none) false), (some 7, .mv (.t 45))]⟩] [1, 7])
 (.seq (.rg [⟨none, [(some 46, .mv (.t 7)), (some 47, .eqA true 90 (.t 46) (.c (.pointer none)))]⟩] [1, 7, 47])
 (.ite (.t 47)
 (.rg [⟨none, [(some 48, .mv (.t 7)), (some 49, .nilc (.t 48)), (some 50, .fldA (.t 49) 2 3), (some 51, .ld (.t 50) 1 false), (some 52, .mv (.t 1)), (none, .mup (some .i64) (.t 51) (.t 52) (.c (.int .i64 1)))]⟩] [])
 .skip))))
def c_tree_Tree_put : Cd :=
 (.seq (.rg [⟨none, [(some 5, .box 39 (.t 2))]⟩] [0, 1, 5])
 (.seq (.seq (.rgq [⟨none, [(some 8, .mv (.t 0)), (some 9, .nilc (.t 8)), (some 10, .fldA (.t 9) 0 0), (some 11, .ld (.t 10) 1 false), (some 12, .mv (.t 0)), (some 13, .nilc (.t 12)), (some 14, .fldA (.t 13) 0 0), (some 15, .ld (.t 14) 1 false), (some 16, .mv (.t 1)), (some 17, .mlk (some .i64) (.t 15) (.t 16) (.pointer none) false), (some 18, .nilc (.t 17)), (some 19, .fldA (.t 18) 0 0), (some 20, .fldA (.t 19) 0 0), (some 21, .ld (.t 20) 1 false)]⟩] [⟨none, [(some 22, .mlk (some .i64) (.t 11) (.t 21) (.pointer none) false), (some 6, .mv (.t 22))]⟩] [0, 1, 5, 6])
 (.seq (.rg [⟨none, [(some 23, .mv (.t 6)), (some 24, .eqA true 90 (.t 23) (.c (.pointer none)))]⟩] [0, 1, 5, 6, 24])
 (.ite (.t 24)
 (.rg [⟨none, [(some 25, .mv (.t 6)), (some 26, .nilc (.t 25)), (some 27, .fldA (.t 26) 2 3), (some 28, .ld (.t 27) 1 false), (some 29, .mv (.t 1)), (none, .mdl (some .i64) (.t 28) (.t 29))]⟩] [0, 1, 5])
 .skip)))
 c_tree_Tree_put_R4))
theorem k_tree_Tree_put : Ok Try.prog 42 c_tree_Tree_put 53 [(1, 14), (4, 7), (5, 6)] [] := Ok.mk' Try.func42 (by kernel_rfl) (by kernel_rfl) (by kernel_rfl)

abbrev f_tree_Tree_below : Nat := 39
def c_tree_Tree_below_L0 : Cd :=
 (.seq (.rg [⟨none, [(some 15, .bin .lss (.t 14) (.t 13))]⟩] [0, 1, 2, 13, 14, 15])
 (.seq (.ite (.t 15)
 .skip
 (.exit 0))
 (.seq (.block 1 (.seq (.seq (.rg [⟨none, [(some 16, .mv (.t 1)), (some 17, .mv (.t 2)), (some 18, .bin .eql (.t 16) (.t 17))]⟩] [0, 1, 2, 13, 14, 18])
 (.ite (.t 18)
 (.seq (.rg [⟨none, [(some 6, .mv (.c (.bool true)))]⟩] [6])
 .ret)
 .skip))
 (.seq (.rg [⟨none, [(some 19, .mv (.t 0)), (some 20, .nilc (.t 19)), (some 21, .fldA (.t 20) 0 0), (some 22, .ld (.t 21) 1 false), (some 23, .mv (.t 1)), (some 24, .mlk (some .i64) (.t 22) (.t 23) (.pointer none) false), (some 7, .mv (.t 24))]⟩] [0, 1, 2, 7, 13, 14])
 (.seq (.seq (.rg [⟨none, [(some 25, .mv (.t 7)), (some 26, .eqA false 90 (.t 25) (.c (.pointer none))), (some 27, .mv (.t 26))]⟩, ⟨some (27, false), [(some 28, .mv (.t 1)), (some 29, .call 38 [(.t 28)])]⟩, ⟨none, [(some 30, .pick (.t 27) (.c (.bool true)) (.t 29))]⟩] [0, 2, 7, 13, 14, 30])
 (.ite (.t 30)
 (.seq (.rg [⟨none, [(some 6, .mv (.c (.bool false)))]⟩] [6])
 .ret)
 .skip))
 (.rg [⟨none, [(some 31, .mv (.t 7)), (some 32, .nilc (.t 31)), (some 33, .fldA (.t 32) 0 0), (some 34, .fldA (.t 33) 0 0), (some 35, .ld (.t 34) 1 false), (some 1, .mv (.t 35))]⟩] [0, 1, 2, 13, 14])))))
 (.rg [⟨none, [(some 36, .bin .add (.t 14) (.c (.int .i64 1))), (some 14, .mv (.t 36))]⟩] [0, 1, 2, 13, 14]))))
def c_tree_Tree_below : Cd :=
 (.seq (.rg [⟨none, [(some 6, .mv (.c (.bool false)))]⟩] [0, 1, 2])
 (.seq (.seq (.rg [⟨none, [(some 8, .mv (.t 0)), (some 9, .nilc (.t 8)), (some 10, .fldA (.t 9) 0 0), (some 11, .ld (.t 10) 1 false), (some 12, .mln (some .i64) (.t 11)), (some 13, .bin .add (.t 12) (.c (.int .i64 1))), (some 14, .mv (.c (.int .i64 0)))]⟩] [0, 1, 2, 13, 14])
 (.block 0 (.loop c_tree_Tree_below_L0)))
 (.seq (.rg [⟨none, [(some 6, .mv (.c (.bool false)))]⟩] [6])
 .ret)))
theorem k_tree_Tree_below : Ok Try.prog 39 c_tree_Tree_below 37 [] [.tmp 6] := Ok.mk' Try.func39 (by kernel_rfl) (by kernel_rfl) (by kernel_rfl)

abbrev f_tree_Tree_May : Nat := 15
def c_tree_Tree_May : Cd :=
 (.seq (.rg [⟨none, [(some 3, .box 35 (.t 1)), (some 4, .mv (.c (.bool false)))]⟩] [0, 3])
 (.seq (.seq (.rg [⟨none, [(some 7, .mv (.t 0)), (some 8, .call 34 [(.t 7)])]⟩] [0, 3, 8])
 (.ite (.t 8)
 (.seq (.rg [⟨none, [(some 4, .mv (.c (.bool false)))]⟩] [4])
 .ret)
 .skip))
 (.seq (.rgq [⟨none, [(some 9, .mv (.t 0)), (some 10, .nilc (.t 9)), (some 11, .fldA (.t 10) 0 0), (some 12, .ld (.t 11) 1 false), (some 13, .fldA (.t 3) 2 3), (some 14, .ld (.t 13) 1 false), (some 15, .mlk (some .i64) (.t 12) (.t 14) (.pointer none) false), (some 16, .eqA true 90 (.t 15) (.c (.pointer none))), (some 17, .mv (.t 0)), (some 18, .nilc (.t 17)), (some 19, .fldA (.t 18) 0 0), (some 20, .ld (.t 19) 1 false), (some 21, .fldA (.t 3) 3 4), (some 22, .ld (.t 21) 1 false), (some 23, .mlk (some .i64) (.t 20) (.t 22) (.pointer none) false), (some 24, .eqA true 90 (.t 23) (.c (.pointer none))), (some 5, .mv (.t 16))]⟩] [⟨none, [(some 6, .mv (.t 24))]⟩] [0, 3, 5, 6])
 (.seq (.seq (.rg [⟨none, [(some 25, .fldA (.t 3) 1 2), (some 26, .ld (.t 25) 1 false)]⟩] [0, 3, 5, 6, 26])
 (.block 0 (.seq (.rg [⟨none, [(some 28, .bin .eql (.t 26) (.c (.int .i64 1))), (some 27, .mv (.t 28))]⟩] [0, 3, 5, 6, 26, 27])
 (.ite (.t 27)
 (.seq (.rg [⟨none, [(some 29, .fldA (.t 3) 2 3), (some 30, .ld (.t 29) 1 false), (some 31, .bin .gtr (.t 30) (.c (.int .i64 2))), (some 32, .mv (.t 31))]⟩, ⟨some (32, true), [(some 33, .mv (.t 5)), (some 34, .un .not (.t 33))]⟩, ⟨none, [(some 35, .pick (.t 32) (.t 34) (.c (.bool false))), (some 36, .mv (.t 35))]⟩, ⟨some (36, true), [(some 37, .mv (.t 6))]⟩, ⟨none, [(some 38, .pick (.t 36) (.t 37) (.c (.bool false))), (some 39, .mv (.t 38))]⟩, ⟨some (39, true), [(some 40, .fldA (.t 3) 4 5), (some 41, .ld (.t 40) 1 false), (some 42, .call 10 [(.t 41)])]⟩, ⟨none, [(some 43, .pick (.t 39) (.t 42) (.c (.bool false))), (some 4, .mv (.t 43))]⟩] [4])
 .ret)
 (.seq (.rg [⟨none, [(some 45, .bin .eql (.t 26) (.c (.int .i64 2))), (some 44, .mv (.t 45))]⟩] [0, 3, 5, 6, 26, 44])
 (.ite (.t 44)
 (.seq (.rg [⟨none, [(some 46, .mv (.t 5)), (some 47, .mv (.t 46))]⟩, ⟨some (47, true), [(some 48, .fldA (.t 3) 2 3), (some 49, .ld (.t 48) 1 false), (some 50, .call 38 [(.t 49)]), (some 51, .un .not (.t 50))]⟩, ⟨none, [(some 52, .pick (.t 47) (.t 51) (.c (.bool false))), (some 53, .mv (.t 52))]⟩, ⟨some (53, true), [(some 54, .mv (.t 6))]⟩, ⟨none, [(some 55, .pick (.t 53) (.t 54) (.c (.bool false))), (some 56, .mv (.t 55))]⟩, ⟨some (56, true), [(some 57, .mv (.t 0)), (some 58, .fldA (.t 3) 3 4), (some 59, .ld (.t 58) 1 false), (some 60, .fldA (.t 3) 2 3), (some 61, .ld (.t 60) 1 false), (some 62, .call 39 [(.t 57), (.t 59), (.t 61)]), (some 63, .un .not (.t 62))]⟩, ⟨none, [(some 64, .pick (.t 56) (.t 63) (.c (.bool false))), (some 65, .mv (.t 64))]⟩, ⟨some (65, true), [(some 66, .fldA (.t 3) 4 5), (some 67, .ld (.t 66) 1 false), (some 68, .call 10 [(.t 67)])]⟩, ⟨none, [(some 69, .pick (.t 65) (.t 68) (.c (.bool false))), (some 4, .mv (.t 69))]⟩] [4])
 .ret)
 (.seq (.rg [⟨none, [(some 71, .bin .eql (.t 26) (.c (.int .i64 3))), (some 70, .mv (.t 71))]⟩] [3, 5, 70])
 (.ite (.t 70)
 (.seq (.rg [⟨none, [(some 72, .mv (.t 5)), (some 73, .mv (.t 72))]⟩, ⟨some (73, true), [(some 74, .fldA (.t 3) 5 6), (some 75, .ld (.t 74) 1 false), (some 76, .fldA (.t 3) 6 7), (some 77, .ld (.t 76) 1 false), (some 78, .call 40 [(.t 75), (.t 77)])]⟩, ⟨none, [(some 79, .pick (.t 73) (.t 78) (.c (.bool false))), (some 4, .mv (.t 79))]⟩] [4])
 .ret)
 .skip))))))))
 (.seq (.rg [⟨none, [(some 4, .mv (.c (.bool false)))]⟩] [4])
 .ret)))))
theorem k_tree_Tree_May : Ok Try.prog 15 c_tree_Tree_May 80 [(3, 17)] [.tmp 4] := Ok.mk' Try.func15 (by kernel_rfl) (by kernel_rfl) (by kernel_rfl)

abbrev f_tree_Name : Nat := 10
def c_tree_Name_L0 : Cd :=
 (.seq (.rg [⟨none, [(some 24, .bin .lss (.t 23) (.t 22))]⟩] [21, 22, 23, 24])
 (.seq (.ite (.t 24)
 .skip
 (.exit 0))
 (.seq (.block 1 (.seq (.rg [⟨none, [(some 25, .idxS (.t 21) (.t 23) 1), (some 26, .ld (.t 25) 1 false), (some 4, .mv (.t 26))]⟩] [4, 21, 22, 23])
 (.seq (.rg [⟨none, [(some 27, .mv (.t 4)), (some 28, .bin .eql (.t 27) (.c (.int .u8 47)))]⟩] [21, 22, 23, 28])
 (.ite (.t 28)
 (.seq (.rg [⟨none, [(some 2, .mv (.c (.bool false)))]⟩] [2])
 .ret)
 .skip))))
 (.rg [⟨none, [(some 29, .bin .add (.t 23) (.c (.int .i64 1))), (some 23, .mv (.t 29))]⟩] [21, 22, 23]))))
def c_tree_Name : Cd :=
 (.seq (.rg [⟨none, [(some 2, .mv (.c (.bool false)))]⟩] [0])
 (.seq (.seq (.rg [⟨none, [(some 5, .mv (.t 0)), (some 6, .bin .eql (.t 5) (.c (.string ⟨#[]⟩))), (some 7, .mv (.t 6))]⟩, ⟨some (7, false), [(some 8, .mv (.t 0)), (some 9, .lenS (.t 8)), (some 10, .bin .gtr (.t 9) (.c (.int .i64 255)))]⟩, ⟨none, [(some 11, .pick (.t 7) (.c (.bool true)) (.t 10)), (some 12, .mv (.t 11))]⟩, ⟨some (12, false), [(some 13, .mv (.t 0)), (some 14, .bin .eql (.t 13) (.c (.string ⟨#[46]⟩)))]⟩, ⟨none, [(some 15, .pick (.t 12) (.c (.bool true)) (.t 14)), (some 16, .mv (.t 15))]⟩, ⟨some (16, false), [(some 17, .mv (.t 0)), (some 18, .bin .eql (.t 17) (.c (.string ⟨#[46, 46]⟩)))]⟩, ⟨none, [(some 19, .pick (.t 16) (.c (.bool true)) (.t 18))]⟩] [0, 19])
 (.ite (.t 19)
 (.seq (.rg [⟨none, [(some 2, .mv (.c (.bool false)))]⟩] [2])
 .ret)
 .skip))
 (.seq (.seq (.rg [⟨none, [(some 20, .mv (.t 0)), (some 21, .s2b 5 (.t 20)), (some 22, .len (.t 21)), (some 23, .mv (.c (.int .i64 0)))]⟩] [21, 22, 23])
 (.block 0 (.loop c_tree_Name_L0)))
 (.seq (.rg [⟨none, [(some 2, .mv (.c (.bool true)))]⟩] [2])
 .ret))))
theorem k_tree_Name : Ok Try.prog 10 c_tree_Name 30 [] [.tmp 2] := Ok.mk' Try.func10 (by kernel_rfl) (by kernel_rfl) (by kernel_rfl)

abbrev f_ref12_Name : Nat := 11
def c_ref12_Name_L0 : Cd :=
 (.seq (.seq (.rg [⟨none, [(some 19, .mv (.t 3)), (some 20, .mv (.t 0)), (some 21, .lenS (.t 20)), (some 22, .bin .lss (.t 19) (.t 21))]⟩] [0, 3, 22])
 (.ite (.t 22)
 .skip
 (.exit 0)))
 (.seq (.block 1 (.seq (.rg [⟨none, [(some 25, .mv (.t 0)), (some 26, .mv (.t 3)), (some 27, .strI (.t 25) (.t 26)), (some 28, .bin .eql (.t 27) (.c (.int .u8 47)))]⟩] [0, 3, 28])
 (.ite (.t 28)
 (.seq (.rg [⟨none, [(some 2, .mv (.c (.bool false)))]⟩] [2])
 .ret)
 .skip)))
 (.rg [⟨none, [(some 23, .mv (.t 3)), (some 24, .bin .add (.t 23) (.c (.int .i64 1))), (some 3, .mv (.t 24))]⟩] [0, 3])))
def c_ref12_Name : Cd :=
 (.seq (.rg [⟨none, [(some 2, .mv (.c (.bool false)))]⟩] [0])
 (.seq (.seq (.rg [⟨none, [(some 4, .mv (.t 0)), (some 5, .bin .eql (.t 4) (.c (.string ⟨#[]⟩))), (some 6, .mv (.t 5))]⟩, ⟨some (6, false), [(some 7, .mv (.t 0)), (some 8, .lenS (.t 7)), (some 9, .bin .gtr (.t 8) (.c (.int .i64 255)))]⟩, ⟨none, [(some 10, .pick (.t 6) (.c (.bool true)) (.t 9)), (some 11, .mv (.t 10))]⟩, ⟨some (11, false), [(some 12, .mv (.t 0)), (some 13, .bin .eql (.t 12) (.c (.string ⟨#[46]⟩)))]⟩, ⟨none, [(some 14, .pick (.t 11) (.c (.bool true)) (.t 13)), (some 15, .mv (.t 14))]⟩, ⟨some (15, false), [(some 16, .mv (.t 0)), (some 17, .bin .eql (.t 16) (.c (.string ⟨#[46, 46]⟩)))]⟩, ⟨none, [(some 18, .pick (.t 15) (.c (.bool true)) (.t 17))]⟩] [0, 18])
 (.ite (.t 18)
 (.seq (.rg [⟨none, [(some 2, .mv (.c (.bool false)))]⟩] [2])
 .ret)
 .skip))
 (.seq (.seq (.rg [⟨none, [(some 3, .mv (.c (.int .i64 0)))]⟩] [0, 3])
 (.block 0 (.loop c_ref12_Name_L0)))
 (.seq (.rg [⟨none, [(some 2, .mv (.c (.bool true)))]⟩] [2])
 .ret))))
theorem k_ref12_Name : Ok Try.prog 11 c_ref12_Name 29 [] [.tmp 2] := Ok.mk' Try.func11 (by kernel_rfl) (by kernel_rfl) (by kernel_rfl)

abbrev f_tree_pair : Nat := 40
def c_tree_pair : Cd :=
 (.seq (.rg [⟨none, [(some 4, .mv (.c (.bool false)))]⟩] [0, 1])
 (.seq (.rg [⟨none, [(some 5, .mv (.t 0)), (some 6, .bin .neq (.t 5) (.c (.string ⟨#[]⟩))), (some 7, .mv (.t 6))]⟩, ⟨some (7, true), [(some 8, .mv (.t 0)), (some 9, .lenS (.t 8)), (some 10, .bin .leq (.t 9) (.c (.int .i64 255)))]⟩, ⟨none, [(some 11, .pick (.t 7) (.t 10) (.c (.bool false))), (some 12, .mv (.t 11))]⟩, ⟨some (12, true), [(some 13, .mv (.t 1)), (some 14, .lenS (.t 13)), (some 15, .bin .leq (.t 14) (.c (.int .i64 255)))]⟩, ⟨none, [(some 16, .pick (.t 12) (.t 15) (.c (.bool false))), (some 4, .mv (.t 16))]⟩] [4])
 .ret))
theorem k_tree_pair : Ok Try.prog 40 c_tree_pair 17 [] [.tmp 4] := Ok.mk' Try.func40 (by kernel_rfl) (by kernel_rfl) (by kernel_rfl)

abbrev f_tree_Tree_Len : Nat := 14
def c_tree_Tree_Len : Cd :=
 (.seq (.rg [⟨none, [(some 2, .mv (.c (.int .i64 0)))]⟩] [0])
 (.seq (.seq (.rg [⟨none, [(some 3, .mv (.t 0)), (some 4, .call 34 [(.t 3)])]⟩] [0, 4])
 (.ite (.t 4)
 (.seq (.rg [⟨none, [(some 2, .mv (.c (.int .i64 0)))]⟩] [2])
 .ret)
 .skip))
 (.seq (.rg [⟨none, [(some 5, .mv (.t 0)), (some 6, .nilc (.t 5)), (some 7, .fldA (.t 6) 0 0), (some 8, .ld (.t 7) 1 false), (some 9, .mln (some .i64) (.t 8)), (some 2, .mv (.t 9))]⟩] [2])
 .ret)))
theorem k_tree_Tree_Len : Ok Try.prog 14 c_tree_Tree_Len 10 [] [.tmp 2] := Ok.mk' Try.func14 (by kernel_rfl) (by kernel_rfl) (by kernel_rfl)

end Go.Proofs.Ytdpknchgoeboaaa.Vc
