/- The code of some functions of the program, its types resolved: printed by a program of this claim. -/
import Derived.Test.YtdpknchgoeboaaaVc10
import Derived.Test.YtdpknchgoeboaaaProg
set_option linter.unusedVariables false
set_option maxRecDepth 100000
namespace Go.Proofs.Ytdpknchgoeboaaa.Vc
open Go Go.Proofs

abbrev f_tree_Tree_Do : Nat := 16
def c_tree_Tree_Do_R14 : Cd :=
 (.seq (.gh (.rga (.op ⟨none, [(some 97, .mv (.t 0))]⟩ (.op ⟨none, [(some 98, .mv (.t 0))]⟩ (.op ⟨none, [(some 99, .nilc (.t 98))]⟩ (.op ⟨none, [(some 100, .fldA (.t 99) 3 3)]⟩ (.op ⟨none, [(some 102, .fldA (.t 6) 1 1)]⟩ (.or (.op ⟨none, [(some 101, .ld (.t 100) 1 false)]⟩ (.op ⟨none, [(some 103, .ld (.t 102) 1 false)]⟩ (.op ⟨none, [(some 104, .bldS 3 1 (.s (.int .i64 0)) [(.t 103)])]⟩ (.op ⟨none, [(some 105, .app 3 1 8 (.s (.int .i64 0)) (.t 101) (.t 104))]⟩ (.op ⟨none, [(some 106, .nilc (.t 97))]⟩ (.op ⟨none, [(some 107, .fldA (.t 106) 3 3)]⟩ (.op ⟨none, [(none, .st (.t 107) (.t 105) 1)]⟩ .done))))))) (.op ⟨none, [(some 103, .ld (.t 102) 1 false)]⟩ (.or (.op ⟨none, [(some 101, .ld (.t 100) 1 false)]⟩ (.op ⟨none, [(some 104, .bldS 3 1 (.s (.int .i64 0)) [(.t 103)])]⟩ (.op ⟨none, [(some 105, .app 3 1 8 (.s (.int .i64 0)) (.t 101) (.t 104))]⟩ (.op ⟨none, [(some 106, .nilc (.t 97))]⟩ (.op ⟨none, [(some 107, .fldA (.t 106) 3 3)]⟩ (.op ⟨none, [(none, .st (.t 107) (.t 105) 1)]⟩ .done)))))) (.op ⟨none, [(some 104, .bldS 3 1 (.s (.int .i64 0)) [(.t 103)])]⟩ (.op ⟨none, [(some 101, .ld (.t 100) 1 false)]⟩ (.op ⟨none, [(some 105, .app 3 1 8 (.s (.int .i64 0)) (.t 101) (.t 104))]⟩ (.op ⟨none, [(some 106, .nilc (.t 97))]⟩ (.op ⟨none, [(some 107, .fldA (.t 106) 3 3)]⟩ (.op ⟨none, [(none, .st (.t 107) (.t 105) 1)]⟩ .done)))))))))))))) [4, 6]))
 (.seq (.rg [⟨none, [(some 108, .ld (.t 6) 13 true), (none, .st (.t 4) (.t 108) 13), (some 5, .mv (.c (.bool true)))]⟩] [4, 5])
 .ret))
def c_tree_Tree_Do : Cd :=
 (.seq (.rg [⟨none, [(some 3, .box 35 (.t 1)), (some 4, .new 41 (.c (.s (.pointer none)) (.c (.s (.int .i64 0)) (.c (.c (.c (.s (.int .i64 0)) (.c (.s (.int .i64 0)) .u)) (.c (.s (.int .i64 0)) (.c (.s (.int .i64 0)) (.c (.s (.int .i64 0)) (.c (.s (.string ⟨#[]⟩)) (.c (.s (.string ⟨#[]⟩)) (.c (.s (.string ⟨#[]⟩)) .u))))))) (.c (.c (.s (.int .i64 0)) (.c (.s (.string ⟨#[]⟩)) .u)) (.c (.s (.string ⟨#[]⟩)) .u)))))), (some 5, .mv (.c (.bool false)))]⟩] [0, 3, 4])
 (.seq (.seq (.rg [⟨none, [(some 7, .mv (.t 0)), (some 8, .ld (.t 3) 8 true), (some 9, .call 15 [(.t 7), (.t 8)]), (some 10, .un .not (.t 9))]⟩] [0, 3, 4, 10])
 (.ite (.t 10)
 (.seq (.rg [⟨none, [(some 11, .bld (.c (.s (.pointer none)) (.c (.s (.int .i64 0)) (.c (.c (.c (.s (.int .i64 0)) (.c (.s (.int .i64 0)) .u)) (.c (.s (.int .i64 0)) (.c (.s (.int .i64 0)) (.c (.s (.int .i64 0)) (.c (.s (.string ⟨#[]⟩)) (.c (.s (.string ⟨#[]⟩)) (.c (.s (.string ⟨#[]⟩)) .u))))))) (.c (.c (.s (.int .i64 0)) (.c (.s (.string ⟨#[]⟩)) .u)) (.c (.s (.string ⟨#[]⟩)) .u))))) []), (none, .st (.t 4) (.t 11) 13), (some 5, .mv (.c (.bool false)))]⟩] [4, 5])
 .ret)
 .skip))
 (.seq (.rg [⟨none, [(some 12, .mv (.t 0)), (some 13, .nilc (.t 12)), (some 14, .fldA (.t 13) 4 4), (some 15, .ld (.t 14) 1 false), (some 16, .bin .add (.t 15) (.c (.int .i64 1))), (some 17, .nilc (.t 12)), (some 18, .fldA (.t 17) 4 4), (none, .st (.t 18) (.t 16) 1)]⟩] [0, 3, 4])
 (.seq (.rga (.held [3] (.op ⟨none, [(some 19, .mv (.t 0))]⟩ (.op ⟨none, [(some 20, .nilc (.t 19))]⟩ (.op ⟨none, [(some 21, .fldA (.t 20) 1 1)]⟩ (.op ⟨none, [(some 23, .mv (.t 0))]⟩ (.op ⟨none, [(some 24, .nilc (.t 23))]⟩ (.op ⟨none, [(some 25, .fldA (.t 24) 4 4)]⟩ (.first ⟨none, [(some 22, .ld (.t 21) 1 false)]⟩ (.first ⟨none, [(some 26, .ld (.t 25) 1 false)]⟩ (.first ⟨none, [(some 27, .ld (.t 3) 8 true)]⟩ (.op ⟨none, [(some 28, .bld (.c (.s (.pointer none)) (.c (.s (.int .i64 0)) (.c (.c (.c (.s (.int .i64 0)) (.c (.s (.int .i64 0)) .u)) (.c (.s (.int .i64 0)) (.c (.s (.int .i64 0)) (.c (.s (.int .i64 0)) (.c (.s (.string ⟨#[]⟩)) (.c (.s (.string ⟨#[]⟩)) (.c (.s (.string ⟨#[]⟩)) .u))))))) (.c (.c (.s (.int .i64 0)) (.c (.s (.string ⟨#[]⟩)) .u)) (.c (.s (.string ⟨#[]⟩)) .u))))) [(0, (.t 22)), (1, (.t 26)), (2, (.t 27))])]⟩ (.op ⟨none, [(some 6, .new 41 (.c (.s (.pointer none)) (.c (.s (.int .i64 0)) (.c (.c (.c (.s (.int .i64 0)) (.c (.s (.int .i64 0)) .u)) (.c (.s (.int .i64 0)) (.c (.s (.int .i64 0)) (.c (.s (.int .i64 0)) (.c (.s (.string ⟨#[]⟩)) (.c (.s (.string ⟨#[]⟩)) (.c (.s (.string ⟨#[]⟩)) .u))))))) (.c (.c (.s (.int .i64 0)) (.c (.s (.string ⟨#[]⟩)) .u)) (.c (.s (.string ⟨#[]⟩)) .u))))))]⟩ (.op ⟨none, [(none, .st (.t 6) (.t 28) 13)]⟩ .done))))))))))))) [0, 3, 4, 6])
 (.seq (.seq (.rg [⟨none, [(some 29, .fldA (.t 3) 1 2), (some 30, .ld (.t 29) 1 false)]⟩] [0, 3, 4, 6, 30])
 (.block 0 (.seq (.rg [⟨none, [(some 58, .bin .eql (.t 30) (.c (.int .i64 1))), (some 57, .mv (.t 58))]⟩] [0, 3, 4, 6, 30, 57])
 (.ite (.t 57)
 (.seq (.rga (.op ⟨none, [(some 59, .mv (.t 0))]⟩ (.op ⟨none, [(some 60, .nilc (.t 59))]⟩ (.op ⟨none, [(some 61, .fldA (.t 60) 0 0)]⟩ (.op ⟨none, [(some 63, .fldA (.t 3) 2 3)]⟩ (.or (.op ⟨none, [(some 62, .ld (.t 61) 1 false)]⟩ (.or (.op ⟨none, [(some 64, .ld (.t 63) 1 false)]⟩ (.op ⟨none, [(some 65, .call 41 [])]⟩ (.op ⟨none, [(none, .mup (some .i64) (.t 62) (.t 64) (.t 65))]⟩ .done))) (.op ⟨none, [(some 65, .call 41 [])]⟩ (.op ⟨none, [(some 64, .ld (.t 63) 1 false)]⟩ (.op ⟨none, [(none, .mup (some .i64) (.t 62) (.t 64) (.t 65))]⟩ .done))))) (.or (.op ⟨none, [(some 64, .ld (.t 63) 1 false)]⟩ (.or (.op ⟨none, [(some 62, .ld (.t 61) 1 false)]⟩ (.op ⟨none, [(some 65, .call 41 [])]⟩ (.op ⟨none, [(none, .mup (some .i64) (.t 62) (.t 64) (.t 65))]⟩ .done))) (.op ⟨none, [(some 65, .call 41 [])]⟩ (.op ⟨none, [(some 62, .ld (.t 61) 1 false)]⟩ (.op ⟨none, [(none, .mup (some .i64) (.t 62) (.t 64) (.t 65))]⟩ .done))))) (.op ⟨none, [(some 65, .call 41 [])]⟩ (.or (.op ⟨none, [(some 62, .ld (.t 61) 1 false)]⟩ (.op ⟨none, [(some 64, .ld (.t 63) 1 false)]⟩ (.op ⟨none, [(none, .mup (some .i64) (.t 62) (.t 64) (.t 65))]⟩ .done))) (.op ⟨none, [(some 64, .ld (.t 63) 1 false)]⟩ (.op ⟨none, [(some 62, .ld (.t 61) 1 false)]⟩ (.op ⟨none, [(none, .mup (some .i64) (.t 62) (.t 64) (.t 65))]⟩ .done))))))))))) [0, 3, 4, 6])
 (.rg [⟨none, [(some 66, .mv (.t 0)), (some 67, .fldA (.t 3) 2 3), (some 68, .ld (.t 67) 1 false), (some 69, .fldA (.t 3) 3 4), (some 70, .ld (.t 69) 1 false), (some 71, .fldA (.t 3) 4 5), (some 72, .ld (.t 71) 1 false), (some 73, .bld (.c (.s (.int .i64 0)) (.c (.s (.string ⟨#[]⟩)) .u)) [(0, (.t 70)), (1, (.t 72))]), (some 74, .call 42 [(.t 66), (.t 68), (.t 73)])]⟩] [0, 4, 6]))
 (.seq (.rg [⟨none, [(some 76, .bin .eql (.t 30) (.c (.int .i64 2))), (some 75, .mv (.t 76))]⟩] [0, 3, 4, 6, 75])
 (.ite (.t 75)
 (.seq (.rgq [⟨none, [(some 77, .mv (.t 0)), (some 78, .nilc (.t 77)), (some 79, .fldA (.t 78) 0 0), (some 80, .ld (.t 79) 1 false), (some 81, .fldA (.t 3) 2 3), (some 82, .ld (.t 81) 1 false)]⟩] [⟨none, [(some 83, .mlk (some .i64) (.t 80) (.t 82) (.pointer none) false), (some 84, .nilc (.t 83)), (some 85, .fldA (.t 84) 0 0), (some 86, .ld (.t 85) 2 true), (some 87, .fldA (.t 6) 3 10), (none, .st (.t 87) (.t 86) 2)]⟩] [0, 3, 4, 6])
 (.rg [⟨none, [(some 88, .mv (.t 0)), (some 89, .fldA (.t 3) 2 3), (some 90, .ld (.t 89) 1 false), (some 91, .fldA (.t 3) 3 4), (some 92, .ld (.t 91) 1 false), (some 93, .fldA (.t 3) 4 5), (some 94, .ld (.t 93) 1 false), (some 95, .bld (.c (.s (.int .i64 0)) (.c (.s (.string ⟨#[]⟩)) .u)) [(0, (.t 92)), (1, (.t 94))]), (some 96, .call 42 [(.t 88), (.t 90), (.t 95)])]⟩] [0, 4, 6]))
 (.seq (.rgq [⟨none, [(some 31, .mv (.t 0)), (some 32, .nilc (.t 31)), (some 33, .fldA (.t 32) 0 0), (some 34, .ld (.t 33) 1 false), (some 35, .fldA (.t 3) 2 3), (some 36, .ld (.t 35) 1 false), (some 37, .mlk (some .i64) (.t 34) (.t 36) (.pointer none) false), (some 38, .nilc (.t 37)), (some 39, .fldA (.t 38) 1 2), (some 40, .ld (.t 39) 1 false), (some 41, .fldA (.t 3) 5 6), (some 42, .ld (.t 41) 1 false)]⟩] [⟨none, [(some 43, .mlk none (.t 40) (.t 42) (.string ⟨#[]⟩) false), (some 44, .fldA (.t 6) 4 12), (none, .st (.t 44) (.t 43) 1)]⟩] [0, 3, 4, 6])
 (.rgq [⟨none, [(some 45, .mv (.t 0)), (some 46, .nilc (.t 45)), (some 47, .fldA (.t 46) 0 0), (some 48, .ld (.t 47) 1 false), (some 49, .fldA (.t 3) 2 3), (some 50, .ld (.t 49) 1 false), (some 51, .mlk (some .i64) (.t 48) (.t 50) (.pointer none) false), (some 52, .fldA (.t 3) 5 6), (some 53, .ld (.t 52) 1 false), (some 54, .fldA (.t 3) 6 7), (some 55, .ld (.t 54) 1 false)]⟩] [⟨none, [(some 56, .call 43 [(.t 51), (.t 53), (.t 55)])]⟩] [0, 4, 6]))))))))
 c_tree_Tree_Do_R14)))))
theorem k_tree_Tree_Do : Ok Try.prog 16 c_tree_Tree_Do 109 [(4, 999998), (9, 999999), (12, 6), (6, 12), (7, 11), (14, 999999)] [.cell 4 13 true, .tmp 5] := Ok.mk' Try.func16 (by kernel_rfl) (by kernel_rfl) (by kernel_rfl)

abbrev f_tree_node_attr : Nat := 43
def c_tree_node_attr : Cd :=
 (.seq (.rg [⟨none, [(some 6, .mv (.t 2)), (some 7, .bin .eql (.t 6) (.c (.string ⟨#[]⟩)))]⟩] [0, 1, 2, 7])
 (.ite (.t 7)
 (.rg [⟨none, [(some 8, .mv (.t 0)), (some 9, .nilc (.t 8)), (some 10, .fldA (.t 9) 1 2), (some 11, .ld (.t 10) 1 false), (some 12, .mv (.t 1)), (none, .mdl none (.t 11) (.t 12))]⟩] [])
 (.rg [⟨none, [(some 13, .mv (.t 0)), (some 14, .nilc (.t 13)), (some 15, .fldA (.t 14) 1 2), (some 16, .ld (.t 15) 1 false), (some 17, .mv (.t 1)), (some 18, .mv (.t 2)), (none, .mup none (.t 16) (.t 17) (.t 18))]⟩] [])))
theorem k_tree_node_attr : Ok Try.prog 43 c_tree_node_attr 19 [] [] := Ok.mk' Try.func43 (by kernel_rfl) (by kernel_rfl) (by kernel_rfl)

abbrev f_tree_Tree_Back : Nat := 17
def c_tree_Tree_Back : Cd :=
 (.seq (.rg [⟨none, [(some 3, .box 41 (.t 1)), (some 4, .mv (.c (.int .i64 0)))]⟩] [0, 3])
 (.seq (.seq (.rg [⟨none, [(some 6, .mv (.t 0)), (some 7, .call 34 [(.t 6)])]⟩] [0, 3, 7])
 (.ite (.t 7)
 (.seq (.rg [⟨none, [(some 4, .mv (.c (.int .i64 2)))]⟩] [4])
 .ret)
 .skip))
 (.seq (.seq (.rg [⟨none, [(some 8, .ld (.t 3) 13 true), (some 9, .bld (.c (.s (.pointer none)) (.c (.s (.int .i64 0)) (.c (.c (.c (.s (.int .i64 0)) (.c (.s (.int .i64 0)) .u)) (.c (.s (.int .i64 0)) (.c (.s (.int .i64 0)) (.c (.s (.int .i64 0)) (.c (.s (.string ⟨#[]⟩)) (.c (.s (.string ⟨#[]⟩)) (.c (.s (.string ⟨#[]⟩)) .u))))))) (.c (.c (.s (.int .i64 0)) (.c (.s (.string ⟨#[]⟩)) .u)) (.c (.s (.string ⟨#[]⟩)) .u))))) []), (some 10, .eqA false 41 (.t 8) (.t 9))]⟩] [0, 3, 10])
 (.ite (.t 10)
 (.seq (.rg [⟨none, [(some 4, .mv (.c (.int .i64 0)))]⟩] [4])
 .ret)
 .skip))
 (.seq (.rg [⟨none, [(some 11, .mv (.t 0)), (some 12, .nilc (.t 11)), (some 13, .fldA (.t 12) 3 3), (some 14, .ld (.t 13) 1 false), (some 15, .len (.t 14)), (some 16, .bin .sub (.t 15) (.c (.int .i64 1))), (some 5, .mv (.t 16))]⟩] [0, 3, 5])
 (.seq (.seq (.rgq [⟨none, [(some 17, .fldA (.t 3) 0 0), (some 18, .ld (.t 17) 1 false), (some 19, .mv (.t 0)), (some 20, .nilc (.t 19)), (some 21, .fldA (.t 20) 1 1), (some 22, .ld (.t 21) 1 false), (some 23, .eqA true 37 (.t 18) (.t 22)), (some 24, .mv (.t 23))]⟩, ⟨some (24, false), [(some 25, .mv (.t 5)), (some 26, .bin .lss (.t 25) (.c (.int .i64 0)))]⟩, ⟨none, [(some 27, .pick (.t 24) (.c (.bool true)) (.t 26)), (some 28, .mv (.t 27))]⟩, ⟨some (28, false), [(some 29, .mv (.t 0)), (some 30, .nilc (.t 29)), (some 31, .fldA (.t 30) 3 3), (some 32, .ld (.t 31) 1 false), (some 33, .mv (.t 5)), (some 34, .idxS (.t 32) (.t 33) 1), (some 35, .ld (.t 34) 1 false), (some 36, .fldA (.t 3) 1 1), (some 37, .ld (.t 36) 1 false)]⟩] [⟨some (28, false), [(some 38, .bin .neq (.t 35) (.t 37))]⟩, ⟨none, [(some 39, .pick (.t 28) (.c (.bool true)) (.t 38))]⟩] [0, 3, 5, 39])
 (.ite (.t 39)
 (.seq (.rg [⟨none, [(some 4, .mv (.c (.int .i64 120)))]⟩] [4])
 .ret)
 .skip))
 (.seq (.rg [⟨none, [(some 40, .mv (.t 0)), (some 41, .mv (.t 0)), (some 42, .nilc (.t 41)), (some 43, .fldA (.t 42) 3 3), (some 44, .ld (.t 43) 1 false), (some 45, .mv (.t 5)), (some 46, .sl 1 (.t 44) none (some (.t 45))), (some 47, .nilc (.t 40)), (some 48, .fldA (.t 47) 3 3), (none, .st (.t 48) (.t 46) 1)]⟩] [0, 3])
 (.seq (.seq (.rg [⟨none, [(some 49, .fldA (.t 3) 2 2), (some 50, .fldA (.t 49) 1 2), (some 51, .ld (.t 50) 1 false)]⟩] [0, 3, 51])
 (.block 0 (.seq (.rg [⟨none, [(some 67, .bin .eql (.t 51) (.c (.int .i64 1))), (some 66, .mv (.t 67))]⟩] [0, 3, 51, 66])
 (.ite (.t 66)
 (.seq (.rgq [⟨none, [(some 68, .mv (.t 0)), (some 69, .nilc (.t 68)), (some 70, .fldA (.t 69) 0 0), (some 71, .ld (.t 70) 1 false), (some 72, .fldA (.t 3) 2 2), (some 73, .fldA (.t 72) 3 4), (some 74, .ld (.t 73) 1 false), (some 75, .mlk (some .i64) (.t 71) (.t 74) (.pointer none) false), (some 76, .nilc (.t 75)), (some 77, .fldA (.t 76) 2 3), (some 78, .ld (.t 77) 1 false), (some 79, .fldA (.t 3) 2 2), (some 80, .fldA (.t 79) 2 3), (some 81, .ld (.t 80) 1 false)]⟩] [⟨none, [(none, .mdl (some .i64) (.t 78) (.t 81))]⟩] [0, 3])
 (.rgq [⟨none, [(some 82, .mv (.t 0)), (some 83, .nilc (.t 82)), (some 84, .fldA (.t 83) 0 0), (some 85, .ld (.t 84) 1 false), (some 86, .fldA (.t 3) 2 2), (some 87, .fldA (.t 86) 2 3), (some 88, .ld (.t 87) 1 false)]⟩] [⟨none, [(none, .mdl (some .i64) (.t 85) (.t 88))]⟩] []))
 (.seq (.rg [⟨none, [(some 90, .bin .eql (.t 51) (.c (.int .i64 2))), (some 89, .mv (.t 90))]⟩] [0, 3, 89])
 (.ite (.t 89)
 (.rg [⟨none, [(some 91, .mv (.t 0)), (some 92, .fldA (.t 3) 2 2), (some 93, .fldA (.t 92) 2 3), (some 94, .ld (.t 93) 1 false), (some 95, .fldA (.t 3) 3 10), (some 96, .ld (.t 95) 2 true), (some 97, .call 42 [(.t 91), (.t 94), (.t 96)])]⟩] [])
 (.rgq [⟨none, [(some 52, .mv (.t 0)), (some 53, .nilc (.t 52)), (some 54, .fldA (.t 53) 0 0), (some 55, .ld (.t 54) 1 false), (some 56, .fldA (.t 3) 2 2), (some 57, .fldA (.t 56) 2 3), (some 58, .ld (.t 57) 1 false), (some 59, .mlk (some .i64) (.t 55) (.t 58) (.pointer none) false), (some 60, .fldA (.t 3) 2 2), (some 61, .fldA (.t 60) 5 6), (some 62, .ld (.t 61) 1 false), (some 63, .fldA (.t 3) 4 12), (some 64, .ld (.t 63) 1 false)]⟩] [⟨none, [(some 65, .call 43 [(.t 59), (.t 62), (.t 64)])]⟩] [])))))))
 (.seq (.rg [⟨none, [(some 4, .mv (.c (.int .i64 0)))]⟩] [4])
 .ret))))))))
theorem k_tree_Tree_Back : Ok Try.prog 17 c_tree_Tree_Back 98 [(6, 21), (12, 14), (13, 7), (10, 13)] [.tmp 4] := Ok.mk' Try.func17 (by kernel_rfl) (by kernel_rfl) (by kernel_rfl)

abbrev f_tree_Tree_Lookup : Nat := 29
def c_tree_Tree_Lookup_L0 : Cd :=
 (.seq (.rg [⟨none, [(some 31, .nxt (.t 30)), (some 32, .ext (.t 31) 0)]⟩] [0, 2, 8, 30, 32])
 (.seq (.ite (.t 32)
 .skip
 (.exit 0))
 (.block 1 (.seq (.rg [⟨none, [(some 33, .ent (.t 30)), (some 34, .ext (.t 33) 0), (some 9, .mv (.t 34))]⟩] [0, 2, 8, 9, 30])
 (.seq (.rg [⟨none, [(some 35, .mv (.t 0)), (some 36, .nilc (.t 35)), (some 37, .fldA (.t 36) 0 0), (some 38, .ld (.t 37) 1 false), (some 39, .mv (.t 9)), (some 40, .mlk (some .i64) (.t 38) (.t 39) (.pointer none) false), (some 41, .nilc (.t 40)), (some 42, .fldA (.t 41) 0 0), (some 43, .fldA (.t 42) 1 1), (some 44, .ld (.t 43) 1 false), (some 45, .mv (.t 2)), (some 46, .bin .eql (.t 44) (.t 45)), (some 47, .mv (.t 46))]⟩, ⟨some (47, true), [(some 48, .mv (.t 8)), (some 49, .bin .eql (.t 48) (.c (.int .i64 0))), (some 50, .mv (.t 49))]⟩, ⟨some (50, false), [(some 51, .mv (.t 9)), (some 52, .mv (.t 8)), (some 53, .bin .lss (.t 51) (.t 52))]⟩, ⟨some (47, true), [(some 54, .pick (.t 50) (.c (.bool true)) (.t 53))]⟩, ⟨none, [(some 55, .pick (.t 47) (.t 54) (.c (.bool false)))]⟩] [0, 2, 8, 9, 30, 55])
 (.ite (.t 55)
 (.rg [⟨none, [(some 56, .mv (.t 9)), (some 8, .mv (.t 56))]⟩] [0, 2, 8, 30])
 .skip))))))
def c_tree_Tree_Lookup : Cd :=
 (.seq (.rg [⟨none, [(some 6, .mv (.c (.int .i64 0))), (some 7, .mv (.c (.bool false)))]⟩] [0, 1, 2])
 (.seq (.rg [⟨none, [(some 8, .mv (.c (.int .i64 0)))]⟩] [0, 1, 2, 8])
 (.seq (.seq (.rg [⟨none, [(some 10, .mv (.t 0)), (some 11, .call 34 [(.t 10)]), (some 12, .mv (.t 11))]⟩, ⟨some (12, false), [(some 13, .mv (.t 0)), (some 14, .nilc (.t 13)), (some 15, .fldA (.t 14) 0 0), (some 16, .ld (.t 15) 1 false), (some 17, .mv (.t 1)), (some 18, .mlk (some .i64) (.t 16) (.t 17) (.pointer none) false), (some 19, .eqA false 90 (.t 18) (.c (.pointer none)))]⟩, ⟨none, [(some 20, .pick (.t 12) (.c (.bool true)) (.t 19))]⟩] [0, 1, 2, 8, 20])
 (.ite (.t 20)
 (.seq (.rg [⟨none, [(some 6, .mv (.c (.int .i64 0))), (some 7, .mv (.c (.bool false)))]⟩] [6, 7])
 .ret)
 .skip))
 (.seq (.seq (.rg [⟨none, [(some 21, .mv (.t 0)), (some 22, .nilc (.t 21)), (some 23, .fldA (.t 22) 0 0), (some 24, .ld (.t 23) 1 false), (some 25, .mv (.t 1)), (some 26, .mlk (some .i64) (.t 24) (.t 25) (.pointer none) false), (some 27, .nilc (.t 26)), (some 28, .fldA (.t 27) 2 3), (some 29, .ld (.t 28) 1 false), (some 30, .rng (some .i64) (.t 29))]⟩] [0, 2, 8, 30])
 (.block 0 (.loop c_tree_Tree_Lookup_L0)))
 (.seq (.rg [⟨none, [(some 57, .mv (.t 8)), (some 58, .mv (.t 8)), (some 59, .bin .neq (.t 58) (.c (.int .i64 0))), (some 6, .mv (.t 57)), (some 7, .mv (.t 59))]⟩] [6, 7])
 .ret)))))
theorem k_tree_Tree_Lookup : Ok Try.prog 29 c_tree_Tree_Lookup 60 [] [.tmp 6, .tmp 7] := Ok.mk' Try.func29 (by kernel_rfl) (by kernel_rfl) (by kernel_rfl)

abbrev f_law12_begun : Nat := 9
def c_law12_begun : Cd :=
 (.seq (.rg [⟨none, [(some 0, .mv (.c (.bool false)))]⟩] [])
 (.seq (.rg [⟨none, [(some 6, .call 33 []), (some 1, .mv (.t 6))]⟩] [1])
 (.seq (.seq (.rg [⟨none, [(some 7, .mv (.t 1)), (some 8, .eqA false 25 (.t 7) (.c (.pointer none)))]⟩] [1, 8])
 (.ite (.t 8)
 (.seq (.rg [⟨none, [(some 0, .mv (.c (.bool false)))]⟩] [0])
 .ret)
 .skip))
 (.seq (.rg [⟨none, [(some 10, .mv (.t 1)), (some 11, .bld (.c (.c (.s (.int .i64 0)) (.c (.s (.int .i64 0)) .u)) (.c (.s (.int .i64 0)) (.c (.s (.int .i64 0)) (.c (.s (.int .i64 0)) (.c (.s (.string ⟨#[]⟩)) (.c (.s (.string ⟨#[]⟩)) (.c (.s (.string ⟨#[]⟩)) .u))))))) [(1, (.c (.int .i64 1))), (2, (.c (.int .i64 5))), (3, (.c (.int .i64 1))), (4, (.c (.string ⟨#[97]⟩)))]), (some 12, .call 16 [(.t 10), (.t 11)]), (some 9, .mv (.t 12)), (some 13, .ext (.t 9) 0), (some 14, .ext (.t 9) 1), (some 2, .new 41 (.c (.s (.pointer none)) (.c (.s (.int .i64 0)) (.c (.c (.c (.s (.int .i64 0)) (.c (.s (.int .i64 0)) .u)) (.c (.s (.int .i64 0)) (.c (.s (.int .i64 0)) (.c (.s (.int .i64 0)) (.c (.s (.string ⟨#[]⟩)) (.c (.s (.string ⟨#[]⟩)) (.c (.s (.string ⟨#[]⟩)) .u))))))) (.c (.c (.s (.int .i64 0)) (.c (.s (.string ⟨#[]⟩)) .u)) (.c (.s (.string ⟨#[]⟩)) .u)))))), (none, .st (.t 2) (.t 13) 13), (some 3, .mv (.t 14))]⟩] [1, 3])
 (.seq (.rg [⟨none, [(some 16, .mv (.t 1)), (some 17, .call 29 [(.t 16), (.c (.int .i64 1)), (.c (.string ⟨#[97]⟩))]), (some 15, .mv (.t 17)), (some 18, .ext (.t 15) 0), (some 19, .ext (.t 15) 1), (some 4, .mv (.t 18)), (some 5, .mv (.t 19))]⟩] [1, 3, 4, 5])
 (.seq (.rg [⟨none, [(some 20, .mv (.t 3)), (some 21, .mv (.t 20))]⟩, ⟨some (21, true), [(some 22, .mv (.t 5))]⟩, ⟨none, [(some 23, .pick (.t 21) (.t 22) (.c (.bool false))), (some 24, .mv (.t 23))]⟩, ⟨some (24, true), [(some 25, .mv (.t 4)), (some 26, .bin .eql (.t 25) (.c (.int .i64 5)))]⟩, ⟨none, [(some 27, .pick (.t 24) (.t 26) (.c (.bool false))), (some 28, .mv (.t 27))]⟩, ⟨some (28, true), [(some 29, .mv (.t 1)), (some 30, .call 14 [(.t 29)]), (some 31, .bin .eql (.t 30) (.c (.int .i64 3)))]⟩, ⟨none, [(some 32, .pick (.t 28) (.t 31) (.c (.bool false))), (some 0, .mv (.t 32))]⟩] [0])
 .ret))))))
theorem k_law12_begun : Ok Try.prog 9 c_law12_begun 33 [] [.tmp 0] := Ok.mk' Try.func9 (by kernel_rfl) (by kernel_rfl) (by kernel_rfl)

abbrev f_law12_TreeNames : Nat := 3
def c_law12_TreeNames : Cd :=
 (.seq (.rg [⟨none, [(some 2, .mv (.c (.bool false)))]⟩] [0])
 (.seq (.rg [⟨none, [(some 3, .call 9 []), (some 4, .mv (.t 3))]⟩, ⟨some (4, true), [(some 5, .mv (.t 0)), (some 6, .call 10 [(.t 5)]), (some 7, .mv (.t 0)), (some 8, .call 11 [(.t 7)]), (some 9, .eqA false 4 (.t 6) (.t 8))]⟩, ⟨none, [(some 10, .pick (.t 4) (.t 9) (.c (.bool false))), (some 2, .mv (.t 10))]⟩] [2])
 .ret))
theorem k_law12_TreeNames : Ok Try.prog 3 c_law12_TreeNames 11 [] [.tmp 2] := Ok.mk' Try.func3 (by kernel_rfl) (by kernel_rfl) (by kernel_rfl)

end Go.Proofs.Ytdpknchgoeboaaa.Vc
