/- Part 5 of what a law of this seat rests on. -/
import Derived.Test.YtmjiojflncffeaaGreatProg
import Derived.RangeFuncKeeps
import Derived.Shelf.Abstract
import Derived.Test.YtmjiojflncffeaaGreatZOa74
set_option linter.unusedVariables false
set_option maxRecDepth 100000
namespace Go.Proofs.YtmjiojflncffeaaGreat.Vc
open Go Go.Proofs
abbrev zul:Nat:=102
def znQ:Cd:=
 (.seq (.rg [⟨none,[(some 0, .mv (.c (.pointer none)))]⟩] [])
 (.seq (.rg [⟨none,[(some 1, .bld (.c (.s (.int .i64 0)) (.c (.s (.int .i64 0)) (.c (.s (.string ⟨#[]⟩)) (.c (.s (.slice none 0 0)) .u)))) [(0,(.c (.int .i64 1)))]),(some 2, .bld (.c (.s (.int .i64 0)) (.c (.s (.int .i64 0)) (.c (.s (.string ⟨#[]⟩)) (.c (.s (.slice none 0 0)) .u)))) [(0,(.c (.int .i64 2)))]),(some 3, .bldS 49 4 (.c (.s (.int .i64 0)) (.c (.s (.int .i64 0)) (.c (.s (.string ⟨#[]⟩)) (.c (.s (.slice none 0 0)) .u)))) [(.t 1),(.t 2)]),(none, .gh),(some 4, .bld (.c (.s (.slice none 0 0)) (.c (.s (.slice none 0 0)) .u)) [(0,(.t 3))]),(some 5, .box 163 (.t 4)),(none, .gh),(some 0, .mv (.t 5))]⟩] [0])
 .ret))
theorem zug:Ok Tryz.prog 102 znQ 6 [] [.tmp 0]:=Ok.mk' Tryz.func102 (by kernel_rfl) (by kernel_rfl) (by kernel_rfl)
abbrev zey:Nat:=107
def zfr:Cd:=
 (.seq (.seq (.rg [⟨none,[(some 7, .mv (.t 6)),(some 8, .mv (.t 0)),(some 9, .nilc (.t 8)),(some 10, .fldA (.t 9) 0 0),(some 11, .ld (.t 10) 1 false),(some 12, .len (.t 11)),(some 13, .bin .lss (.t 7) (.t 12)),(some 14, .mv (.t 13))]⟩,⟨some (14,true),[(some 15, .mv (.t 0)),(some 16, .nilc (.t 15)),(some 17, .fldA (.t 16) 0 0),(some 18, .ld (.t 17) 1 false),(some 19, .mv (.t 6)),(some 20, .idxS (.t 18) (.t 19) 4),(some 21, .fldA (.t 20) 0 0),(some 22, .ld (.t 21) 1 false),(some 23, .mv (.t 1)),(some 24, .bin .lss (.t 22) (.t 23))]⟩,⟨none,[(some 25, .pick (.t 14) (.t 24) (.c (.bool false)))]⟩] [0,1,6,25])
 (.ite (.t 25)
 .skip
 (.exit 0)))
 (.block 1 (.rg [⟨none,[(some 26, .mv (.t 6)),(some 27, .bin .add (.t 26) (.c (.int .i64 1))),(some 6, .mv (.t 27))]⟩] [0,1,6])))
def zhj:Cd:=
 (.seq (.rg [⟨none,[(some 4, .mv (.c (.int .i64 0))),(some 5, .mv (.c (.bool false)))]⟩] [0,1])
 (.seq (.rg [⟨none,[(some 6, .mv (.c (.int .i64 0)))]⟩] [0,1,6])
 (.seq (.block 0 (.loop zfr))
 (.seq (.rgq [⟨none,[(some 28, .mv (.t 6)),(some 29, .mv (.t 6)),(some 30, .mv (.t 0)),(some 31, .nilc (.t 30)),(some 32, .fldA (.t 31) 0 0),(some 33, .ld (.t 32) 1 false),(some 34, .len (.t 33)),(some 35, .bin .lss (.t 29) (.t 34)),(some 36, .mv (.t 35))]⟩,⟨some (36,true),[(some 37, .mv (.t 0)),(some 38, .nilc (.t 37)),(some 39, .fldA (.t 38) 0 0),(some 40, .ld (.t 39) 1 false),(some 41, .mv (.t 6)),(some 42, .idxS (.t 40) (.t 41) 4),(some 43, .fldA (.t 42) 0 0),(some 44, .ld (.t 43) 1 false),(some 45, .mv (.t 1)),(some 46, .bin .eql (.t 44) (.t 45))]⟩,⟨none,[(some 47, .pick (.t 36) (.t 46) (.c (.bool false))),(some 4, .mv (.t 28))]⟩] [⟨none,[(some 5, .mv (.t 47))]⟩] [4,5])
 .ret))))
theorem zmv:Ok Tryz.prog 107 zhj 48 [(4,21)] [.tmp 4, .tmp 5]:=Ok.mk' Tryz.func107 (by kernel_rfl) (by kernel_rfl) (by kernel_rfl)
abbrev zkC:Nat:=106
def zhT:Cd:=
 (.seq (.seq (.rg [⟨none,[(some 6, .mv (.t 4)),(some 7, .mv (.t 0)),(some 8, .len (.t 7)),(some 9, .bin .lss (.t 6) (.t 8))]⟩] [0,3,4,9])
 (.ite (.t 9)
 .skip
 (.exit 0)))
 (.seq (.block 1 (.seq (.rg [⟨none,[(some 12, .mv (.t 0)),(some 13, .mv (.t 4)),(some 14, .idxS (.t 12) (.t 13) 4),(some 15, .ld (.t 14) 4 true),(some 5, .new 49 (.c (.s (.int .i64 0)) (.c (.s (.int .i64 0)) (.c (.s (.string ⟨#[]⟩)) (.c (.s (.slice none 0 0)) .u))))),(none, .st (.t 5) (.t 15) 4)]⟩] [0,3,4,5])
 (.seq (.rg [⟨none,[(some 16, .fldA (.t 5) 3 3),(some 17, .ld (.t 16) 1 false),(none, .gh),(some 18, .app 75 2 32 (.c (.s (.string ⟨#[]⟩)) (.c (.s (.string ⟨#[]⟩)) .u)) (.c (.slice none 0 0)) (.t 17)),(none, .gh),(some 19, .fldA (.t 5) 3 3),(none, .st (.t 19) (.t 18) 1)]⟩] [0,3,4,5])
 (.rg [⟨none,[(some 20, .mv (.t 3)),(some 21, .ld (.t 5) 4 true),(some 22, .bldS 49 4 (.c (.s (.int .i64 0)) (.c (.s (.int .i64 0)) (.c (.s (.string ⟨#[]⟩)) (.c (.s (.slice none 0 0)) .u)))) [(.t 21)]),(some 23, .app 49 4 56 (.c (.s (.int .i64 0)) (.c (.s (.int .i64 0)) (.c (.s (.string ⟨#[]⟩)) (.c (.s (.slice none 0 0)) .u)))) (.t 20) (.t 22)),(some 3, .mv (.t 23))]⟩] [0,3,4]))))
 (.rg [⟨none,[(some 10, .mv (.t 4)),(some 11, .bin .add (.t 10) (.c (.int .i64 1))),(some 4, .mv (.t 11))]⟩] [0,3,4])))
def zkE:Cd:=
 (.seq (.rg [⟨none,[(some 2, .mv (.c (.slice none 0 0)))]⟩] [0])
 (.seq (.rg [⟨none,[(some 3, .mv (.c (.slice none 0 0)))]⟩] [0,3])
 (.seq (.seq (.rg [⟨none,[(none, .gh),(some 4, .mv (.c (.int .i64 0)))]⟩] [0,3,4])
 (.block 0 (.loop zhT)))
 (.seq (.rg [⟨none,[(some 24, .mv (.t 3)),(none, .gh),(some 2, .mv (.t 24))]⟩] [2])
 .ret))))
theorem zqX:Ok Tryz.prog 106 zkE 25 [] [.tmp 2]:=Ok.mk' Tryz.func106 (by kernel_rfl) (by kernel_rfl) (by kernel_rfl)
abbrev znJ:Nat:=105
def zhu:Cd:=
 (.seq (.rg [⟨none,[(some 3, .box 49 (.t 1))]⟩] [0,3])
 (.seq (.rg [⟨none,[(some 8, .mv (.t 0)),(some 9, .fldA (.t 3) 0 0),(some 10, .ld (.t 9) 1 false),(some 11, .call 107 [(.t 8),(.t 10)]),(some 7, .mv (.t 11)),(some 12, .ext (.t 7) 0),(some 13, .ext (.t 7) 1),(some 4, .mv (.t 12)),(some 5, .mv (.t 13))]⟩] [0,3,4,5])
 (.seq (.seq (.rg [⟨none,[(some 14, .mv (.t 5))]⟩] [0,3,4,14])
 (.ite (.t 14)
 (.seq (.rgq [⟨none,[(some 15, .mv (.t 0)),(some 16, .nilc (.t 15)),(some 17, .fldA (.t 16) 0 0),(some 18, .ld (.t 17) 1 false),(some 19, .mv (.t 4)),(some 20, .ld (.t 3) 4 true)]⟩] [⟨none,[(some 21, .idxS (.t 18) (.t 19) 4),(none, .st (.t 21) (.t 20) 4)]⟩] [])
 .ret)
 .skip))
 (.seq (.rg [⟨none,[(some 22, .mv (.t 0)),(some 23, .nilc (.t 22)),(some 24, .fldA (.t 23) 0 0),(some 25, .ld (.t 24) 1 false),(some 26, .mv (.t 4)),(some 27, .sl 4 (.t 25) none (some (.t 26))),(none, .gh),(none, .gh),(some 28, .app 49 4 56 (.c (.s (.int .i64 0)) (.c (.s (.int .i64 0)) (.c (.s (.string ⟨#[]⟩)) (.c (.s (.slice none 0 0)) .u)))) (.c (.slice none 0 0)) (.t 27)),(some 6, .mv (.t 28))]⟩] [0,3,4,6])
 (.seq (.rg [⟨none,[(some 29, .mv (.t 6)),(some 30, .ld (.t 3) 4 true),(some 31, .bldS 49 4 (.c (.s (.int .i64 0)) (.c (.s (.int .i64 0)) (.c (.s (.string ⟨#[]⟩)) (.c (.s (.slice none 0 0)) .u)))) [(.t 30)]),(some 32, .app 49 4 56 (.c (.s (.int .i64 0)) (.c (.s (.int .i64 0)) (.c (.s (.string ⟨#[]⟩)) (.c (.s (.slice none 0 0)) .u)))) (.t 29) (.t 31)),(some 6, .mv (.t 32))]⟩] [0,4,6])
 (.rg [⟨none,[(some 33, .mv (.t 0)),(some 34, .mv (.t 6)),(some 35, .mv (.t 0)),(some 36, .nilc (.t 35)),(some 37, .fldA (.t 36) 0 0),(some 38, .ld (.t 37) 1 false),(some 39, .mv (.t 4)),(some 40, .sl 4 (.t 38) (some (.t 39)) none),(none, .gh),(some 41, .app 49 4 56 (.c (.s (.int .i64 0)) (.c (.s (.int .i64 0)) (.c (.s (.string ⟨#[]⟩)) (.c (.s (.slice none 0 0)) .u)))) (.t 34) (.t 40)),(none, .gh),(some 42, .nilc (.t 33)),(some 43, .fldA (.t 42) 0 0),(none, .st (.t 43) (.t 41) 1)]⟩] []))))))
theorem znd:Ok Tryz.prog 105 zhu 44 [(3,6)] []:=Ok.mk' Tryz.func105 (by kernel_rfl) (by kernel_rfl) (by kernel_rfl)
abbrev zkQ:Nat:=103
def zhF:Cd:=
 (.seq (.seq (.rg [⟨none,[(some 4, .mv (.t 3)),(some 5, .mv (.t 0)),(some 6, .len (.t 5)),(some 7, .bin .lss (.t 4) (.t 6))]⟩] [0,3,7])
 (.ite (.t 7)
 .skip
 (.exit 0)))
 (.seq (.block 1 (.seq (.rgq [⟨none,[(some 10, .mv (.t 0)),(some 11, .mv (.t 3)),(some 12, .idxS (.t 10) (.t 11) 2),(some 13, .fldA (.t 12) 0 0),(some 14, .ld (.t 13) 1 false),(some 15, .bin .eql (.t 14) (.c (.string ⟨#[]⟩))),(some 16, .mv (.t 15))]⟩,⟨some (16,false),[(some 17, .mv (.t 0)),(some 18, .mv (.t 3)),(some 19, .idxS (.t 17) (.t 18) 2),(some 20, .fldA (.t 19) 0 0),(some 21, .ld (.t 20) 1 false),(some 22, .lenS (.t 21)),(some 23, .bin .gtr (.t 22) (.c (.int .i64 255)))]⟩,⟨none,[(some 24, .pick (.t 16) (.c (.bool true)) (.t 23)),(some 25, .mv (.t 24))]⟩,⟨some (25,false),[(some 26, .mv (.t 0)),(some 27, .mv (.t 3)),(some 28, .idxS (.t 26) (.t 27) 2),(some 29, .fldA (.t 28) 1 1),(some 30, .ld (.t 29) 1 false),(some 31, .bin .eql (.t 30) (.c (.string ⟨#[]⟩)))]⟩,⟨none,[(some 32, .pick (.t 25) (.c (.bool true)) (.t 31)),(some 33, .mv (.t 32))]⟩,⟨some (33,false),[(some 34, .mv (.t 0)),(some 35, .mv (.t 3)),(some 36, .idxS (.t 34) (.t 35) 2),(some 37, .fldA (.t 36) 1 1),(some 38, .ld (.t 37) 1 false),(some 39, .lenS (.t 38)),(some 40, .bin .gtr (.t 39) (.c (.int .i64 255)))]⟩,⟨none,[(some 41, .pick (.t 33) (.c (.bool true)) (.t 40)),(some 42, .mv (.t 41))]⟩,⟨some (42,false),[(some 43, .mv (.t 3)),(some 44, .bin .gtr (.t 43) (.c (.int .i64 0))),(some 45, .mv (.t 44))]⟩,⟨some (45,true),[(some 46, .mv (.t 0)),(some 47, .mv (.t 3)),(some 48, .idxS (.t 46) (.t 47) 2),(some 49, .fldA (.t 48) 0 0),(some 50, .ld (.t 49) 1 false),(some 51, .mv (.t 0)),(some 52, .mv (.t 3)),(some 53, .bin .sub (.t 52) (.c (.int .i64 1))),(some 54, .idxS (.t 51) (.t 53) 2),(some 55, .fldA (.t 54) 0 0),(some 56, .ld (.t 55) 1 false)]⟩] [⟨some (45,true),[(some 57, .bin .leq (.t 50) (.t 56))]⟩,⟨some (42,false),[(some 58, .pick (.t 45) (.t 57) (.c (.bool false)))]⟩,⟨none,[(some 59, .pick (.t 42) (.c (.bool true)) (.t 58))]⟩] [0,3,59])
 (.ite (.t 59)
 (.seq (.rg [⟨none,[(some 2, .mv (.c (.bool false)))]⟩] [2])
 .ret)
 .skip)))
 (.rg [⟨none,[(some 8, .mv (.t 3)),(some 9, .bin .add (.t 8) (.c (.int .i64 1))),(some 3, .mv (.t 9))]⟩] [0,3])))
def zkA:Cd:=
 (.seq (.rg [⟨none,[(some 2, .mv (.c (.bool false)))]⟩] [0])
 (.seq (.seq (.rg [⟨none,[(some 3, .mv (.c (.int .i64 0)))]⟩] [0,3])
 (.block 0 (.loop zhF)))
 (.seq (.rg [⟨none,[(some 2, .mv (.c (.bool true)))]⟩] [2])
 .ret)))
theorem zqW:Ok Tryz.prog 103 zkA 60 [(4,47)] [.tmp 2]:=Ok.mk' Tryz.func103 (by kernel_rfl) (by kernel_rfl) (by kernel_rfl)
abbrev zuL:Nat:=136
def zjv:Cd:=
 (.seq (.seq (.rg [⟨none,[(some 12, .mv (.t 9)),(some 13, .mv (.t 0)),(some 14, .len (.t 13)),(some 15, .bin .lss (.t 12) (.t 14))]⟩] [0,1,2,7,8,9,15])
 (.ite (.t 15)
 .skip
 (.exit 0)))
 (.seq (.block 1 (.seq (.seq (.rg [⟨none,[(some 18, .mv (.t 8)),(some 19, .un .not (.t 18)),(some 20, .mv (.t 19))]⟩,⟨some (20,true),[(some 21, .mv (.t 0)),(some 22, .mv (.t 9)),(some 23, .idxS (.t 21) (.t 22) 2),(some 24, .fldA (.t 23) 0 0),(some 25, .ld (.t 24) 1 false),(some 26, .mv (.t 1)),(some 27, .bin .geq (.t 25) (.t 26))]⟩,⟨none,[(some 28, .pick (.t 20) (.t 27) (.c (.bool false)))]⟩] [0,1,2,7,8,9,28])
 (.ite (.t 28)
 (.seq (.rg [⟨none,[(some 29, .mv (.t 7)),(some 30, .mv (.t 1)),(some 31, .mv (.t 2)),(some 32, .bld (.c (.s (.string ⟨#[]⟩)) (.c (.s (.string ⟨#[]⟩)) .u)) [(0,(.t 30)),(1,(.t 31))]),(some 33, .bldS 75 2 (.c (.s (.string ⟨#[]⟩)) (.c (.s (.string ⟨#[]⟩)) .u)) [(.t 32)]),(some 34, .app 75 2 32 (.c (.s (.string ⟨#[]⟩)) (.c (.s (.string ⟨#[]⟩)) .u)) (.t 29) (.t 33)),(some 7, .mv (.t 34))]⟩] [0,1,2,7,9])
 (.rg [⟨none,[(some 8, .mv (.c (.bool true)))]⟩] [0,1,2,7,8,9]))
 .skip))
 (.seq (.rg [⟨none,[(some 35, .mv (.t 0)),(some 36, .mv (.t 9)),(some 37, .idxS (.t 35) (.t 36) 2),(some 38, .fldA (.t 37) 0 0),(some 39, .ld (.t 38) 1 false),(some 40, .mv (.t 1)),(some 41, .bin .neq (.t 39) (.t 40))]⟩] [0,1,2,7,8,9,41])
 (.ite (.t 41)
 (.rg [⟨none,[(some 42, .mv (.t 7)),(some 43, .mv (.t 0)),(some 44, .mv (.t 9)),(some 45, .idxS (.t 43) (.t 44) 2),(some 46, .ld (.t 45) 2 true),(some 47, .bldS 75 2 (.c (.s (.string ⟨#[]⟩)) (.c (.s (.string ⟨#[]⟩)) .u)) [(.t 46)]),(some 48, .app 75 2 32 (.c (.s (.string ⟨#[]⟩)) (.c (.s (.string ⟨#[]⟩)) .u)) (.t 42) (.t 47)),(some 7, .mv (.t 48))]⟩] [0,1,2,7,8,9])
 .skip))))
 (.rg [⟨none,[(some 16, .mv (.t 9)),(some 17, .bin .add (.t 16) (.c (.int .i64 1))),(some 9, .mv (.t 17))]⟩] [0,1,2,7,8,9])))
def zoc:Cd:=
 (.seq (.rg [⟨none,[(some 6, .mv (.c (.slice none 0 0)))]⟩] [0,1,2])
 (.seq (.rg [⟨none,[(some 7, .mv (.c (.slice none 0 0)))]⟩] [0,1,2,7])
 (.seq (.rg [⟨none,[(none, .gh),(some 10, .mv (.t 2)),(some 11, .bin .eql (.t 10) (.c (.string ⟨#[]⟩))),(some 8, .mv (.t 11))]⟩] [0,1,2,7,8])
 (.seq (.seq (.rg [⟨none,[(some 9, .mv (.c (.int .i64 0)))]⟩] [0,1,2,7,8,9])
 (.block 0 (.loop zjv)))
 (.seq (.seq (.rg [⟨none,[(some 49, .mv (.t 8)),(some 50, .un .not (.t 49))]⟩] [1,2,7,50])
 (.ite (.t 50)
 (.rg [⟨none,[(some 51, .mv (.t 7)),(some 52, .mv (.t 1)),(some 53, .mv (.t 2)),(some 54, .bld (.c (.s (.string ⟨#[]⟩)) (.c (.s (.string ⟨#[]⟩)) .u)) [(0,(.t 52)),(1,(.t 53))]),(some 55, .bldS 75 2 (.c (.s (.string ⟨#[]⟩)) (.c (.s (.string ⟨#[]⟩)) .u)) [(.t 54)]),(some 56, .app 75 2 32 (.c (.s (.string ⟨#[]⟩)) (.c (.s (.string ⟨#[]⟩)) .u)) (.t 51) (.t 55)),(some 7, .mv (.t 56))]⟩] [7])
 .skip))
 (.seq (.rg [⟨none,[(some 57, .mv (.t 7)),(none, .gh),(some 6, .mv (.t 57))]⟩] [6])
 .ret))))))
theorem zuW:Ok Tryz.prog 136 zoc 58 [] [.tmp 6]:=Ok.mk' Tryz.func136 (by kernel_rfl) (by kernel_rfl) (by kernel_rfl)
abbrev znB:Nat:=55
def zdR:Cd:=
 (.seq (.seq (.rg [⟨none,[(some 34, .mv (.t 5)),(some 35, .fldA (.t 2) 3 3),(some 36, .ld (.t 35) 1 false),(some 37, .len (.t 36)),(some 38, .bin .lss (.t 34) (.t 37))]⟩] [2,3,5,38])
 (.ite (.t 38)
 .skip
 (.exit 0)))
 (.seq (.block 1 (.seq (.rgq [⟨none,[(some 41, .fldA (.t 2) 3 3),(some 42, .ld (.t 41) 1 false),(some 43, .mv (.t 5)),(some 44, .idxS (.t 42) (.t 43) 2),(some 45, .ld (.t 44) 2 true),(some 46, .fldA (.t 3) 3 3),(some 47, .ld (.t 46) 1 false),(some 48, .mv (.t 5)),(some 49, .idxS (.t 47) (.t 48) 2),(some 50, .ld (.t 49) 2 true)]⟩] [⟨none,[(some 51, .eqA true 75 (.t 45) (.t 50))]⟩] [2,3,5,51])
 (.ite (.t 51)
 (.seq (.rg [⟨none,[(some 4, .mv (.c (.bool false)))]⟩] [4])
 .ret)
 .skip)))
 (.rg [⟨none,[(some 39, .mv (.t 5)),(some 40, .bin .add (.t 39) (.c (.int .i64 1))),(some 5, .mv (.t 40))]⟩] [2,3,5])))
def zhE:Cd:=
 (.seq (.rg [⟨none,[(some 2, .box 49 (.t 0)),(some 3, .box 49 (.t 1)),(some 4, .mv (.c (.bool false)))]⟩] [2,3])
 (.seq (.seq (.rg [⟨none,[(some 6, .fldA (.t 2) 0 0),(some 7, .ld (.t 6) 1 false),(some 8, .fldA (.t 3) 0 0),(some 9, .ld (.t 8) 1 false),(some 10, .bin .neq (.t 7) (.t 9)),(some 11, .mv (.t 10))]⟩,⟨some (11,false),[(some 12, .fldA (.t 2) 1 1),(some 13, .ld (.t 12) 1 false),(some 14, .fldA (.t 3) 1 1),(some 15, .ld (.t 14) 1 false),(some 16, .bin .neq (.t 13) (.t 15))]⟩,⟨none,[(some 17, .pick (.t 11) (.c (.bool true)) (.t 16)),(some 18, .mv (.t 17))]⟩,⟨some (18,false),[(some 19, .fldA (.t 2) 2 2),(some 20, .ld (.t 19) 1 false),(some 21, .fldA (.t 3) 2 2),(some 22, .ld (.t 21) 1 false),(some 23, .bin .neq (.t 20) (.t 22))]⟩,⟨none,[(some 24, .pick (.t 18) (.c (.bool true)) (.t 23)),(some 25, .mv (.t 24))]⟩,⟨some (25,false),[(some 26, .fldA (.t 2) 3 3),(some 27, .ld (.t 26) 1 false),(some 28, .len (.t 27)),(some 29, .fldA (.t 3) 3 3),(some 30, .ld (.t 29) 1 false),(some 31, .len (.t 30)),(some 32, .bin .neq (.t 28) (.t 31))]⟩,⟨none,[(some 33, .pick (.t 25) (.c (.bool true)) (.t 32))]⟩] [2,3,33])
 (.ite (.t 33)
 (.seq (.rg [⟨none,[(some 4, .mv (.c (.bool false)))]⟩] [4])
 .ret)
 .skip))
 (.seq (.seq (.rg [⟨none,[(some 5, .mv (.c (.int .i64 0)))]⟩] [2,3,5])
 (.block 0 (.loop zdR)))
 (.seq (.rg [⟨none,[(some 4, .mv (.c (.bool true)))]⟩] [4])
 .ret))))
theorem znu:Ok Tryz.prog 55 zhE 52 [(6,10)] [.tmp 4]:=Ok.mk' Tryz.func55 (by kernel_rfl) (by kernel_rfl) (by kernel_rfl)
abbrev zlv:Nat:=20
def ziI:Cd:=
 (.seq (.seq (.rg [⟨none,[(some 11, .mv (.t 5)),(some 12, .mv (.t 0)),(some 13, .len (.t 12)),(some 14, .bin .lss (.t 11) (.t 13))]⟩] [0,1,5,14])
 (.ite (.t 14)
 .skip
 (.exit 0)))
 (.seq (.block 1 (.seq (.rgq [⟨none,[(some 17, .mv (.t 0)),(some 18, .mv (.t 5)),(some 19, .idxS (.t 17) (.t 18) 4),(some 20, .ld (.t 19) 4 true),(some 21, .mv (.t 1)),(some 22, .mv (.t 5)),(some 23, .idxS (.t 21) (.t 22) 4),(some 24, .ld (.t 23) 4 true)]⟩] [⟨none,[(some 25, .call 55 [(.t 20),(.t 24)]),(some 26, .un .not (.t 25))]⟩] [0,1,5,26])
 (.ite (.t 26)
 (.seq (.rg [⟨none,[(some 4, .mv (.c (.bool false)))]⟩] [4])
 .ret)
 .skip)))
 (.rg [⟨none,[(some 15, .mv (.t 5)),(some 16, .bin .add (.t 15) (.c (.int .i64 1))),(some 5, .mv (.t 16))]⟩] [0,1,5])))
def zlA:Cd:=
 (.seq (.rg [⟨none,[(some 4, .mv (.c (.bool false)))]⟩] [0,1])
 (.seq (.seq (.rg [⟨none,[(some 6, .mv (.t 0)),(some 7, .len (.t 6)),(some 8, .mv (.t 1)),(some 9, .len (.t 8)),(some 10, .bin .neq (.t 7) (.t 9))]⟩] [0,1,10])
 (.ite (.t 10)
 (.seq (.rg [⟨none,[(some 4, .mv (.c (.bool false)))]⟩] [4])
 .ret)
 .skip))
 (.seq (.seq (.rg [⟨none,[(some 5, .mv (.c (.int .i64 0)))]⟩] [0,1,5])
 (.block 0 (.loop ziI)))
 (.seq (.rg [⟨none,[(some 4, .mv (.c (.bool true)))]⟩] [4])
 .ret))))
theorem zsP:Ok Tryz.prog 20 zlA 27 [(6,8)] [.tmp 4]:=Ok.mk' Tryz.func20 (by kernel_rfl) (by kernel_rfl) (by kernel_rfl)
abbrev zqV:Nat:=98
def zhx:Cd:=
 (.seq (.seq (.rg [⟨none,[(some 5, .mv (.t 4)),(some 6, .mv (.t 0)),(some 7, .len (.t 6)),(some 8, .bin .lss (.t 5) (.t 7))]⟩] [0,3,4,8])
 (.ite (.t 8)
 .skip
 (.exit 0)))
 (.seq (.block 1 (.seq (.rg [⟨none,[(some 11, .mv (.t 0)),(some 12, .mv (.t 4)),(some 13, .idxS (.t 11) (.t 12) 4),(some 14, .fldA (.t 13) 0 0),(some 15, .ld (.t 14) 1 false),(some 16, .bin .gtr (.t 15) (.c (.int .i64 2))),(some 17, .mv (.t 16))]⟩,⟨some (17,false),[(some 18, .mv (.t 0)),(some 19, .mv (.t 4)),(some 20, .idxS (.t 18) (.t 19) 4),(some 21, .fldA (.t 20) 3 3),(some 22, .ld (.t 21) 1 false),(some 23, .len (.t 22)),(some 24, .bin .gtr (.t 23) (.c (.int .i64 0)))]⟩,⟨none,[(some 25, .pick (.t 17) (.c (.bool true)) (.t 24))]⟩] [0,3,4,25])
 (.ite (.t 25)
 (.rg [⟨none,[(some 26, .mv (.t 3)),(some 27, .mv (.t 0)),(some 28, .mv (.t 4)),(some 29, .idxS (.t 27) (.t 28) 4),(some 30, .ld (.t 29) 4 true),(some 31, .bldS 49 4 (.c (.s (.int .i64 0)) (.c (.s (.int .i64 0)) (.c (.s (.string ⟨#[]⟩)) (.c (.s (.slice none 0 0)) .u)))) [(.t 30)]),(some 32, .app 49 4 56 (.c (.s (.int .i64 0)) (.c (.s (.int .i64 0)) (.c (.s (.string ⟨#[]⟩)) (.c (.s (.slice none 0 0)) .u)))) (.t 26) (.t 31)),(some 3, .mv (.t 32))]⟩] [0,3,4])
 .skip)))
 (.rg [⟨none,[(some 9, .mv (.t 4)),(some 10, .bin .add (.t 9) (.c (.int .i64 1))),(some 4, .mv (.t 10))]⟩] [0,3,4])))
def zkI:Cd:=
 (.seq (.rg [⟨none,[(some 2, .mv (.c (.slice none 0 0)))]⟩] [0])
 (.seq (.rg [⟨none,[(some 3, .mv (.c (.slice none 0 0)))]⟩] [0,3])
 (.seq (.seq (.rg [⟨none,[(none, .gh),(some 4, .mv (.c (.int .i64 0)))]⟩] [0,3,4])
 (.block 0 (.loop zhx)))
 (.seq (.rg [⟨none,[(some 33, .mv (.t 3)),(some 34, .call 106 [(.t 33)]),(some 2, .mv (.t 34))]⟩] [2])
 .ret))))
theorem zqQ:Ok Tryz.prog 98 zkI 35 [] [.tmp 2]:=Ok.mk' Tryz.func98 (by kernel_rfl) (by kernel_rfl) (by kernel_rfl)
abbrev zlg:Nat:=69
def zgt:Cd:=
 (.seq (.rg [⟨none,[(some 2, .mv (.c (.slice none 0 0)))]⟩] [0])
 (.seq (.rg [⟨none,[(some 3, .mv (.t 0)),(some 4, .nilc (.t 3)),(some 5, .fldA (.t 4) 0 0),(some 6, .ld (.t 5) 1 false),(some 7, .call 98 [(.t 6)]),(some 2, .mv (.t 7))]⟩] [2])
 .ret))
theorem zln:Ok Tryz.prog 69 zgt 8 [] [.tmp 2]:=Ok.mk' Tryz.func69 (by kernel_rfl) (by kernel_rfl) (by kernel_rfl)
end Go.Proofs.YtmjiojflncffeaaGreat.Vc

set_option linter.unusedVariables false
set_option linter.unusedSimpArgs false
set_option maxRecDepth 100000
namespace Go.Proofs.YtmjiojflncffeaaGreat.Vc
open Go Go.Proofs
theorem SlR.spot {u:PH} {a:Option Addr} {n c z:Nat} {xs:List GV} (h:SlR u (.slice a n c) z xs) (hne:0<xs.length):
  ∃b o,a=some ⟨b,o,none⟩∧n=xs.length∧n≤c∧∀{C:Ctx} {ph:List PH} {m:PH},KN C.u0 (m::ph) u→∀i x,xs[i]? =some x→zce C ph m b (o+i*z) x:=by
 rcases h.shape with ⟨h1,_⟩|⟨_,b,o,c',h1,h2,h3⟩
 ·subst h1;simp at hne
 ·simp only [Value.slice.injEq]at h1
  obtain ⟨rfl,rfl,rfl⟩:=h1
  exact ⟨b,o,rfl,rfl,h2,h3⟩
theorem zdV {C:Ctx} {ph:List PH} {m:PH} {b o:Nat} {x y:GV} (h:zce C ph m b o (.c x y)):zce C ph m b o x:=by
 obtain ⟨h1,cs,e,fz,h2,h3⟩:=h
 exact ⟨h1.1,cs,e,fz,h2,fun j v hj=>h3 j v (by
  rw [GV.flat,List.getElem?_append_left (List.getElem?_eq_some_iff.1 hj).1];exact hj)⟩
theorem zps {C:Ctx} {ph:List PH} {m:PH} {b o k:Nat} {x y:GV} (h:zce C ph m b o (.c x y)) (hk:k=o+x.sz):zce C ph m b k y:=by
 obtain ⟨h1,cs,e,fz,h2,h3⟩:=h
 subst hk
 exact ⟨h1.2,cs,e,fz,h2,fun j v hj=>by
  have:=h3 (x.sz+j) v (by
   rw [GV.flat,List.getElem?_append_right (by rw [GV.flat_len x h1.1];omega),GV.flat_len x h1.1,Nat.add_sub_cancel_left];exact hj)
  rw [Nat.add_assoc];exact this⟩
theorem zmg {C:Ctx} {ph:List PH} {m:PH} {b o:Nat} {t:TreeNode} (h:zce C ph m b o (zl t)):zce C ph m b o (.s (.int .i64 t.node))∧zce C ph m b (o+1) (.s (.int .i64 t.parent))∧zce C ph m b (o+2) (.s (.string t.name))∧zce C ph m b (o+3) (.s t.attrs):=by
 have h1:=zps (k:=o+1) h rfl
 have h2:=zps (k:=o+2) h1 rfl
 have h3:=zps (k:=o+3) h2 rfl
 exact ⟨zdV h,zdV h1,zdV h2,zdV h3⟩
theorem zlY {u:PH} {t:TreeNode} {l:List Attr} (h:SlR u t.attrs 2 (l.map zap)):t.attrs.oneCell'=true:=by
 rcases h.2 with ⟨e,_⟩|⟨ad,c,e,_⟩<;>rw [e]<;>rfl
theorem zqt (w:World) (t1 t2:TreeNode) (a b:TN) (u:PH) (hu:u.le w) (h1:t1.node=a.node∧t1.parent=a.parent∧t1.name=a.name∧SlR u t1.attrs 2 (a.attrs.map zap)) (h2:t2.node=b.node∧t2.parent=b.parent∧t2.name=b.name∧SlR u t2.attrs 2 (b.attrs.map zap))
  (hb:a.attrs.length≤140737488355328):
  Spec Tryz.prog znB [(zl t1).val,(zl t2).val] PH.no w fun rs _=>rs=[.s (.bool (decide (a=b)))]:=by
 refine zbE znu (Qf:=fun rs=>rs=[.s (.bool (decide (a=b)))]) [.g (zl t1), .g (zl t2)] (by simp) (by simp [AV.ok,zfV t1 (zlY h1.2.2.2),zfV t2 (zlY h2.2.2.2)]) ?_
 obtain ⟨n1,p1,m1,la⟩:=a
 obtain ⟨n2,p2,m2,lb⟩:=b
 obtain ⟨n1',p1',m1',v1⟩:=t1
 obtain ⟨n2',p2',m2',v2⟩:=t2
 obtain ⟨e1,e2,e3,h1⟩:=h1
 obtain ⟨g1,g2,g3,h2⟩:=h2
 simp only at e1 e2 e3 g1 g2 g3 h1 h2 hb
 subst e1;subst e2;subst e3;subst g1;subst g2;subst g3
 obtain ⟨a1,c1,hv1⟩:=zch h1
 obtain ⟨a2,c2,hv2⟩:=zch h2
 rw [List.length_map]at hv1 hv2
 subst hv1;subst hv2
 simp (maxSteps:=2000000) only [zhE,zu,zx,zi,zB,zm,zq,zf,zp,zc,zb,zh,zH,ze,za,zj,RO.isGh,zI,zar,ev,look,zZ,zd,zg,zk,zO,zP,GV.getT,Value.oneCell',cond_true,cond_false,Nat.reduceEqDiff,↓reduceIte,reduceCtorEq,List.nil_append,Nat.zero_add,Bool.true_and,Bool.not_false,true_and,zak,zaK,zD,zal,zC,↓zL,↓zbW,↓zN,zax,zdE,zn,zF,zbQ,zaZ,zcc,zbC,zbt,zaX,zaV,zaG]
 refine ⟨fun k1=>⟨fun k2=>⟨fun k3=>⟨fun k4=> ?_,fun k4=> ?_⟩,fun k3=> ?_⟩,fun k2=> ?_⟩,fun k1=> ?_⟩
 ·rw [bne_iff_ne]at k4
  rw [decide_eq_false fun e=>k4 (by cases e;rfl)]
 ·rw [bne_eq_false_iff_eq]at k1 k2 k4
  simp only [Bool.not_eq_false',decide_eq_true_eq]at k3
  have hll:la.length=lb.length:=by omega
  subst k1;subst k2;subst k3
  refine zaP (ι:=Nat) (fun i=>⟨[(2, .ref 2 []),(3, .ref 3 []),(5, .g (.s (.int .i64 (i))))],[(2, .box (zl ⟨n1',p1',m1', .slice a1 la.length c1⟩)),(3, .box (zl ⟨n1',p1',m1', .slice a2 lb.length c2⟩))],[],PH.no⟩) (fun i=>i≤la.length∧la.take i=lb.take i) (fun i=>la.length - i) 0 (by simp) (zR ?_ ?_ rfl rfl rfl) ?_
  ·simp [zaf,look]
  ·simp [zam,look]
  rintro i ⟨hi,hj⟩
  generalize hQ:loopQ _ _ _ _ _=Q
  by_cases hlt:i<la.length
  ·obtain ⟨b1,o1,rfl,_,_,s1⟩:=h1.spot (by simp;omega)
   obtain ⟨b2,o2,rfl,_,_,s2⟩:=h2.spot (by simp;omega)
   have hx1:(la.map zap)[i]? =some (zap (la.getD i zcU)):=by rw [List.getElem?_map,List.getD_eq_getElem?_getD,List.getElem?_eq_getElem hlt];rfl
   have hx2:(lb.map zap)[i]? =some (zap (lb.getD i zcU)):=by rw [List.getElem?_map,List.getD_eq_getElem?_getD,List.getElem?_eq_getElem (by omega)];rfl
   simp (maxSteps:=2000000) only [zdR,zu,zau,zi,zB,zm,zbh,zq,zf,zay,zc,zb,zh,ze,za,zaq,zw,zX,zj,zaD,ev,look,zd,zg,zk,zO,zP,GV.getT,Nat.reduceEqDiff,↓reduceIte,List.nil_append,Bool.true_and,Bool.not_false,true_and,Int.toNat_natCast,decide_eq_true_eq,decide_eq_false_iff_not,zax,zn,zF,zaV,zaG]
   refine ⟨fun _=>⟨⟨by omega,by omega⟩,zJ _ (s1 (zdy hu) i _ hx1) (zhY _) ?_⟩,fun h=>absurd (show (i:Int)<la.length by omega) h⟩
   simp (maxSteps:=2000000) only [zw,zX,zj,zaD,ev,look,zd,GV.getT,Nat.reduceEqDiff,↓reduceIte,List.nil_append,Bool.true_and,Bool.not_false,true_and,Int.toNat_natCast,zn,zF,zaV,zaG]
   refine ⟨⟨by omega,by omega⟩,zJ _ (s2 (zdy hu) i _ hx2) (zhY _) ?_⟩
   simp (maxSteps:=2000000) only [zh,za,zM,zU,zj,ev,look,zd,Nat.reduceEqDiff,↓reduceIte]
   refine zcH (zzp _ _) ?_
   simp (maxSteps:=2000000) only [Bool.not_eq_true',Bool.not_eq_false',decide_eq_false_iff_not,decide_eq_true_eq,zu,zx,zi,zm,zq,zf,zp,zT,zy,zc,zb,zh,ze,za,zj,ev,look,zd,zg,zk,zO,zP,Value.oneCell',cond_true,Nat.reduceEqDiff,↓reduceIte,Bool.true_and,true_and,decide_eq_true_eq,decide_eq_false_iff_not,zax,Bool.bne_true]
   refine ⟨fun hne=> ?_,fun he=> ?_⟩
   ·subst hQ
    simp (maxSteps:=2000000) only [zp,zy,zah,look,↓reduceIte,zD,zal,zC]
    rw [decide_eq_false fun e=>hne (by cases e;rfl)]
   ·subst hQ;simp only [zaB];refine ⟨i+1, ?_, ?_,zR ?_ ?_ rfl rfl rfl⟩
    ·refine ⟨by omega, ?_⟩
     rw [List.take_add_one,List.take_add_one,hj]
     congr 1
     rw [List.getD_eq_getElem?_getD,List.getD_eq_getElem?_getD,List.getElem?_eq_getElem (by omega),List.getElem?_eq_getElem (by omega)]at he
     rw [List.getElem?_eq_getElem (by omega),List.getElem?_eq_getElem (by omega)]
     simpa using he
    ·omega
    ·simp only [zaf,look,Nat.reduceEqDiff,↓reduceIte,Bool.and_true,Bool.true_and,true_and,and_true]
     rw [zaN (by omega)]
     try simp
    ·simp [zam,look]
  ·simp (maxSteps:=2000000) only [zdR,zu,zau,zi,zB,zm,zbh,zq,zf,zay,zc,zb,zh,ze,za,zM,zaq,zU,zw,zX,zj,zaD,ev,look,zd,zg,zk,zaF,zdh,zO,zP,GV.getT,Nat.reduceEqDiff,↓reduceIte,List.nil_append,Bool.true_and,Bool.not_false,true_and,decide_eq_true_eq,decide_eq_false_iff_not,zax,zn,zF,zaV,zaG]
   refine ⟨fun h=>absurd (show i<la.length by omega) hlt,fun _=> ?_⟩
   subst hQ
   simp (maxSteps:=2000000) only [zx,zi,zm,zf,zat,zc,zaQ,zb,zh,ze,za,zj,ev,look,zd,zg,zk,Value.oneCell',cond_true,↓reduceIte,zD,zal,zC]
   have e1:la.take i=la:=List.take_of_length_le (by omega)
   have e2:lb.take i=lb:=List.take_of_length_le (by omega)
   rw [e1,e2]at hj
   rw [decide_eq_true (by rw [hj])]
 ·rw [decide_eq_false fun e=>by cases e;simp at k3]
 ·rw [bne_iff_ne]at k2
  rw [decide_eq_false fun e=>k2 (by cases e;rfl)]
 ·rw [bne_iff_ne]at k1
  rw [decide_eq_false fun e=>k1 (by cases e;rfl)]
theorem zwB (w:World) (va vb:Value) (ts1 ts2:List TreeNode) (l1 l2:List TN) (u:PH) (hu:u.le w) (ha:SlR u va 4 (ts1.map zl)) (hb:SlR u vb 4 (ts2.map zl)) (h1:TsOk u ts1 l1) (h2:TsOk u ts2 l2)
  (hn:ts1.length≤140737488355328) (hs1:∀t∈l1,t.attrs.length≤140737488355328):
  Spec Tryz.prog zlv [va,vb] PH.no w fun rs _=>rs=[.s (.bool (decide (l1=l2)))]:=by
 refine zbE zsP (Qf:=fun rs=>rs=[.s (.bool (decide (l1=l2)))]) [.ro va 4 (zl zTreeNode) (ts1.map zl), .ro vb 4 (zl zTreeNode) (ts2.map zl)] (by simp) (by simpa [AV.ok,zbr]using ⟨ha.up hu.sub,hb.up hu.sub⟩) ?_
 have hl1:=h1.len
 have hl2:=h2.len
 simp (maxSteps:=2000000) only [zlA,zu,zx,zi,zB,zm,zq,zf,zp,zc,zb,zh,ze,za,zj,ev,look,zd,zg,zk,zO,zP,Value.oneCell',cond_true,Nat.reduceEqDiff,↓reduceIte,reduceCtorEq,Nat.zero_add,Bool.true_and,true_and,zak,zaK,zD,zal,zC,zax,List.length_map,List.length_map]
 refine ⟨fun hne=> ?_,fun heq=> ?_⟩
 ·rw [bne_iff_ne]at hne
  rw [decide_eq_false fun e=>hne (by rw [hl1,hl2,e])]
 rw [bne_eq_false_iff_eq]at heq
 refine zaP (ι:=Nat) (fun i=>⟨[(0, .row 0 0 (ts1.length)),(1, .row 1 0 (ts2.length)),(5, .g (.s (.int .i64 (i))))],[(0, .ro 4 (zl zTreeNode) (ts1.map zl)),(1, .ro 4 (zl zTreeNode) (ts2.map zl))],[],PH.no⟩) (fun i=>i≤ts1.length∧l1.take i=l2.take i) (fun i=>ts1.length - i) 0 (by simp) (zR ?_ ?_ rfl rfl rfl) ?_
 ·simp [zaf,look]
 ·simp [zam,look]
 rintro i ⟨hi,hj⟩
 generalize hQ:loopQ _ _ _ _ _=Q
 simp (maxSteps:=2000000) only [ziI,zu,zau,zi,zB,zm,zbh,zq,zf,zay,zc,zb,zh,ze,za,zM,zaq,zU,zw,zX,zj,zaD,ev,look,zd,zg,zk,zaF,zdh,zO,zP,Nat.reduceEqDiff,↓reduceIte,reduceCtorEq,Nat.zero_add,Bool.true_and,true_and,Int.toNat_natCast,decide_eq_true_eq,decide_eq_false_iff_not,zax,zn,zaY,zdt]
 refine ⟨fun hlt=>⟨⟨by omega,by omega⟩,⟨by omega,by omega⟩, ?_⟩,fun hlt=> ?_⟩
 ·have g1:=h1.at i (by omega)
  have g2:=h2.at i (by omega)
  have hm1:l1.getD i zTN∈l1:=by rw [List.getD_eq_getElem?_getD,List.getElem?_eq_getElem (by omega)];exact List.getElem_mem _
  refine zdc _ [.s (.bool (decide (l1.getD i zTN=l2.getD i zTN)))] rfl rfl (fun w' vs hv hw=> ?_) ?_
  ·obtain ⟨vs,rfl,_,hv⟩:=zt hv
   obtain ⟨vs,rfl,_,hv⟩:=zt hv
   obtain rfl:=zr hv
   intro _
   exact zqt w' _ _ _ _ u (fun b o h=>hw b o (by rw [zbr];exact hu b o h)) g1 g2 (hs1 _ hm1)
  simp (maxSteps:=2000000) only [zK,Bool.not_eq_true',Bool.not_eq_false',decide_eq_false_iff_not,decide_eq_true_eq,zu,zx,zi,zm,zq,zf,zp,zT,zy,zc,zb,zh,ze,za,zj,ev,look,zd,zg,zk,zO,zP,unV,Value.oneCell',cond_true,Nat.reduceEqDiff,↓reduceIte,reduceCtorEq,Bool.true_and,true_and,decide_eq_true_eq,decide_eq_false_iff_not,zax]
  refine ⟨fun hne=> ?_,fun he=> ?_⟩
  ·subst hQ
   simp (maxSteps:=2000000) only [zp,zy,zah,look,↓reduceIte,zD,zal,zC]
   rw [decide_eq_false fun e=>hne (by rw [e])]
  ·subst hQ;simp only [zaB];refine ⟨i+1, ?_, ?_,zR ?_ ?_ rfl rfl rfl⟩
   ·refine ⟨by omega, ?_⟩
    rw [List.take_add_one,List.take_add_one,hj]
    congr 1
    rw [List.getD_eq_getElem?_getD,List.getD_eq_getElem?_getD,List.getElem?_eq_getElem (by omega),List.getElem?_eq_getElem (by omega)]at he
    rw [List.getElem?_eq_getElem (by omega),List.getElem?_eq_getElem (by omega)]
    simpa using he
   ·omega
   ·simp only [zaf,look,Nat.reduceEqDiff,↓reduceIte,reduceCtorEq,Bool.and_true,Bool.true_and,true_and,and_true]
    rw [zaN (by omega)]
    try simp
   ·simp [zam,look]
 ·subst hQ
  simp (maxSteps:=2000000) only [zx,zi,zm,zf,zat,zc,zaQ,zb,zh,ze,za,zj,ev,look,zd,zg,zk,Value.oneCell',cond_true,↓reduceIte,zD,zal,zC]
  have e1:l1.take i=l1:=List.take_of_length_le (by omega)
  have e2:l2.take i=l2:=List.take_of_length_le (by omega)
  rw [e1,e2]at hj
  rw [decide_eq_true hj]
end Go.Proofs.YtmjiojflncffeaaGreat.Vc

set_option linter.unusedVariables false
set_option linter.unusedSimpArgs false
set_option maxRecDepth 100000
namespace Go.Proofs.YtmjiojflncffeaaGreat.Vc
open Go Go.Proofs
def zmr (ds:List Done) (t:Int):Nat:=(ds.takeWhile fun d=>decide (d.op.stamp.time≤t)).length
theorem zBh (ds:List Done) (t:Int):zmr ds t≤ds.length:=(List.takeWhile_prefix _).length_le
theorem zxG:∀{ds:List Done} {t:Int} {i:Nat},i≤ds.length→(∀j,j<i→(ds.getD j zbe).op.stamp.time≤t)→(i<ds.length→¬(ds.getD i zbe).op.stamp.time≤t)→zmr ds t=i
 |[],t,i,h,_,_=>by simp at h;subst h;rfl
 |d::ds,t,0,_,_,h=>by
  have:¬d.op.stamp.time≤t:=h (by simp)
  simp [zmr,List.takeWhile_cons,this]
 |d::ds,t,i+1,h,h1,h2=>by
  have h0:d.op.stamp.time≤t:=h1 0 (by omega)
  have ih:=zxG (ds:=ds) (t:=t) (i:=i) (by simpa using h) (fun j hj=>h1 (j+1) (by omega)) (fun hi=>h2 (by simpa using hi))
  simp only [zmr]at ih
  simp [zmr,List.takeWhile_cons,h0,ih]
def PL.cut (p:PL) (t:Int) (i1:List Int):PL:={p with B:=zbm p.B ((p.ds.take (zmr p.ds t)).map (·.op)),fr:=t,ds:=p.ds.drop (zmr p.ds t),i0:=i1}
theorem PL.good.cut {p:PL} {mk:Value} {kb q:Nat} (h:p.good mk kb q) (t:Int):∃i1,(p.cut t i1).good mk (kb+zmr p.ds t) q:=by
 have hl:=zBh p.ds t
 generalize hn:zmr p.ds t=n at hl
 have hh:=h.fl.hist
 rw [←List.take_append_drop n p.ds]at hh
 obtain ⟨i1,_,h2⟩:=hh.drop
 have ho:∀op∈(p.ds.take n).map (·.op),zeP op:=fun op hop=>by
  obtain ⟨d,hd,rfl⟩:=List.mem_map.1 hop
  exact h.ops d (List.mem_of_mem_take hd)
 refine ⟨i1,⟨⟨?_, ?_,h.fl.ex,h.fl.last,h.fl.ids⟩, ?_, ?_, ?_, ?_, ?_⟩⟩
 ·simp only [PL.cut,hn];exact h2
 ·simp only [PL.cut,hn]
  rw [←zmJ,←List.map_append,List.take_append_drop]
  exact h.fl.view
 ·simp only [PL.cut,hn]
  have:=zeB h.bok ho
  rwa [List.length_map,List.length_take,Nat.min_eq_left hl]at this
 ·simp only [PL.cut,hn]
  exact zgc h.bok h.bgood ho
 ·simp only [PL.cut,hn,List.length_drop]
  have:=h.many
  omega
 ·simp only [PL.cut,hn]
  exact List.Pairwise.sublist ((List.drop_sublist _ _).map _) h.ris
 ·simp only [PL.cut,hn]
  exact fun d hd=>h.ops d (List.mem_of_mem_drop hd)
theorem LogM.reI {m:PH} {b:Nat} {L Lb:Lay} {p:PL} (h:LogM m b L Lb p) (i:List Int):LogM m b L Lb {p with i0:=i}:=by
 obtain ⟨ov,e,mo,mT,mB,rfl,q⟩:=h
 exact ⟨ov,e,mo,mT,mB,rfl,⟨q.d1,q.d2,q.d3,q.ops,q.tree,q.base⟩⟩
theorem zzT {a c x:PH} (h:dis a x):PH.sub (uni c x) (uni c (uni a x)):=fun k o hk=>by
 simp only [uni]at hk ⊢
 cases h1:c k with
 |some y=>rw [h1]at hk;simpa [h1]using hk
 |none=>
  rw [h1]at hk
  have hk:x k=some o:=by simpa using hk
  have:=zao h k o hk
  simpa [uni]using this
theorem zzs (w:World) (m:PH) (b:Nat) (L Lb:Lay) (p:PL) (hL:LogM m b L Lb p) {mk:Value} {kb q:Nat} (hg:p.good mk kb q) (hq:q<1099511627776) (hfew:p.ds.length≤549755813888) (t:Int):
  Spec Tryz.prog zoF [ptr b, .int .i64 t] m w fun rs m'=>
   (t<p.fr∨1099511627776<t→rs=[.s (.int .i64 1)]∧LogM m' b L Lb p)∧
   (¬(t<p.fr∨1099511627776<t)→rs=[.s (.int .i64 0)]∧∀i1,∃Lb',Lb' .t=Lb .t∧LogM m' b L Lb' (p.cut t i1)):=by
 refine zbb zoE [.g (.s (ptr b)), .g (.s (.int .i64 t))] (by simp) (by simp [AV.ok,GV.ok,Value.oneCell',ptr]) ?_
 have hof:∀d∈p.ds,d.undo.of.oneCell'=true∨True:=fun d hd=> .inr trivial
 obtain ⟨ov0,_,_,hS0,_,_,hs0⟩:=hL.look
 simp (maxSteps:=2000000) only [ziD,ptr,zi,zB,zm,zf,zc,zb,zh,ze,za,zj,ev,look,zd,zg,zk,Value.oneCell',cond_true,Nat.reduceEqDiff,↓reduceIte,reduceCtorEq,Nat.zero_add,zak,zaK,ptr]
 refine zaM _ [.s (.bool false)] rfl rfl (fun w' vs hv _ _ hm=> ?_) ?_
 ·obtain ⟨vs,rfl,_,hv⟩:=zt hv
  obtain rfl:=zr hv
  exact zcG hm hL
 simp (maxSteps:=2000000) only [zK,zi,zm,zq,zf,zc,zb,zh,ze,za,zj,ev,look,zd,zg,zk,Nat.reduceEqDiff,↓reduceIte,reduceCtorEq,Nat.zero_add,↓zN]
 refine zJ _ (hs0 (KN.mem (by simp))).2.2.1 rfl ?_
 simp (maxSteps:=2000000) only [zu,zx,zi,zB,zm,zq,zf,zp,zT,zy,zc,zab,zb,zh,zH,ze,za,zj,RO.isGh,zI,zar,ev,look,zd,zg,zk,zO,zP,Value.oneCell',cond_true,cond_false,Nat.reduceEqDiff,↓reduceIte,reduceCtorEq,Bool.true_and,Bool.not_false,true_and,decide_eq_true_eq,decide_eq_false_iff_not,↓zL,↓zN,zax,zdE]
 refine ⟨fun h1=>⟨fun h2=>zbq m rfl (fun _ _ h=>h) ⟨fun _=>⟨rfl,hL⟩,fun h=>absurd (.inr h2) h⟩,fun h2=> ?_⟩,fun h1=>zbq m rfl (fun _ _ h=>h) ⟨fun _=>⟨rfl,hL⟩,fun h=>absurd (.inl h1) h⟩⟩
 refine zaP (ι:=Nat×Lay×PH) (fun x=>⟨[(0, .g (.s (.pointer (some ⟨b,0,none⟩)))),(1, .g (.s (.int .i64 (t)))),(5, .g (.s (.int .i64 (x.1))))],[],[],x.2.2⟩)
  (fun x=>x.1≤p.ds.length∧(∀j,j<x.1→(p.ds.getD j zbe).op.stamp.time≤t)∧x.2.1 .t=Lb .t∧LogM x.2.2 b L x.2.1 {p with B:=zbm p.B ((p.ds.take x.1).map (·.op))}) (fun x=>p.ds.length - x.1) (0,Lb,m) ⟨by simp,by simp,rfl,hL⟩ (zR ?_ ?_ rfl rfl rfl) ?_
 ·simp [zaf,look]
 ·simp [zam,look]
 rintro ⟨n,L1,m1⟩ ⟨hn,hj,hL1,hM⟩
 simp only at hn hj hL1 hM
 generalize hQ:loopQ _ _ _ _ _=Q
 obtain ⟨ov,mT,mB,hS,_,_,hs⟩:=hM.look
 have hs1:=hs (C:=⟨Tryz.prog,70,w,m⟩) (ph:=[]) (m':=m1) (KN.mem (by simp))
 have stop:(n<p.ds.length→¬(p.ds.getD n zbe).op.stamp.time≤t)→∀σ:SS,Ge σ ⟨[(0, .g (.s (.pointer (some ⟨b,0,none⟩)))),(1, .g (.s (.int .i64 (t)))),(5, .g (.s (.int .i64 (n))))],[],[],m1⟩→Q (.exit 1) σ:=by
  intro hst σ hσ
  subst hQ
  simp only [zaQ,zat,if_true,zf,zi]
  refine zbu hσ ?_
  simp (maxSteps:=2000000) only [zm,zh,za,zj,ev,look,zd,↓reduceIte,reduceCtorEq,Nat.zero_add]
  have hs3:=hs1.2.2.2.1
  refine zJ _ hs3 rfl ?_
  simp (maxSteps:=2000000) only [za,zj,ev,look,zd,Nat.reduceEqDiff,↓reduceIte,reduceCtorEq]
  refine zzm ?_
  refine zAJ (l:=n) (h:=p.ds.length) rfl hS rfl (fun d hd=>by rw [hd,List.length_map];rfl) hn (by simp) fun v63 hv1 hv2=> ?_
  rw [List.take_of_length_le (by simp)]at hv2
  simp (maxSteps:=2000000) only [za,zj,zd]
  refine zaJ rfl rfl (Q:=fun rs m'=>∃v',rs=[.s v']∧SlO m' v' 97 22 ((p.ds.drop n).map zan)) (fun w' vs hv _ _ hm=> ?_) fun rs mD _ hq1 hdD=> ?_
  ·obtain ⟨vs,rfl,_,hv⟩:=zt hv
   obtain rfl:=zr hv
   rw [←List.map_drop]at hv2
   exact zjN w' v63 _ (by simp;omega) m1 hm hv2
  obtain ⟨vo,rfl,hD⟩:=hq1
  have hdD:dis mD m1:=hdD
  simp (maxSteps:=2000000) only [zK,za,zj,ev,look,zd,Nat.reduceEqDiff,↓reduceIte,reduceCtorEq,Nat.zero_add]
  obtain ⟨ov1,e1,mo,mr,hm1,hdm,hO,hb1,_,hmk⟩:=hM.list
  have hbm:=zfg hdm hb1
  rw [←hm1]at hbm
  have hbd:=zfg hdD hbm.1
  refine zgi rfl _ e1 ⟨hbd.1,by simp⟩ ?_
  simp (maxSteps:=2000000) only [za,zj,ev,look,zd,zS,Nat.reduceEqDiff,↓reduceIte,Nat.zero_add,ptr]
  refine zgi rfl _ e1 ⟨zft _ _ _,by simp [zav,GV.flat]⟩ ?_
  simp (maxSteps:=2000000) only [zx,zi,zm,zf,zc,zab,zb,zh,ze,za,zj,ev,look,zd,zS,zg,zk,Value.oneCell',cond_true,↓reduceIte]
  rw [zuv,zdm hbd.2,hm1,zdm hbm.2]
  have hdr:dis mD mr:=by rw [hm1]at hdD;exact (zA hdD).2
  have hcn:zmr p.ds t=n:=zxG hn hj hst
  have hM2:=hmk (ds':=p.ds.drop n) (fr':=t) (red':=p.red) hD hdr
  refine zbq (uni mD (mr.upd b (zeL L L1 t vo p.red e1))) rfl ?_ ⟨fun h=>by omega,fun _=>⟨rfl,fun i1=>⟨L1,hL1, ?_⟩⟩⟩
  ·exact zzT (zig hdm hbm.2)
  ·simp only [PL.cut,hcn]
   exact hM2.reI i1
 rcases Nat.lt_or_ge n p.ds.length with hlt|hge
 ·obtain ⟨a,c,hov⟩:=zch hS
  subst hov
  obtain ⟨bo,oo,rfl,_,_,hsp⟩:=SlR.spot hS (by simp;omega)
  have hel:=hsp (C:=⟨Tryz.prog,70,w,m⟩) (ph:=[]) (m:=m1) (KN.mem (by simp)) n (zan (p.ds.getD n zbe)) (by rw [List.getElem?_map,List.getD_eq_getElem?_getD,List.getElem?_eq_getElem hlt];rfl)
  simp only [List.length_map]at hs1
  simp (maxSteps:=2000000) only [zem,zi,zm,zh,za,zj,ev,look,zd,Nat.reduceEqDiff,↓reduceIte,reduceCtorEq,Nat.zero_add]
  have hs3:=hs1.2.2.2.1
  refine zJ _ hs3 rfl ?_
  simp (maxSteps:=2000000) only [zau,zq,zf,zay,zc,zb,zh,zH,ze,za,zj,RO.isGh,zI,zar,ev,look,zd,zg,zk,zO,zP,Value.oneCell',cond_true,cond_false,Nat.reduceEqDiff,↓reduceIte,reduceCtorEq,Nat.zero_add,Bool.true_and,Bool.not_true,true_and,decide_eq_true_eq,decide_eq_false_iff_not,↓zN,zax]
  refine ⟨fun _=> ?_,fun h=>by omega⟩
  refine zJ _ hs3 rfl ?_
  simp (maxSteps:=2000000) only [za,zj,ev,look,zd,Nat.reduceEqDiff,↓reduceIte,reduceCtorEq,Nat.add_zero,Int.toNat_natCast]
  refine ⟨⟨by omega,by omega⟩, ?_⟩
  refine zJ _ (zdV (zdV (zdV hel))) rfl ?_
  simp (maxSteps:=2000000) only [zu,zau,zi,zB,zbh,zq,zf,zay,zc,zb,zh,ze,za,zaq,zw,zX,zj,zaD,ev,look,zd,zg,zk,zO,zP,Value.oneCell',cond_true,Nat.reduceEqDiff,↓reduceIte,reduceCtorEq,Nat.zero_add,Bool.true_and,true_and,decide_eq_true_eq,decide_eq_false_iff_not,↓zL,zax]
  refine ⟨fun hle=> ?_,fun hle=> ?_⟩
  ·have hs2:=hs1.2.1
   rw [hL1]at hs2
   refine zJ _ hs2 rfl ?_
   simp (maxSteps:=2000000) only [ptr,zw,zX,zj,zaD,ev,look,zd,↓reduceIte,reduceCtorEq,Nat.zero_add,Bool.true_and,true_and,ptr]
   refine zJ _ hs3 rfl ?_
   simp (maxSteps:=2000000) only [zw,zX,zj,zaD,ev,look,zd,Nat.reduceEqDiff,↓reduceIte,reduceCtorEq,Nat.add_zero,Bool.true_and,true_and,Int.toNat_natCast]
   refine ⟨⟨by omega,by omega⟩, ?_⟩
   refine zJ _ (zdV hel) (zbp _) ?_
   simp (maxSteps:=2000000) only [zh,za,zM,zU,zj,zd]
   obtain ⟨d,hd⟩:∃d,p.ds.getD n zbe=d:=⟨_,rfl⟩
   have hdm:d∈p.ds:=hd▸getD_in hlt zbe
   rw [hd]at hle ⊢
   have hop:=hg.ops d hdm
   obtain ⟨mB1,mr1,hm1,hdm1,hB1,hback⟩:=hM.base
   have hok:(zbm p.B ((p.ds.take n).map (·.op))).ok q:=by
    have:=zeB (l:=(p.ds.take n).map (·.op)) hg.bok fun op h=>by
     obtain ⟨x,hx,rfl⟩:=List.mem_map.1 h
     exact hg.ops x (List.mem_of_mem_take hx)
    refine this.up ?_
    have:=hg.many
    simp only [List.length_map,List.length_take]
    omega
   refine zdz mB1 mr1 (zcz rfl) rfl hm1 hdm1 (Q:=fun rs m'=>(∃a c,rs=[a,c])∧∃L2,L2 .t=Lb .t∧TM m' L2 ((zbm p.B ((p.ds.take n).map (·.op))).step d.op)) (fun w' vs hv _ _=> ?_) fun rs mB' _ hq1 hdB=> ?_
   ·obtain ⟨vs,rfl,_,hv⟩:=zt hv
    obtain ⟨vs,rfl,_,hv⟩:=zt hv
    obtain rfl:=zr hv
    have:=(zpa w' mB1 L1 (zbm p.B ((p.ds.take n).map (·.op))) d.op hop.2 (zoY hok (by omega)) hB1).mono fun rs m' h=>(show (∃a c,rs=[a,c])∧∃L2,L2 .t=L1 .t∧TM m' L2 ((zbm p.B ((p.ds.take n).map (·.op))).step d.op) from by
     cases hmay:zaL (zbm p.B ((p.ds.take n).map (·.op))) d.op with
     |false=>exact ⟨⟨_,_,(h.1 hmay).1⟩,L1,rfl,by rw [zkl hmay];exact (h.1 hmay).2⟩
     |true=>
      obtain ⟨L2,e1,e2,e3,e4⟩:=h.2 hmay
      exact ⟨⟨_,_,e3⟩,L2,e1,by rw [zgK hmay];exact e4⟩)
    rw [hL1]at this
    exact this
   obtain ⟨⟨ra,rc,rfl⟩,L2,h21,hT2⟩:=hq1
   simp (maxSteps:=2000000) only [zK,zm,zf,zT,zc,zb,zh,ze,za,zj,ev,look,zd,zg,zk,zO,zP,Value.oneCell',cond_true,Nat.reduceEqDiff,↓reduceIte,reduceCtorEq,Bool.true_and,true_and]
   subst hQ;simp only [zaB];refine ⟨(n+1,L2,uni mB' mr1), ?_, ?_,zR ?_ ?_ rfl rfl rfl⟩
   ·refine ⟨by simp only;omega,fun j hj'=> ?_,h21, ?_⟩
    ·rcases Nat.lt_succ_iff_lt_or_eq.1 hj' with h4|rfl
     ·exact hj j h4
     ·rw [hd];exact hle
    ·simp only
     have:=hback (h21.trans hL1.symm) hT2 hdB
     rw [zfb hlt zbe,hd,List.map_append,List.map_cons,List.map_nil,zgm]
     exact this
   ·simp only;omega
   ·simp only [zaf,look,Nat.reduceEqDiff,↓reduceIte,reduceCtorEq,Bool.and_true,Bool.true_and,true_and,and_true]
    rw [zaN (by omega)]
    try simp
   ·simp [zam,look]
  ·exact stop (fun _=>hle) _ (zR (by simp [zaf,look]) (by simp [zam,look]) rfl rfl rfl)
 ·obtain ⟨a,c,hov⟩:=zch hS
  subst hov
  simp only [List.length_map]at hs1
  simp (maxSteps:=2000000) only [zem,zi,zm,zh,za,zj,ev,look,zd,Nat.reduceEqDiff,↓reduceIte,reduceCtorEq,Nat.zero_add]
  refine zJ _ hs1.2.2.2.1 rfl ?_
  simp (maxSteps:=2000000) only [zau,zq,zf,zay,zc,zb,zh,zH,ze,za,zj,RO.isGh,zI,zar,ev,look,zd,zg,zk,zO,zP,Value.oneCell',cond_true,cond_false,Nat.reduceEqDiff,↓reduceIte,reduceCtorEq,Nat.zero_add,Bool.true_and,Bool.not_true,true_and,decide_eq_true_eq,decide_eq_false_iff_not,↓zN,zax]
  refine ⟨fun h=>by omega,fun _=> ?_⟩
  exact stop (fun h=>by omega) _ (zR (by simp [zaf,look]) (by simp [zam,look]) rfl rfl rfl)
end Go.Proofs.YtmjiojflncffeaaGreat.Vc

set_option linter.unusedVariables false
set_option linter.unusedSimpArgs false
set_option maxRecDepth 100000
namespace Go.Proofs.YtmjiojflncffeaaGreat.Vc
open Go Go.Proofs Go.Proofs.YtmjiojflncffeaaGreat Go.ChangeShapes Go.WideShapes Go.ChangeAt
def tri (n:Nat):Nat:=n*(n+1) / 2
theorem zzA (n c:Nat) (hc:1≤c):tri n+n+c≤tri (n+c):=by
 unfold tri
 obtain ⟨d,rfl⟩:∃d,c=d+1:=⟨c - 1,by omega⟩
 have e:(n+(d+1))*(n+(d+1)+1)=n*(n+1)+2*(n+(d+1))+(2*(n*d)+d*(d+1)):=by
  simp only [Nat.mul_add,Nat.add_mul,Nat.mul_one,Nat.one_mul]
  rw [Nat.mul_comm d n]
  omega
 have h1:(n+(d+1))*(n+(d+1)+1) / 2≥(n*(n+1)+2*(n+(d+1))) / 2:=Nat.div_le_div_right (by omega)
 have h2:(n*(n+1)+2*(n+(d+1))) / 2=n*(n+1) / 2+(n+(d+1)):=by omega
 omega
theorem zCw {n:Nat} (h:n≤1200000):tri n≤720000600000:=by
 unfold tri
 have:n*(n+1)≤1200000*1200001:=Nat.mul_le_mul h (by omega)
 omega
theorem PL.good.up {p:PL} {mk:Value} {kb q q':Nat} (h:p.good mk kb q) (hq:q≤q'):p.good mk kb q':=⟨h.fl.up hq,h.bok,h.bgood,by have:=h.many;omega,h.ris,h.ops⟩
theorem zxq {p p':PL} {ops:List Op} {n:Int} (h:Added p ops p' n):p'.ds.length=p.ds.length+ops.length:=by
 have:=h.perm.length_eq
 simpa using this
def zAq (b:Nat) (L Lb:Lay) (p:PL) (kb:Nat) (ops:List Op) (rs:List GV) (m':PH):Prop:=
 (zbl p.ds p.fr [] ops≠0→rs=[.s (.int .i64 0), .s (.int .i64 (zbl p.ds p.fr [] ops))]∧LogM m' b L Lb p)∧
 (zbl p.ds p.fr [] ops=0→∃L' p' n,L' .t=L .t∧L' .mk=L .mk∧rs=[.s (.int .i64 n), .s (.int .i64 0)]∧LogM m' b L' Lb p'∧p'.good (ptr (L .mk)) kb (tri p'.ds.length)∧Added p ops p' n)
theorem zyg (w:World) (m:PH) (b:Nat) (L Lb:Lay) (p:PL) (hL:LogM m b L Lb p) {kb:Nat} (hg:p.good (ptr (L .mk)) kb (tri p.ds.length)) (v:Value) (ops:List Op) (ho:∀op∈ops,OpIn op∧zeP op) (h1:1≤ops.length) (hS:SlR (but w m) v 8 (ops.map gOp)) (hfew:p.ds.length≤1048576) (hsum:p.ds.length+ops.length≤1200000) (hon:ops.length≤1048576):
  Spec Tryz.prog zea [ptr b,v] m w (zAq b L Lb p kb ops):=by
 have ht:=zzA p.ds.length ops.length h1
 have ht2:=zCw hsum
 refine (zuV w m b L Lb p hL hg v ops ⟨hon,ho⟩ hS (by omega) hfew).mono fun rs m' h=>⟨h.1,fun h0=> ?_⟩
 obtain ⟨L',p',n,e1,e2,e3,e4,e5,e6⟩:=h.2 h0
 exact ⟨L',p',n,e1,e2,e3,e4,e5.up (by rw [zxq e6];exact ht),e6⟩
theorem zyt (ds:List Done) (fr:Int) (op:Op):zbl ds fr [] [op]=if zaO op≠0 then zaO op else if op.stamp.time≤fr then 130 else if zgM ds op.k=true then 5 else 0:=by
 simp only [zbl,List.not_mem_nil,or_false]
def liveOp:Op:=⟨⟨1,0⟩,1,24,1,⟨#[97]⟩,⟨#[]⟩,⟨#[]⟩⟩
theorem zys:OpIn liveOp∧zeP liveOp:=⟨⟨by decide,by decide,by decide⟩,by decide,by decide⟩
theorem ztD:zaO liveOp=0:=by decide+kernel
theorem zpm:zaL T0 liveOp=true:=by decide+kernel
theorem ztF:(zae (T0.step liveOp)).length=1:=by
 rw [zgK zpm]
 have hp:(zbz (T0.does liveOp)).Perm [1,2,24]:=List.mergeSort_perm _ _
 have hl:=((hp.filterMap fun n=>((T0.does liveOp).get n).map fun x=>zbw n x).filter TN.shown).length_eq
 show ((List.filterMap _ _).filter _).length=1
 rw [hl]
 have h1:(T0.does liveOp).get 1=some ⟨0,⟨#[]⟩,[],[24]⟩:=rfl
 have h2:(T0.does liveOp).get 2=some ⟨0,⟨#[]⟩,[],[]⟩:=rfl
 have h3:(T0.does liveOp).get 24=some ⟨1,⟨#[97]⟩,[],[]⟩:=rfl
 simp [h1,h2,h3,List.filterMap_cons,zbw,TN.shown,zaR,zbd,zjS,zbc,List.filter_cons]
theorem zyI {w':World} {m1:PH} {b:Nat} {L Lb:Lay} {p:PL} (hL:LogM m1 b L Lb p) {kb:Nat} (hg:p.good (ptr (L .mk)) kb (tri p.ds.length)) (hfew:p.ds.length≤1048576) {v':Value} {op:Op} (ho:OpIn op∧zeP op) (hs:SlR (but w' m1) v' 8 [gOp op]):
  Spec Tryz.prog zea [ptr b,v'] m1 w' (zAq b L Lb p kb [op]):=
 zyg w' m1 b L Lb p hL hg v' [op] (by simpa using ho) (by simp) hs hfew (by simp;omega) (by simp)
theorem zuS (w:World):Spec Tryz.prog ztc [] PH.no w fun rs _=>rs=[.s (.bool true)]:=by
 refine zbE ztC (Qf:=fun rs=>rs=[.s (.bool true)]) [] (by simp) (by simp [AV.ok]) ?_
 simp (maxSteps:=2000000) only [zmy,zi,zm,zf,zc,zb,zh,ze,za,zj,ev,zd,zg,zk,Value.oneCell',cond_true,zak,zaK,zaU,zcx]
 refine zaJ rfl rfl (Q:=fun rs m'=>∃b L Lb,rs=[.s (ptr b)]∧LogM m' b L Lb PL.new) (fun w' vs hv hw _ _=> ?_) fun rs m0 _ hq _=> ?_
 ·obtain rfl:=zr hv
  exact zop w'
 obtain ⟨b,L,Lb,rfl,hL⟩:=hq
 simp (maxSteps:=2000000) only [zK,zaz,zi,zm,zf,zc,zb,zh,ze,za,zj,ev,look,zd,zg,zk,Value.oneCell',cond_true,↓reduceIte,ptr]
 refine zcH (zzY b) ?_
 simp (maxSteps:=2000000) only [zu,zi,zm,zq,zf,zc,zb,zh,ze,za,zj,ev,evL,gvL,look,zZ,zd,zg,zk,GV.getT,GV.same,Value.oneCell',cond_true,Nat.reduceEqDiff,↓reduceIte,Nat.zero_add,Bool.and_true,Bool.true_and,true_and,and_true,List.map_cons,List.map_nil,Option.map_some,zcO,List.length_cons,List.length_nil,↓zN,Bool.bne_false,GV.bldT,GV.bldC,zcT,zn,zcX,zcr,zjE,zbM,zbL,zAL,zbj,zAs,zaW,zzI,zcd,zAx,zck,zzn]
 refine ⟨rfl,⟨rfl,rfl,rfl,rfl,rfl⟩, ?_⟩
 refine zie m0 PH.no rfl rfl (zaz _).symm (zdW _) (Q:=zAq b L Lb PL.new 0 [liveOp]) (fun w' vs hv _ _ _=> ?_) fun rs m1 _ hq _=> ?_
 ·obtain ⟨vs,rfl,_,hv⟩:=zlJ hv
  obtain ⟨v',vs,rfl,hs,hv⟩:=zmN (z:=8) (xs:=[gOp liveOp]) rfl rfl hv
  obtain rfl:=zkd hv
  exact zyI hL (PL.new_good _) (by decide) zys hs
 have hlk:zbl PL.new.ds PL.new.fr [] [liveOp]=0:=by rw [zyt,ztD];decide
 obtain ⟨L',p',n,hL1,hL2,rfl,hM,hg,hA⟩:=hq.2 hlk
 simp (maxSteps:=2000000) only [zK,List.getElem?_cons_succ,List.getElem?_cons_zero,zaz,zx,zi,zm,zf,zc,zb,zh,zH,ze,za,zj,RO.isGh,zI,zar,ev,look,zd,zg,zk,zO,zP,Value.oneCell',cond_true,cond_false,Nat.reduceEqDiff,↓reduceIte,Bool.true_and,Bool.not_true,BEq.rfl,true_and,zD,zal,zC,↓zL,↓zN,zax]
 have hlen:p'.ds.length=1:=zxq hA
 obtain ⟨d,hd⟩:∃d,p'.ds=[d]:=List.length_eq_one_iff.1 hlen
 have hop:d.op=liveOp:=by
  have:=hA.perm
  rw [hd]at this
  have:=this.mem_iff (a:=d.op)
  simpa [PL.new]using this
 have htk:d.taken=true:=by
  have hh:=hg.fl.hist
  rw [hd]at hh
  have:=LHist.taken (ds:=[]) hh
  rw [hop,hA.B]at this
  rw [this]
  exact zpm
 have hn:n=1:=by
  rw [hA.n,hd]
  have:d.k=liveOp.k:=by show d.op.k=_;rw [hop]
  simp [List.filter_cons,htk,this]
 subst hn
 simp (maxSteps:=2000000) only [Bool.and_true,BEq.rfl,and_true,true_imp_iff,false_imp_iff,Bool.true_eq_false]
 refine zaM _ [.s (.int .i64 1)] rfl rfl (fun w' vs hv _ _ hm=> ?_) ?_
 ·obtain ⟨vs,rfl,_,hv⟩:=zt hv
  obtain rfl:=zr hv
  have:=zjh hm hM
  rw [hlen]at this
  exact this
 simp (maxSteps:=2000000) only [zK,zh,zH,ze,za,zj,ev,look,zd,zO,zP,Value.oneCell',cond_true,Nat.reduceEqDiff,↓reduceIte,Bool.true_and,BEq.rfl,true_and,↓zL]
 have hfr:p'.fr=0:=hA.fr
 refine zgL rfl rfl (Q:=fun rs m'=>rs=[.s (.int .i64 0)]∧∀i1,∃Lb',Lb' .t=Lb .t∧LogM m' b L' Lb' (p'.cut 1 i1)) (fun w' vs hv _ _=> ?_) fun rs m2 _ hq2=> ?_
 ·obtain ⟨vs,rfl,_,hv⟩:=zt hv
  obtain ⟨vs,rfl,_,hv⟩:=zt hv
  obtain rfl:=zr hv
  exact (zzs w' m1 b L' Lb p' hM hg (by rw [hlen];decide) (by omega) 1).mono fun rs m' h=>h.2 (by rw [hfr];decide)
 obtain ⟨rfl,hcut⟩:=hq2
 obtain ⟨i1,hgc⟩:=hg.cut 1
 obtain ⟨Lb',_,hMc⟩:=hcut i1
 have hca:zmr p'.ds 1=1:=by
  rw [hd]
  have:d.op.stamp.time≤1:=by rw [hop];decide
  simp [zmr,List.takeWhile_cons,this]
 have hds:(p'.cut 1 i1).ds=[]:=by
  show p'.ds.drop (zmr p'.ds 1)=[]
  rw [hca,hd];rfl
 have hB:(p'.cut 1 i1).B=T0.step liveOp:=by
  show zbm p'.B ((p'.ds.take (zmr p'.ds 1)).map (·.op))=_
  rw [hca,hd,hA.B]
  show zbm T0 [d.op]=_
  rw [hop];rfl
 simp (maxSteps:=2000000) only [zK,zh,zH,ze,za,zj,ev,look,zd,zO,zP,Value.oneCell',cond_true,Nat.reduceEqDiff,↓reduceIte,Bool.true_and,BEq.rfl,true_and,↓zL]
 refine zaM _ [.s (.int .i64 0)] rfl rfl (fun w' vs hv _ _ hm=> ?_) ?_
 ·obtain ⟨vs,rfl,_,hv⟩:=zt hv
  obtain rfl:=zr hv
  have:=zjh hm hMc
  rw [hds]at this
  exact this
 simp (maxSteps:=2000000) only [zK,zh,zH,ze,za,zj,ev,look,zd,zO,zP,Value.oneCell',cond_true,Nat.reduceEqDiff,↓reduceIte,Bool.true_and,BEq.rfl,true_and,↓zL]
 refine zbV rfl rfl (Q:=fun rs m'=>∃v ts,rs=[.s v]∧SlR m' v 4 (ts.map zl)∧TsOk m' ts (zae (p'.cut 1 i1).B)) (fun w' vs hv _ _ hm=> ?_) fun rs m3 _ hq3=> ?_
 ·obtain ⟨vs,rfl,_,hv⟩:=zt hv
  obtain rfl:=zr hv
  exact ziB hm hMc hgc (by rw [hlen];decide)
 obtain ⟨v,ts,rfl,hs,hts⟩:=hq3
 rw [hB]at hts
 have htl:=hts.len
 rw [ztF]at htl
 obtain ⟨a,c,rfl⟩:=zch hs
 simp (maxSteps:=2000000) only [zK,List.length_map,htl,zx,zf,zc,zb,zh,ze,za,zj,ev,look,zd,zg,zk,zO,zP,Value.oneCell',cond_true,Nat.reduceEqDiff,↓reduceIte,Bool.true_and,true_and,zD,zal,zC,↓zL,List.length_map]
 rfl
theorem zwo {H:Type} {enc:TypeId×Value→H} {W:World} {base n:Nat} {v:Value} (h:RdB enc Tryz.prog W 22 v n) (hv:Value.okWide Tryz.prog W .any base 22 v):∃l:List Op,SlR W.ph v 8 (l.map gOp)∧l.length≤n∧∀op∈l,OpIn op∧zeP op:=by
 have hd:=zyJ (e:=26) (by kernel_rfl) h.v hv
 obtain ⟨l,h1,_,h3⟩:=zzj (t:=22) (e:=26) (n0:=9) (ks:=kOp) (g:=fun q=>gOp (Op.ofRaw q 0)) (by kernel_rfl) (by kernel_rfl) (by kernel_rfl) (by rw [zpS];omega) (fun q=>ztU q 0) (fun q _=>zcS _) (fun q=>by rw [zbM,zpS]) hd
 rw [zpS]at h1
 refine ⟨l.map fun q=>Op.ofRaw q 0,by rw [List.map_map];exact h1, ?_, ?_⟩
 ·obtain ⟨fuel,x,hx,_,hn⟩:=h
  obtain ⟨_,h1|⟨a,c,h1,_⟩⟩:=h1
  ·have:l=[]:=by simpa using h1.2
   simp [this]
  ·subst h1
   have hx':DataW.trod enc Tryz.prog W 0 (fun _=>true) true fuel 22 [.slice (some a) (l.map fun q=>gOp (Op.ofRaw q 0)).length c]=some x:=hx
   rcases Go.Deep.open_slice (e:=26) (by kernel_rfl) hx' with ⟨hv',rfl⟩|⟨a',len,cap,m,n',D,Pl,hv',_,hlc,_,hm,rfl,hel⟩
   ·simp at hv'
   ·simp only [List.cons.injEq,Value.slice.injEq,and_true,List.length_map]at hv'
    have h5:=zzi ((List.range len).map D)
    rw [List.length_map,List.length_range]at h5
    simp only [Rows.uptoBulk]at hn
    rw [List.length_map]
    omega
 ·intro op hop
  obtain ⟨q,hq,rfl⟩:=List.mem_map.1 hop
  have hf:=h3 q hq
  have i3:=hf.int (j:=3) (k:= .i64) rfl
  have i4:=hf.int (j:=4) (k:= .i64) rfl
  have s5:=hf.str (j:=5) rfl
  have em:IntKind.i64.max=9223372036854775807:=by decide
  refine ⟨⟨?_, ?_,Nat.le_trans s5 (by decide)⟩, ?_,Nat.le_trans s5 (by decide)⟩
  ·show q.x 3<_
   have:=i3.2;rw [em]at this;omega
  ·show q.x 4<_
   have:=i4.2;rw [em]at this;omega
  ·show (decide (IntKind.i64.min≤q.x 3)&&decide (q.x 3≤IntKind.i64.max))=true
   rw [Bool.and_eq_true]
   exact ⟨decide_eq_true i3.1,decide_eq_true i3.2⟩
theorem zzb {H:Type} {enc:TypeId×Value→H} {W:World} {base n:Nat} {v:Value} (h:RdB enc Tryz.prog W 26 v n) (hv:Value.okWide Tryz.prog W .any base 26 v):∃op:Op,v=(gOp op).val∧OpIn op∧zeP op:=by
 obtain ⟨q,rfl,hf⟩:=zBr (n0:=9) (ks:=kOp) (g:=fun q=>gOp (Op.ofRaw q 0)) (by kernel_rfl) (by kernel_rfl) (fun q=>ztU q 0) (fun q v e=>by cases e) h.v hv
 have i3:=hf.int (j:=3) (k:= .i64) rfl
 have i4:=hf.int (j:=4) (k:= .i64) rfl
 have s5:=hf.str (j:=5) rfl
 have em:IntKind.i64.max=9223372036854775807:=by decide
 refine ⟨_,rfl,⟨?_, ?_,Nat.le_trans s5 (by decide)⟩, ?_,Nat.le_trans s5 (by decide)⟩
 ·show q.x 3<_
  have:=i3.2;rw [em]at this;omega
 ·show q.x 4<_
  have:=i4.2;rw [em]at this;omega
 ·show (decide (IntKind.i64.min≤q.x 3)&&decide (q.x 3≤IntKind.i64.max))=true
  rw [Bool.and_eq_true]
  exact ⟨decide_eq_true i3.1,decide_eq_true i3.2⟩
end Go.Proofs.YtmjiojflncffeaaGreat.Vc

set_option linter.unusedVariables false
set_option maxRecDepth 100000
namespace Go.Proofs.YtmjiojflncffeaaGreat.Vc
open Go Go.Proofs
abbrev ztG:Nat:=65
def zjA:Cd:=
 (.seq (.seq (.rg [⟨none,[(some 6, .mv (.t 5)),(some 7, .mv (.t 0)),(some 8, .len (.t 7)),(some 9, .bin .lss (.t 6) (.t 8))]⟩] [0,3,5,9])
 (.ite (.t 9)
 .skip
 (.exit 0)))
 (.seq (.block 1 (.seq (.rgq [⟨none,[(some 12, .mv (.t 0)),(some 13, .mv (.t 5)),(some 14, .idxS (.t 12) (.t 13) 8),(some 15, .fldA (.t 14) 0 0),(some 16, .ld (.t 15) 2 true),(some 17, .ld (.t 3) 2 true)]⟩] [⟨none,[(some 18, .eqA false 24 (.t 16) (.t 17))]⟩] [0,3,5,18])
 (.ite (.t 18)
 (.seq (.rg [⟨none,[(some 4, .mv (.c (.bool true)))]⟩] [4])
 .ret)
 .skip)))
 (.rg [⟨none,[(some 10, .mv (.t 5)),(some 11, .bin .add (.t 10) (.c (.int .i64 1))),(some 5, .mv (.t 11))]⟩] [0,3,5])))
def znY:Cd:=
 (.seq (.rg [⟨none,[(some 3, .box 24 (.t 1)),(some 4, .mv (.c (.bool false)))]⟩] [0,3])
 (.seq (.seq (.rg [⟨none,[(some 5, .mv (.c (.int .i64 0)))]⟩] [0,3,5])
 (.block 0 (.loop zjA)))
 (.seq (.rg [⟨none,[(some 4, .mv (.c (.bool false)))]⟩] [4])
 .ret)))
theorem zua:Ok Tryz.prog 65 znY 19 [(4,6)] [.tmp 4]:=Ok.mk' Tryz.func65 (by kernel_rfl) (by kernel_rfl) (by kernel_rfl)
abbrev zlB:Nat:=62
def zfh:Cd:=
 (.seq (.seq (.rg [⟨none,[(some 7, .mv (.t 5)),(some 8, .mv (.t 1)),(some 9, .len (.t 8)),(some 10, .bin .lss (.t 7) (.t 9))]⟩] [0,1,5,10])
 (.ite (.t 10)
 .skip
 (.exit 0)))
 (.seq (.block 1 (.seq (.seq (.rg [⟨none,[(some 13, .mv (.t 1)),(some 14, .mv (.t 5)),(some 15, .idxS (.t 13) (.t 14) 8),(some 16, .ld (.t 15) 8 true),(some 17, .call 16 [(.t 16)]),(some 6, .mv (.t 17))]⟩] [0,1,5,6])
 (.seq (.rg [⟨none,[(some 18, .mv (.t 6)),(some 19, .bin .neq (.t 18) (.c (.int .i64 0)))]⟩] [0,1,5,6,19])
 (.ite (.t 19)
 (.seq (.rg [⟨none,[(some 20, .mv (.t 6)),(some 4, .mv (.t 20))]⟩] [4])
 .ret)
 .skip)))
 (.seq (.seq (.rgq [⟨none,[(some 21, .mv (.t 1)),(some 22, .mv (.t 5)),(some 23, .idxS (.t 21) (.t 22) 8),(some 24, .fldA (.t 23) 0 0),(some 25, .fldA (.t 24) 0 0),(some 26, .ld (.t 25) 1 false),(some 27, .mv (.t 0)),(some 28, .nilc (.t 27)),(some 29, .fldA (.t 28) 1 1),(some 30, .ld (.t 29) 1 false)]⟩] [⟨none,[(some 31, .bin .leq (.t 26) (.t 30))]⟩] [0,1,5,31])
 (.ite (.t 31)
 (.seq (.rg [⟨none,[(some 4, .mv (.c (.int .i64 130)))]⟩] [4])
 .ret)
 .skip))
 (.seq (.rgq [⟨none,[(some 32, .mv (.t 0)),(some 33, .nilc (.t 32)),(some 34, .fldA (.t 33) 2 2),(some 35, .ld (.t 34) 1 false),(some 36, .mv (.t 1)),(some 37, .mv (.t 5)),(some 38, .idxS (.t 36) (.t 37) 8),(some 39, .fldA (.t 38) 0 0),(some 40, .ld (.t 39) 2 true),(some 41, .call 65 [(.t 35),(.t 40)]),(some 42, .mv (.t 41))]⟩,⟨some (42,false),[(some 43, .mv (.t 1)),(some 44, .mv (.t 5)),(some 45, .sl 8 (.t 43) none (some (.t 44))),(some 46, .mv (.t 1)),(some 47, .mv (.t 5)),(some 48, .idxS (.t 46) (.t 47) 8),(some 49, .fldA (.t 48) 0 0),(some 50, .ld (.t 49) 2 true)]⟩] [⟨some (42,false),[(some 51, .call 65 [(.t 45),(.t 50)])]⟩,⟨none,[(some 52, .pick (.t 42) (.c (.bool true)) (.t 51))]⟩] [0,1,5,52])
 (.ite (.t 52)
 (.seq (.rg [⟨none,[(some 4, .mv (.c (.int .i64 5)))]⟩] [4])
 .ret)
 .skip)))))
 (.rg [⟨none,[(some 11, .mv (.t 5)),(some 12, .bin .add (.t 11) (.c (.int .i64 1))),(some 5, .mv (.t 12))]⟩] [0,1,5])))
def zhe:Cd:=
 (.seq (.rg [⟨none,[(some 4, .mv (.c (.int .i64 0)))]⟩] [0,1])
 (.seq (.seq (.rg [⟨none,[(some 5, .mv (.c (.int .i64 0)))]⟩] [0,1,5])
 (.block 0 (.loop zfh)))
 (.seq (.rg [⟨none,[(some 4, .mv (.c (.int .i64 0)))]⟩] [4])
 .ret)))
theorem zmz:Ok Tryz.prog 62 zhe 53 [(7,10),(9,19)] [.tmp 4]:=Ok.mk' Tryz.func62 (by kernel_rfl) (by kernel_rfl) (by kernel_rfl)
abbrev zoR:Nat:=63
def zgr:Cd:=
 (.seq (.seq (.rgq [⟨none,[(some 6, .mv (.t 5)),(some 7, .mv (.t 0)),(some 8, .nilc (.t 7)),(some 9, .fldA (.t 8) 2 2),(some 10, .ld (.t 9) 1 false),(some 11, .len (.t 10)),(some 12, .bin .lss (.t 6) (.t 11)),(some 13, .mv (.t 12))]⟩,⟨some (13,true),[(some 14, .mv (.t 0)),(some 15, .nilc (.t 14)),(some 16, .fldA (.t 15) 2 2),(some 17, .ld (.t 16) 1 false),(some 18, .mv (.t 5)),(some 19, .idxS (.t 17) (.t 18) 8),(some 20, .fldA (.t 19) 0 0),(some 21, .ld (.t 20) 2 true),(some 22, .fldA (.t 3) 0 0),(some 23, .ld (.t 22) 2 true)]⟩] [⟨some (13,true),[(some 24, .call 15 [(.t 21),(.t 23)]),(some 25, .bin .lss (.t 24) (.c (.int .i64 0)))]⟩,⟨none,[(some 26, .pick (.t 13) (.t 25) (.c (.bool false)))]⟩] [0,3,4,5,26])
 (.ite (.t 26)
 .skip
 (.exit 0)))
 (.block 1 (.rg [⟨none,[(some 27, .mv (.t 5)),(some 28, .bin .add (.t 27) (.c (.int .i64 1))),(some 5, .mv (.t 28))]⟩] [0,3,4,5])))
def ziG:Cd:=
 (.seq (.rg [⟨none,[(some 3, .box 26 (.t 1))]⟩] [0,3])
 (.seq (.rg [⟨none,[(some 4, .mv (.c (.slice none 0 0)))]⟩] [0,3,4])
 (.seq (.rg [⟨none,[(some 5, .mv (.c (.int .i64 0)))]⟩] [0,3,4,5])
 (.seq (.block 0 (.loop zgr))
 (.seq (.rg [⟨none,[(some 29, .mv (.t 4)),(some 30, .mv (.t 0)),(some 31, .nilc (.t 30)),(some 32, .fldA (.t 31) 2 2),(some 33, .ld (.t 32) 1 false),(none, .gh),(some 34, .mv (.t 5)),(some 35, .sl 8 (.t 33) none (some (.t 34))),(some 36, .app 26 8 88 (.c (.c (.s (.int .i64 0)) (.c (.s (.int .i64 0)) .u)) (.c (.s (.int .i64 0)) (.c (.s (.int .i64 0)) (.c (.s (.int .i64 0)) (.c (.s (.string ⟨#[]⟩)) (.c (.s (.string ⟨#[]⟩)) (.c (.s (.string ⟨#[]⟩)) .u))))))) (.t 29) (.t 35)),(some 4, .mv (.t 36))]⟩] [0,3,4,5])
 (.seq (.rg [⟨none,[(some 37, .mv (.t 4)),(some 38, .ld (.t 3) 8 true),(some 39, .bldS 26 8 (.c (.c (.s (.int .i64 0)) (.c (.s (.int .i64 0)) .u)) (.c (.s (.int .i64 0)) (.c (.s (.int .i64 0)) (.c (.s (.int .i64 0)) (.c (.s (.string ⟨#[]⟩)) (.c (.s (.string ⟨#[]⟩)) (.c (.s (.string ⟨#[]⟩)) .u))))))) [(.t 38)]),(some 40, .app 26 8 88 (.c (.c (.s (.int .i64 0)) (.c (.s (.int .i64 0)) .u)) (.c (.s (.int .i64 0)) (.c (.s (.int .i64 0)) (.c (.s (.int .i64 0)) (.c (.s (.string ⟨#[]⟩)) (.c (.s (.string ⟨#[]⟩)) (.c (.s (.string ⟨#[]⟩)) .u))))))) (.t 37) (.t 39)),(some 4, .mv (.t 40))]⟩] [0,4,5])
 (.rg [⟨none,[(some 41, .mv (.t 0)),(some 42, .mv (.t 4)),(some 43, .mv (.t 0)),(some 44, .nilc (.t 43)),(some 45, .fldA (.t 44) 2 2),(some 46, .ld (.t 45) 1 false),(none, .gh),(some 47, .mv (.t 5)),(some 48, .sl 8 (.t 46) (some (.t 47)) none),(some 49, .app 26 8 88 (.c (.c (.s (.int .i64 0)) (.c (.s (.int .i64 0)) .u)) (.c (.s (.int .i64 0)) (.c (.s (.int .i64 0)) (.c (.s (.int .i64 0)) (.c (.s (.string ⟨#[]⟩)) (.c (.s (.string ⟨#[]⟩)) (.c (.s (.string ⟨#[]⟩)) .u))))))) (.t 42) (.t 48)),(none, .gh),(some 50, .nilc (.t 41)),(some 51, .fldA (.t 50) 2 2),(none, .st (.t 51) (.t 49) 1)]⟩] [])))))))
theorem zoK:Ok Tryz.prog 63 ziG 52 [(3,18)] []:=Ok.mk' Tryz.func63 (by kernel_rfl) (by kernel_rfl) (by kernel_rfl)
abbrev zmQ:Nat:=64
def zfJ:Cd:=
 (.seq (.seq (.rg [⟨none,[(some 16, .mv (.t 7)),(some 17, .mv (.t 0)),(some 18, .nilc (.t 17)),(some 19, .fldA (.t 18) 2 2),(some 20, .ld (.t 19) 1 false),(some 21, .len (.t 20)),(some 22, .bin .lss (.t 16) (.t 21))]⟩] [0,4,6,7,22])
 (.ite (.t 22)
 .skip
 (.exit 0)))
 (.seq (.block 1 (.rg [⟨none,[(some 25, .mv (.t 6)),(some 26, .mv (.t 4)),(some 27, .mv (.t 0)),(some 28, .nilc (.t 27)),(some 29, .fldA (.t 28) 2 2),(some 30, .ld (.t 29) 1 false),(some 31, .mv (.t 7)),(some 32, .idxS (.t 30) (.t 31) 8),(some 33, .ld (.t 32) 8 true),(some 34, .call 97 [(.t 26),(.t 33)]),(some 35, .bldS 4 1 (.s (.bool false)) [(.t 34)]),(some 36, .app 4 1 1 (.s (.bool false)) (.t 25) (.t 35)),(some 6, .mv (.t 36))]⟩] [0,4,6,7]))
 (.rg [⟨none,[(some 23, .mv (.t 7)),(some 24, .bin .add (.t 23) (.c (.int .i64 1))),(some 7, .mv (.t 24))]⟩] [0,4,6,7])))
def zhW:Cd:=
 (.seq (.rg [⟨none,[(some 2, .mv (.c (.pointer none))),(some 3, .mv (.c (.slice none 0 0)))]⟩] [0])
 (.seq (.rg [⟨none,[(some 9, .mv (.t 0)),(some 10, .nilc (.t 9)),(some 11, .fldA (.t 10) 0 0),(some 12, .ld (.t 11) 1 false),(some 13, .call 74 [(.t 12)]),(some 8, .mv (.t 13)),(some 14, .ext (.t 8) 0),(some 15, .ext (.t 8) 1),(some 4, .mv (.t 14)),(some 5, .mv (.t 15))]⟩] [0,4])
 (.seq (.rg [⟨none,[(some 6, .mv (.c (.slice none 0 0)))]⟩] [0,4,6])
 (.seq (.seq (.rg [⟨none,[(some 7, .mv (.c (.int .i64 0)))]⟩] [0,4,6,7])
 (.block 0 (.loop zfJ)))
 (.seq (.rg [⟨none,[(some 37, .mv (.t 4)),(some 38, .mv (.t 6)),(some 2, .mv (.t 37)),(some 3, .mv (.t 38))]⟩] [2,3])
 .ret)))))
theorem znw:Ok Tryz.prog 64 zhW 39 [] [.tmp 2, .tmp 3]:=Ok.mk' Tryz.func64 (by kernel_rfl) (by kernel_rfl) (by kernel_rfl)
abbrev zmA:Nat:=70
def zhi:Cd:=
 (.seq (.rg [⟨none,[(some 2, .mv (.c (.slice none 0 0)))]⟩] [0])
 (.seq (.rg [⟨none,[(some 6, .mv (.t 0)),(some 7, .nilc (.t 6)),(some 8, .fldA (.t 7) 0 0),(some 9, .ld (.t 8) 1 false),(some 10, .call 74 [(.t 9)]),(some 5, .mv (.t 10)),(some 11, .ext (.t 5) 0),(some 12, .ext (.t 5) 1),(some 3, .mv (.t 11)),(some 4, .mv (.t 12))]⟩] [3])
 (.seq (.rg [⟨none,[(some 13, .mv (.t 3)),(some 14, .call 69 [(.t 13)]),(some 2, .mv (.t 14))]⟩] [2])
 .ret)))
theorem zmi:Ok Tryz.prog 70 zhi 15 [] [.tmp 2]:=Ok.mk' Tryz.func70 (by kernel_rfl) (by kernel_rfl) (by kernel_rfl)
abbrev ziH:Nat:=26
def zgo:Cd:=
 (.seq (.seq (.rg [⟨none,[(some 26, .mv (.t 9)),(some 27, .mv (.t 1)),(some 28, .len (.t 27)),(some 29, .bin .lss (.t 26) (.t 28))]⟩] [0,1,8,9,29])
 (.ite (.t 29)
 .skip
 (.exit 0)))
 (.seq (.block 1 (.rg [⟨none,[(some 32, .mv (.t 0)),(some 33, .mv (.t 1)),(some 34, .mv (.t 9)),(some 35, .idxS (.t 33) (.t 34) 8),(some 36, .ld (.t 35) 8 true),(some 37, .call 63 [(.t 32),(.t 36)])]⟩] [0,1,8,9]))
 (.rg [⟨none,[(some 30, .mv (.t 9)),(some 31, .bin .add (.t 30) (.c (.int .i64 1))),(some 9, .mv (.t 31))]⟩] [0,1,8,9])))
def zgj:Cd:=
 (.seq (.seq (.rg [⟨none,[(some 48, .mv (.t 14)),(some 49, .mv (.t 0)),(some 50, .nilc (.t 49)),(some 51, .fldA (.t 50) 2 2),(some 52, .ld (.t 51) 1 false),(some 53, .len (.t 52)),(some 54, .bin .lss (.t 48) (.t 53))]⟩] [0,1,8,11,12,13,14,54])
 (.ite (.t 54)
 .skip
 (.exit 2)))
 (.seq (.block 3 (.seq (.seq (.rg [⟨none,[(some 57, .mv (.t 1)),(some 58, .mv (.t 0)),(some 59, .nilc (.t 58)),(some 60, .fldA (.t 59) 2 2),(some 61, .ld (.t 60) 1 false),(some 62, .mv (.t 14)),(some 63, .idxS (.t 61) (.t 62) 8),(some 64, .fldA (.t 63) 0 0),(some 65, .ld (.t 64) 2 true),(some 66, .call 65 [(.t 57),(.t 65)]),(some 67, .un .not (.t 66))]⟩] [0,1,8,11,12,13,14,67])
 (.ite (.t 67)
 (.exit 3)
 .skip))
 (.seq (.rg [⟨none,[(some 68, .mv (.t 13)),(some 69, .mv (.t 14)),(some 70, .mnx false (.t 68) (.t 69)),(some 13, .mv (.t 70))]⟩] [0,1,8,11,12,13,14])
 (.seq (.rg [⟨none,[(some 71, .mv (.t 11)),(some 72, .mv (.t 14)),(some 73, .idxS (.t 71) (.t 72) 1),(some 74, .ld (.t 73) 1 false)]⟩] [0,1,8,11,12,13,14,74])
 (.ite (.t 74)
 (.rg [⟨none,[(some 75, .mv (.t 12)),(some 76, .bin .add (.t 75) (.c (.int .i64 1))),(some 12, .mv (.t 76))]⟩] [0,1,8,11,12,13,14])
 .skip)))))
 (.rg [⟨none,[(some 55, .mv (.t 14)),(some 56, .bin .add (.t 55) (.c (.int .i64 1))),(some 14, .mv (.t 56))]⟩] [0,1,8,11,12,13,14])))
def ziS:Cd:=
 (.seq (.rg [⟨none,[(some 4, .mv (.c (.int .i64 0))),(some 5, .mv (.c (.int .i64 0))),(some 6, .mv (.c (.int .i64 0)))]⟩] [0,1])
 (.seq (.seq (.rg [⟨none,[(some 15, .mv (.t 0)),(some 16, .mv (.t 1)),(some 17, .call 62 [(.t 15),(.t 16)]),(some 7, .mv (.t 17))]⟩] [0,1,7])
 (.seq (.rg [⟨none,[(some 18, .mv (.t 7)),(some 19, .bin .neq (.t 18) (.c (.int .i64 0)))]⟩] [0,1,7,19])
 (.ite (.t 19)
 (.seq (.rg [⟨none,[(some 20, .mv (.t 7)),(some 4, .mv (.c (.int .i64 0))),(some 5, .mv (.c (.int .i64 0))),(some 6, .mv (.t 20))]⟩] [4,5,6])
 .ret)
 .skip)))
 (.seq (.rg [⟨none,[(some 21, .mv (.t 0)),(some 22, .nilc (.t 21)),(some 23, .fldA (.t 22) 2 2),(some 24, .ld (.t 23) 1 false),(some 25, .len (.t 24)),(some 8, .mv (.t 25))]⟩] [0,1,8])
 (.seq (.seq (.rg [⟨none,[(some 9, .mv (.c (.int .i64 0)))]⟩] [0,1,8,9])
 (.block 0 (.loop zgo)))
 (.seq (.rg [⟨none,[(some 39, .mv (.t 0)),(some 40, .call 64 [(.t 39)]),(some 38, .mv (.t 40)),(some 41, .ext (.t 38) 0),(some 42, .ext (.t 38) 1),(some 10, .mv (.t 41)),(some 11, .mv (.t 42))]⟩] [0,1,8,11])
 (.seq (.rgq [⟨none,[(some 43, .mv (.t 0)),(some 44, .nilc (.t 43)),(some 45, .fldA (.t 44) 2 2),(some 46, .ld (.t 45) 1 false),(some 47, .len (.t 46)),(some 12, .mv (.c (.int .i64 0)))]⟩] [⟨none,[(some 13, .mv (.t 47))]⟩] [0,1,8,11,12,13])
 (.seq (.seq (.rg [⟨none,[(some 14, .mv (.c (.int .i64 0)))]⟩] [0,1,8,11,12,13,14])
 (.block 2 (.loop zgj)))
 (.seq (.rg [⟨none,[(some 77, .mv (.t 12)),(some 78, .mv (.t 8)),(some 79, .mv (.t 13)),(some 80, .mv (.t 8)),(some 81, .mnx false (.t 79) (.t 80)),(some 82, .bin .sub (.t 78) (.t 81)),(some 4, .mv (.t 77)),(some 5, .mv (.t 82)),(some 6, .mv (.c (.int .i64 0)))]⟩] [4,5,6])
 .ret))))))))
theorem zoQ:Ok Tryz.prog 26 ziS 83 [(10,6)] [.tmp 4, .tmp 5, .tmp 6]:=Ok.mk' Tryz.func26 (by kernel_rfl) (by kernel_rfl) (by kernel_rfl)
end Go.Proofs.YtmjiojflncffeaaGreat.Vc

set_option linter.unusedVariables false
set_option linter.unusedSimpArgs false
set_option maxRecDepth 100000
namespace Go.Proofs.YtmjiojflncffeaaGreat.Vc
open Go Go.Proofs
def zlb (ops:List Op) (k:Int×Int):Bool:=decide (k∈ops.map Op.k)
theorem zyp {ops:List Op} {i:Nat} (h:i<ops.length) {k:Int×Int}:zlb (ops.take (i+1)) k=(zlb (ops.take i) k||decide ((ops.getD i zOp).k=k)):=by
 have e:ops.take (i+1)=ops.take i++[ops.getD i zOp]:=zfb h zOp
 unfold zlb
 rw [e,List.map_append]
 simp only [List.map_cons,List.map_nil,List.mem_append,List.mem_singleton,Bool.decide_or]
 congr 1
 exact decide_eq_decide.2 eq_comm
theorem zqp (w:World) (v:Value) (ops:List Op) (s:Stamp) (h:SlR w.ph v 8 (ops.map gOp)) (hl:ops.length≤1099511627776):
  Spec Tryz.prog ztG [v,(zaA s).val] PH.no w fun rs _=>rs=[.s (.bool (zlb ops s.k))]:=by
 refine zbE zua (Qf:=fun rs=>rs=[.s (.bool (zlb ops s.k))]) [.ro v 8 (gOp zOp) (ops.map gOp), .g (zaA s)] (by simp) (by simpa [AV.ok,zbr,zcC]using h) ?_
 simp (maxSteps:=2000000) only [znY,zi,zB,zm,zf,zc,zb,zh,ze,za,zj,ev,look,zZ,zd,zg,zk,Value.oneCell',cond_true,Nat.reduceEqDiff,↓reduceIte,reduceCtorEq,Nat.zero_add,Bool.true_and,true_and,zak,zaK,List.length_map]
 refine zaP (ι:=Nat) (fun i=>⟨[(0, .row 0 0 (ops.length)),(3, .ref 3 []),(5, .g (.s (.int .i64 (i))))],[(0, .ro 8 (gOp zOp) (ops.map gOp)),(3, .box (zaA s))],[],PH.no⟩) (fun i=>i≤ops.length∧zlb (ops.take i) s.k=false) (fun i=>ops.length - i) 0 ⟨by simp,by simp [zlb]⟩ (zR ?_ ?_ rfl rfl rfl) ?_
 ·simp [zaf,look]
 ·simp [zam,look]
 rintro i ⟨hi,hno⟩
 generalize hQ:loopQ _ _ _ _ _=Q
 simp (maxSteps:=2000000) only [zjA,zu,zau,zi,zB,zm,zbh,zq,zf,zay,zc,zb,zh,ze,za,zM,zaq,zU,zw,zX,zj,zaD,ev,look,zd,zg,zk,zaF,zdh,zO,zP,Nat.reduceEqDiff,↓reduceIte,reduceCtorEq,List.nil_append,Nat.zero_add,Bool.true_and,true_and,Int.toNat_natCast,decide_eq_true_eq,decide_eq_false_iff_not,zax,zn,zag,zcb,zbL,zdY]
 refine ⟨fun hlt=> ?_,fun hge=> ?_⟩
 ·have hil:i<ops.length:=by omega
  have hsn:=zyp hil (k:=s.k)
  rw [hno,Bool.false_or]at hsn
  refine ⟨⟨by omega,by omega⟩,zcH (zrC _ _) ?_⟩
  rw [show (decide ((ops.getD i zOp).stamp.k=s.k))=zlb (ops.take (i+1)) s.k from hsn.symm]
  cases hb:zlb (ops.take (i+1)) s.k with
  |true=>
   simp (maxSteps:=2000000) only [zx,zi,zm,zq,zf,zp,zy,zc,zb,zh,ze,za,zj,ev,look,zd,zg,zk,Value.oneCell',cond_true,Nat.reduceEqDiff,↓reduceIte,reduceCtorEq,↓zL,Bool.bne_false]
   have:zlb ops s.k=true:=by
    unfold zlb at hb ⊢
    have:=of_decide_eq_true hb
    rw [List.map_take]at this
    exact decide_eq_true (List.mem_of_mem_take this)
   subst hQ
   rw [this]
   simp (maxSteps:=2000000) only [zp,zy,zah,look,↓reduceIte,zD,zal,zC]
  |false=>
   simp (maxSteps:=2000000) only [zu,zm,zq,zf,zT,zc,zb,zh,ze,za,zj,ev,look,zd,zg,zk,zO,zP,Value.oneCell',cond_true,Nat.reduceEqDiff,↓reduceIte,reduceCtorEq,Bool.true_and,true_and,↓zN,Bool.bne_false]
   subst hQ;simp only [zaB];refine ⟨i+1, ?_, ?_,zR ?_ ?_ rfl rfl rfl⟩
   ·exact ⟨by omega,hb⟩
   ·omega
   ·simp only [zaf,look,Nat.reduceEqDiff,↓reduceIte,reduceCtorEq,Bool.and_true,Bool.true_and,true_and,and_true]
    rw [zaN (by omega)]
    try simp
   ·simp [zam,look]
 ·subst hQ
  simp (maxSteps:=2000000) only [zx,zi,zm,zf,zat,zc,zaQ,zb,zh,ze,za,zj,ev,look,zd,zg,zk,Value.oneCell',cond_true,↓reduceIte,zD,zal,zC]
  rw [List.take_of_length_le (by omega)]at hno
  rw [hno]
def rlC (bv:Value) (f:Int) (v:Value) (e:TypeId):Obj:= .cells #[bv, .int .i64 f,v] e (0,0)
structure RLp (b:Nat) (bv:Value) (f:Int) (ops:List Op) (v:Value) (e:TypeId) (mo:PH):Prop where
 base:bv.oneCell'=true
 d:dis (one b (rlC bv f v e)) mo
 ops:SlR mo v 8 (ops.map gOp)
def RLog (m:PH) (b:Nat) (bv:Value) (f:Int) (ops:List Op):Prop:=∃v e mo,m=uni (one b (rlC bv f v e)) mo∧RLp b bv f ops v e mo
theorem SlR.one {u:PH} {v:Value} {z:Nat} {xs:List GV} (h:SlR u v z xs):v.oneCell'=true:=by
 obtain ⟨a,c,rfl⟩:=zch h
 rfl
theorem RLog.look {m:PH} {b:Nat} {bv:Value} {f:Int} {ops:List Op} (h:RLog m b bv f ops):∃v,SlR m v 8 (ops.map gOp)∧∀{C:Ctx} {ph:List PH} {m':PH},KN C.u0 (m'::ph) m→
  zce C ph m' b 0 (.s bv)∧zce C ph m' b 1 (.s (.int .i64 f))∧zce C ph m' b 2 (.s v):=by
 obtain ⟨v,e,mo,rfl,q⟩:=h
 refine ⟨v,q.ops.up (zao q.d),fun hk=> ?_⟩
 have hb:uni (one b (rlC bv f v e)) mo b=some (rlC bv f v e):=zV _ _ _ _ (zaE _ _)
 exact ⟨zaC hk hb rfl q.base,zaC hk hb rfl rfl,zaC hk hb rfl q.ops.one⟩
theorem zxa (w:World) (u:PH) (hu:u.le w) (b:Nat) (bv:Value) (f:Int) (ds:List Done) (hL:RLog u b bv f (ds.map (·.op))) (hl:ds.length≤1099511627776) (v:Value) (ops:List Op) (hops:zqn ops) (hS:SlR w.ph v 8 (ops.map gOp)):
  Spec Tryz.prog zlB [ptr b,v] PH.no w fun rs _=>rs=[.s (.int .i64 (zbl ds f [] ops))]:=by
 refine zbE zmz (Qf:=fun rs=>rs=[.s (.int .i64 (zbl ds f [] ops))]) [.g (.s (ptr b)), .ro v 8 (gOp zOp) (ops.map gOp)] (by simp) (by simpa [AV.ok,zbr,GV.ok,Value.oneCell',ptr]using hS) ?_
 obtain ⟨ov,hSo,hs⟩:=hL.look
 have hn:=hops.1
 simp (maxSteps:=2000000) only [zhe,ptr,zi,zB,zm,zf,zc,zb,zh,ze,za,zj,ev,look,zd,zg,zk,Value.oneCell',cond_true,Nat.reduceEqDiff,↓reduceIte,reduceCtorEq,Nat.zero_add,zak,zaK,List.length_map,ptr]
 refine zaP (ι:=Nat) (fun i=>⟨[(0, .g (.s (.pointer (some ⟨b,0,none⟩)))),(1, .row 1 0 (ops.length)),(5, .g (.s (.int .i64 (i))))],[(1, .ro 8 (gOp zOp) (ops.map gOp))],[],PH.no⟩)
  (fun i=>i≤ops.length∧zbl ds f [] ops=zbl ds f ((ops.take i).map Op.k) (ops.drop i)) (fun i=>ops.length - i) 0 ⟨by simp,rfl⟩ (zR ?_ ?_ rfl rfl rfl) ?_
 ·simp [zaf,look]
 ·simp [zam,look]
 rintro i ⟨hi,he⟩
 generalize hQ:loopQ _ _ _ _ _=Q
 simp (maxSteps:=2000000) only [zfh,zu,zau,zi,zB,zm,zq,zf,zay,zc,zb,zh,ze,za,zj,ev,look,zd,zg,zk,zaF,zdh,zO,zP,Nat.reduceEqDiff,↓reduceIte,reduceCtorEq,Nat.zero_add,Bool.true_and,true_and,Int.toNat_natCast,decide_eq_true_eq,decide_eq_false_iff_not,zax,zn,zbp,zdY]
 refine ⟨fun hlt=>⟨⟨by omega,by omega⟩, ?_⟩,fun hge=> ?_⟩
 case refine_2=>
  subst hQ
  simp (maxSteps:=2000000) only [zx,zi,zm,zf,zat,zc,zaQ,zb,zh,ze,za,zj,ev,look,zd,zg,zk,Value.oneCell',cond_true,↓reduceIte,zD,zal,zC]
  rw [he,List.drop_eq_nil_of_le (by omega)]
  rfl
 have hlt':i<ops.length:=by omega
 obtain ⟨op,hop⟩:∃op,ops.getD i zOp=op:=⟨_,rfl⟩
 obtain ⟨hin,hok⟩:=hops.2 op (hop▸getD_in hlt' zOp)
 have hd:=zya hlt' zOp
 rw [hop]at hd ⊢
 rw [hd]at he
 refine zac (zuh op hin) rfl rfl rfl fun _=> ?_
 by_cases hc:zaO op=0
 case neg=>
  simp (maxSteps:=2000000) only [zK,bne_iff_ne.2 hc,zx,zi,zm,zq,zf,zp,zy,zc,zb,zh,ze,za,zj,ev,look,zd,zg,zk,zO,zP,Value.oneCell',cond_true,Nat.reduceEqDiff,↓reduceIte,reduceCtorEq,Bool.true_and,true_and,↓zL]
  subst hQ
  simp (maxSteps:=2000000) only [zp,zy,zah,look,↓reduceIte,zD,zal,zC]
  rw [he,zhg hc]
 simp (maxSteps:=2000000) only [zK,hc,zu,zx,zi,zm,zbh,zq,zf,zp,zy,zc,zb,zh,ze,za,zaq,zw,zX,zj,zaD,ev,look,zd,zg,zk,zaF,zdh,zO,zP,GV.getT,Value.oneCell',cond_true,Nat.reduceEqDiff,↓reduceIte,reduceCtorEq,List.nil_append,List.cons_append,Nat.zero_add,Bool.true_and,Bool.not_false,true_and,Int.toNat_natCast,zax,zn,zF,zdq,zcr,zcb,zbL,zdY]
 simp (maxSteps:=2000000) only [hop,Int.reduceBNe,Bool.true_and,true_and,true_imp_iff,false_imp_iff,Bool.false_eq_true]
 refine ⟨⟨by omega,by omega⟩,zJ _ (hs (zdy hu)).2.1 rfl ?_⟩
 simp (maxSteps:=2000000) only [zu,zx,zi,zm,zbh,zq,zf,zp,zy,zc,zb,zh,ze,za,zM,zaq,zU,zw,zX,zj,zaD,ev,look,zd,zg,zk,zO,zP,Value.oneCell',cond_true,Nat.reduceEqDiff,↓reduceIte,reduceCtorEq,Nat.zero_add,Bool.true_and,true_and,decide_eq_true_eq,decide_eq_false_iff_not,zax]
 refine ⟨fun hle=> ?_,fun hle=> ?_⟩
 ·subst hQ
  simp (maxSteps:=2000000) only [zp,zy,zah,look,↓reduceIte,zD,zal,zC]
  rw [he,zkn hc hle]
 refine zJ _ (hs (zdy hu)).2.2 rfl ?_
 simp (maxSteps:=2000000) only [hop,zw,zX,zj,zaD,ev,look,zd,zaF,zdh,Nat.reduceEqDiff,↓reduceIte,reduceCtorEq,List.nil_append,Nat.zero_add,Bool.true_and,true_and,Int.toNat_natCast,zn,zag,zcb,zbL,zdY]
 have hds:zlb (ds.map (·.op)) op.k=zgM ds op.k:=by
  unfold zlb zgM
  rw [List.map_map]
  rfl
 refine ⟨⟨by omega,by omega⟩,zuq (y:= .s (.bool (zgM ds op.k))) rfl rfl (fun w' vs hv hw' _=> ?_) ?_⟩
 ·obtain ⟨vs,rfl,_,hv⟩:=zt hv
  obtain ⟨vs,rfl,_,hv⟩:=zt hv
  obtain rfl:=zr hv
  rw [←hds]
  exact zqp w' ov _ op.stamp (hSo.up fun b o h=>hw' b o (by rw [zbr];exact hu b o h)) (by rw [List.length_map];exact hl)
 simp (maxSteps:=2000000) only [zx,zi,zm,zq,zf,zp,zy,zc,zb,zh,zH,ze,za,zM,zcA,zU,zw,zX,zj,zaD,RO.isGh,zI,zar,ev,look,zd,zg,zk,zaF,zdh,zdA,Value.oneCell',cond_true,cond_false,Nat.reduceEqDiff,↓reduceIte,reduceCtorEq,List.nil_append,Nat.zero_add,Nat.add_zero,Bool.true_and,Bool.not_false,true_and,Int.toNat_natCast,↓zL,↓zbi,↓zbW,zdE,zn,zag,zcb,zbL,zdY]
 generalize hks:(ops.take i).map Op.k=ks at*
 cases hA:zgM ds op.k with
 |true=>
  simp (maxSteps:=2000000) only [Bool.true_and,true_and,true_imp_iff,false_imp_iff,Bool.true_eq_false]
  subst hQ
  simp (maxSteps:=2000000) only [zp,zy,zah,look,↓reduceIte,zD,zal,zC]
  rw [he,zep hc hle (.inl hA)]
 |false=>
  simp (maxSteps:=2000000) only [hop,Bool.and_true,and_true,true_imp_iff,false_imp_iff,Bool.false_eq_true]
  refine ⟨⟨by omega,by omega,by omega⟩,⟨by omega,by omega⟩, ?_⟩
  refine zdc _ [.s (.bool (decide (op.k∈ks)))] rfl rfl (fun w' vs hv hw' _=> ?_) ?_
  ·obtain ⟨v',vs,rfl,k1,hv⟩:=zvY (z:=8) (xs:=ops.map gOp) rfl hv
   obtain ⟨vs,rfl,_,hv⟩:=zt hv
   obtain rfl:=zr hv
   have e:((ops.map gOp).drop 0).take (i - 0)=(ops.take i).map gOp:=by rw [List.drop_zero,List.map_take];rfl
   rw [e]at k1
   have:=zqp w' v' (ops.take i) op.stamp k1 (by simp;omega)
   unfold zlb at this
   rw [hks]at this
   exact this
  simp (maxSteps:=2000000) only [zK,zu,zx,zi,zm,zq,zf,zp,zT,zy,zc,zb,zh,ze,za,zj,ev,look,zd,zg,zk,zO,zP,Value.oneCell',cond_true,Nat.reduceEqDiff,↓reduceIte,reduceCtorEq,Bool.true_and,true_and,decide_eq_true_eq,decide_eq_false_iff_not,↓zN,zax]
  by_cases hk:op.k∈ks
  ·simp (maxSteps:=2000000) only [hk,Bool.and_true,and_true,true_imp_iff,false_imp_iff,not_true_eq_false]
   subst hQ
   simp (maxSteps:=2000000) only [zp,zy,zah,look,↓reduceIte,zD,zal,zC]
   rw [he,zep hc hle (.inr hk)]
  ·simp (maxSteps:=2000000) only [hk,Bool.true_and,true_and,true_imp_iff,false_imp_iff,not_false_eq_true]
   have ht:(ops.take (i+1)).map Op.k=ks++[op.k]:=by
    rw [zfb hlt' zOp,List.map_append,hks,hop];rfl
   rw [zgv hc hle (fun h=>h.elim (fun h=>by rw [hA]at h;cases h) hk),←ht]at he
   subst hQ;simp only [zaB];refine ⟨i+1, ?_, ?_,zR ?_ ?_ rfl rfl rfl⟩
   ·exact ⟨by omega,he⟩
   ·omega
   ·simp only [zaf,look,Nat.reduceEqDiff,↓reduceIte,reduceCtorEq,Bool.and_true,Bool.true_and,true_and,and_true]
    rw [zaN (by omega)]
    try simp
   ·simp [zam,look]
end Go.Proofs.YtmjiojflncffeaaGreat.Vc

set_option linter.unusedVariables false
set_option linter.unusedSimpArgs false
set_option maxRecDepth 100000
namespace Go.Proofs.YtmjiojflncffeaaGreat.Vc
open Go Go.Proofs
def ziZ (op:Op):List Op→List Op
 |[]=>[op]
 |d::l=>if ltK d.k op.k then d::ziZ op l else op::d::l
theorem zti {op:Op}:∀{l:List Op} {p:Nat},(∀j,j<p→ltK (l.getD j zOp).k op.k)→p≤l.length→(p<l.length→¬ltK (l.getD p zOp).k op.k)→ziZ op l=l.take p++op::l.drop p
 |[],p,_,h2,_=>by
  have:p=0:=by simpa using h2
  subst this
  rfl
 |d::l,0,_,_,h3=>by
  have h:¬ltK d.k op.k:=h3 (by simp)
  rw [ziZ,if_neg h]
  rfl
 |d::l,p+1,h1,h2,h3=>by
  have h:ltK d.k op.k:=h1 0 (by omega)
  rw [ziZ,if_pos h,zti (p:=p) (fun j hj=>by simpa using h1 (j+1) (by omega)) (by simpa using h2) (fun hp=>by simpa using h3 (by simpa using hp))]
  rfl
theorem zkg (op:Op):∀l,(ziZ op l).Perm (op::l)
 |[]=>List.Perm.refl _
 |d::l=>by
  rw [ziZ]
  split
  ·exact ((zkg op l).cons d).trans (List.Perm.swap op d l)
  ·exact List.Perm.refl _
theorem zor {op:Op}:∀{l:List Op},Rising (l.map Op.k)→op.k∉l.map Op.k→Rising ((ziZ op l).map Op.k)
 |[],_,_=>by simp [ziZ,Rising]
 |d::l,h,hn=>by
  have h':Rising (d.k::l.map Op.k):=h
  obtain ⟨h1,h2⟩:=List.pairwise_cons.1 h'
  have hn1:op.k≠d.k:=fun e=>hn (by simp [e])
  have hn2:op.k∉l.map Op.k:=fun e=>hn (by rw [List.map_cons];exact List.mem_cons_of_mem _ e)
  rw [ziZ]
  split
  ·rename_i hl
   refine List.pairwise_cons.2 ⟨fun a ha=> ?_,zor h2 hn2⟩
   have:=((zkg op l).map Op.k).mem_iff.1 ha
   rcases List.mem_cons.1 this with rfl|h4
   ·exact hl
   ·exact h1 a h4
  ·rename_i hl
   have hlt:ltK op.k d.k:=by
    rcases ztd op.k d.k with h4|h4|h4
    ·exact h4
    ·exact absurd h4 hn1
    ·exact absurd h4 hl
   refine List.pairwise_cons.2 ⟨fun a ha=> ?_,h'⟩
   rcases List.mem_cons.1 ha with rfl|h4
   ·exact hlt
   ·exact zfW hlt (h1 a h4)
theorem zrc (a b:Stamp):zvs a b<0↔ltK a.k b.k:=by
 unfold zvs
 by_cases h:a.k=b.k
 ·rw [if_pos h,h]
  exact ⟨fun h=>absurd h (by decide),fun h=>absurd h (zeR _)⟩
 ·rw [if_neg h]
  by_cases h2:ltK a.k b.k
  ·simp [h2]
  ·simp [h2]
theorem zxN {b:Nat} {o:Obj} {x:PH} (h:dis (one b o) x) (o':Obj):dis (one b o') x:=fun k=>by
 rcases h k with h|h
 ·simp only [one]at h ⊢
  split at h
  ·cases h
  ·rename_i hk;left;rw [if_neg hk]
 ·exact .inr h
theorem zwb (w:World) (m:PH) (b:Nat) (bv:Value) (f:Int) (l:List Op) (hL:RLog m b bv f l) (hl:l.length≤1099511627776) (op:Op):
  Spec Tryz.prog zoR [ptr b,(gOp op).val] m w fun rs m'=>rs=[]∧RLog m' b bv f (ziZ op l):=by
 refine zbb zoK [.g (.s (ptr b)), .g (gOp op)] (by simp) (by simp [AV.ok,GV.ok,Value.oneCell',ptr,zcS]) ?_
 obtain ⟨v,e,mo,rfl,q⟩:=hL
 obtain ⟨a,c,rfl⟩:=zch q.ops
 have hlm:(l.map gOp).length=l.length:=List.length_map _
 rw [hlm]at q ⊢
 have hk:∀{C:Ctx} {ph:List PH} {m':PH},KN C.u0 (m'::ph) (uni (one b (rlC bv f (.slice a l.length c) e)) mo)→zce C ph m' b 2 (.s (.slice a l.length c)):=fun hk=>zaC hk (zV _ _ _ _ (zaE _ _)) rfl q.ops.one
 simp (maxSteps:=2000000) only [ziG,ptr,zi,zB,zm,zf,zc,zb,zh,ze,za,zj,ev,look,zZ,zd,zg,zk,Value.oneCell',cond_true,Nat.reduceEqDiff,↓reduceIte,reduceCtorEq,Nat.zero_add,Bool.true_and,true_and,zak,zaK,zaU,zcx,ptr]
 refine zaP (ι:=Nat) (fun i=>⟨[(0, .g (.s (.pointer (some ⟨b,0,none⟩)))),(3, .ref 3 []),(4, .g (.s (.slice none 0 0))),(5, .g (.s (.int .i64 (i))))],[(3, .box (gOp op))],[],uni (one b (rlC bv f (.slice a l.length c) e)) mo⟩)
  (fun i=>i≤l.length∧∀j,j<i→ltK (l.getD j zOp).k op.k) (fun i=>l.length - i) 0 ⟨by simp,fun j hj=>absurd hj (by omega)⟩ (zR ?_ ?_ rfl rfl rfl) ?_
 ·simp [zaf,look]
 ·simp [zam,look]
 rintro i ⟨hi,hj⟩
 generalize hQ:loopQ _ _ _ _ _=Q
 have fin:∀x:SV,ziZ op l=l.take i++op::l.drop i→Q (.exit 0) ⟨[(0, .g (.s (.pointer (some ⟨b,0,none⟩)))),(3, .ref 3 []),(4, .g (.s (.slice none 0 0))),(5, .g (.s (.int .i64 (i)))),(26,x)],[(3, .box (gOp op))],[],uni (one b (rlC bv f (.slice a l.length c) e)) mo⟩:=by
  intro x he
  subst hQ
  simp (maxSteps:=2000000) only [zi,zm,zf,zat,zaQ,zh,za,zj,ev,look,zd,Nat.reduceEqDiff,↓reduceIte,reduceCtorEq,Nat.zero_add]
  refine zJ _ (hk zbY) rfl ?_
  simp (maxSteps:=2000000) only [za,zj,zd]
  refine zgg (zhp (zbU q.d) (zG q.d) ?_)
  refine zCd 33 33 (gOp zOp) rfl rfl q.ops (.inr (by simp)) ?_
  simp (maxSteps:=2000000) only [List.length_map,za,zj,ev,look,zd,zaF,zdA,Nat.reduceEqDiff,↓reduceIte,reduceCtorEq,Nat.add_zero,Bool.true_and,true_and,Int.toNat_natCast,List.drop_zero,List.length_map]
  refine ⟨⟨by omega,by omega,by omega⟩,ztn rfl rfl (by omega) ?_⟩
  simp (maxSteps:=2000000) only [Nat.sub_zero,List.length_take,List.length_map,List.length_cons,List.length_nil,zi,zm,zf,zc,zb,zh,ze,za,zj,ev,evL,gvL,look,zZ,zd,zg,zk,zaF,cond_true,cond_false,Nat.reduceEqDiff,Nat.reduceBEq,↓reduceIte,reduceCtorEq,Nat.zero_add,Bool.and_true,Bool.true_and,BEq.rfl,true_and,and_true,Option.map_some,zcO,List.length_cons,List.length_nil,zbA,SV.mentions,ne_eq,not_false_eq_true,List.drop_zero,List.take_succ_cons,List.take_zero,zn,List.length_map,zbM,zbp]
  refine ⟨by omega,by omega,zJ (.s (.slice a l.length c)) (zaC zbY (zaE _ _) rfl rfl) rfl ?_⟩
  simp (maxSteps:=2000000) only [za,zj,zd]
  refine zCd 46 46 (gOp zOp) rfl rfl q.ops (.inr (by simp)) ?_
  simp (maxSteps:=2000000) only [List.length_take,List.length_map,List.length_append,List.length_cons,List.length_nil,za,zj,ev,look,zZ,zd,zaF,zdA,cond_true,cond_false,Nat.reduceEqDiff,Nat.reduceBEq,↓reduceIte,reduceCtorEq,Nat.zero_add,Bool.true_and,BEq.rfl,true_and,List.length_cons,List.length_nil,Int.toNat_natCast,zbA,SV.mentions,ne_eq,not_false_eq_true,List.length_map]
  refine ⟨⟨by omega,by omega,by omega⟩,by omega,by omega, ?_⟩
  refine zfB 49 36 (i+1+(l.length - i)) rfl rfl (by simp only [List.length_append,List.length_map,List.length_cons,List.length_nil,List.length_take,List.length_drop];omega) fun v' u' hv' hS' hd'=> ?_
  have eR:List.take i (List.map gOp l)++[gOp op]++List.take (l.length - i) (List.drop i (List.map gOp l))=(ziZ op l).map gOp:=by
   rw [he,List.take_of_length_le (l:=List.drop i (List.map gOp l)) (by simp),←List.map_take,←List.map_drop,List.map_append,List.map_cons,List.append_assoc]
   rfl
  rw [eR]at hS'
  rw [zbU hd']
  have hd2:=zG hd'
  simp (maxSteps:=2000000) only [za,zj,ev,look,zd,cond_true,cond_false,Nat.reduceEqDiff,Nat.reduceBEq,↓reduceIte,Nat.zero_add,BEq.rfl,zbA,SV.mentions]
  refine zgi rfl _ e ⟨zV _ _ _ _ (zaE _ _),by simp [rlC]⟩ ?_
  simp (maxSteps:=2000000) only [zc,zni,zb,ze,zS,zg,zk]
  rw [zbZ]
  exact zbq (rs:=[]) _ rfl (fun _ _ h=>h) ⟨rfl,v',e,u',rfl,⟨q.base,zxN hd2 _,hS'.toR⟩⟩
 simp (maxSteps:=2000000) only [zgr,zi,zbh,zaq,zw,zX,zj,zaD,ev,look,zd,Nat.reduceEqDiff,↓reduceIte,reduceCtorEq,Nat.zero_add,Bool.true_and,true_and]
 refine zJ _ (hk zbY) rfl ?_
 simp (maxSteps:=2000000) only [zau,zq,zf,zay,zc,zb,zh,zH,ze,za,zM,zcA,zU,zw,zX,zj,zaD,RO.isGh,zI,zar,ev,look,zd,zg,zk,zO,zP,Value.oneCell',cond_true,cond_false,Nat.reduceEqDiff,↓reduceIte,reduceCtorEq,Nat.zero_add,Bool.true_and,Bool.not_true,true_and,decide_eq_true_eq,decide_eq_false_iff_not,↓zN,zax]
 refine ⟨fun hlt=> ?_,fun hge=> ?_⟩
 ·have hil:i<l.length:=by omega
  obtain ⟨b2,o2,rfl,_,_,hse⟩:=q.ops.spot (by rw [hlm];omega)
  refine zJ _ (hk zbY) rfl ?_
  simp (maxSteps:=2000000) only [zw,zX,zj,zaD,ev,look,zd,Nat.reduceEqDiff,↓reduceIte,reduceCtorEq,Nat.add_zero,Bool.true_and,true_and,Int.toNat_natCast]
  refine ⟨⟨by omega,by omega⟩,zJ _ (zdV (hse (zlh q.d) i (gOp (l.getD i zOp)) (by rw [List.getElem?_map,List.getD_eq_getElem?_getD,List.getElem?_eq_getElem hil];rfl))) (zag _) ?_⟩
  simp (maxSteps:=2000000) only [zH,za,zM,zU,zw,zX,zj,zaD,ev,look,zd,Nat.reduceEqDiff,↓reduceIte,reduceCtorEq,List.nil_append,Bool.true_and,true_and,↓zL,zn,zag,zcb,zbL]
  refine zac (zvF _ op.stamp) rfl rfl rfl fun _=> ?_
  simp (maxSteps:=2000000) only [zK,zu,zau,zB,zm,zq,zf,zay,zT,zc,zb,zh,ze,za,zj,ev,look,zd,zg,zk,zO,zP,Value.oneCell',cond_true,Nat.reduceEqDiff,↓reduceIte,reduceCtorEq,Bool.true_and,true_and,decide_eq_true_eq,decide_eq_false_iff_not,↓zL,zax]
  refine ⟨fun hc=> ?_,fun hc=> ?_⟩
  ·subst hQ;simp only [zaB];refine ⟨i+1, ?_, ?_,zR ?_ ?_ rfl rfl rfl⟩
   ·refine ⟨by omega,fun j hj2=> ?_⟩
    rcases Nat.lt_succ_iff_lt_or_eq.1 hj2 with h5|rfl
    ·exact hj j h5
    ·exact (zrc _ _).1 hc
   ·omega
   ·simp only [zaf,look,Nat.reduceEqDiff,↓reduceIte,reduceCtorEq,Bool.and_true,Bool.true_and,true_and,and_true]
    rw [zaN (by omega)]
    try simp
   ·simp [zam,look]
  ·exact fin _ (zti hj hi fun _ h=>hc ((zrc _ _).2 h))
 ·exact fin _ (zti hj hi fun h=>absurd h (by omega))
end Go.Proofs.YtmjiojflncffeaaGreat.Vc

set_option linter.unusedVariables false
set_option linter.unusedSimpArgs false
set_option maxRecDepth 100000
namespace Go.Proofs.YtmjiojflncffeaaGreat.Vc
open Go Go.Proofs
theorem zkW (w:World) (va:Value) (ts:List TreeNode) (l:List TN) (u:PH) (hu:u.le w) (ha:SlR u va 4 (ts.map zl)) (hts:TsOk u ts l) (hn:l.length≤1099511627776) (hs:∀t∈l,t.attrs.length≤1099511627776):
  Spec Tryz.prog zkC [va] PH.no w fun rs m'=>∃v mn ma ts',rs=[.s v]∧m'=uni mn ma∧dis mn ma∧SlO mn v 49 4 (ts'.map zl)∧TsOk ma ts' l:=by
 refine zbb zqX [.ro va 4 (zl zTreeNode) (ts.map zl)] (by simp) (by simpa [AV.ok,zbr]using ha.up hu.sub) ?_
 have hlts:=hts.len
 simp (maxSteps:=2000000) only [zkE,zi,zm,zf,zc,zb,zh,ze,za,zj,ev,look,zd,zg,zk,Value.oneCell',cond_true,↓reduceIte,reduceCtorEq,zak,zaK,List.length_map,List.length_map]
 refine ztb 3 3 49 4 (zl zTreeNode) rfl rfl ?_
 simp (maxSteps:=2000000) only [zB,zf,zc,zb,ze,za,zj,ev,look,zd,zg,zk,Value.oneCell',cond_true,Nat.reduceEqDiff,↓reduceIte,reduceCtorEq]
 refine zaP (ι:=Nat×List TreeNode×PH) (fun q=>⟨[(0, .row 0 0 (ts.length)),(3, .row 3 0 (q.2.1.length)),(4, .g (.s (.int .i64 (q.1))))],[(0, .ro 4 (zl zTreeNode) (ts.map zl)),(3, .row 49 4 (zl zTreeNode) (q.2.1.map zl))],[],q.2.2⟩)
  (fun q=>q.1≤ts.length∧q.2.1.length=q.1∧TsOk q.2.2 q.2.1 (l.take q.1)) (fun q=>ts.length - q.1) (0,[],PH.no) ⟨by simp,rfl,trivial⟩ (zR ?_ ?_ rfl rfl rfl) ?_
 ·simp [zaf,look]
 ·simp [zam,look]
 rintro ⟨i,os,mA⟩ ⟨hi,hol,hos⟩
 simp only at hi hol hos
 generalize hQ:loopQ _ _ _ _ _=Q
 simp (maxSteps:=2000000) only [zhT,zu,zau,zi,zB,zm,zq,zf,zay,zc,zb,zh,ze,za,zj,ev,look,zZ,zd,zS,zg,zk,zaF,zdh,zO,zP,GV.getT,Nat.reduceEqDiff,↓reduceIte,reduceCtorEq,List.nil_append,Nat.zero_add,Bool.and_true,Bool.true_and,Bool.not_false,true_and,and_true,Int.toNat_natCast,decide_eq_true_eq,decide_eq_false_iff_not,zax,zn,zY,zF,zai,zaY,zbR,zaV,zaG,zbG,zdt]
 refine ⟨fun hlt=>⟨⟨by omega,by omega⟩, ?_⟩,fun hge=> ?_⟩
 ·obtain ⟨t,ht⟩:∃t,ts.getD i zTreeNode=t:=⟨_,rfl⟩
  obtain ⟨r,hr⟩:∃r,l.getD i zTN=r:=⟨_,rfl⟩
  have hrm:r∈l:=by rw [←hr,List.getD_eq_getElem?_getD,List.getElem?_eq_getElem (by omega)];exact List.getElem_mem _
  obtain ⟨e1,e2,e3,hsl⟩:=hts.at i (by omega)
  rw [ht,hr]at e1 e2 e3 hsl
  have htake:l.take (i+1)=l.take i++[r]:=by
   rw [List.take_add_one,←hr,List.getD_eq_getElem?_getD,List.getElem?_eq_getElem (by omega)];rfl
  have hal:=hs r hrm
  rw [ht]
  refine zog 17 17 (zap zcU) rfl rfl hsl (zdy hu) ?_
  simp (maxSteps:=2000000) only [List.length_map,za,zj,ev,look,zaF,Value.oneCell',cond_true,↓reduceIte,Bool.true_and,true_and,List.drop_zero,List.length_map,List.length_map]
  rw [List.take_of_length_le (by simp)]
  refine ztn rfl rfl (by omega) ?_
  simp (maxSteps:=2000000) only [za,zj,zZ,Nat.reduceEqDiff,↓reduceIte,reduceCtorEq]
  refine zfB 18 18 r.attrs.length rfl rfl (by simp) fun v u2 hv hso hd2=> ?_
  simp (maxSteps:=2000000) only [dropK,zm,zf,zT,zc,zb,zh,ze,za,zj,ev,evL,gvL,look,zZ,zd,zS,zg,zk,zaF,zO,zP,GV.getT,GV.sz,GV.same,Value.oneCell',cond_true,cond_false,Nat.reduceEqDiff,Nat.reduceBEq,↓reduceIte,reduceCtorEq,List.nil_append,Nat.zero_add,Bool.and_true,Bool.true_and,BEq.rfl,true_and,and_true,Option.map_some,zcO,List.length_cons,List.length_nil,zbA,SV.mentions,ne_eq,not_false_eq_true,List.drop_zero,List.take_succ_cons,List.take_zero,zn,List.length_map,zai,zaY,zaV,zaG,zgp,List.length_map]
  refine ⟨by omega, ?_⟩
  subst hQ;simp only [zaB];refine ⟨(i+1,os++[⟨t.node,t.parent,t.name,v⟩],uni u2 mA), ?_, ?_,zR ?_ ?_ rfl rfl rfl⟩
  ·refine ⟨by simp only;omega,by simp only [List.length_append,List.length_cons,List.length_nil];omega, ?_⟩
   simp only
   rw [htake]
   exact TsOk.snoc (t:=⟨t.node,t.parent,t.name,v⟩) ⟨e1,e2,e3,hso.toR.up (zV _ _)⟩ (hos.up (zao hd2))
  ·simp only;omega
  ·simp only [zaf,look,Nat.reduceEqDiff,↓reduceIte,reduceCtorEq,Nat.zero_add,Bool.and_true,Bool.true_and,true_and,and_true,List.length_cons,List.length_nil,List.length_append,List.length_cons,List.length_nil]
   rw [zaN (by omega)]
   try simp
  ·simp only [zam,look,Nat.reduceEqDiff,↓reduceIte,reduceCtorEq,Bool.and_true,and_true,List.map_cons,List.map_nil,List.map_append,List.map_cons,List.map_nil]
   try simp
   try rfl
 ·subst hQ
  simp (maxSteps:=2000000) only [zi,zm,zf,zat,zaQ,zh,za,zj,ev,look,zd,↓reduceIte,reduceCtorEq]
  refine zfB 24 3 os.length rfl rfl (by simp) fun v u2 hv hso hd2=> ?_
  simp (maxSteps:=2000000) only [zx,zf,zc,zab,zb,ze,za,zj,ev,look,zd,zg,zk,cond_true,cond_false,Nat.reduceBEq,↓reduceIte,BEq.rfl,zbA,SV.mentions]
  have hi':i=l.length:=by omega
  rw [hi',List.take_length]at hos
  exact zbq (rs:=[.s v]) _ rfl (fun _ _ h=>h) ⟨v,u2,mA,os,rfl,rfl,hd2,hso,hos⟩
theorem zvv (w:World) (v:Value) (l:List Attr) (u:PH) (hu:u.le w) (h:SlR u v 2 (l.map zap)) (hl:l.length≤140737488355328) (hsz:∀a∈l,a.key.size≤140737488355328∧a.value.size≤140737488355328):
  Spec Tryz.prog zkQ [v] PH.no w fun rs _=>rs=[.s (.bool (zas ⟨#[]⟩ l))]:=by
 refine zbE zqW (Qf:=fun rs=>rs=[.s (.bool (zas ⟨#[]⟩ l))]) [.ro v 2 (zap zcU) (l.map zap)] (by simp) (by simpa [AV.ok,zbr]using h.up hu.sub) ?_
 simp (maxSteps:=2000000) only [zkA,zi,zB,zm,zf,zc,zb,zh,ze,za,zj,ev,look,zd,zg,zk,Value.oneCell',cond_true,↓reduceIte,reduceCtorEq,zak,zaK,List.length_map,List.length_map]
 refine zaP (ι:=Nat) (fun i=>⟨[(0, .row 0 0 (l.length)),(3, .g (.s (.int .i64 (i))))],[(0, .ro 2 (zap zcU) (l.map zap))],[],PH.no⟩) (fun i=>i≤l.length∧zas ⟨#[]⟩ l=zas (if i=0 then ⟨#[]⟩else (l.getD (i - 1) zcU).key) (l.drop i)) (fun i=>l.length - i) 0 (by simp) (zR ?_ ?_ rfl rfl rfl) ?_
 ·simp [zaf,look]
 ·simp [zam,look]
 rintro i ⟨hi,hj⟩
 generalize hQ:loopQ _ _ _ _ _=Q
 simp (maxSteps:=2000000) only [zhF,zu,zx,zau,zi,zB,zm,zbh,zq,zf,zp,zay,zT,zy,zc,zb,zh,zH,ze,za,zM,zaq,zcA,zU,zw,zX,zj,zaD,RO.isGh,zI,zar,ev,look,zd,zg,zk,zaF,zdh,zO,zP,GV.getT,Value.oneCell',cond_true,cond_false,Nat.reduceEqDiff,↓reduceIte,reduceCtorEq,List.nil_append,Nat.zero_add,Bool.true_and,Bool.not_true,Bool.not_false,true_and,Int.toNat_natCast,decide_eq_true_eq,decide_eq_false_iff_not,↓zL,↓zbi,↓zbW,↓zN,zax,zdE,zn,zF,zgh,zeU,zlq,zim,zlf]
 refine ⟨fun hlt=>⟨⟨by omega,by omega⟩, ?_⟩,fun hge=> ?_⟩
 ·obtain ⟨a,ha⟩:∃a,l.getD i zcU=a:=⟨_,rfl⟩
  have ham:a∈l:=by rw [←ha,List.getD_eq_getElem?_getD,List.getElem?_eq_getElem (by omega)];exact List.getElem_mem _
  have hdrop:l.drop i=a::l.drop (i+1):=by
   rw [←ha,List.getD_eq_getElem?_getD,List.getElem?_eq_getElem (by omega)]
   exact List.drop_eq_getElem_cons (by omega)
  rw [hdrop,zas]at hj
  rw [ha]
  have hbad:(!leB a.key (if i=0 then ⟨#[]⟩else (l.getD (i - 1) zcU).key)&& !decide (a.value=⟨#[]⟩)&&zcl a.key a.value)=false→[GV.s (.bool false)]=[GV.s (.bool (zas ⟨#[]⟩ l))]:=fun h=>by rw [hj,h,Bool.false_and]
  have hpair:zcl a.key a.value=(!decide (a.key=⟨#[]⟩)&&decide (a.key.size≤255)&&decide (a.value.size≤255)):=rfl
  have hgood:leB a.key (if i=0 then ⟨#[]⟩else (l.getD (i - 1) zcU).key)=false→a.value≠⟨#[]⟩→zcl a.key a.value=true→∀fr:List (Nat×SV),zaf fr [(0, .row 0 0 (l.length)),(3, .g (.s (.int .i64 ((i+1:Nat)))))]→Q .normal ⟨fr,[(0, .ro 2 (zap zcU) (l.map zap))],[],PH.no⟩:=by
   intro h1 h2 h3 fr hfr
   subst hQ;simp only [zaB]
   refine ⟨i+1,⟨by omega, ?_⟩,by omega,zR hfr (by simp [zam,look]) rfl rfl rfl⟩
   rw [hj,h1,decide_eq_false h2,h3,if_neg (by omega),Nat.add_sub_cancel,ha];rfl
  refine ⟨fun k1=>⟨⟨by omega,by omega⟩,fun k2=>⟨⟨by omega,by omega⟩,fun k3=>⟨⟨by omega,by omega⟩,fun k4=>⟨fun k5=>⟨⟨by omega,by omega⟩,⟨by rw [zeA (by omega) (by omega)];omega,by rw [zeA (by omega) (by omega)];omega⟩, ?_⟩,fun k5=> ?_⟩,fun k4=> ?_⟩,fun k3=> ?_⟩,fun k2=> ?_⟩,fun k1=> ?_⟩
  ·have hi0:(IntKind.i64.wrap ((i:Int) - 1)).toNat=i - 1:=by rw [zeA (by omega) (by omega)];omega
   rw [hi0]
   rw [if_neg (show ¬i=0 by omega)]at hbad hgood
   refine ⟨fun k6=> ?_,fun k6=> ?_⟩
   ·subst hQ
    simp (maxSteps:=2000000) only [zp,zy,zah,look,↓reduceIte,zD,zal,zC]
    exact hbad (by rw [show leB a.key (l.getD (i - 1) zcU).key=true from k6];rfl)
   ·refine hgood k6 k3 (by rw [hpair,decide_eq_false k1,decide_eq_true (by omega),decide_eq_true (by omega)];rfl) _ ?_
    simp only [zaf,look,↓reduceIte,reduceCtorEq,Bool.and_true,Bool.true_and,true_and,and_true]
    rw [zaN (by omega)]
    try simp
  ·have hi0:i=0:=by omega
   rw [if_pos hi0]at hbad hgood
   refine hgood ?_ k3 (by rw [hpair,decide_eq_false k1,decide_eq_true (by omega),decide_eq_true (by omega)];rfl) _ ?_
   ·rw [leB,decide_eq_false k1]
    cases a.key.data.toList<;>rfl
   ·simp only [zaf,look,↓reduceIte,reduceCtorEq,Bool.and_true,Bool.true_and,true_and,and_true]
    rw [zaN (by omega)]
    try simp
  ·subst hQ
   simp (maxSteps:=2000000) only [zp,zy,zah,look,↓reduceIte,zD,zal,zC]
   exact hbad (by rw [hpair,show decide (a.value.size≤255)=false from decide_eq_false (by omega)];simp)
  ·subst hQ
   simp (maxSteps:=2000000) only [zp,zy,zah,look,↓reduceIte,zD,zal,zC]
   exact hbad (by rw [decide_eq_true k3];simp)
  ·subst hQ
   simp (maxSteps:=2000000) only [zp,zy,zah,look,↓reduceIte,zD,zal,zC]
   exact hbad (by rw [hpair,show decide (a.key.size≤255)=false from decide_eq_false (by omega)];simp)
  ·subst hQ
   simp (maxSteps:=2000000) only [zp,zy,zah,look,↓reduceIte,zD,zal,zC]
   exact hbad (by rw [hpair,decide_eq_true k1];simp)
 ·subst hQ
  simp (maxSteps:=2000000) only [zx,zi,zm,zf,zat,zc,zaQ,zb,zh,ze,za,zj,ev,look,zd,zg,zk,Value.oneCell',cond_true,↓reduceIte,zD,zal,zC]
  have:l.drop i=[]:=List.drop_of_length_le (by omega)
  rw [hj,this];rfl
end Go.Proofs.YtmjiojflncffeaaGreat.Vc

set_option linter.unusedVariables false
set_option linter.unusedSimpArgs false
set_option maxRecDepth 100000
namespace Go.Proofs.YtmjiojflncffeaaGreat.Vc
open Go Go.Proofs
def Olds (A:PH):PH→List Value→List (List TN)→Prop
 |m,[],[]=>m=PH.no
 |m,v::vs,l::ls=>v.oneCell'=true∧∃mn mr ts,m=uni mn mr∧dis mn mr∧SlO mn v 49 4 (ts.map zl)∧TsOk A ts l∧l≠[]∧Olds A mr vs ls
 |_,_,_=>False
theorem Olds.up {A B:PH} (hs:PH.sub A B):∀{m:PH} {vs:List Value} {ls:List (List TN)},Olds A m vs ls→Olds B m vs ls
 |_,[],[],h=>h
 |_,_::_,_::_,⟨h0,mn,mr,ts,h1,h2,h3,h4,h5,h6⟩=>⟨h0,mn,mr,ts,h1,h2,h3,h4.up hs,h5,h6.up hs⟩
 |_,[],_::_,h=>h.elim
 |_,_::_,[],h=>h.elim
theorem Olds.len {A:PH}:∀{m:PH} {vs:List Value} {ls:List (List TN)},Olds A m vs ls→vs.length=ls.length
 |_,[],[],_=>rfl
 |_,_::_,_::_,⟨_,_,_,_,_,_,_,_,_,h6⟩=>by simp [h6.len]
 |_,[],_::_,h=>h.elim
 |_,_::_,[],h=>h.elim
theorem Olds.snoc {A:PH} {v:Value} {l:List TN} {mv:PH} {tv:List TreeNode} (hv1:v.oneCell'=true) (hv:SlO mv v 49 4 (tv.map zl)) (htv:TsOk A tv l) (hl:l≠[]):∀{m:PH} {vs:List Value} {ls:List (List TN)},Olds A m vs ls→dis mv m→Olds A (uni m mv) (vs++[v]) (ls++[l])
 |_,[],[],h,hd=>by
  cases h
  exact ⟨hv1,mv,PH.no,tv,by rw [zeX,zaz],zdW _,hv,htv,hl,rfl⟩
 |_,x::vs,y::ls,⟨h0,mn,mr,ts,h1,h2,h3,h4,h5,h6⟩,hd=>by
  subst h1
  obtain ⟨d1,d2⟩:=zA hd
  exact ⟨h0,mn,uni mr mv,ts,zbs _ _ _,zad h2 (zG d1),h3,h4,h5,Olds.snoc hv1 hv htv hl h6 d2⟩
 |_,[],_::_,h,_=>h.elim
 |_,_::_,[],h,_=>h.elim
structure RMp (A:PH) (b:Nat) (l:List TN) (ls:List (List TN)) (nv wv:Value) (e:TypeId) (mn mw mo:PH) (ts:List TreeNode) (vs:List Value):Prop where
 d1:dis (one b (.cells #[nv,wv] e (0,0))) (uni mn (uni mw mo))
 d2:dis mn (uni mw mo)
 d3:dis mw mo
 rows:SlO mn nv 49 4 (ts.map zl)
 told:TsOk A ts l
 ne:l≠[]
 was:SlO mw wv 43 1 (vs.map GV.s)
 olds:Olds A mo vs ls
def RM (A m:PH) (b:Nat) (l:List TN) (ls:List (List TN)):Prop:=∃nv wv e mn mw mo ts vs,m=uni (one b (.cells #[nv,wv] e (0,0))) (uni mn (uni mw mo))∧RMp A b l ls nv wv e mn mw mo ts vs
def RC (m:PH) (b:Nat) (l:List TN) (ls:List (List TN)):Prop:=∃m1 A,m=uni m1 A∧dis m1 A∧RM A m1 b l ls
theorem RM.up {A B m:PH} {b:Nat} {l:List TN} {ls:List (List TN)} (h:RM A m b l ls) (hs:PH.sub A B):RM B m b l ls:=by
 obtain ⟨nv,wv,e,mn,mw,mo,ts,vs,h1,h2⟩:=h
 exact ⟨nv,wv,e,mn,mw,mo,ts,vs,h1,⟨h2.d1,h2.d2,h2.d3,h2.rows,h2.told.up hs,h2.ne,h2.was,h2.olds.up hs⟩⟩
def zaS:List TN→Int→Nat
 |[],_=>0
 |t::l,n=>if t.node<n then zaS l n+1 else 0
def isL (l:List TN) (n:Int):Bool:=match l[zaS l n]? with
 |Option.some t=>t.node==n
 |Option.none=>false
theorem zlC:∀(l:List TN) (n:Int),zaS l n≤l.length
 |[],_=>Nat.le_refl _
 |t::l,n=>by
  rw [zaS]
  split
  ·have:=zlC l n;simp;omega
  ·simp
theorem zuC:∀(l:List TN) (n:Int) (i:Nat),i<zaS l n→(l.getD i zTN).node<n
 |[],_,i,h=>by simp [zaS]at h
 |t::l,n,i,h=>by
  rw [zaS]at h
  split at h
  ·rename_i ht
   cases i with
   |zero=>simpa using ht
   |succ i=>simpa using zuC l n i (by omega)
  ·omega
theorem zud:∀(l:List TN) (n:Int),zaS l n<l.length→¬(l.getD (zaS l n) zTN).node<n
 |[],_,h=>by simp [zaS]at h
 |t::l,n,h=>by
  rw [zaS]at h ⊢
  split at h
  ·rename_i ht
   rw [if_pos ht]
   simpa using zud l n (by simpa using h)
  ·rename_i ht
   rw [if_neg ht];simpa using ht
theorem zpw {l:List TN} {n:Int} {i:Nat} (h1:∀j,j<i→(l.getD j zTN).node<n) (h2:i≤l.length) (h3:i<l.length→¬(l.getD i zTN).node<n):i=zaS l n:=by
 have ha:=zlC l n
 rcases Nat.lt_trichotomy i (zaS l n)with h|h|h
 ·exact absurd (zuC l n i h) (h3 (by omega))
 ·exact h
 ·exact absurd (h1 _ h) (zud l n (by omega))
section
variable {w:World}
theorem RM.look {A m:PH} {b:Nat} {l:List TN} {ls:List (List TN)} (h:RM A m b l ls):∃(b2 o2 c:Nat) (ts:List TreeNode),ts.length=l.length∧0<l.length∧TsOk A ts l∧SlR m (.slice (Option.some ⟨b2,o2,none⟩) l.length c) 4 (ts.map zl)∧
  (∀{C:Ctx} {ph:List PH} {m':PH},KN C.u0 (m'::ph) m→zce C ph m' b 0 (.s (.slice (Option.some ⟨b2,o2,none⟩) l.length c)))∧
  ∀{C:Ctx} {ph:List PH} {m':PH},KN C.u0 (m'::ph) m→∀i,i<l.length→zce C ph m' b2 (o2+i*4) (zl (ts.getD i zTreeNode)):=by
 obtain ⟨nv,wv,e,mn,mw,mo,ts,vs,rfl,p⟩:=h
 have hl:=p.told.len
 have h0:0<l.length:=List.length_pos_iff.2 p.ne
 obtain ⟨a,c,hv⟩:=zch p.rows.toR
 rw [List.length_map,hl]at hv
 subst hv
 obtain ⟨b2,o2,rfl,_,_,hs⟩:=p.rows.toR.spot (by simp;omega)
 have sub1:PH.sub mn (uni (one b (.cells #[.slice (Option.some ⟨b2,o2,none⟩) l.length c,wv] e (0,0))) (uni mn (uni mw mo))):=PH.sub_trans (zV _ _) (zao p.d1)
 refine ⟨b2,o2,c,ts,hl,h0,p.told,p.rows.toR.up sub1,fun hk=>zaC hk (zV _ _ _ _ (zaE _ _)) rfl rfl,fun hk i hi=> ?_⟩
 refine hs (fun bb o hb=>hk bb o (sub1 bb o hb)) i _ ?_
 rw [List.getElem?_map,List.getD_eq_getElem?_getD,List.getElem?_eq_getElem (by omega)];rfl
theorem zhK (w:World) (A m:PH) (hm:m.le w) (b:Nat) (l:List TN) (ls:List (List TN)) (h:RM A m b l ls) (n:Int) (hl:l.length≤140737488355328):
  Spec Tryz.prog zey [ptr b, .int .i64 n] PH.no w fun rs _=>rs=[.s (.int .i64 (zaS l n)), .s (.bool (isL l n))]:=by
 refine zbE zmv (Qf:=fun rs=>rs=[.s (.int .i64 (zaS l n)), .s (.bool (isL l n))]) [.g (.s (ptr b)), .g (.s (.int .i64 n))] (by simp) (by simp [AV.ok,GV.ok,Value.oneCell',ptr]) ?_
 obtain ⟨b2,o2,c,ts,hlts,h0,hts,_,hs0,hsi⟩:=h.look
 have hk:∀{l:List PH},KN (⟨Tryz.prog,48,w,PH.no⟩:Ctx).u0 l m:=zdy hm
 have hnode:∀i,i<l.length→(ts.getD i zTreeNode).node=(l.getD i zTN).node:=fun i hi=>(hts.at i (by omega)).1
 simp (maxSteps:=2000000) only [zhj,zi,zB,zm,zf,zc,zb,zh,ze,za,zj,ev,look,zd,zg,zk,Value.oneCell',cond_true,Nat.reduceEqDiff,↓reduceIte,reduceCtorEq,Nat.zero_add,zak,zaK,ptr]
 refine zaP (ι:=Nat) (fun i=>⟨[(0, .g (.s (.pointer (Option.some ⟨b,0,none⟩)))),(1, .g (.s (.int .i64 (n)))),(6, .g (.s (.int .i64 (i))))],[],[],PH.no⟩) (fun i=>i≤l.length∧∀j,j<i→(l.getD j zTN).node<n) (fun i=>l.length - i) 0 (by simp) (zR ?_ ?_ rfl rfl rfl) ?_
 ·simp [zaf,look,ptr]
 ·simp [zam,look]
 rintro i ⟨hi,hj⟩
 generalize hQ:loopQ _ _ _ _ _=Q
 simp (maxSteps:=2000000) only [zfr,zi,zm,zh,za,zj,ev,look,zd,Nat.reduceEqDiff,↓reduceIte,reduceCtorEq,Nat.add_zero]
 refine zJ _ (hs0 hk) rfl ?_
 simp (maxSteps:=2000000) only [zau,zq,zf,zay,zc,zb,zh,zH,ze,za,zj,RO.isGh,zI,zar,ev,look,zd,zg,zk,zO,zP,Value.oneCell',cond_true,cond_false,Nat.reduceEqDiff,↓reduceIte,reduceCtorEq,Nat.add_zero,Bool.true_and,Bool.not_true,true_and,decide_eq_true_eq,decide_eq_false_iff_not,↓zN,zax]
 have fin:∀x:SV,i=zaS l n→Q (.exit 0) ⟨[(0, .g (.s (.pointer (Option.some ⟨b,0,none⟩)))),(1, .g (.s (.int .i64 (n)))),(6, .g (.s (.int .i64 (i)))),(25,x)],[],[],PH.no⟩:=by
  intro x he
  subst hQ
  simp (maxSteps:=2000000) only [zi,zbh,zf,zat,zaQ,zaq,zw,zX,zj,zaD,ev,look,zd,Nat.reduceEqDiff,↓reduceIte,reduceCtorEq,Nat.add_zero,Bool.true_and,true_and]
  refine zJ _ (hs0 hk) rfl ?_
  simp (maxSteps:=2000000) only [zx,zf,zc,zb,zh,ze,za,zM,zaq,zcA,zU,zw,zX,zj,zaD,RO.isGh,zI,zar,ev,look,zd,zg,zk,zO,zP,Value.oneCell',cond_true,cond_false,Nat.reduceEqDiff,↓reduceIte,reduceCtorEq,Nat.add_zero,Bool.true_and,Bool.not_true,true_and,zD,zal,zC,decide_eq_true_eq,decide_eq_false_iff_not,↓zN,zax]
  by_cases hlt:i<l.length
  ·refine ⟨fun _=> ?_,fun h=>absurd (show (i:Int)<l.length by omega) h⟩
   refine zJ _ (hs0 hk) rfl ?_
   simp (maxSteps:=2000000) only [zw,zX,zj,zaD,ev,look,zd,Nat.reduceEqDiff,↓reduceIte,reduceCtorEq,Nat.add_zero,Bool.true_and,true_and,Int.toNat_natCast]
   refine ⟨⟨by omega,by omega⟩,zJ _ (zmg (hsi hk i hlt)).1 rfl ?_⟩
   simp (maxSteps:=2000000) only [zx,zf,zc,zb,zh,ze,za,zM,zaq,zU,zw,zX,zj,zaD,ev,look,zd,zg,zk,zO,zP,Value.oneCell',cond_true,Nat.reduceEqDiff,↓reduceIte,reduceCtorEq,Bool.true_and,true_and,zD,zal,zC,↓zL]
   rw [hnode i hlt,←he,isL,←he]
   rw [List.getD_eq_getElem?_getD,List.getElem?_eq_getElem hlt];rfl
  ·refine ⟨fun h=>absurd (show i<l.length by omega) hlt,fun _=> ?_⟩
   rw [←he,isL,←he]
   rw [List.getElem?_eq_none (by omega)]
 refine ⟨fun hlt=> ?_,fun hge=> ?_⟩
 ·have hlt:i<l.length:=by omega
  refine zJ _ (hs0 hk) rfl ?_
  simp (maxSteps:=2000000) only [za,zj,ev,look,zd,Nat.reduceEqDiff,↓reduceIte,reduceCtorEq,Nat.add_zero,Int.toNat_natCast]
  refine ⟨⟨by omega,by omega⟩,zJ _ (zmg (hsi hk i hlt)).1 rfl ?_⟩
  simp (maxSteps:=2000000) only [zu,zau,zB,zm,zq,zf,zay,zT,zc,zb,zh,ze,za,zj,ev,look,zd,zg,zk,zO,zP,Value.oneCell',cond_true,Nat.reduceEqDiff,↓reduceIte,reduceCtorEq,Bool.true_and,true_and,decide_eq_true_eq,decide_eq_false_iff_not,↓zL,zax]
  rw [hnode i hlt]
  refine ⟨fun h1=> ?_,fun h1=> ?_⟩
  ·subst hQ;simp only [zaB];refine ⟨i+1, ?_, ?_,zR ?_ ?_ rfl rfl rfl⟩
   ·refine ⟨by omega,fun j hj'=> ?_⟩
    rcases Nat.lt_or_ge j i with h|h
    ·exact hj j h
    ·rw [show j=i by omega];exact h1
   ·omega
   ·simp only [zaf,look,Nat.reduceEqDiff,↓reduceIte,reduceCtorEq,Bool.and_true,Bool.true_and,true_and,and_true]
    rw [zaN (by omega)]
    try simp
   ·simp [zam,look]
  ·exact fin _ (zpw hj hi fun _=>h1)
 ·exact fin _ (zpw hj hi fun h=>absurd h (by omega))
end
end Go.Proofs.YtmjiojflncffeaaGreat.Vc

set_option linter.unusedVariables false
set_option linter.unusedSimpArgs false
set_option maxRecDepth 100000
namespace Go.Proofs.YtmjiojflncffeaaGreat.Vc
open Go Go.Proofs
theorem SlO.stored {u:PH} {b o n c:Nat} {e:TypeId} {z:Nat} {xs:List GV} (h:SlO u (.slice (some ⟨b,o,none⟩) n c) e z xs) {i:Nat} (hi:i<xs.length) {y:GV} (hy:y.ok) (hz:y.sz=z):
  ∃cs,u b=some (.cells cs e (0,0))∧o+i*z+z≤cs.size∧SlO (u.upd b (.cells (zav cs (o+i*z) y.flat) e (0,0))) (.slice (some ⟨b,o,none⟩) n c) e z (xs.set i y):=by
 obtain ⟨hels,⟨h1,rfl⟩|⟨a,c',h1,h2,h3⟩⟩:=h
 ·simp at hi
 ·simp only [Value.slice.injEq,Option.some.injEq]at h1
  obtain ⟨rfl,rfl,rfl⟩:=h1
  obtain ⟨cs,g1,g2,g3,g4⟩:=h3 (by omega)
  simp only at g2 g3 g4
  have hfl:y.flat.length=z:=by rw [GV.flat_len y hy,hz]
  have hsz:o+i*z+z≤cs.size:=by
   have h5:(i+1)*z≤c*z:=Nat.mul_le_mul_right z (by omega)
   rw [Nat.succ_mul]at h5
   omega
  refine ⟨cs,g3,hsz,hels.set hy hz, .inr ⟨⟨b,o,none⟩,c,by rw [List.length_set],by rw [List.length_set];exact h2,fun hc=>⟨zav cs (o+i*z) y.flat,rfl,by rw [zdB];exact g2,zft _ _ _,fun j v hj=> ?_⟩⟩⟩
  have hx:xs[i]? =some xs[i]:=List.getElem?_eq_getElem hi
  have:=znc hels hx hz hy j v hj
  rw [zdo _ _ _ _ (by rw [hfl];exact hsz),hfl]
  simp only at this ⊢
  split at this
  ·rename_i hb
   rw [if_pos (by omega),show o+j - (o+i*z)=j - i*z by omega]
   exact this
  ·rename_i hb
   rw [if_neg (by omega)]
   exact g4 j v this
theorem SlR.cut {u:PH} {b o n c:Nat} {z:Nat} {xs:List GV} (h:SlR u (.slice (some ⟨b,o,none⟩) n c) z xs) {lo hi:Nat} (h1:lo≤hi) (h2:hi≤n):SlR u (.slice (some ⟨b,if c=lo then o else o+lo*z,none⟩) (hi - lo) (c - lo)) z ((xs.drop lo).take (hi - lo)):=by
 obtain ⟨hels,⟨h3,rfl⟩|⟨a,c',h3,h4,h5⟩⟩:=h
 ·simp at h3
 ·simp only [Value.slice.injEq,Option.some.injEq]at h3
  obtain ⟨rfl,rfl,rfl⟩:=h3
  refine ⟨hels.part _ _, .inr ⟨⟨b,if c=lo then o else o+lo*z,none⟩,c - lo,by rw [List.length_take,List.length_drop];congr 1;omega,by rw [List.length_take,List.length_drop];omega,fun hc=> ?_⟩⟩
  obtain ⟨cs,e,fz,g1,g2,g3⟩:=h5 (by omega)
  simp only at g2 g3 ⊢
  rw [if_neg (by omega)]
  refine ⟨cs,e,fz,trivial,g2,fun j v hj=> ?_⟩
  rw [Nat.add_assoc]
  exact g3 _ _ (zeV hels (by omega) j v hj)
def T0L:List TN:=[⟨1,0,⟨#[]⟩,[]⟩,⟨2,0,⟨#[]⟩,[]⟩]
theorem SlR.nil (u:PH) (z:Nat):SlR u (.slice none 0 0) z []:=⟨fun x hx=>by simp at hx, .inl ⟨rfl,rfl⟩⟩
theorem SlO.nil (u:PH) (e:TypeId) (z:Nat):SlO u (.slice none 0 0) e z []:=⟨fun x hx=>by simp at hx, .inl ⟨rfl,rfl⟩⟩
theorem zza (w:World) (A:PH):Spec Tryz.prog zul [] PH.no w fun rs m'=>∃b,rs=[.s (ptr b)]∧RM A m' b T0L []:=by
 refine zbb zug [] (by simp) (by simp [AV.ok]) ?_
 simp (maxSteps:=2000000) only [znQ,zi,zm,zf,zc,zb,zh,ze,za,zj,ev,evL,gvL,look,zZ,zd,zg,zk,GV.getT,Value.oneCell',cond_true,Nat.reduceEqDiff,Nat.reduceAdd,↓reduceIte,Nat.zero_add,Bool.and_true,Bool.true_and,true_and,and_true,zak,zaK,List.map_cons,List.map_nil,Option.map_some,zcO,List.length_cons,List.length_nil,Int.reduceAdd,GV.bldT,GV.bldC,zcT,zai,zaZ,zet,zbG,ptr]
 refine ⟨rfl,rfl, ?_⟩
 refine zfB 3 3 2 rfl rfl rfl fun v u hv hs hd=> ?_
 simp (maxSteps:=2000000) only [dropK,za,zj,ev,evL,gvL,look,zZ,zd,GV.getT,GV.same,GV.setT,cond_true,cond_false,↓reduceIte,Bool.and_true,Bool.true_and,BEq.rfl,true_and,and_true,List.map_cons,List.map_nil,Option.map_some,zbA,SV.mentions,GV.bldT,GV.bldC]
 refine ⟨rfl, ?_⟩
 refine zcu 5 5 rfl rfl fun v2 u2 hv2 hp hd2=> ?_
 obtain ⟨hok,b,e,rfl,rfl⟩:=hp
 simp (maxSteps:=2000000) only [zx,zf,zc,zab,zb,ze,za,zj,ev,look,zd,zg,zk,cond_true,cond_false,↓reduceIte,BEq.rfl,zbA,SV.mentions]
 rw [zaz]at hd2 ⊢
 refine zbq _ rfl (fun _ _ h=>h) ⟨b,rfl,v, .slice none 0 0,e,u,PH.no,PH.no,[⟨1,0,⟨#[]⟩, .slice none 0 0⟩,⟨2,0,⟨#[]⟩, .slice none 0 0⟩],[], ?_,⟨?_,zdW _,zgC _,hs,⟨⟨rfl,rfl,rfl,SlR.nil _ _⟩,⟨rfl,rfl,rfl,SlR.nil _ _⟩,trivial⟩,by simp [T0L],SlO.nil _ _ _,rfl⟩⟩
 ·rw [zeX,zaz];rfl
 ·rw [zeX,zaz];exact hd2
theorem zkb (a r:PH) (b:Nat) (o:Obj):(uni a r).upd b o=uni (a.upd b o) r:=by
 funext j
 by_cases h:j=b
 ·subst h;simp [PH.upd,uni]
 ·simp [PH.upd,uni,h]
theorem zyS {a r:PH} {b:Nat} {o:Obj} (h:dis a r) (ha:a b≠none):dis (a.upd b o) r:=fun j=>by
 by_cases e:j=b
 ·subst e;exact .inr ((h j).resolve_left ha)
 ·rw [zjc e];exact h j
theorem TsOk.set {A:PH} {t:TreeNode} {a:TN} (ht:t.node=a.node∧t.parent=a.parent∧t.name=a.name∧SlR A t.attrs 2 (a.attrs.map zap)):∀{ts:List TreeNode} {l:List TN} {i:Nat},TsOk A ts l→TsOk A (ts.set i t) (l.set i a)
 |[],[],_,_=>trivial
 |_::_,_::_,0,h=>⟨ht,h.2⟩
 |_::_,_::_,i+1,h=>⟨h.1,h.2.set ht⟩
 |[],_::_,_,h=>h.elim
 |_::_,[],_,h=>h.elim
theorem TsOk.ins {A:PH} {t:TreeNode} {a:TN} (ht:t.node=a.node∧t.parent=a.parent∧t.name=a.name∧SlR A t.attrs 2 (a.attrs.map zap)):∀{ts:List TreeNode} {l:List TN} (i:Nat),TsOk A ts l→TsOk A (ts.take i++t::ts.drop i) (l.take i++a::l.drop i)
 |[],[],i,_=>by simp;exact ⟨ht,trivial⟩
 |x::ts,y::l,0,h=>⟨ht,h⟩
 |x::ts,y::l,i+1,h=>⟨h.1,h.2.ins ht i⟩
 |[],_::_,_,h=>h.elim
 |_::_,[],_,h=>h.elim
def zdU (l:List TN) (a:TN):List TN:=if isL l a.node=true then l.set (zaS l a.node) a else l.take (zaS l a.node)++a::l.drop (zaS l a.node)
theorem zrp (w:World) (A m:PH) (b:Nat) (l:List TN) (ls:List (List TN)) (h:RM A m b l ls) (t:TreeNode) (a:TN) (ht:t.node=a.node∧t.parent=a.parent∧t.name=a.name∧SlR A t.attrs 2 (a.attrs.map zap)) (hl:l.length≤1099511627776):
  Spec Tryz.prog znJ [ptr b,(zl t).val] m w fun rs m'=>rs=[]∧RM A m' b (zdU l a) ls:=by
 refine zbb znd [.g (.s (ptr b)), .g (zl t)] (by simp) (by simp [AV.ok,GV.ok,Value.oneCell',ptr,zfV t (zlY ht.2.2.2)]) ?_
 simp (maxSteps:=2000000) only [zhu,zi,zm,zf,zc,zb,zh,ze,za,zj,ev,look,zZ,zd,zg,zk,GV.getT,Nat.reduceEqDiff,↓reduceIte,reduceCtorEq,List.nil_append,Nat.zero_add,Bool.true_and,Bool.not_false,true_and,zak,zaK,zn,zF,zbQ,zaZ,zbG,ptr]
 refine zaM _ [.s (.int .i64 (zaS l t.node)), .s (.bool (isL l t.node))] rfl rfl (fun w' vs hv _ _ hm=> ?_) ?_
 ·obtain ⟨vs,rfl,_,hv⟩:=zt hv
  obtain ⟨vs,rfl,_,hv⟩:=zt hv
  obtain rfl:=zr hv
  exact zhK w' A m hm b l ls h t.node (by omega)
 simp (maxSteps:=2000000) only [zK,List.getElem?_cons_zero,List.getElem?_cons_succ,zu,zi,zm,zbh,zq,zf,zc,zb,zh,ze,za,zaq,zw,zX,zj,zaD,ev,look,zd,zg,zk,Nat.reduceEqDiff,↓reduceIte,reduceCtorEq,Nat.add_zero,Bool.true_and,true_and,zax]
 have hfl:=zlC l t.node
 have hlk:=h.look
 obtain ⟨nv,wv,e,mn,mw,mo,ts,vs,rfl,p⟩:=h
 have hlts:=p.told.len
 have hlen0:0<l.length:=List.length_pos_iff.2 p.ne
 obtain ⟨a0,c,hnv⟩:=zch p.rows.toR
 rw [List.length_map,hlts]at hnv
 subst hnv
 obtain ⟨b2,o2,rfl,_,hc,_⟩:=p.rows.toR.spot (by simp;omega)
 obtain ⟨d1,d2,d3,hrows,htold,hne,hwas,holds⟩:=p
 have hd1n:=zA d1
 have hcell:∀{C:Ctx} {ph:List PH},zce C ph (uni (one b (.cells #[.slice (some ⟨b2,o2,none⟩) l.length c,wv] e (0,0))) (uni mn (uni mw mo))) b 0 (.s (.slice (some ⟨b2,o2,none⟩) l.length c)):=fun {C ph}=>zaC zbY (zV _ _ _ _ (zaE _ _)) rfl rfl
 refine ⟨fun his=> ?_,fun hno=> ?_⟩
 ·have hlt:zaS l t.node<l.length:=by
   rcases Nat.lt_or_ge (zaS l t.node) l.length with h|h
   ·exact h
   ·rw [isL,List.getElem?_eq_none h]at his;cases his
  refine zJ _ hcell rfl ?_
  simp (maxSteps:=2000000) only [zh,za,zM,zU,zw,zX,zj,zaD,ev,look,zd,Nat.reduceEqDiff,↓reduceIte,reduceCtorEq,Bool.true_and,true_and,Int.toNat_natCast,zn,zaY]
  refine ⟨⟨by omega,by omega⟩, ?_⟩
  obtain ⟨cs,g1,g2,g3⟩:=hrows.stored (i:=zaS l t.node) (by simp;omega) (zfV t (zlY ht.2.2.2)) (zai t)
  have hb2:(one b (.cells #[.slice (some ⟨b2,o2,none⟩) l.length c,wv] e (0,0))) b2=none:=by
   rcases hd1n.1 b2 with q|q
   ·exact q
   ·rw [g1]at q;cases q
  refine zgi (zai t) cs 49 ⟨by simp only [uni,hb2,Option.none_or,g1,Option.some_or],g2⟩ ?_
  simp (maxSteps:=2000000) only [zx,zf,zp,zc,zab,zb,ze,zS,zg,zk]
  rw [zdm hb2,zkb]
  refine zbq _ rfl (fun _ _ h=>h) ⟨rfl,_,_,_,_,_,_,ts.set (zaS l t.node) t,vs,rfl,⟨?_,zyS d2 (by rw [g1];simp),d3, ?_, ?_, ?_,hwas,holds⟩⟩
  ·rw [←zkb];exact zig d1 hb2
  ·rw [List.map_set];exact g3
  ·rw [zdU,←ht.1,if_pos his];exact htold.set ht
  ·rw [zdU,←ht.1,if_pos his]
   intro e
   have:=congrArg List.length e
   simp only [List.length_set,List.length_nil]at this
   omega
 ·refine zJ _ hcell rfl ?_
  simp (maxSteps:=2000000) only [za,zj,ev,look,zd,zdA,Nat.reduceEqDiff,Nat.reduceMul,↓reduceIte,reduceCtorEq,Nat.add_zero,Int.toNat_natCast]
  refine ⟨by omega, ?_⟩
  have hM:uni (one b (.cells #[.slice (some ⟨b2,o2,none⟩) l.length c,wv] e (0,0))) (uni mn (uni mw mo))=uni mn (uni (one b (.cells #[.slice (some ⟨b2,o2,none⟩) l.length c,wv] e (0,0))) (uni mw mo)):=by rw [←zbs,zbU hd1n.1,zbs]
  refine zhp hM (zad (zG hd1n.1) d2) ?_
  simp (maxSteps:=2000000) only [za,zj]
  have hlo:SlR mn (.slice (some ⟨b2,if c=0 then o2 else o2+0*4,none⟩) (zaS l t.node - 0) (c - 0)) 4 ((ts.take (zaS l t.node)).map zl):=by
   have:=hrows.toR.cut (lo:=0) (hi:=zaS l t.node) (by omega) (by omega)
   rw [Nat.sub_zero,List.drop_zero]at this
   rw [List.map_take];exact this
  have hhi:SlR mn (.slice (some ⟨b2,if c=zaS l t.node then o2 else o2+zaS l t.node*4,none⟩) (l.length - zaS l t.node) (c - zaS l t.node)) 4 ((ts.drop (zaS l t.node)).map zl):=by
   have:=hrows.toR.cut (lo:=zaS l t.node) (hi:=l.length) (by omega) (by omega)
   rw [List.map_drop]
   rw [List.take_of_length_le (by simp;omega)]at this
   exact this
  refine zog 27 27 (zl zTreeNode) rfl rfl hlo (KN.mem (by simp)) ?_
  simp (maxSteps:=2000000) only [List.length_map,za,zj,ev,look,zaF,Value.oneCell',cond_true,↓reduceIte,Bool.true_and,true_and,List.drop_zero,List.length_map,List.length_map]
  have hlt1:(ts.take (zaS l t.node)).length=zaS l t.node:=by rw [List.length_take];omega
  have hlt2:(ts.drop (zaS l t.node)).length=l.length - zaS l t.node:=by rw [List.length_drop];omega
  have tk:∀ys:List TreeNode,List.take ys.length (ys.map zl)=ys.map zl:=fun ys=>List.take_of_length_le (by simp)
  rw [tk]
  refine ztn rfl rfl (by omega) ?_
  simp (maxSteps:=2000000) only [List.length_map,zi,zm,zf,zc,zb,zh,ze,za,zj,ev,evL,gvL,look,zZ,zd,zg,zk,zaF,cond_true,cond_false,Nat.reduceEqDiff,Nat.reduceBEq,↓reduceIte,reduceCtorEq,Nat.zero_add,Nat.add_zero,Bool.and_true,Bool.true_and,BEq.rfl,true_and,and_true,Option.map_some,zcO,List.length_cons,List.length_nil,zbA,SV.mentions,ne_eq,not_false_eq_true,List.drop_zero,List.take_succ_cons,List.take_zero,zn,List.length_map,zai,zaY,List.length_map]
  refine ⟨by omega, ?_⟩
  refine zJ _ (zaC zbY (zV _ _ _ _ (zaE _ _)) rfl rfl) rfl ?_
  simp (maxSteps:=2000000) only [za,zj,ev,look,zd,zaF,zdA,Nat.reduceEqDiff,↓reduceIte,reduceCtorEq,Int.toNat_natCast]
  refine ⟨by omega, ?_⟩
  refine zog 40 40 (zl zTreeNode) rfl rfl (by simpa using hhi) (KN.mem (by simp)) ?_
  simp (maxSteps:=2000000) only [List.length_map,List.length_append,za,zj,ev,look,zZ,zd,zaF,cond_true,cond_false,Nat.reduceEqDiff,Nat.reduceBEq,↓reduceIte,Nat.zero_add,Bool.and_true,Bool.true_and,BEq.rfl,true_and,and_true,List.length_cons,List.length_nil,zbA,SV.mentions,ne_eq,not_false_eq_true,List.drop_zero,List.length_map,List.length_map]
  refine ⟨by simp only [List.length_drop,List.length_map];omega, ?_⟩
  refine zfB 41 28 _ rfl rfl ?_ fun v u hv hs hd=> ?_
  ·simp only [List.length_append,List.length_map,List.length_cons,List.length_nil,List.length_take,List.length_drop];omega
  simp (maxSteps:=2000000) only [za,zj,ev,look,zd,cond_true,cond_false,Nat.reduceEqDiff,Nat.reduceBEq,↓reduceIte,Nat.add_zero,BEq.rfl,zbA,SV.mentions]
  obtain ⟨e1,e2⟩:=zA hd
  have hub:u b=none:=by
   rcases e1 b with q|q
   ·exact q
   ·rw [zaE]at q;cases q
  refine zgi rfl #[.slice (some ⟨b2,o2,none⟩) l.length c,wv] e ⟨by simp only [uni,hub,Option.none_or,zaE,Option.some_or],by simp⟩ ?_
  simp (maxSteps:=2000000) only [zc,zni,zb,ze,zS,zg,zk]
  rw [zdm hub,zbZ]
  have hM2:uni u (uni (one b (.cells #[v,wv] e (0,0))) (uni mw mo))=uni (one b (.cells #[v,wv] e (0,0))) (uni u (uni mw mo)):=by
   rw [←zbs,zbU (zG (zel (zG e1))),zbs]
  refine zbq (uni (one b (.cells #[v,wv] e (0,0))) (uni u (uni mw mo))) rfl (by intro x y hxy;rw [←hM2]at hxy;exact hxy) ⟨rfl,v,wv,e,u,mw,mo,ts.take (zaS l t.node)++t::ts.drop (zaS l t.node),vs,rfl,⟨zad (zel (zG e1)) (zel hd1n.2),e2,d3, ?_, ?_, ?_,hwas,holds⟩⟩
  ·have:=hs
   simp only [List.map_append,List.map_cons,List.map_drop,List.append_assoc,List.cons_append,List.nil_append]at this ⊢
   rw [List.take_length]at this
   exact this
  ·rw [zdU,←ht.1,hno,if_neg (by simp)];exact htold.ins ht _
  ·rw [zdU,←ht.1,hno,if_neg (by simp)];simp
end Go.Proofs.YtmjiojflncffeaaGreat.Vc

set_option linter.unusedVariables false
set_option linter.unusedSimpArgs false
set_option maxRecDepth 100000
namespace Go.Proofs.YtmjiojflncffeaaGreat.Vc
open Go Go.Proofs
def zdM (l:List TN):List TN:=l.filter fun t=>decide (t.node>2)||decide (0<t.attrs.length)
theorem zwr (w:World) (va:Value) (ts:List TreeNode) (l:List TN) (u:PH) (hu:u.le w) (ha:SlR u va 4 (ts.map zl)) (hts:TsOk u ts l) (hn:l.length≤1099511627776) (hs:∀t∈l,t.attrs.length≤1099511627776):
  Spec Tryz.prog zqV [va] PH.no w fun rs m'=>∃v ts',rs=[.s v]∧SlR m' v 4 (ts'.map zl)∧TsOk m' ts' (zdM l):=by
 refine zbb zqQ [.ro va 4 (zl zTreeNode) (ts.map zl)] (by simp) (by simpa [AV.ok,zbr]using ha.up hu.sub) ?_
 have hlts:=hts.len
 simp (maxSteps:=2000000) only [zkI,zi,zm,zf,zc,zb,zh,ze,za,zj,ev,look,zd,zg,zk,Value.oneCell',cond_true,↓reduceIte,reduceCtorEq,zak,zaK,List.length_map,List.length_map]
 refine ztb 3 3 49 4 (zl zTreeNode) rfl rfl ?_
 simp (maxSteps:=2000000) only [zB,zf,zc,zb,ze,za,zj,ev,look,zd,zg,zk,Value.oneCell',cond_true,Nat.reduceEqDiff,↓reduceIte,reduceCtorEq]
 refine zaP (ι:=Nat×List TreeNode) (fun q=>⟨[(0, .row 0 0 (ts.length)),(3, .row 3 0 (q.2.length)),(4, .g (.s (.int .i64 (q.1))))],[(0, .ro 4 (zl zTreeNode) (ts.map zl)),(3, .row 49 4 (zl zTreeNode) (q.2.map zl))],[],PH.no⟩)
  (fun q=>q.1≤ts.length∧q.2.length≤q.1∧TsOk u q.2 (zdM (l.take q.1))) (fun q=>ts.length - q.1) (0,[]) ⟨by simp,by simp,trivial⟩ (zR ?_ ?_ rfl rfl rfl) ?_
 ·simp [zaf,look]
 ·simp [zam,look]
 rintro ⟨i,os⟩ ⟨hi,hol,hos⟩
 simp only at hi hol hos
 generalize hQ:loopQ _ _ _ _ _=Q
 simp (maxSteps:=2000000) only [zhx,zu,zau,zi,zB,zm,zq,zf,zay,zT,zc,zb,zh,zH,ze,za,zj,RO.isGh,zI,zar,ev,evL,gvL,look,zZ,zd,zg,zk,zaF,zdh,zO,zP,GV.getT,Value.oneCell',cond_true,cond_false,Nat.reduceEqDiff,Nat.reduceBEq,↓reduceIte,reduceCtorEq,List.nil_append,Nat.zero_add,Bool.and_true,Bool.true_and,Bool.not_false,BEq.rfl,true_and,and_true,Option.map_some,zcO,List.length_cons,List.length_nil,Int.toNat_natCast,decide_eq_true_eq,decide_eq_false_iff_not,zbA,SV.mentions,ne_eq,not_false_eq_true,List.drop_zero,List.take_succ_cons,List.take_zero,↓zL,↓zN,zax,zdE,zn,List.length_map,zF,zai,zaY,zbQ,zaZ,zaV,zaG,zbG,zdt,List.length_map]
 refine ⟨fun hlt=>⟨⟨by omega,by omega⟩, ?_⟩,fun hge=> ?_⟩
 ·obtain ⟨t,ht⟩:∃t,ts.getD i zTreeNode=t:=⟨_,rfl⟩
  obtain ⟨r,hr⟩:∃r,l.getD i zTN=r:=⟨_,rfl⟩
  have hrm:r∈l:=by rw [←hr,List.getD_eq_getElem?_getD,List.getElem?_eq_getElem (by omega)];exact List.getElem_mem _
  obtain ⟨e1,e2,e3,hsl⟩:=hts.at i (by omega)
  rw [ht,hr]at e1 e2 e3 hsl
  have htake:zdM (l.take (i+1))=zdM (l.take i)++if (decide (r.node>2)||decide (0<r.attrs.length))=true then [r]else []:=by
   rw [List.take_add_one]
   have:l[i]?.toList=[r]:=by rw [←hr,List.getD_eq_getElem?_getD,List.getElem?_eq_getElem (by omega)];rfl
   rw [this,zdM,List.filter_append,List.filter_cons]
   rfl
  obtain ⟨a,c,hv⟩:=zch hsl
  rw [List.length_map]at hv
  rw [ht]
  have yes:(decide (r.node>2)||decide (0<r.attrs.length))=true→∀(fr:List (Nat×SV)) (pv:List (Nat×PV)),zaf fr [(0, .row 0 0 (ts.length)),(3, .row 3 0 (os.length+1)),(4, .g (.s (.int .i64 ((i+1:Nat)))))]→
    zam pv [(0, .ro 4 (zl zTreeNode) (ts.map zl)),(3, .row 49 4 (zl zTreeNode) (os.map zl++[zl t]))]→Q .normal ⟨fr,pv,[],PH.no⟩:=by
   intro hy fr pv hfr hpv
   subst hQ;simp only [zaB]
   refine ⟨(i+1,os++[t]),⟨by simp only;omega,by simp;omega, ?_⟩,by simp only;omega,zR (by simpa using hfr) (by simpa using hpv) rfl rfl rfl⟩
   simp only
   rw [htake,if_pos hy]
   exact hos.snoc ⟨e1,e2,e3,hsl⟩
  have no:(decide (r.node>2)||decide (0<r.attrs.length))=false→∀(fr:List (Nat×SV)) (pv:List (Nat×PV)),zaf fr [(0, .row 0 0 (ts.length)),(3, .row 3 0 (os.length)),(4, .g (.s (.int .i64 ((i+1:Nat)))))]→
    zam pv [(0, .ro 4 (zl zTreeNode) (ts.map zl)),(3, .row 49 4 (zl zTreeNode) (os.map zl))]→Q .normal ⟨fr,pv,[],PH.no⟩:=by
   intro hy fr pv hfr hpv
   subst hQ;simp only [zaB]
   refine ⟨(i+1,os),⟨by simp only;omega,by simp only;omega, ?_⟩,by simp only;omega,zR hfr hpv rfl rfl rfl⟩
   simp only
   rw [htake,hy]
   simpa using hos
  obtain ⟨tn,tp,tm,tv⟩:=t
  simp only at e1 e2 e3 hsl hv
  subst hv
  simp (maxSteps:=2000000) only []
  rw [←e1]at yes no
  refine ⟨fun k1=>⟨⟨by omega,by omega⟩,fun k2=>⟨⟨by omega,by omega⟩,by omega,yes ?_ _ _ ?_ ?_⟩,fun k2=>no ?_ _ _ ?_ ?_⟩,fun k1=>⟨⟨by omega,by omega⟩,by omega,yes ?_ _ _ ?_ ?_⟩⟩
  ·rw [decide_eq_false k1,decide_eq_true (by omega)];rfl
  ·simp only [zaf,look,Nat.reduceEqDiff,↓reduceIte,reduceCtorEq,Bool.and_true,Bool.true_and,true_and,and_true]
   rw [zaN (by omega)]
   try simp
  ·simp [zam,look]
  ·rw [decide_eq_false k1,decide_eq_false (by omega)];rfl
  ·simp only [zaf,look,Nat.reduceEqDiff,↓reduceIte,reduceCtorEq,Bool.and_true,Bool.true_and,true_and,and_true]
   rw [zaN (by omega)]
   try simp
  ·simp [zam,look]
  ·rw [decide_eq_true k1];rfl
  ·simp only [zaf,look,Nat.reduceEqDiff,↓reduceIte,reduceCtorEq,Bool.and_true,Bool.true_and,true_and,and_true]
   rw [zaN (by omega)]
   try simp
  ·simp [zam,look]
 ·subst hQ
  simp (maxSteps:=2000000) only [zi,zm,zf,zat,zaQ,zh,za,zj,ev,look,zd,↓reduceIte,reduceCtorEq]
  refine zaJ rfl rfl (Q:=fun rs m'=>∃v mn ma ts',rs=[.s v]∧m'=uni mn ma∧dis mn ma∧SlO mn v 49 4 (ts'.map zl)∧TsOk ma ts' (zdM l)) (fun w' vs hv hw _ _=> ?_) fun rs m1 _ hq _=> ?_
  ·obtain ⟨v1,vs,rfl,k1,hv⟩:=zhI (z:=4) (xs:=os.map zl) rfl (by simp) hv
   obtain rfl:=zr hv
   have hi':i=l.length:=by omega
   rw [hi',List.take_length]at hos
   have h1:PH.sub u w'.ph:=fun b o h=>hw b o (by rw [zbr];exact hu b o h)
   have h2:=hos.len
   have h3:(zdM l).length≤l.length:=List.length_filter_le _ _
   exact zkW w' v1 os (zdM l) w'.ph (fun _ _ h=>h) k1 (hos.up h1) (by omega) fun t ht=>hs t (List.mem_filter.1 ht).1
  obtain ⟨v,mn,ma,ts',rfl,rfl,hd,h1,h2⟩:=hq
  simp (maxSteps:=2000000) only [zK,zaz,zx,zf,zc,zab,zb,ze,za,zj,ev,look,zd,zg,zk,↓reduceIte]
  exact zbq (rs:=[.s v]) _ rfl (fun _ _ h=>h) ⟨v,ts',rfl,h1.toR.up (zV _ _),h2.up (zao hd)⟩
theorem znS (w:World) (A m:PH) (hm:m.le w) (hA:A.le w) (b:Nat) (l:List TN) (ls:List (List TN)) (h:RM A m b l ls) (hn:l.length≤1099511627776) (hs:∀t∈l,t.attrs.length≤1099511627776):
  Spec Tryz.prog zlg [ptr b] PH.no w fun rs m'=>∃v ts',rs=[.s v]∧SlR m' v 4 (ts'.map zl)∧TsOk m' ts' (zdM l):=by
 refine zbb zln [.g (.s (ptr b))] (by simp) (by simp [AV.ok,GV.ok,Value.oneCell',ptr]) ?_
 obtain ⟨b2,o2,c,ts,hlts,h0,hts,hsl,hs0,_⟩:=h.look
 have hk:∀{l:List PH},KN (⟨Tryz.prog,8,w,PH.no⟩:Ctx).u0 l m:=zdy hm
 simp (maxSteps:=2000000) only [zgt,zi,zm,zf,zc,zb,zh,ze,za,zj,ev,look,zd,zg,zk,Value.oneCell',cond_true,↓reduceIte,reduceCtorEq,Nat.add_zero,zak,zaK,ptr]
 refine zJ _ (hs0 hk) rfl ?_
 simp (maxSteps:=2000000) only [za,zj,zd]
 refine zaJ rfl rfl (Q:=fun rs m'=>∃v ts',rs=[.s v]∧SlR m' v 4 (ts'.map zl)∧TsOk m' ts' (zdM l)) (fun w' vs hv hw _ _=> ?_) fun rs m1 _ hq _=> ?_
 ·obtain ⟨vs,rfl,_,hv⟩:=zt hv
  obtain rfl:=zr hv
  have sm:PH.sub m w'.ph:=fun b o h=>hw b o (by rw [zbr];exact hm b o h)
  have sA:PH.sub A w'.ph:=fun b o h=>hw b o (by rw [zbr];exact hA b o h)
  exact zwr w' _ ts l w'.ph (fun _ _ h=>h) (hsl.up sm) (hts.up sA) hn hs
 obtain ⟨v,ts',rfl,h1,h2⟩:=hq
 simp (maxSteps:=2000000) only [zK,zaz,zx,zf,zc,zab,zb,ze,za,zj,ev,look,zd,zg,zk,↓reduceIte]
 exact zbq (rs:=[.s v]) _ rfl (fun _ _ h=>h) ⟨v,ts',rfl,h1,h2⟩
def zjq (key value:ByteArray):List Attr→Bool→List Attr
 |[],d=>if d=true then []else [⟨key,value⟩]
 |a::l,d=>(if (!d&& !_root_.Go.Op.bytesLess a.key.data.toList key.data.toList)=true then [⟨key,value⟩]else [])++(if a.key=key then []else [a])++zjq key value l (d|| !_root_.Go.Op.bytesLess a.key.data.toList key.data.toList)
def ztt (l:List Attr) (key value:ByteArray):List Attr:=zjq key value l (decide (value=⟨#[]⟩))
theorem ztT (key value:ByteArray):∀(l:List Attr) (d:Bool),(zjq key value l d).length≤l.length+if d=true then 0 else 1
 |[],d=>by cases d<;>simp [zjq]
 |a::l,d=>by
  have ih:=ztT key value l (d|| !_root_.Go.Op.bytesLess a.key.data.toList key.data.toList)
  have h1:(if a.key=key then ([]:List Attr)else [a]).length≤1:=by split<;>simp
  rw [zjq]
  simp only [List.length_append,List.length_cons]
  generalize _root_.Go.Op.bytesLess a.key.data.toList key.data.toList=bb at*
  cases d<;>cases bb<;>simp at ih ⊢ <;>omega
theorem zAO (w:World) (v:Value) (l:List Attr) (key value:ByteArray) (u:PH) (hu:u.le w) (h:SlR u v 2 (l.map zap)) (hl:l.length≤1099511627776):
  Spec Tryz.prog zuL [v, .string key, .string value] PH.no w fun rs m'=>∃v',rs=[.s v']∧SlO m' v' 75 2 ((ztt l key value).map zap):=by
 refine zbb zuW [.ro v 2 (zap zcU) (l.map zap), .g (.s (.string key)), .g (.s (.string value))] (by simp) (by simpa [AV.ok,zbr,GV.ok,Value.oneCell']using h.up hu.sub) ?_
 simp (maxSteps:=2000000) only [zoc,zi,zm,zf,zc,zb,zh,ze,za,zj,ev,look,zd,zg,zk,Value.oneCell',cond_true,Nat.reduceEqDiff,Nat.reduceAdd,↓reduceIte,reduceCtorEq,Nat.zero_add,zak,zaK,Int.reduceAdd,List.length_map,List.length_map]
 refine ztb 7 7 75 2 (zap zcU) rfl rfl ?_
 simp (maxSteps:=2000000) only [zi,zB,zm,zf,zc,zb,zh,ze,za,zj,ev,look,zd,zg,zk,zO,zP,Value.oneCell',cond_true,Nat.reduceEqDiff,↓reduceIte,reduceCtorEq,Bool.true_and,true_and]
 have h0:=ztT key value l (decide (value=⟨#[]⟩))
 refine zaP (ι:=Nat×List Attr×Bool) (fun q=>⟨[(0, .row 0 0 (l.length)),(1, .g (.s (.string (key)))),(2, .g (.s (.string (value)))),(7, .row 7 0 (q.2.1.length)),(8, .g (.s (.bool (q.2.2)))),(9, .g (.s (.int .i64 (q.1))))],[(0, .ro 2 (zap zcU) (l.map zap)),(7, .row 75 2 (zap zcU) (q.2.1.map zap))],[],PH.no⟩)
  (fun q=>q.1≤l.length∧ztt l key value=q.2.1++zjq key value (l.drop q.1) q.2.2) (fun q=>l.length - q.1) (0,[],decide (value=⟨#[]⟩)) ⟨by simp,by simp [ztt]⟩ (zR ?_ ?_ rfl rfl rfl) ?_
 ·simp [zaf,look]
 ·simp [zam,look]
 rintro ⟨i,os,d⟩ ⟨hi,hj⟩
 simp only at hi hj
 generalize hQ:loopQ _ _ _ _ _=Q
 have hos:os.length≤l.length+1:=by
  have:=congrArg List.length hj
  rw [List.length_append,ztt]at this
  split at h0<;>omega
 simp (maxSteps:=2000000) only [zjv,zu,zau,zi,zB,zm,zq,zf,zay,zT,zc,zb,zh,zH,ze,za,zj,RO.isGh,zI,zar,ev,evL,gvL,look,zZ,zd,zg,zk,zaF,zdh,zO,zP,unV,GV.getT,GV.sz,GV.same,GV.setT,Value.oneCell',cond_true,cond_false,Nat.reduceEqDiff,Nat.reduceAdd,Nat.reduceBEq,↓reduceIte,reduceCtorEq,List.nil_append,Nat.zero_add,Nat.add_zero,Bool.and_true,Bool.true_and,Bool.not_true,Bool.not_false,BEq.rfl,true_and,and_true,List.map_cons,List.map_nil,Option.map_some,zcO,List.length_cons,List.length_nil,Int.toNat_natCast,Int.reduceAdd,decide_eq_true_eq,decide_eq_false_iff_not,zbA,SV.mentions,ne_eq,not_false_eq_true,List.drop_zero,List.take_succ_cons,List.take_zero,↓zL,↓zN,zax,GV.bldT,GV.bldC,zn,List.length_map,zF,zeI,zhY,zgh,zeU,zlf,List.length_map]
 refine ⟨fun hlt=> ?_,fun hge=> ?_⟩
 ·obtain ⟨a,ha⟩:∃a,l.getD i zcU=a:=⟨_,rfl⟩
  have hdrop:l.drop i=a::l.drop (i+1):=by
   rw [←ha,List.getD_eq_getElem?_getD,List.getElem?_eq_getElem (by omega)]
   exact List.drop_eq_getElem_cons (by omega)
  rw [hdrop,zjq]at hj
  rw [ha]
  have go:∀(os':List Attr) (d':Bool),ztt l key value=os'++zjq key value (l.drop (i+1)) d'→∀(fr:List (Nat×SV)) (pv:List (Nat×PV)),zaf fr [(0, .row 0 0 (l.length)),(1, .g (.s (.string (key)))),(2, .g (.s (.string (value)))),(7, .row 7 0 (os'.length)),(8, .g (.s (.bool (d')))),(9, .g (.s (.int .i64 ((i+1:Nat)))))]→
    zam pv [(0, .ro 2 (zap zcU) (l.map zap)),(7, .row 75 2 (zap zcU) (os'.map zap))]→Q .normal ⟨fr,pv,[],PH.no⟩:=by
   intro os' d' h1 fr pv hfr hpv
   subst hQ;simp only [zaB]
   exact ⟨(i+1,os',d'),⟨by simp only;omega,h1⟩,by simp only;omega,zR hfr hpv rfl rfl rfl⟩
  generalize hb:_root_.Go.Op.bytesLess a.key.data.toList key.data.toList=bb at hj
  have hdk:(!decide (a.key=key))=decide (a.key≠key):=by simp
  refine ⟨fun k1=>⟨⟨by omega,by omega⟩,fun k2=>⟨⟨rfl,rfl⟩,by omega,⟨by omega,by omega⟩,fun k3=>⟨⟨by omega,by omega⟩,by simp,by omega, ?_⟩,fun k3=> ?_⟩,fun k2=>⟨⟨by omega,by omega⟩,fun k3=>⟨⟨by omega,by omega⟩,by omega, ?_⟩,fun k3=> ?_⟩⟩,fun k1=>⟨⟨by omega,by omega⟩,fun k3=>⟨⟨by omega,by omega⟩,by omega, ?_⟩,fun k3=> ?_⟩⟩
  all_goals rw [hb]at*
  all_goals simp only [Bool.not_eq_true',Bool.not_eq_false',decide_eq_false_iff_not,decide_eq_true_eq]at*
  ·refine go (os++[⟨key,value⟩]++[a]) true (by rw [hj,k1,k2,if_neg k3];simp) _ _ ?_ ?_
   ·simp only [zaf,look,Nat.reduceEqDiff,↓reduceIte,reduceCtorEq,Nat.zero_add,Bool.and_true,Bool.true_and,true_and,and_true,List.length_cons,List.length_nil,List.length_append,List.length_cons,List.length_nil]
    rw [zaN (by omega)]
    try simp
   ·simp only [zam,look,↓reduceIte,reduceCtorEq,Bool.and_true,Bool.true_and,true_and,and_true,List.map_cons,List.map_nil,List.map_append,List.map_cons,List.map_nil]
    try simp
    try rfl
  ·refine go (os++[⟨key,value⟩]) true (by rw [hj,k1,k2,if_pos k3];simp) _ _ ?_ ?_
   ·simp only [zaf,look,Nat.reduceEqDiff,↓reduceIte,reduceCtorEq,Nat.zero_add,Bool.and_true,Bool.true_and,true_and,and_true,List.length_cons,List.length_nil,List.length_append,List.length_cons,List.length_nil]
    rw [zaN (by omega)]
    try simp
   ·simp only [zam,look,↓reduceIte,reduceCtorEq,Bool.and_true,Bool.true_and,true_and,and_true,List.map_cons,List.map_nil,List.map_append,List.map_cons,List.map_nil]
    try simp
    try rfl
  ·refine go (os++[a]) d (by rw [hj,k1,k2,if_neg k3];simp) _ _ ?_ ?_
   ·simp only [zaf,look,Nat.reduceEqDiff,↓reduceIte,reduceCtorEq,Nat.zero_add,Bool.and_true,Bool.true_and,true_and,and_true,List.length_cons,List.length_nil,List.length_append,List.length_cons,List.length_nil]
    rw [zaN (by omega)]
    try simp
   ·simp only [zam,look,↓reduceIte,reduceCtorEq,Bool.and_true,and_true,List.map_cons,List.map_nil,List.map_append,List.map_cons,List.map_nil]
    try simp
    try rfl
  ·refine go (os) d (by rw [hj,k1,k2,if_pos k3];simp) _ _ ?_ ?_
   ·simp only [zaf,look,Nat.reduceEqDiff,↓reduceIte,reduceCtorEq,Bool.and_true,Bool.true_and,true_and,and_true]
    rw [zaN (by omega)]
    try simp
   ·simp only [zam,look,↓reduceIte,reduceCtorEq,Bool.and_true,and_true]
    try simp
    try rfl
  ·refine go (os++[a]) d (by rw [hj,k1,if_neg k3];simp) _ _ ?_ ?_
   ·simp only [zaf,look,Nat.reduceEqDiff,↓reduceIte,reduceCtorEq,Nat.zero_add,Bool.and_true,Bool.true_and,true_and,and_true,List.length_cons,List.length_nil,List.length_append,List.length_cons,List.length_nil]
    rw [zaN (by omega)]
    try simp
   ·simp only [zam,look,↓reduceIte,reduceCtorEq,Bool.and_true,and_true,List.map_cons,List.map_nil,List.map_append,List.map_cons,List.map_nil]
    try simp
    try rfl
  ·refine go (os) d (by rw [hj,k1,if_pos k3];simp) _ _ ?_ ?_
   ·simp only [zaf,look,Nat.reduceEqDiff,↓reduceIte,reduceCtorEq,Bool.and_true,Bool.true_and,true_and,and_true]
    rw [zaN (by omega)]
    try simp
   ·simp only [zam,look,↓reduceIte,reduceCtorEq,Bool.and_true,and_true]
    try simp
    try rfl
 ·subst hQ
  simp (maxSteps:=2000000) only [zu,zi,zm,zq,zf,zat,zc,zaQ,zb,zh,ze,za,zj,ev,evL,gvL,look,zZ,zd,zg,zk,zaF,unV,GV.getT,GV.sz,GV.same,GV.setT,cond_true,cond_false,Nat.reduceEqDiff,Nat.reduceAdd,Nat.reduceBEq,↓reduceIte,reduceCtorEq,Nat.zero_add,Nat.add_zero,Bool.and_true,Bool.true_and,BEq.rfl,true_and,and_true,List.map_cons,List.map_nil,Option.map_some,zcO,List.length_cons,List.length_nil,Int.reduceAdd,zbA,SV.mentions,ne_eq,not_false_eq_true,List.drop_zero,List.take_succ_cons,List.take_zero,zax,GV.bldT,GV.bldC,List.length_map,List.length_map]
  have hdr:l.drop i=[]:=List.drop_of_length_le (by omega)
  rw [hdr,zjq]at hj
  refine ⟨fun k1=>⟨⟨rfl,rfl⟩,by omega,zfB 57 7 (os.length+1) rfl rfl (by simp) fun v u hv hs hd=> ?_⟩,fun k1=>zfB 57 7 os.length rfl rfl (by simp) fun v u hv hs hd=> ?_⟩
  ·simp (maxSteps:=2000000) only [zx,zf,zc,zab,zb,ze,za,zj,ev,look,zd,zg,zk,cond_true,↓reduceIte,BEq.rfl,zbA,SV.mentions]
   rw [zaz]
   refine zbq (rs:=[.s v]) _ rfl (fun _ _ h=>h) ⟨v,rfl, ?_⟩
   rw [hj,if_neg (by simpa using k1),List.map_append]
   exact hs
  ·simp (maxSteps:=2000000) only [zx,zf,zc,zab,zb,ze,za,zj,ev,look,zd,zg,zk,cond_true,cond_false,↓reduceIte,BEq.rfl,zbA,SV.mentions]
   rw [zaz]
   refine zbq (rs:=[.s v]) _ rfl (fun _ _ h=>h) ⟨v,rfl, ?_⟩
   rw [hj,if_pos (by simpa using k1),List.append_nil]
   exact hs
end Go.Proofs.YtmjiojflncffeaaGreat.Vc

set_option linter.unusedVariables false
set_option linter.unusedSimpArgs false
namespace Go.Proofs.YtmjiojflncffeaaGreat.Vc
open Go
theorem zhs:∀{l:List Attr} {k:ByteArray},zas k l=true→l.Pairwise (fun a b=>a.key.data.toList<b.key.data.toList)
 |[],_,_=>List.Pairwise.nil
 |a::l,k,h=>by
  obtain ⟨_,_,_,h4⟩:=zcs h
  exact List.pairwise_cons.2 ⟨zbX h4,zhs h4⟩
theorem zmP:∀{l:List Attr} {k:ByteArray},zas k l=true→∀a,a∈l↔zca l a.key=some a.value
 |[],_,_,a=>by simp [zca]
 |b::l,k,h,a=>by
  obtain ⟨_,_,_,h4⟩:=zcs h
  have ih:=zmP h4 a
  rw [zca,List.mem_cons]
  by_cases e:b.key=a.key
  ·rw [if_pos e]
   constructor
   ·rintro (rfl|hm)
    ·rfl
    ·have:=zbX h4 a hm
     rw [e]at this
     exact absurd this (List.lt_irrefl _)
   ·intro he
    obtain ⟨ak,av⟩:=a
    obtain ⟨bk,bv⟩:=b
    simp only at e
    simp only [Option.some.injEq]at he
    subst e;subst he
    exact .inl rfl
  ·rw [if_neg e,←ih]
   constructor
   ·rintro (rfl|hm)
    ·exact absurd rfl e
    ·exact hm
   ·exact .inr
theorem zqm {la lb:List Attr} (ha:zas ⟨#[]⟩ la=true) (hb:zas ⟨#[]⟩ lb=true) (h:zca la=zca lb):la=lb:=by
 have sa:=zhs ha
 have sb:=zhs hb
 have nd:∀{l:List Attr},l.Pairwise (fun a b=>a.key.data.toList<b.key.data.toList)→l.Nodup:=fun hs=>hs.imp fun {a b} hab e=>by
  rw [e]at hab;exact List.lt_irrefl _ hab
 have hp:la.Perm lb:=(List.perm_ext_iff_of_nodup (nd sa) (nd sb)).2 fun a=>by rw [zmP ha,zmP hb,h]
 refine List.Perm.eq_of_pairwise (le:=fun a b:Attr=>a.key.data.toList<b.key.data.toList) (fun a b _ _ h1 h2=> ?_) sa sb hp
 exact absurd (List.lt_trans h1 h2) (List.lt_irrefl _)
theorem zjB {l:List Attr} {k k':ByteArray} (h:zas k l=true) (hk:∀a∈l,k'.data.toList<a.key.data.toList):zas k' l=true:=by
 cases l with
 |nil=>rfl
 |cons a l=>
  obtain ⟨_,h2,h3,h4⟩:=zcs h
  have:=hk a (by simp)
  have h1:leB a.key k'=false:=by
   rw [leB,zcZ,decide_eq_false (List.lt_asymm this),decide_eq_false]
   ·rfl
   ·intro e;rw [e]at this;exact List.lt_irrefl _ this
  rw [zas,h1,h3,h4,decide_eq_false h2];rfl
theorem zfX {a:Attr} {l:List Attr} {k:ByteArray} (h1:k.data.toList<a.key.data.toList) (h2:a.value≠⟨#[]⟩) (h3:zcl a.key a.value=true) (h4:zas a.key l=true):zas k (a::l)=true:=by
 have h0:leB a.key k=false:=by
  rw [leB,zcZ,decide_eq_false (List.lt_asymm h1),decide_eq_false]
  ·rfl
  ·intro e;rw [e]at h1;exact List.lt_irrefl _ h1
 rw [zas,h0,h3,h4,decide_eq_false h2];rfl
theorem zhU (key value:ByteArray):∀(l:List Attr),zjq key value l true=l.filter fun a=> !decide (a.key=key)
 |[]=>rfl
 |a::l=>by
  rw [zjq,Bool.true_or,zhU key value l,List.filter_cons]
  by_cases e:a.key=key<;>simp [e]
theorem zBR {key value:ByteArray} (hp:zcl key value=true):∀(l:List Attr) (k:ByteArray),zas k l=true→k.data.toList<key.data.toList→zas k (zjq key value l (decide (value=⟨#[]⟩)))=true:=by
 by_cases hv:value=⟨#[]⟩
 ·intro l k h hk
  rw [decide_eq_true hv,zhU]
  clear hk
  induction l generalizing k with
  |nil=>rfl
  |cons a l ih=>
   obtain ⟨h1,h2,h3,h4⟩:=zcs h
   have hab:=zbX h a (by simp)
   rw [List.filter_cons]
   split
   ·exact zfX hab h2 h3 (ih _ h4)
   ·refine zjB (ih _ h4) fun b hb=> ?_
    exact zbX h b (List.mem_cons_of_mem _ (List.mem_filter.1 hb).1)
 ·rw [decide_eq_false hv]
  intro l
  induction l with
  |nil=>intro k _ hk;rw [zjq,if_neg (by simp)];exact zfX hk hv hp rfl
  |cons a l ih=>
   intro k h hk
   obtain ⟨h1,h2,h3,h4⟩:=zcs h
   have hab:=zbX h a (by simp)
   rw [zjq,zcZ]
   by_cases hlt:a.key.data.toList<key.data.toList
   ·have hne:a.key≠key:=fun e=>by rw [e]at hlt;exact List.lt_irrefl _ hlt
    rw [decide_eq_true hlt,if_neg (by simp),if_neg hne]
    exact zfX hab h2 h3 (ih _ h4 hlt)
   ·rw [decide_eq_false hlt,if_pos (by simp)]
    simp only [Bool.not_false,Bool.false_or,Bool.true_and]
    rw [zhU]
    refine zfX hk hv hp ?_
    have hall:∀b∈l.filter (fun a=> !decide (a.key=key)),key.data.toList<b.key.data.toList:=fun b hb=>by
     have hb':=zbX h4 b (List.mem_filter.1 hb).1
     have:key.data.toList≤a.key.data.toList:=hlt
     exact List.lt_of_le_of_lt this hb'
    have hfil:∀(l:List Attr) (k:ByteArray),zas k l=true→zas k (l.filter fun a=> !decide (a.key=key))=true:=by
     intro l
     induction l with
     |nil=>intro k _;rfl
     |cons a l ih=>
      intro k h
      obtain ⟨h1,h2,h3,h4⟩:=zcs h
      have hab:=zbX h a (by simp)
      rw [List.filter_cons]
      split
      ·exact zfX hab h2 h3 (ih _ h4)
      ·exact zjB (ih _ h4) fun b hb=>zbX h b (List.mem_cons_of_mem _ (List.mem_filter.1 hb).1)
    by_cases he:a.key=key
    ·rw [if_pos he]
     exact zjB (hfil _ _ h4) hall
    ·rw [if_neg he]
     refine zfX (zjH hlt fun e=>he (ByteArray.ext (Array.toList_inj.1 e.symm))) h2 h3 (hfil _ _ h4)
theorem zfR (key:ByteArray):∀(l:List Attr) (j:ByteArray),zca (l.filter fun a=> !decide (a.key=key)) j=if j=key then none else zca l j
 |[],j=>by simp [zca]
 |a::l,j=>by
  have ih:=zfR key l j
  rw [List.filter_cons]
  by_cases e:a.key=key
  ·rw [if_neg (by simp [e]),ih,zca]
   by_cases hj:j=key
   ·rw [if_pos hj,if_pos hj]
   ·rw [if_neg hj,if_neg hj,if_neg (fun q=>hj (q.symm.trans e))]
  ·rw [if_pos (by simp [e]),zca,ih,zca]
   by_cases hj:j=key
   ·rw [if_pos hj,if_neg (fun q=>e (q.trans hj)),if_pos hj]
   ·rw [if_neg hj,if_neg hj]
theorem zyx {key value:ByteArray}:∀(l:List Attr) (k:ByteArray),zas k l=true→∀j,zca (zjq key value l (decide (value=⟨#[]⟩))) j=if j=key then (if value=empty then none else some value)else zca l j:=by
 by_cases hv:value=⟨#[]⟩
 ·intro l k h j
  rw [decide_eq_true hv,zhU,zfR,if_pos (show value=empty from hv)]
 ·rw [decide_eq_false hv]
  intro l
  induction l with
  |nil=>
   intro k _ j
   rw [zjq,if_neg (by simp)]
   show (if key=j then some value else none)=if j=key then (if value=empty then none else some value)else none
   rw [if_neg (show ¬value=empty from hv)]
   by_cases hj:key=j
   ·rw [if_pos hj,if_pos hj.symm]
   ·rw [if_neg hj,if_neg (fun e=>hj e.symm)]
  |cons a l ih=>
   intro k h j
   obtain ⟨h1,h2,h3,h4⟩:=zcs h
   rw [if_neg (show ¬value=empty from hv)]
   have ih:=ih _ h4 j
   rw [if_neg (show ¬value=empty from hv)]at ih
   rw [zjq,zcZ]
   by_cases hlt:a.key.data.toList<key.data.toList
   ·have hne:a.key≠key:=fun e=>by rw [e]at hlt;exact List.lt_irrefl _ hlt
    rw [decide_eq_true hlt,if_neg (by simp),if_neg hne]
    simp only [Bool.not_true,Bool.or_false,List.nil_append,List.cons_append]
    rw [zca,ih,zca]
    by_cases hj:a.key=j
    ·rw [if_pos hj,if_pos hj,if_neg (fun e=>hne (hj.trans e))]
    ·rw [if_neg hj,if_neg hj]
   ·rw [decide_eq_false hlt,if_pos (by simp)]
    simp only [Bool.not_false,Bool.false_or,Bool.true_and]
    rw [zhU]
    show (if key=j then some value else zca ((if a.key=key then []else [a])++l.filter fun a=> !decide (a.key=key)) j)=if j=key then some value else (if a.key=j then some a.value else zca l j)
    by_cases hj:key=j
    ·rw [if_pos hj,if_pos hj.symm]
    ·have hj':¬j=key:=fun e=>hj e.symm
     rw [if_neg hj,if_neg hj']
     by_cases he:a.key=key
     ·rw [if_pos he,List.nil_append,zfR,if_neg hj',if_neg (fun e=>hj (he.symm.trans e))]
     ·rw [if_neg he]
      show (if a.key=j then some a.value else zca (l.filter fun a=> !decide (a.key=key)) j)=_
      rw [zfR,if_neg hj']
structure LOk (l:List TN):Prop where
 sorted:l.Pairwise (fun a b=>a.node<b.node)
 attrs:∀t∈l,zas ⟨#[]⟩ t.attrs=true
def zez (l:List TN) (n:Int):Option TN:=if isL l n=true then l[zaS l n]? else none
def zaw (l:List TN) (n:Int):Option AN:=(zez l n).map fun t=>⟨t.parent,t.name,zca t.attrs⟩
theorem znn {t:TN} {l:List TN} (n:Int):zez (t::l) n=if t.node<n then zez l n else if t.node=n then some t else none:=by
 unfold zez isL
 rw [zaS]
 by_cases h1:t.node<n
 ·rw [if_pos h1,if_pos h1,List.getElem?_cons_succ]
 ·rw [if_neg h1,if_neg h1,List.getElem?_cons_zero]
  by_cases h2:t.node=n
  ·simp [h2]
  ·simp [h2]
theorem zcj:∀{l:List TN},l.Pairwise (fun a b=>a.node<b.node)→∀{n:Int} {t:TN},zez l n=some t↔t∈l∧t.node=n
 |[],_,n,t=>by simp [zez,isL]
 |a::l,h,n,t=>by
  rw [List.pairwise_cons]at h
  rw [znn]
  by_cases h1:a.node<n
  ·rw [if_pos h1,zcj h.2]
   constructor
   ·rintro ⟨q1,q2⟩;exact ⟨List.mem_cons_of_mem _ q1,q2⟩
   ·rintro ⟨q1,q2⟩
    rcases List.mem_cons.1 q1 with rfl|q1
    ·omega
    ·exact ⟨q1,q2⟩
  ·rw [if_neg h1]
   by_cases h2:a.node=n
   ·rw [if_pos h2]
    constructor
    ·intro e;cases e;exact ⟨by simp,h2⟩
    ·rintro ⟨q1,q2⟩
     rcases List.mem_cons.1 q1 with rfl|q1
     ·rfl
     ·have:=h.1 t q1;omega
   ·rw [if_neg h2]
    constructor
    ·intro e;cases e
    ·rintro ⟨q1,q2⟩
     rcases List.mem_cons.1 q1 with rfl|q1
     ·exact absurd q2 h2
     ·have:=h.1 t q1;omega
theorem zlS {l:List TN} {n:Int}:isL l n=(zez l n).isSome:=by
 unfold zez
 cases h:isL l n with
 |false=>rfl
 |true=>
  rw [if_pos rfl]
  unfold isL at h
  cases hg:l[zaS l n]? with
  |none=>rw [hg]at h;cases h
  |some t=>rfl
theorem zls {l:List TN} {n:Int}:isL l n=(zaw l n).isSome:=by
 rw [zlS,zaw];cases zez l n<;>rfl
theorem zts {l:List TN} {n:Int} {t:TN} (h:zez l n=some t):zaS l n<l.length∧l.getD (zaS l n) zTN=t:=by
 unfold zez at h
 split at h
 ·have hl:=(List.getElem?_eq_some_iff.1 h).1
  exact ⟨hl,by rw [List.getD_eq_getElem?_getD,h];rfl⟩
 ·cases h
theorem zsd {t a:TN} {l:List TN}:zdU (t::l) a=if t.node<a.node then t::zdU l a else if t.node=a.node then a::l else a::t::l:=by
 unfold zdU isL
 rw [zaS]
 by_cases h1:t.node<a.node
 ·rw [if_pos h1,if_pos h1,List.getElem?_cons_succ]
  cases l[zaS l a.node]? with
  |none=>simp
  |some x=>
   simp only [List.set_cons_succ,List.take_succ_cons,List.drop_succ_cons,List.cons_append]
   split<;>rfl
 ·rw [if_neg h1,if_neg h1,List.getElem?_cons_zero]
  by_cases h2:t.node=a.node
  ·simp [h2]
  ·simp [h2]
theorem zhS:∀{l:List TN} {a:TN},l.Pairwise (fun a b=>a.node<b.node)→∀t,t∈zdU l a↔t=a∨(t∈l∧t.node≠a.node)
 |[],a,_,t=>by simp [zdU,isL,zaS]
 |b::l,a,h,t=>by
  rw [List.pairwise_cons]at h
  rw [zsd]
  by_cases h1:b.node<a.node
  ·rw [if_pos h1,List.mem_cons,zhS h.2,List.mem_cons]
   constructor
   ·rintro (rfl|q|q)
    ·exact .inr ⟨.inl rfl,by omega⟩
    ·exact .inl q
    ·exact .inr ⟨.inr q.1,q.2⟩
   ·rintro (q|⟨rfl|q,r⟩)
    ·exact .inr (.inl q)
    ·exact .inl rfl
    ·exact .inr (.inr ⟨q,r⟩)
  ·rw [if_neg h1]
   by_cases h2:b.node=a.node
   ·rw [if_pos h2,List.mem_cons,List.mem_cons]
    constructor
    ·rintro (q|q)
     ·exact .inl q
     ·exact .inr ⟨.inr q,by have:=h.1 t q;omega⟩
    ·rintro (q|⟨rfl|q,r⟩)
     ·exact .inl q
     ·exact absurd h2 r
     ·exact .inr q
   ·rw [if_neg h2,List.mem_cons,List.mem_cons]
    constructor
    ·rintro (q|rfl|q)
     ·exact .inl q
     ·exact .inr ⟨.inl rfl,h2⟩
     ·exact .inr ⟨.inr q,by have:=h.1 t q;omega⟩
    ·rintro (q|⟨q,r⟩)
     ·exact .inl q
     ·exact .inr q
theorem znU:∀{l:List TN} {a:TN},l.Pairwise (fun a b=>a.node<b.node)→(zdU l a).Pairwise (fun a b=>a.node<b.node)
 |[],a,_=>by simp [zdU,isL,zaS]
 |b::l,a,h=>by
  have h':=h
  rw [List.pairwise_cons]at h
  rw [zsd]
  by_cases h1:b.node<a.node
  ·rw [if_pos h1,List.pairwise_cons]
   refine ⟨fun t ht=> ?_,znU h.2⟩
   rcases (zhS h.2 t).1 ht with rfl|q
   ·exact h1
   ·exact h.1 t q.1
  ·rw [if_neg h1]
   by_cases h2:b.node=a.node
   ·rw [if_pos h2,List.pairwise_cons]
    exact ⟨fun t ht=>by have:=h.1 t ht;omega,h.2⟩
   ·rw [if_neg h2,List.pairwise_cons]
    refine ⟨fun t ht=> ?_,h'⟩
    rcases List.mem_cons.1 ht with rfl|q
    ·omega
    ·have:=h.1 t q;omega
theorem LOk.put {l:List TN} {a:TN} (h:LOk l) (ha:zas ⟨#[]⟩ a.attrs=true):LOk (zdU l a)∧zaw (zdU l a)=zcN (zaw l) a.node (some ⟨a.parent,a.name,zca a.attrs⟩):=by
 have hs:=znU (a:=a) h.sorted
 refine ⟨⟨hs,fun t ht=> ?_⟩, ?_⟩
 ·rcases (zhS h.sorted t).1 ht with rfl|q
  ·exact ha
  ·exact h.attrs t q.1
 ·funext n
  have hg:zez (zdU l a) n=if n=a.node then some a else zez l n:=by
   by_cases e:n=a.node
   ·rw [if_pos e]
    exact (zcj hs).2 ⟨(zhS h.sorted a).2 (.inl rfl),e.symm⟩
   ·rw [if_neg e]
    cases hg:zez l n with
    |some t=>
     obtain ⟨q1,q2⟩:=(zcj h.sorted).1 hg
     exact (zcj hs).2 ⟨(zhS h.sorted t).2 (.inr ⟨q1,by omega⟩),q2⟩
    |none=>
     cases hg':zez (zdU l a) n with
     |none=>rfl
     |some t=>
      obtain ⟨q1,q2⟩:=(zcj hs).1 hg'
      rcases (zhS h.sorted t).1 q1 with rfl|q
      ·exact absurd q2.symm e
      ·rw [(zcj h.sorted).2 ⟨q.1,q2⟩]at hg;cases hg
  unfold zaw zcN
  rw [hg]
  by_cases e:n=a.node
  ·rw [if_pos e,if_pos e];rfl
  ·rw [if_neg e,if_neg e]
theorem zqC {l:List TN} {T:PT} {k:Nat} (h:LOk l) (hv:zaw l=T.view) (hok:T.ok k) (hg:VGood T.view):zdM l=zae T:=by
 have hs2:=zhX (T:=T) (zkM hok.nod)
 have hs1:(zdM l).Pairwise (fun a b=>a.node<b.node):=h.sorted.sublist List.filter_sublist
 have nd:∀{l:List TN},l.Pairwise (fun a b=>a.node<b.node)→l.Nodup:=fun hs=>hs.imp fun {a b} hab e=>by rw [e]at hab;omega
 have hat:∀n x,T.get n=some x→zas ⟨#[]⟩ (zaR x)=true:=fun n x hx=>zkS (hok.attrs n x hx).1 fun k w h=>hg.pairs n _ k w (PT.view_get hx) h
 have key:∀n t x,zez l n=some t→T.get n=some x→t=zbw n x:=fun n t x h1 h2=>by
  have hvn:zaw l n=T.view n:=congrFun hv n
  rw [zaw,h1,PT.view_get h2]at hvn
  simp only [Option.map_some,Option.some.injEq,PN.view,AN.mk.injEq]at hvn
  obtain ⟨q1,q2,q3⟩:=hvn
  obtain ⟨m1,m2⟩:=(zcj h.sorted).1 h1
  obtain ⟨tn,tp,tm,ta⟩:=t
  simp only at q1 q2 q3 m2
  have:ta=zaR x:=zqm (h.attrs _ m1) (hat n x h2) (by rw [q3];funext j;exact (zfT x j).symm)
  rw [zbw,←q1,←q2,←m2,this]
 have hp:(zdM l).Perm (zae T):=(List.perm_ext_iff_of_nodup (nd hs1) (nd hs2)).2 fun t=>by
  have hsh:∀t:TN,0<t.node→(decide (t.node>2)||decide (0<t.attrs.length))=t.shown:=fun t ht=>by
   rw [TN.shown]
   congr 1
   simp only [zbc]
   by_cases h1:t.node=1
   ·simp [h1]
   ·by_cases h2:t.node=2
    ·simp [h2]
    ·rw [decide_eq_true (by omega)];simp [h1,h2]
  constructor
  ·intro ht
   obtain ⟨m1,m2⟩:=List.mem_filter.1 ht
   have hg1:=(zcj h.sorted).2 ⟨m1,rfl⟩
   have hvn:zaw l t.node=T.view t.node:=congrFun hv _
   rw [zaw,hg1]at hvn
   obtain ⟨x,hx,_⟩:=zbk hvn.symm
   have e:=key _ _ _ hg1 hx
   rw [e]
   refine (zlW hx).2 ?_
   rw [←e,←hsh t (hg.pos _ _ (PT.view_get hx))]
   exact m2
  ·intro ht
   obtain ⟨n,_,x,hx,rfl⟩:=zgk ht
   have hvn:zaw l n=T.view n:=congrFun hv n
   rw [PT.view_get hx]at hvn
   cases hg1:zez l n with
   |none=>rw [zaw,hg1]at hvn;cases hvn
   |some t=>
    have e:=key _ _ _ hg1 hx
    obtain ⟨m1,_⟩:=(zcj h.sorted).1 hg1
    rw [e]at m1
    refine List.mem_filter.2 ⟨m1, ?_⟩
    rw [hsh _ (hg.pos _ _ (PT.view_get hx))]
    exact (zlW hx).1 ht
 refine List.Perm.eq_of_pairwise (le:=fun a b:TN=>a.node<b.node) (fun a b _ _ h1 h2=> ?_) hs1 hs2 hp
 omega
end Go.Proofs.YtmjiojflncffeaaGreat.Vc

set_option linter.unusedVariables false
set_option maxRecDepth 100000
namespace Go.Proofs.YtmjiojflncffeaaGreat.Vc
open Go Go.Proofs
abbrev zkT:Nat:=158
def zeM:Cd:=
 (.seq (.seq (.rg [⟨none,[(some 17, .mv (.t 8))]⟩] [0,1,2,8,17])
 (.ite (.t 17)
 .skip
 (.exit 0)))
 (.block 1 (.seq (.rg [⟨none,[(some 19, .mv (.t 0)),(some 20, .mv (.t 1)),(some 21, .call 107 [(.t 19),(.t 20)]),(some 18, .mv (.t 21)),(some 22, .ext (.t 18) 0),(some 23, .ext (.t 18) 1),(some 9, .mv (.t 22)),(some 10, .mv (.t 23))]⟩] [0,1,2,8,9,10])
 (.seq (.seq (.rg [⟨none,[(some 24, .mv (.t 10)),(some 25, .un .not (.t 24))]⟩] [0,1,2,8,9,25])
 (.ite (.t 25)
 (.seq (.rg [⟨none,[(some 6, .mv (.c (.bool false)))]⟩] [6])
 .ret)
 .skip))
 (.seq (.seq (.rg [⟨none,[(some 26, .mv (.t 1)),(some 27, .mv (.t 2)),(some 28, .bin .eql (.t 26) (.t 27))]⟩] [0,2,8,9,28])
 (.ite (.t 28)
 (.seq (.rg [⟨none,[(some 6, .mv (.c (.bool true)))]⟩] [6])
 .ret)
 .skip))
 (.rg [⟨none,[(some 29, .mv (.t 0)),(some 30, .nilc (.t 29)),(some 31, .fldA (.t 30) 0 0),(some 32, .ld (.t 31) 1 false),(some 33, .mv (.t 9)),(some 34, .idxS (.t 32) (.t 33) 4),(some 35, .fldA (.t 34) 1 1),(some 36, .ld (.t 35) 1 false),(some 1, .mv (.t 36))]⟩] [0,1,2,8]))))))
def zgf:Cd:=
 (.seq (.rg [⟨none,[(some 6, .mv (.c (.bool false)))]⟩] [0,1,2])
 (.seq (.rg [⟨none,[(some 12, .mv (.t 0)),(some 13, .mv (.t 2)),(some 14, .call 107 [(.t 12),(.t 13)]),(some 11, .mv (.t 14)),(some 15, .ext (.t 11) 0),(some 16, .ext (.t 11) 1),(some 7, .mv (.t 15)),(some 8, .mv (.t 16))]⟩] [0,1,2,8])
 (.seq (.block 0 (.loop zeM))
 (.seq (.rg [⟨none,[(some 6, .mv (.c (.bool false)))]⟩] [6])
 .ret))))
theorem zkX:Ok Tryz.prog 158 zgf 37 [] [.tmp 6]:=Ok.mk' Tryz.func158 (by kernel_rfl) (by kernel_rfl) (by kernel_rfl)
abbrev zmT:Nat:=135
def zhA:Cd:=
 (.seq (.rg [⟨none,[(some 3, .box 26 (.t 1)),(some 4, .mv (.c (.bool false)))]⟩] [0,3])
 (.seq (.rg [⟨none,[(some 10, .mv (.t 0)),(some 11, .fldA (.t 3) 2 3),(some 12, .ld (.t 11) 1 false),(some 13, .call 107 [(.t 10),(.t 12)]),(some 9, .mv (.t 13)),(some 14, .ext (.t 9) 0),(some 15, .ext (.t 9) 1),(some 5, .mv (.t 14)),(some 6, .mv (.t 15))]⟩] [0,3,6])
 (.seq (.rg [⟨none,[(some 17, .mv (.t 0)),(some 18, .fldA (.t 3) 3 4),(some 19, .ld (.t 18) 1 false),(some 20, .call 107 [(.t 17),(.t 19)]),(some 16, .mv (.t 20)),(some 21, .ext (.t 16) 0),(some 22, .ext (.t 16) 1),(some 7, .mv (.t 21)),(some 8, .mv (.t 22))]⟩] [0,3,6,8])
 (.seq (.seq (.rg [⟨none,[(some 23, .fldA (.t 3) 1 2),(some 24, .ld (.t 23) 1 false)]⟩] [0,3,6,8,24])
 (.block 0 (.seq (.rg [⟨none,[(some 26, .bin .eql (.t 24) (.c (.int .i64 1))),(some 25, .mv (.t 26))]⟩] [0,3,6,8,24,25])
 (.ite (.t 25)
 (.seq (.rg [⟨none,[(some 27, .fldA (.t 3) 2 3),(some 28, .ld (.t 27) 1 false),(some 29, .bin .gtr (.t 28) (.c (.int .i64 2))),(some 30, .mv (.t 29))]⟩,⟨some (30,true),[(some 31, .mv (.t 6)),(some 32, .un .not (.t 31))]⟩,⟨none,[(some 33, .pick (.t 30) (.t 32) (.c (.bool false))),(some 34, .mv (.t 33))]⟩,⟨some (34,true),[(some 35, .mv (.t 8))]⟩,⟨none,[(some 36, .pick (.t 34) (.t 35) (.c (.bool false))),(some 37, .mv (.t 36))]⟩,⟨some (37,true),[(some 38, .fldA (.t 3) 4 5),(some 39, .ld (.t 38) 1 false),(some 40, .call 104 [(.t 39)])]⟩,⟨none,[(some 41, .pick (.t 37) (.t 40) (.c (.bool false))),(some 4, .mv (.t 41))]⟩] [4])
 .ret)
 (.seq (.rg [⟨none,[(some 43, .bin .eql (.t 24) (.c (.int .i64 2))),(some 42, .mv (.t 43))]⟩] [0,3,6,8,24,42])
 (.ite (.t 42)
 (.seq (.rg [⟨none,[(some 44, .mv (.t 6)),(some 45, .mv (.t 44))]⟩,⟨some (45,true),[(some 46, .fldA (.t 3) 2 3),(some 47, .ld (.t 46) 1 false),(some 48, .bin .gtr (.t 47) (.c (.int .i64 2)))]⟩,⟨none,[(some 49, .pick (.t 45) (.t 48) (.c (.bool false))),(some 50, .mv (.t 49))]⟩,⟨some (50,true),[(some 51, .mv (.t 8))]⟩,⟨none,[(some 52, .pick (.t 50) (.t 51) (.c (.bool false))),(some 53, .mv (.t 52))]⟩,⟨some (53,true),[(some 54, .mv (.t 0)),(some 55, .fldA (.t 3) 3 4),(some 56, .ld (.t 55) 1 false),(some 57, .fldA (.t 3) 2 3),(some 58, .ld (.t 57) 1 false),(some 59, .call 158 [(.t 54),(.t 56),(.t 58)]),(some 60, .un .not (.t 59))]⟩,⟨none,[(some 61, .pick (.t 53) (.t 60) (.c (.bool false))),(some 62, .mv (.t 61))]⟩,⟨some (62,true),[(some 63, .fldA (.t 3) 4 5),(some 64, .ld (.t 63) 1 false),(some 65, .call 104 [(.t 64)])]⟩,⟨none,[(some 66, .pick (.t 62) (.t 65) (.c (.bool false))),(some 4, .mv (.t 66))]⟩] [4])
 .ret)
 (.seq (.rg [⟨none,[(some 68, .bin .eql (.t 24) (.c (.int .i64 3))),(some 67, .mv (.t 68))]⟩] [3,6,67])
 (.ite (.t 67)
 (.seq (.rg [⟨none,[(some 69, .mv (.t 6)),(some 70, .mv (.t 69))]⟩,⟨some (70,true),[(some 71, .fldA (.t 3) 5 6),(some 72, .ld (.t 71) 1 false),(some 73, .bin .neq (.t 72) (.c (.string ⟨#[]⟩)))]⟩,⟨none,[(some 74, .pick (.t 70) (.t 73) (.c (.bool false))),(some 75, .mv (.t 74))]⟩,⟨some (75,true),[(some 76, .fldA (.t 3) 5 6),(some 77, .ld (.t 76) 1 false),(some 78, .lenS (.t 77)),(some 79, .bin .leq (.t 78) (.c (.int .i64 255)))]⟩,⟨none,[(some 80, .pick (.t 75) (.t 79) (.c (.bool false))),(some 81, .mv (.t 80))]⟩,⟨some (81,true),[(some 82, .fldA (.t 3) 6 7),(some 83, .ld (.t 82) 1 false),(some 84, .lenS (.t 83)),(some 85, .bin .leq (.t 84) (.c (.int .i64 255)))]⟩,⟨none,[(some 86, .pick (.t 81) (.t 85) (.c (.bool false))),(some 4, .mv (.t 86))]⟩] [4])
 .ret)
 .skip))))))))
 (.seq (.rg [⟨none,[(some 4, .mv (.c (.bool false)))]⟩] [4])
 .ret)))))
theorem zmK:Ok Tryz.prog 135 zhA 87 [] [.tmp 4]:=Ok.mk' Tryz.func135 (by kernel_rfl) (by kernel_rfl) (by kernel_rfl)
abbrev zoG:Nat:=97
def zdL:Cd:=
 (.seq (.gh (.rg [⟨none,[(some 61, .mv (.t 0)),(some 62, .ld (.t 5) 4 true),(some 63, .call 105 [(.t 61),(.t 62)])]⟩] []))
 (.seq (.rg [⟨none,[(some 4, .mv (.c (.bool true)))]⟩] [4])
 .ret))
def zef:Cd:=
 (.seq (.seq (.gh (.rg [⟨none,[(some 44, .fldA (.t 3) 1 2),(some 45, .ld (.t 44) 1 false),(some 46, .bin .eql (.t 45) (.c (.int .i64 3)))]⟩] [0,3,5,46]))
 (.ite (.t 46)
 (.rg [⟨none,[(some 47, .fldA (.t 5) 3 3),(some 48, .ld (.t 47) 1 false),(some 49, .fldA (.t 3) 5 6),(some 50, .ld (.t 49) 1 false),(some 51, .fldA (.t 3) 6 7),(some 52, .ld (.t 51) 1 false),(some 53, .call 136 [(.t 48),(.t 50),(.t 52)]),(some 54, .fldA (.t 5) 3 3),(none, .st (.t 54) (.t 53) 1)]⟩] [0,5])
 (.seq (.rg [⟨none,[(some 55, .fldA (.t 3) 3 4),(some 56, .ld (.t 55) 1 false),(some 57, .fldA (.t 5) 1 1),(none, .st (.t 57) (.t 56) 1)]⟩] [0,3,5])
 (.rg [⟨none,[(some 58, .fldA (.t 3) 4 5),(some 59, .ld (.t 58) 1 false),(some 60, .fldA (.t 5) 2 2),(none, .st (.t 60) (.t 59) 1)]⟩] [0,5]))))
 zdL)
def zeb:Cd:=
 (.seq (.gh (.rg [⟨none,[(some 26, .fldA (.t 3) 2 3),(some 27, .ld (.t 26) 1 false),(some 28, .bld (.c (.s (.int .i64 0)) (.c (.s (.int .i64 0)) (.c (.s (.string ⟨#[]⟩)) (.c (.s (.slice none 0 0)) .u)))) [(0,(.t 27))]),(some 5, .new 49 (.c (.s (.int .i64 0)) (.c (.s (.int .i64 0)) (.c (.s (.string ⟨#[]⟩)) (.c (.s (.slice none 0 0)) .u))))),(none, .st (.t 5) (.t 28) 4)]⟩] [0,3,5]))
 (.seq (.seq (.rg [⟨none,[(some 30, .mv (.t 0)),(some 31, .fldA (.t 3) 2 3),(some 32, .ld (.t 31) 1 false),(some 33, .call 107 [(.t 30),(.t 32)]),(some 29, .mv (.t 33)),(some 34, .ext (.t 29) 0),(some 35, .ext (.t 29) 1),(some 6, .mv (.t 34)),(some 7, .mv (.t 35))]⟩] [0,3,5,6,7])
 (.seq (.rg [⟨none,[(some 36, .mv (.t 7))]⟩] [0,3,5,6,36])
 (.ite (.t 36)
 (.rg [⟨none,[(some 37, .mv (.t 0)),(some 38, .nilc (.t 37)),(some 39, .fldA (.t 38) 0 0),(some 40, .ld (.t 39) 1 false),(some 41, .mv (.t 6)),(some 42, .idxS (.t 40) (.t 41) 4),(some 43, .ld (.t 42) 4 true),(none, .st (.t 5) (.t 43) 4)]⟩] [0,3,5])
 .skip)))
 zef))
def ziP:Cd:=
 (.seq (.rg [⟨none,[(some 3, .box 26 (.t 1)),(some 4, .mv (.c (.bool false)))]⟩] [0,3])
 (.seq (.seq (.rg [⟨none,[(some 8, .mv (.t 0)),(some 9, .ld (.t 3) 8 true),(some 10, .call 135 [(.t 8),(.t 9)]),(some 11, .un .not (.t 10))]⟩] [0,3,11])
 (.ite (.t 11)
 (.seq (.rg [⟨none,[(some 4, .mv (.c (.bool false)))]⟩] [4])
 .ret)
 .skip))
 (.seq (.rga (.op ⟨none,[(some 12, .mv (.t 0))]⟩ (.op ⟨none,[(some 13, .mv (.t 0))]⟩ (.op ⟨none,[(some 14, .nilc (.t 13))]⟩ (.op ⟨none,[(some 15, .fldA (.t 14) 1 1)]⟩ (.op ⟨none,[(some 17, .mv (.t 0))]⟩ (.op ⟨none,[(some 18, .nilc (.t 17))]⟩ (.op ⟨none,[(some 19, .fldA (.t 18) 0 0)]⟩ (.or (.op ⟨none,[(some 16, .ld (.t 15) 1 false)]⟩ (.op ⟨none,[(some 20, .ld (.t 19) 1 false)]⟩ (.op ⟨none,[(some 21, .call 106 [(.t 20)])]⟩ (.op ⟨none,[(some 22, .bldS 43 1 (.s (.slice none 0 0)) [(.t 21)])]⟩ (.op ⟨none,[(some 23, .app 43 1 24 (.s (.slice none 0 0)) (.t 16) (.t 22))]⟩ (.op ⟨none,[(some 24, .nilc (.t 12))]⟩ (.op ⟨none,[(some 25, .fldA (.t 24) 1 1)]⟩ (.op ⟨none,[(none, .st (.t 25) (.t 23) 1)]⟩ .done)))))))) (.op ⟨none,[(some 20, .ld (.t 19) 1 false)]⟩ (.or (.op ⟨none,[(some 16, .ld (.t 15) 1 false)]⟩ (.op ⟨none,[(some 21, .call 106 [(.t 20)])]⟩ (.op ⟨none,[(some 22, .bldS 43 1 (.s (.slice none 0 0)) [(.t 21)])]⟩ (.op ⟨none,[(some 23, .app 43 1 24 (.s (.slice none 0 0)) (.t 16) (.t 22))]⟩ (.op ⟨none,[(some 24, .nilc (.t 12))]⟩ (.op ⟨none,[(some 25, .fldA (.t 24) 1 1)]⟩ (.op ⟨none,[(none, .st (.t 25) (.t 23) 1)]⟩ .done))))))) (.op ⟨none,[(some 21, .call 106 [(.t 20)])]⟩ (.or (.op ⟨none,[(some 16, .ld (.t 15) 1 false)]⟩ (.op ⟨none,[(some 22, .bldS 43 1 (.s (.slice none 0 0)) [(.t 21)])]⟩ (.op ⟨none,[(some 23, .app 43 1 24 (.s (.slice none 0 0)) (.t 16) (.t 22))]⟩ (.op ⟨none,[(some 24, .nilc (.t 12))]⟩ (.op ⟨none,[(some 25, .fldA (.t 24) 1 1)]⟩ (.op ⟨none,[(none, .st (.t 25) (.t 23) 1)]⟩ .done)))))) (.op ⟨none,[(some 22, .bldS 43 1 (.s (.slice none 0 0)) [(.t 21)])]⟩ (.op ⟨none,[(some 16, .ld (.t 15) 1 false)]⟩ (.op ⟨none,[(some 23, .app 43 1 24 (.s (.slice none 0 0)) (.t 16) (.t 22))]⟩ (.op ⟨none,[(some 24, .nilc (.t 12))]⟩ (.op ⟨none,[(some 25, .fldA (.t 24) 1 1)]⟩ (.op ⟨none,[(none, .st (.t 25) (.t 23) 1)]⟩ .done)))))))))))))))))) [0,3])
 zeb)))
theorem zoO:Ok Tryz.prog 97 ziP 64 [(3,999999)] [.tmp 4]:=Ok.mk' Tryz.func97 (by kernel_rfl) (by kernel_rfl) (by kernel_rfl)
abbrev zsC:Nat:=74
def zfC:Cd:=
 (.gh (.rg [⟨none,[(some 79, .mv (.t 4)),(some 80, .ld (.t 6) 4 true),(some 81, .call 105 [(.t 79),(.t 80)])]⟩] [0,4,5]))
def ziN:Cd:=
 (.seq (.seq (.rg [⟨none,[(some 14, .mv (.t 5)),(some 15, .mv (.t 0)),(some 16, .len (.t 15)),(some 17, .bin .lss (.t 14) (.t 16))]⟩] [0,4,5,17])
 (.ite (.t 17)
 .skip
 (.exit 0)))
 (.seq (.block 1 (.seq (.rg [⟨none,[(some 20, .mv (.t 0)),(some 21, .mv (.t 5)),(some 22, .idxS (.t 20) (.t 21) 4),(some 23, .ld (.t 22) 4 true),(some 6, .new 49 (.c (.s (.int .i64 0)) (.c (.s (.int .i64 0)) (.c (.s (.string ⟨#[]⟩)) (.c (.s (.slice none 0 0)) .u))))),(none, .st (.t 6) (.t 23) 4)]⟩] [0,4,5,6])
 (.seq (.rg [⟨none,[(some 24, .fldA (.t 6) 0 0),(some 25, .ld (.t 24) 1 false),(some 26, .bin .eql (.t 25) (.c (.int .i64 1))),(some 27, .mv (.t 26))]⟩,⟨some (27,false),[(some 28, .fldA (.t 6) 0 0),(some 29, .ld (.t 28) 1 false),(some 30, .bin .eql (.t 29) (.c (.int .i64 2)))]⟩,⟨none,[(some 31, .pick (.t 27) (.c (.bool true)) (.t 30)),(some 7, .mv (.t 31))]⟩] [0,4,5,6,7])
 (.seq (.seq (.rgq [⟨none,[(some 32, .fldA (.t 6) 0 0),(some 33, .ld (.t 32) 1 false),(some 34, .bin .lss (.t 33) (.c (.int .i64 1))),(some 35, .mv (.t 34))]⟩,⟨some (35,false),[(some 36, .mv (.t 5)),(some 37, .bin .gtr (.t 36) (.c (.int .i64 0))),(some 38, .mv (.t 37))]⟩,⟨some (38,true),[(some 39, .fldA (.t 6) 0 0),(some 40, .ld (.t 39) 1 false),(some 41, .mv (.t 0)),(some 42, .mv (.t 5)),(some 43, .bin .sub (.t 42) (.c (.int .i64 1))),(some 44, .idxS (.t 41) (.t 43) 4),(some 45, .fldA (.t 44) 0 0),(some 46, .ld (.t 45) 1 false)]⟩] [⟨some (38,true),[(some 47, .bin .leq (.t 40) (.t 46))]⟩,⟨some (35,false),[(some 48, .pick (.t 38) (.t 47) (.c (.bool false)))]⟩,⟨none,[(some 49, .pick (.t 35) (.c (.bool true)) (.t 48)),(some 50, .mv (.t 49))]⟩,⟨some (50,false),[(some 51, .fldA (.t 6) 3 3),(some 52, .ld (.t 51) 1 false),(some 53, .call 103 [(.t 52)]),(some 54, .un .not (.t 53))]⟩,⟨none,[(some 55, .pick (.t 50) (.c (.bool true)) (.t 54)),(some 56, .mv (.t 55))]⟩,⟨some (56,false),[(some 57, .mv (.t 7)),(some 58, .mv (.t 57))]⟩,⟨some (58,true),[(some 59, .fldA (.t 6) 1 1),(some 60, .ld (.t 59) 1 false),(some 61, .bin .neq (.t 60) (.c (.int .i64 0))),(some 62, .mv (.t 61))]⟩,⟨some (62,false),[(some 63, .fldA (.t 6) 2 2),(some 64, .ld (.t 63) 1 false),(some 65, .bin .neq (.t 64) (.c (.string ⟨#[]⟩)))]⟩,⟨some (58,true),[(some 66, .pick (.t 62) (.c (.bool true)) (.t 65))]⟩,⟨some (56,false),[(some 67, .pick (.t 58) (.t 66) (.c (.bool false)))]⟩,⟨none,[(some 68, .pick (.t 56) (.c (.bool true)) (.t 67)),(some 69, .mv (.t 68))]⟩,⟨some (69,false),[(some 70, .mv (.t 7)),(some 71, .un .not (.t 70)),(some 72, .mv (.t 71))]⟩,⟨some (72,true),[(some 73, .fldA (.t 6) 2 2),(some 74, .ld (.t 73) 1 false),(some 75, .call 104 [(.t 74)]),(some 76, .un .not (.t 75))]⟩,⟨some (69,false),[(some 77, .pick (.t 72) (.t 76) (.c (.bool false)))]⟩,⟨none,[(some 78, .pick (.t 69) (.c (.bool true)) (.t 77))]⟩] [0,4,5,6,78])
 (.ite (.t 78)
 (.seq (.rg [⟨none,[(some 2, .mv (.c (.pointer none))),(some 3, .mv (.c (.bool false)))]⟩] [2,3])
 .ret)
 .skip))
 zfC))))
 (.rg [⟨none,[(some 18, .mv (.t 5)),(some 19, .bin .add (.t 18) (.c (.int .i64 1))),(some 5, .mv (.t 19))]⟩] [0,4,5])))
def ziM:Cd:=
 (.seq (.seq (.rg [⟨none,[(some 107, .mv (.t 9)),(some 108, .bin .neq (.t 107) (.c (.int .i64 1))),(some 109, .mv (.t 108))]⟩,⟨some (109,true),[(some 110, .mv (.t 9)),(some 111, .bin .neq (.t 110) (.c (.int .i64 2)))]⟩,⟨none,[(some 112, .pick (.t 109) (.t 111) (.c (.bool false)))]⟩] [4,8,9,10,112])
 (.ite (.t 112)
 .skip
 (.exit 4)))
 (.seq (.block 5 (.seq (.rg [⟨none,[(some 116, .mv (.t 4)),(some 117, .mv (.t 9)),(some 118, .call 107 [(.t 116),(.t 117)]),(some 115, .mv (.t 118)),(some 119, .ext (.t 115) 0),(some 120, .ext (.t 115) 1),(some 11, .mv (.t 119)),(some 12, .mv (.t 120))]⟩] [4,8,10,11,12])
 (.seq (.seq (.rg [⟨none,[(some 121, .mv (.t 12)),(some 122, .un .not (.t 121)),(some 123, .mv (.t 122))]⟩,⟨some (123,false),[(some 124, .mv (.t 10)),(some 125, .mv (.t 4)),(some 126, .nilc (.t 125)),(some 127, .fldA (.t 126) 0 0),(some 128, .ld (.t 127) 1 false),(some 129, .len (.t 128)),(some 130, .bin .gtr (.t 124) (.t 129))]⟩,⟨none,[(some 131, .pick (.t 123) (.c (.bool true)) (.t 130))]⟩] [4,8,10,11,131])
 (.ite (.t 131)
 (.seq (.rg [⟨none,[(some 2, .mv (.c (.pointer none))),(some 3, .mv (.c (.bool false)))]⟩] [2,3])
 .ret)
 .skip))
 (.rg [⟨none,[(some 132, .mv (.t 4)),(some 133, .nilc (.t 132)),(some 134, .fldA (.t 133) 0 0),(some 135, .ld (.t 134) 1 false),(some 136, .mv (.t 11)),(some 137, .idxS (.t 135) (.t 136) 4),(some 138, .fldA (.t 137) 1 1),(some 139, .ld (.t 138) 1 false),(some 9, .mv (.t 139))]⟩] [4,8,9,10]))))
 (.rg [⟨none,[(some 113, .mv (.t 10)),(some 114, .bin .add (.t 113) (.c (.int .i64 1))),(some 10, .mv (.t 114))]⟩] [4,8,9,10])))
def ziT:Cd:=
 (.seq (.seq (.rg [⟨none,[(some 90, .mv (.t 8)),(some 91, .mv (.t 4)),(some 92, .nilc (.t 91)),(some 93, .fldA (.t 92) 0 0),(some 94, .ld (.t 93) 1 false),(some 95, .len (.t 94)),(some 96, .bin .lss (.t 90) (.t 95))]⟩] [4,8,96])
 (.ite (.t 96)
 .skip
 (.exit 2)))
 (.seq (.block 3 (.seq (.rg [⟨none,[(some 99, .mv (.t 4)),(some 100, .nilc (.t 99)),(some 101, .fldA (.t 100) 0 0),(some 102, .ld (.t 101) 1 false),(some 103, .mv (.t 8)),(some 104, .idxS (.t 102) (.t 103) 4),(some 105, .fldA (.t 104) 0 0),(some 106, .ld (.t 105) 1 false),(some 9, .mv (.t 106))]⟩] [4,8,9])
 (.seq (.rg [⟨none,[(some 10, .mv (.c (.int .i64 0)))]⟩] [4,8,9,10])
 (.block 4 (.loop ziM)))))
 (.rg [⟨none,[(some 97, .mv (.t 8)),(some 98, .bin .add (.t 97) (.c (.int .i64 1))),(some 8, .mv (.t 98))]⟩] [4,8])))
def zmq:Cd:=
 (.seq (.rg [⟨none,[(some 2, .mv (.c (.pointer none))),(some 3, .mv (.c (.bool false)))]⟩] [0])
 (.seq (.rg [⟨none,[(some 13, .call 102 []),(some 4, .mv (.t 13))]⟩] [0,4])
 (.seq (.seq (.rg [⟨none,[(some 5, .mv (.c (.int .i64 0)))]⟩] [0,4,5])
 (.block 0 (.loop ziN)))
 (.seq (.rg [⟨none,[(some 82, .mv (.t 4)),(some 83, .mv (.t 4)),(some 84, .nilc (.t 83)),(some 85, .fldA (.t 84) 0 0),(some 86, .ld (.t 85) 1 false),(some 87, .call 106 [(.t 86)]),(some 88, .nilc (.t 82)),(some 89, .fldA (.t 88) 0 0),(none, .st (.t 89) (.t 87) 1)]⟩] [4])
 (.seq (.seq (.rg [⟨none,[(some 8, .mv (.c (.int .i64 0)))]⟩] [4,8])
 (.block 2 (.loop ziT)))
 (.seq (.rg [⟨none,[(some 140, .mv (.t 4)),(some 2, .mv (.t 140)),(some 3, .mv (.c (.bool true)))]⟩] [2,3])
 .ret))))))
theorem zsA:Ok Tryz.prog 74 zmq 141 [(7,15)] [.tmp 2, .tmp 3]:=Ok.mk' Tryz.func74 (by kernel_rfl) (by kernel_rfl) (by kernel_rfl)
end Go.Proofs.YtmjiojflncffeaaGreat.Vc

set_option linter.unusedVariables false
set_option linter.unusedSimpArgs false
set_option maxRecDepth 100000
namespace Go.Proofs.YtmjiojflncffeaaGreat.Vc
open Go Go.Proofs
def zfE (v:Int→Option AN):Nat→Int→Int→Bool
 |0,_,_=>false
 |f+1,n,a=>if n=a then true else match v n with
  |none=>false
  |some x=>if zbc n=true then false else zfE v f x.parent a
theorem zuJ {T:PT}:∀(f:Nat) (n a:Int),zfF T f n a=zfE T.view f n a
 |0,_,_=>rfl
 |f+1,n,a=>by
  unfold zfF zfE
  cases h:T.get n with
  |none=>rw [PT.view_none.2 h]
  |some x=>
   rw [PT.view_get h]
   simp only
   rw [zuJ f]
   rfl
theorem zov {v:Int→Option AN} {f:Nat} {n a:Int} (h:v n=none) (ha:v a≠none):zfE v f n a=false:=by
 cases f with
 |zero=>rfl
 |succ f=>
  rw [zfE,if_neg (fun e=>ha (by rw [←e];exact h)),h]
theorem zvr (w:World) (A m:PH) (hm:m.le w) (b:Nat) (l:List TN) (ls:List (List TN)) (h:RM A m b l ls) (hL:LOk l) (hg:VGood (zaw l)) (n a:Int) (f0:Nat) (hf:∀k,LeadsN (zaw l) k n→k<f0) (hl:l.length≤1099511627776):
  Spec Tryz.prog zkT [ptr b, .int .i64 n, .int .i64 a] PH.no w fun rs _=>rs=[.s (.bool (isL l a&&zfE (zaw l) f0 n a))]:=by
 refine zbE zkX (Qf:=fun rs=>rs=[.s (.bool (isL l a&&zfE (zaw l) f0 n a))]) [.g (.s (ptr b)), .g (.s (.int .i64 n)), .g (.s (.int .i64 a))] (by simp) (by simp [AV.ok,GV.ok,Value.oneCell',ptr]) ?_
 obtain ⟨b2,o2,c,ts,hlts,h0,hts,_,hs0,hsi⟩:=h.look
 have hk:∀{l:List PH},KN (⟨Tryz.prog,37,w,PH.no⟩:Ctx).u0 l m:=zdy hm
 have hfind:∀(w':World) (n:Int),(⟨Tryz.prog,37,w,PH.no⟩:Ctx).u0.le w'→Spec Tryz.prog zey [ptr b, .int .i64 n] PH.no w' fun rs _=>rs=[.s (.int .i64 (zaS l n)), .s (.bool (isL l n))]:=fun w' n hw=>
  zhK w' A m (fun b o h=>hw b o (by rw [zbr];exact hm b o h)) b l ls h n (by omega)
 simp (maxSteps:=2000000) only [zgf,zi,zm,zf,zc,zb,zh,ze,za,zj,ev,look,zd,zg,zk,Value.oneCell',cond_true,Nat.reduceEqDiff,Nat.reduceAdd,↓reduceIte,reduceCtorEq,Nat.zero_add,zak,zaK,Int.reduceAdd,ptr]
 refine zdc _ [.s (.int .i64 (zaS l a)), .s (.bool (isL l a))] rfl rfl (fun w' vs hv hw=> ?_) ?_
 ·obtain ⟨vs,rfl,_,hv⟩:=zt hv
  obtain ⟨vs,rfl,_,hv⟩:=zt hv
  obtain rfl:=zr hv
  intro _
  exact hfind w' a hw
 simp (maxSteps:=2000000) only [zK,List.getElem?_cons_zero,List.getElem?_cons_succ,zi,zB,zf,zc,zb,ze,za,zj,ev,look,zd,zg,zk,Nat.reduceEqDiff,↓reduceIte,reduceCtorEq]
 refine zaP (ι:=Int×Nat×Nat) (fun q=>⟨[(0, .g (.s (.pointer (some ⟨b,0,none⟩)))),(1, .g (.s (.int .i64 (q.1)))),(2, .g (.s (.int .i64 (a)))),(8, .g (.s (.bool (isL l a))))],[],[],PH.no⟩)
  (fun q=>(isL l a=true→zfE (zaw l) f0 n a=zfE (zaw l) q.2.2 q.1 a)∧((zaw l q.1=none∧q.2.1=0)∨∃k,q.2.1=k+1∧zaw l q.1≠none∧LeadsN (zaw l) k q.1)∧q.2.1≤q.2.2) (fun q=>q.2.1)
  (n,(if h:zaw l n=none then 0 else Classical.choose (hg.led n h)+1),f0) ⟨fun _=>rfl, ?_, ?_⟩ (zR ?_ ?_ rfl rfl rfl) ?_
 ·simp only
  by_cases hn:zaw l n=none
  ·exact .inl ⟨hn,by rw [dif_pos hn]⟩
  ·exact .inr ⟨_,by rw [dif_neg hn],hn,Classical.choose_spec (hg.led n hn)⟩
 ·simp only
  split
  ·omega
  ·rename_i hn
   exact hf _ (Classical.choose_spec (hg.led n hn))
 ·simp [zaf,look]
 ·simp [zam,look]
 rintro ⟨x,k',f⟩ ⟨hb,hx,hkf⟩
 simp only at hb hx hkf
 generalize hQ:loopQ _ _ _ _ _=Q
 simp (maxSteps:=2000000) only [zeM,zu,zau,zi,zB,zm,zq,zf,zay,zc,zb,zh,ze,za,zj,ev,look,zd,zg,zk,Nat.reduceEqDiff,↓reduceIte,reduceCtorEq,zax]
 refine ⟨fun his=> ?_,fun hno=> ?_⟩
 ·have ha:zaw l a≠none:=by rw [zls]at his;exact Option.isSome_iff_ne_none.1 his
  have hb:=hb his
  refine zdc _ [.s (.int .i64 (zaS l x)), .s (.bool (isL l x))] rfl rfl (fun w' vs hv hw=> ?_) ?_
  ·obtain ⟨vs,rfl,_,hv⟩:=zt hv
   obtain ⟨vs,rfl,_,hv⟩:=zt hv
   obtain rfl:=zr hv
   intro _
   exact hfind w' x hw
  simp (maxSteps:=2000000) only [zK,List.getElem?_cons_zero,List.getElem?_cons_succ,zu,zx,zi,zm,zq,zf,zp,zy,zc,zb,zh,ze,za,zj,ev,look,zd,zg,zk,zO,zP,unV,Value.oneCell',cond_true,Nat.reduceEqDiff,↓reduceIte,reduceCtorEq,Nat.add_zero,Bool.true_and,true_and,zax]
  refine ⟨fun h1=> ?_,fun h1=>⟨fun h2=> ?_,fun h2=> ?_⟩⟩
  ·have hxn:zaw l x=none:=by
    rw [Bool.not_eq_true',zls]at h1
    exact Option.isSome_eq_false_iff.1 h1|>Option.isNone_iff_eq_none.1
   subst hQ
   simp (maxSteps:=2000000) only [zp,zy,zah,look,↓reduceIte,zD,zal,zC,ne_eq]
   rw [hb,zov hxn ha,Bool.and_false]
  ·have hxa:x=a:=by simpa using h2
   have hk1:1≤k':=by
    rcases hx with ⟨h3,_⟩|⟨k,h3,_⟩
    ·rw [hxa]at h3;exact absurd h3 ha
    ·omega
   obtain ⟨f',rfl⟩:∃f',f=f'+1:=⟨f - 1,by omega⟩
   rw [zfE,if_pos hxa]at hb
   subst hQ
   simp (maxSteps:=2000000) only [zp,zy,zah,look,↓reduceIte,zD,zal,zC,ne_eq]
   rw [hb,his];rfl
  ·have hxa:x≠a:=by simpa using h2
   rw [Bool.not_eq_false',zlS]at h1
   obtain ⟨t,ht⟩:=Option.isSome_iff_exists.1 h1
   obtain ⟨hlt,hgd⟩:=zts ht
   have hvx:zaw l x=some ⟨t.parent,t.name,zca t.attrs⟩:=by rw [zaw,ht];rfl
   obtain ⟨k,hk',_,hled⟩:∃k,k'=k+1∧zaw l x≠none∧LeadsN (zaw l) k x:=by
    rcases hx with ⟨h3,_⟩|h3
    ·rw [hvx]at h3;cases h3
    ·exact h3
   obtain ⟨f',rfl⟩:∃f',f=f'+1:=⟨f - 1,by omega⟩
   rw [zfE,if_neg hxa,hvx]at hb
   simp only at hb
   refine zJ _ (hs0 hk) rfl ?_
   simp (maxSteps:=2000000) only [za,zj,ev,look,zd,Nat.reduceEqDiff,↓reduceIte,reduceCtorEq,Int.toNat_natCast]
   refine ⟨⟨by omega,by omega⟩,zJ _ (zmg (hsi hk _ hlt)).2.1 rfl ?_⟩
   simp (maxSteps:=2000000) only [zT,zc,zb,ze,za,zj,ev,look,zd,zg,zk,Nat.reduceEqDiff,↓reduceIte,reduceCtorEq]
   have hpar:(ts.getD (zaS l x) zTreeNode).parent=t.parent:=by rw [(hts.at _ (by omega)).2.1,hgd]
   rw [hpar]
   cases htop:zbc x with
   |true=>
    have hp0:t.parent=0:=(hg.top x _ hvx htop).1
    have hv0:zaw l 0=none:=by
     cases h0:zaw l 0 with
     |none=>rfl
     |some y=>have:=hg.pos 0 y h0;omega
    subst hQ;simp only [zaB];refine ⟨(t.parent,0,f'), ?_, ?_,zR ?_ ?_ rfl rfl rfl⟩
    ·refine ⟨fun _=> ?_, .inl ⟨by simp only;rw [hp0];exact hv0,rfl⟩,by simp only;omega⟩
     simp only
     rw [hb,if_pos htop,hp0,zov hv0 ha]
    ·simp only;omega
    ·simp [zaf,look]
    ·simp [zam,look]
   |false=>
    cases k with
    |zero=>rw [show zbc x=true from hled]at htop;cases htop
    |succ k=>
     obtain ⟨_,y,hy1,hy2⟩:=hled
     rw [hvx]at hy1
     cases hy1
     have hy2:LeadsN (zaw l) k t.parent:=hy2
     have hvp:zaw l t.parent≠none:=by
      cases k with
      |zero=>
       rcases zeC.1 (show zbc t.parent=true from hy2)with e|e<;>rw [e]
       ·exact hg.one
       ·exact hg.two
      |succ k=>obtain ⟨_,z,hz,_⟩:=hy2;rw [hz];simp
     subst hQ;simp only [zaB];refine ⟨(t.parent,k+1,f'), ?_, ?_,zR ?_ ?_ rfl rfl rfl⟩
     ·refine ⟨fun _=> ?_, .inr ⟨k,rfl,hvp,hy2⟩,by simp only;omega⟩
      simp only
      rw [hb,htop,if_neg (by simp)]
     ·simp only;omega
     ·simp [zaf,look]
     ·simp [zam,look]
 ·subst hQ
  simp (maxSteps:=2000000) only [zx,zi,zm,zf,zat,zc,zaQ,zb,zh,ze,za,zj,ev,look,zd,zg,zk,Value.oneCell',cond_true,↓reduceIte,zD,zal,zC,ne_eq]
  rw [hno];rfl
theorem zxA {l:List TN} {T:PT} (hv:zaw l=T.view) (n:Int):isL l n=T.has n:=by
 rw [zls,hv,PT.has,PT.view]
 cases T.get n<;>rfl
theorem zyE (w:World) (A m:PH) (hm:m.le w) (b:Nat) (l:List TN) (ls:List (List TN)) (h:RM A m b l ls) (hL:LOk l) (T:PT) (hv:zaw l=T.view) (hg:VGood T.view) (op:Op) (hl:l.length≤1099511627776) (hb:op.name.size≤140737488355328):
  Spec Tryz.prog zmT [ptr b,(gOp op).val] PH.no w fun rs _=>rs=[.s (.bool (zaL T op))]:=by
 refine zbE zmK (Qf:=fun rs=>rs=[.s (.bool (zaL T op))]) [.g (.s (ptr b)), .g (gOp op)] (by simp) (by simp [AV.ok,GV.ok,Value.oneCell',ptr,zcS]) ?_
 have hw':∀{w':World},(⟨Tryz.prog,87,w,PH.no⟩:Ctx).u0.le w'→m.le w':=fun hw b o h=>hw b o (by rw [zbr];exact hm b o h)
 have hfind:∀(w':World) (n:Int),(⟨Tryz.prog,87,w,PH.no⟩:Ctx).u0.le w'→Spec Tryz.prog zey [ptr b, .int .i64 n] PH.no w' fun rs _=>rs=[.s (.int .i64 (zaS l n)), .s (.bool (T.has n))]:=fun w' n hw=>by
  have:=zhK w' A m (hw' hw) b l ls h n (by omega)
  rw [zxA hv]at this
  exact this
 simp (maxSteps:=2000000) only [zhA,zi,zm,zf,zc,zb,zh,ze,za,zj,ev,look,zZ,zd,zg,zk,GV.getT,Value.oneCell',cond_true,Nat.reduceEqDiff,↓reduceIte,reduceCtorEq,List.nil_append,Nat.zero_add,Bool.true_and,Bool.not_false,true_and,zak,zaK,zn,zF,zbo,zaW,ptr]
 refine zdc _ [.s (.int .i64 (zaS l op.node)), .s (.bool (T.has op.node))] rfl rfl (fun w' vs hv hw=> ?_) ?_
 ·obtain ⟨vs,rfl,_,hv⟩:=zt hv
  obtain ⟨vs,rfl,_,hv⟩:=zt hv
  obtain rfl:=zr hv
  intro _
  exact hfind w' op.node hw
 simp (maxSteps:=2000000) only [zK,List.getElem?_cons_zero,List.getElem?_cons_succ,zi,zm,zf,zc,zb,zh,ze,za,zj,ev,look,zd,zg,zk,GV.getT,Nat.reduceEqDiff,↓reduceIte,reduceCtorEq,List.nil_append,Bool.true_and,Bool.not_false,true_and,zn,zF,zcn,zcd]
 refine zdc _ [.s (.int .i64 (zaS l op.parent)), .s (.bool (T.has op.parent))] rfl rfl (fun w' vs hv hw=> ?_) ?_
 ·obtain ⟨vs,rfl,_,hv⟩:=zt hv
  obtain ⟨vs,rfl,_,hv⟩:=zt hv
  obtain rfl:=zr hv
  intro _
  exact hfind w' op.parent hw
 simp (maxSteps:=2000000) only [zK,List.getElem?_cons_zero,List.getElem?_cons_succ,zu,zx,zi,zB,zm,zq,zf,zp,zT,zy,zc,zb,zh,zH,ze,za,zj,RO.isGh,zI,zar,ev,look,zd,zg,zk,zO,zP,unV,GV.getT,Value.oneCell',cond_true,cond_false,Nat.reduceEqDiff,↓reduceIte,reduceCtorEq,List.nil_append,Bool.true_and,Bool.not_true,Bool.not_false,true_and,zD,zal,zC,decide_eq_true_eq,decide_eq_false_iff_not,↓zL,↓zN,zax,zn,zF,zbn,zbj,zbo,zaW,zcn,zcd,zcy,zck,zcI,zcD,zdi,zdj]
 have hname:FnV Tryz.prog ziw [.s (.string op.name)] [.s (.bool (zcW op.name))]:=by
  have:=zof op.name.data.toList (by simpa using hb)
  exact this
 refine ⟨fun k1=> ?_,fun k1=>⟨fun k2=> ?_,fun k2=>⟨fun k3=> ?_,fun k3=> ?_⟩⟩⟩
 ·rw [beq_iff_eq]at k1
  have e:zaL T op=(decide (op.node>2)&& !T.has op.node&&T.has op.parent&&zcW op.name):=by rw [zaL,if_pos k1]
  rw [e]
  refine ⟨fun a1=>⟨fun a2=>⟨fun a3=> ?_,fun a3=> ?_⟩,fun a2=> ?_⟩,fun a1=> ?_⟩
  ·refine zac hname rfl rfl rfl fun _=> ?_
   simp (maxSteps:=2000000) only [zK,zx,zf,zp,zy,zc,zb,zh,ze,za,zj,ev,look,zd,zg,zk,Value.oneCell',cond_true,Nat.reduceEqDiff,↓reduceIte,zD,zal,zC,↓zL]
   rw [decide_eq_true a1,a2,a3];rfl
  ·rw [a3,Bool.and_false];rfl
  ·rw [a2,Bool.and_false];rfl
  ·rw [decide_eq_false a1];rfl
 ·rw [beq_eq_false_iff_ne]at k1
  rw [beq_iff_eq]at k2
  have e:zaL T op=(T.has op.node&& !zbc op.node&&T.has op.parent&& !T.below op.parent op.node&&zcW op.name):=by rw [zaL,if_neg k1,if_pos k2]
  rw [e]
  have htop:T.has op.node=true→zbc op.node=decide (op.node≤2):=fun hh=>by
   have hpos:0<op.node:=by
    have:=zxB.1 hh
    obtain ⟨x,hx⟩:=Option.ne_none_iff_exists'.1 this
    exact hg.pos _ _ hx
   simp only [zbc]
   by_cases q1:op.node=1
   ·simp [q1]
   ·by_cases q2:op.node=2
    ·simp [q2]
    ·rw [decide_eq_false (by omega)];simp [q1,q2]
  refine ⟨fun a1=>⟨fun a2=>⟨fun a3=> ?_,fun a3=> ?_⟩,fun a2=> ?_⟩,fun a1=> ?_⟩
  ·have hbel:(isL l op.node&&zfE (zaw l) (T.nodes.length+1) op.parent op.node)=T.below op.parent op.node:=by
    rw [zxA hv,a1,Bool.true_and,hv,PT.below,zuJ]
   refine zdc _ [.s (.bool (T.below op.parent op.node))] rfl rfl (fun w' vs hvv hw=> ?_) ?_
   ·obtain ⟨vs,rfl,_,hvv⟩:=zt hvv
    obtain ⟨vs,rfl,_,hvv⟩:=zt hvv
    obtain ⟨vs,rfl,_,hvv⟩:=zt hvv
    obtain rfl:=zr hvv
    intro _
    have:=zvr w' A m (hw' hw) b l ls h hL (by rw [hv];exact hg) op.parent op.node (T.nodes.length+1) (fun k hk=>by rw [hv]at hk;have:=hk.few;omega) hl
    rw [hbel]at this
    exact this
   simp (maxSteps:=2000000) only [zK,zx,zf,zp,zy,zc,zb,zh,zH,ze,za,zj,RO.isGh,zI,zar,ev,look,zd,zg,zk,unV,GV.getT,Value.oneCell',cond_true,cond_false,Nat.reduceEqDiff,↓reduceIte,reduceCtorEq,List.nil_append,Bool.true_and,Bool.not_true,Bool.not_false,true_and,zD,zal,zC,↓zL,↓zN,zax,zn,zF,zcy,zck]
   rw [htop a1,decide_eq_false (show ¬op.node≤2 by omega),a1,a3]
   refine ⟨fun a4=> ?_,fun a4=>by rw [a4];rfl⟩
   refine zac hname rfl rfl rfl fun _=> ?_
   simp (maxSteps:=2000000) only [zK,zx,zf,zp,zy,zc,zb,zh,ze,za,zj,ev,look,zd,zg,zk,Value.oneCell',cond_true,Nat.reduceEqDiff,↓reduceIte,Bool.and_true,Bool.true_and,Bool.not_false,true_and,and_true,zD,zal,zC,↓zL]
   rw [a4];rfl
  ·rw [a3,Bool.and_false];rfl
  ·rw [htop a1,decide_eq_true (show op.node≤2 by omega),Bool.not_true,Bool.and_false];rfl
  ·rw [a1];rfl
 ·rw [beq_eq_false_iff_ne]at k1 k2
  rw [beq_iff_eq]at k3
  have e:zaL T op=(T.has op.node&&zcl op.key op.value):=by rw [zaL,if_neg k1,if_neg k2,if_pos k3]
  rw [e]
  have hpr:zcl op.key op.value=(!decide (op.key=⟨#[]⟩)&&decide (op.key.size≤255)&&decide (op.value.size≤255)):=rfl
  refine ⟨fun a1=>⟨fun a2=>⟨fun a3=> ?_,fun a3=> ?_⟩,fun a2=> ?_⟩,fun a1=>by rw [a1];rfl⟩
  ·rw [a1,hpr,a2,decide_eq_true (show op.key.size≤255 by omega)]
   simp
   omega
  ·rw [a1,hpr,decide_eq_false (show ¬op.key.size≤255 by omega)]
   simp
  ·rw [hpr,a2];simp
 ·rw [beq_eq_false_iff_ne]at k1 k2 k3
  rw [zaL,if_neg k1,if_neg k2,if_neg k3]
end Go.Proofs.YtmjiojflncffeaaGreat.Vc

set_option linter.unusedVariables false
set_option linter.unusedSimpArgs false
set_option maxRecDepth 100000
namespace Go.Proofs.YtmjiojflncffeaaGreat.Vc
open Go Go.Proofs
theorem zdr {a b c:PH} (h:dis a b):uni a (uni b c)=uni b (uni a c):=by rw [←zbs,zbU h,zbs]
theorem zzJ (r:Nat) (a b:Obj):(one r a).upd r b=one r b:=by
 funext j
 by_cases h:j=r
 ·subst h;simp [PH.upd,one]
 ·simp [PH.upd,one,h]
def opX (l:List TN) (op:Op):TN:=(zez l op.node).getD ⟨op.node,0,⟨#[]⟩,[]⟩
def opN (l:List TN) (op:Op):TN:=if op.kind=3 then {opX l op with attrs:=ztt (opX l op).attrs op.key op.value}else {opX l op with parent:=op.parent,name:=op.name}
def doL (l:List TN) (op:Op):List TN:=zdU l (opN l op)
theorem zAn (w:World) (m:PH) (b:Nat) (l:List TN) (ls:List (List TN)) (h:RC m b l ls) (hL:LOk l) (T:PT) (hv:zaw l=T.view) (hg:VGood T.view) (op:Op) (hb:op.name.size≤140737488355328) (hl:l.length≤549755813888) (hls:ls.length≤1099511627776) (ha:∀t∈l,t.attrs.length≤549755813888):
  Spec Tryz.prog zoG [ptr b,(gOp op).val] m w fun rs m'=>(zaL T op=false→rs=[.s (.bool false)]∧RC m' b l ls)∧(zaL T op=true→rs=[.s (.bool true)]∧RC m' b (doL l op) (ls++[l])):=by
 refine zbb zoO [.g (.s (ptr b)), .g (gOp op)] (by simp) (by simp [AV.ok,GV.ok,Value.oneCell',ptr,zcS]) ?_
 simp (maxSteps:=2000000) only [ziP,zi,zm,zf,zc,zb,zh,ze,za,zj,ev,look,zZ,zd,zg,zk,Value.oneCell',cond_true,Nat.reduceEqDiff,↓reduceIte,reduceCtorEq,Nat.zero_add,Bool.true_and,true_and,zak,zaK,zn,zbp,ptr]
 refine zaM _ [.s (.bool (zaL T op))] rfl rfl (fun w' vs hvv _ _ hm=> ?_) ?_
 ·obtain ⟨vs,rfl,_,hvv⟩:=zt hvv
  obtain ⟨vs,rfl,_,hvv⟩:=zt hvv
  obtain rfl:=zr hvv
  obtain ⟨m1,A,rfl,hd,hR⟩:=h
  exact zyE w' A m1 (fun b o q=>hm b o (zV _ _ b o q)) b l ls hR hL T hv hg op (by omega) hb
 simp (maxSteps:=2000000) only [zK,zu,zx,zi,zm,zeS,zq,zf,zp,zc,zab,zb,zh,ze,za,zbI,zeG,zj,ev,look,zd,zg,zk,unV,Value.oneCell',cond_true,Nat.reduceEqDiff,↓reduceIte,reduceCtorEq,Nat.zero_add,Nat.add_zero,zax]
 cases hmay:zaL T op with
 |false=>
  simp (maxSteps:=2000000) only [Bool.and_true,Bool.not_false,and_true,true_imp_iff,false_imp_iff,Bool.true_eq_false,Bool.false_eq_true]
  exact zbq m rfl (fun _ _ h=>h) ⟨rfl,h⟩
 |true=>
  simp (maxSteps:=2000000) only [Bool.true_and,Bool.not_true,true_and,true_imp_iff,false_imp_iff,Bool.true_eq_false,Bool.false_eq_true]
  have tail4:∀m2:PH,RC m2 b l (ls++[l])→∀σ:SS,Ge σ ⟨[(0, .g (.s (.pointer (some ⟨b,0,none⟩)))),(3, .ref 3 [])],[(3, .box (gOp op))],[],m2⟩→
    vc ⟨Tryz.prog,64,w,m⟩ zeb (znm ⟨Tryz.prog,64,w,m⟩ [.tmp 4] fun rs m'=>rs=[.s (.bool true)]∧RC m' b (doL l op) (ls++[l])) σ:=by
   intro m2 hR2 σ hσ
   obtain ⟨m1,A,rfl,hd,hR⟩:=hR2
   have hxn:(opX l op).node=op.node:=by
    unfold opX
    cases hgl:zez l op.node with
    |none=>rfl
    |some x=>exact ((zcj hL.sorted).1 hgl).2
   have tail12:∀(A2:PH) (t1:TreeNode),dis m1 A2→RM A2 m1 b l (ls++[l])→t1.node=(opN l op).node∧t1.parent=(opN l op).parent∧t1.name=(opN l op).name∧SlR A2 t1.attrs 2 ((opN l op).attrs.map zap)→∀σ:SS,Ge σ ⟨[(0, .g (.s (.pointer (some ⟨b,0,none⟩)))),(5, .ref 5 [])],[(5, .box (zl t1))],[],uni m1 A2⟩→
     vc ⟨Tryz.prog,64,w,m⟩ zdL (znm ⟨Tryz.prog,64,w,m⟩ [.tmp 4] fun rs m'=>rs=[.s (.bool true)]∧RC m' b (doL l op) (ls++[l])) σ:=by
    intro A2 t1 hd2 hRM ht1 σ hσ
    unfold zdL
    rw [zi]
    refine zbu hσ ?_
    simp (maxSteps:=2000000) only [zm,zh,za,zj,ev,look,zd,Nat.reduceEqDiff,↓reduceIte,reduceCtorEq,Bool.true_and,true_and,zn,zaY]
    refine zdz m1 A2 (zcz rfl) rfl rfl hd2 (Q:=fun rs m'=>rs=[]∧RM A2 m' b (zdU l (opN l op)) (ls++[l])) (fun w' vs hvv _ _=> ?_) fun rs m4 _ hq hd4=> ?_
    ·obtain ⟨vs,rfl,_,hvv⟩:=zt hvv
     obtain ⟨vs,rfl,_,hvv⟩:=zt hvv
     obtain rfl:=zr hvv
     exact zrp w' A2 m1 b l (ls++[l]) hRM t1 (opN l op) ht1 (by omega)
    obtain ⟨rfl,h4⟩:=hq
    simp (maxSteps:=2000000) only [zK,zx,zi,zm,zf,zc,zab,zb,zh,ze,za,zj,ev,look,zd,zg,zk,Value.oneCell',cond_true,↓reduceIte]
    exact zbq _ rfl (fun _ _ h=>h) ⟨rfl,m4,A2,rfl,hd4,h4⟩
   have tail8:∀t0:TreeNode,t0.node=(opX l op).node∧t0.parent=(opX l op).parent∧t0.name=(opX l op).name∧SlR A t0.attrs 2 ((opX l op).attrs.map zap)→∀σ:SS,Ge σ ⟨[(0, .g (.s (.pointer (some ⟨b,0,none⟩)))),(3, .ref 3 []),(5, .ref 5 [])],[(3, .box (gOp op)),(5, .box (zl t0))],[],uni m1 A⟩→
     vc ⟨Tryz.prog,64,w,m⟩ zef (znm ⟨Tryz.prog,64,w,m⟩ [.tmp 4] fun rs m'=>rs=[.s (.bool true)]∧RC m' b (doL l op) (ls++[l])) σ:=by
    intro t0 ht0 σ hσ
    unfold zef
    rw [zi,zi]
    refine zbu hσ ?_
    simp (maxSteps:=2000000) only [zi,zm,zq,zf,zc,zb,zh,ze,za,zj,ev,look,zZ,zd,zS,zg,zk,zO,zP,GV.getT,GV.sz,GV.same,Value.oneCell',cond_true,Nat.reduceEqDiff,↓reduceIte,reduceCtorEq,List.nil_append,Bool.and_true,Bool.true_and,Bool.not_false,true_and,and_true,zax,zcT,zn,zF,zbn,zbj,zcn,zcd,zcy,zck,zcI,zcD,zdi,zdj,zcc,zbC,zgN,zbt,zaX,zgA,zaV,zaG]
    refine ⟨fun k3=> ?_,fun k3=> ?_⟩
    ·rw [beq_iff_eq]at k3
     have hal:(opX l op).attrs.length≤549755813888:=by
      unfold opX
      cases hgl:zez l op.node with
      |none=>simp
      |some x=>exact ha x ((zcj hL.sorted).1 hgl).1
     refine zaJ rfl rfl (Q:=fun rs m'=>∃v',rs=[.s v']∧SlO m' v' 75 2 ((ztt (opX l op).attrs op.key op.value).map zap)) (fun w' vs hvv _ _ hm=> ?_) fun rs ms _ hq hds=> ?_
     ·obtain ⟨vs,rfl,_,hvv⟩:=zt hvv
      obtain ⟨vs,rfl,_,hvv⟩:=zt hvv
      obtain ⟨vs,rfl,_,hvv⟩:=zt hvv
      obtain rfl:=zr hvv
      exact zAO w' t0.attrs (opX l op).attrs op.key op.value A (fun b o q=>hm b o (zao hd b o q)) ht0.2.2.2 (by omega)
     obtain ⟨v',rfl,hs'⟩:=hq
     simp (maxSteps:=2000000) only [zK,zf,zc,zb,ze,za,zj,ev,look,zZ,zd,zS,zg,zk,GV.getT,GV.sz,GV.same,Nat.reduceEqDiff,↓reduceIte,reduceCtorEq,List.nil_append,Bool.and_true,Bool.true_and,true_and,and_true,zn,zaV,zaG,zgp]
     obtain ⟨hds1,hds2⟩:=zA hds
     refine tail12 (uni ms A) {t0 with attrs:=v'} (zad (zG hds1) hd) (hR.up (zao hds2)) ?_ _ (zR (by simp [zaf,look]) (by simp [zam,look]) rfl rfl (by show uni m1 (uni ms A)=uni ms (uni m1 A);rw [zdr hds1]))
     unfold opN
     rw [if_pos k3]
     exact ⟨ht0.1,ht0.2.1,ht0.2.2.1,hs'.toR.up (zV _ _)⟩
    ·rw [beq_eq_false_iff_ne]at k3
     refine tail12 A {t0 with parent:=op.parent,name:=op.name} hd hR ?_ _ (zR (by simp [zaf,look]) (by simp [zam,look]) rfl rfl rfl)
     unfold opN
     rw [if_neg k3]
     exact ⟨ht0.1,rfl,rfl,ht0.2.2.2⟩
   unfold zeb
   rw [zi]
   refine zbu hσ ?_
   simp (maxSteps:=2000000) only [zi,zm,zf,zc,zb,zh,ze,za,zj,ev,evL,gvL,look,zZ,zd,zS,zg,zk,GV.getT,Nat.reduceEqDiff,↓reduceIte,reduceCtorEq,List.nil_append,Bool.and_true,Bool.true_and,Bool.not_false,true_and,and_true,List.map_cons,List.map_nil,Option.map_some,GV.bldT,GV.bldC,zcT,zn,zY,zF,zbo,zaW,zai,zbR,zaZ,zet,zbG]
   refine ⟨rfl, ?_⟩
   refine zaM _ [.s (.int .i64 (zaS l op.node)), .s (.bool (isL l op.node))] rfl rfl (fun w' vs hvv _ _ hm=> ?_) ?_
   ·obtain ⟨vs,rfl,_,hvv⟩:=zt hvv
    obtain ⟨vs,rfl,_,hvv⟩:=zt hvv
    obtain rfl:=zr hvv
    exact zhK w' A m1 (fun b o q=>hm b o (zV _ _ b o q)) b l _ hR op.node (by omega)
   simp (maxSteps:=2000000) only [zK,List.getElem?_cons_zero,List.getElem?_cons_succ,zu,zi,zm,zq,zf,zc,zb,zh,ze,za,zj,ev,look,zd,zg,zk,Nat.reduceEqDiff,↓reduceIte,reduceCtorEq,Nat.add_zero,zax]
   obtain ⟨b2,o2,c,ts,hlts,h0,hts,_,hs0,hsi⟩:=hR.look
   have hk1:∀{C:Ctx},KN C.u0 [uni m1 A] m1:=fun {C} j o q=> .inr ⟨uni m1 A,by simp,zV _ _ j o q⟩
   refine ⟨fun his=> ?_,fun hno=> ?_⟩
   ·rw [zlS]at his
    obtain ⟨x,hx⟩:=Option.isSome_iff_exists.1 his
    obtain ⟨hlt,hgd⟩:=zts hx
    have hxe:opX l op=x:=by unfold opX;rw [hx];rfl
    refine zJ _ (hs0 hk1) rfl ?_
    simp (maxSteps:=2000000) only [za,zj,ev,look,zd,Nat.reduceEqDiff,↓reduceIte,reduceCtorEq,Int.toNat_natCast]
    refine ⟨⟨by omega,by omega⟩,zJ _ (hsi hk1 _ hlt) (zaY _) ?_⟩
    simp (maxSteps:=2000000) only [zf,zc,zb,ze,za,zj,ev,look,zZ,zd,zS,zg,zk,Nat.reduceEqDiff,↓reduceIte,reduceCtorEq,Bool.and_true,Bool.true_and,true_and,and_true,zn,zY,zai,zbR]
    refine tail8 (ts.getD (zaS l op.node) zTreeNode) ?_ _ (zR (by simp [zaf,look]) (by simp [zam,look]) rfl rfl rfl)
    have:=hts.at (zaS l op.node) (by omega)
    rw [hgd]at this
    rw [hxe];exact this
   ·rw [zlS]at hno
    have hx:zez l op.node=none:=Option.isNone_iff_eq_none.1 (by rw [←Option.not_isSome,hno];rfl)
    refine tail8 ⟨op.node,0,⟨#[]⟩, .slice none 0 0⟩ ?_ _ (zR (by simp [zaf,look]) (by simp [zam,look];rfl) rfl rfl rfl)
    unfold opX
    rw [hx]
    exact ⟨rfl,rfl,rfl,SlR.nil _ _⟩
  obtain ⟨m1,A,rfl,hd,hR⟩:=h
  obtain ⟨nv,wv,e,mn,mw,mo,ts,vs,rfl,p⟩:=hR
  have hlts:=p.told.len
  have hvls:=p.olds.len
  obtain ⟨d1,d2,d3,hrows,htold,hne,hwas,holds⟩:=p
  generalize hc:one b (.cells #[nv,wv] e (0,0))=oc at*
  obtain ⟨d1n,d1r⟩:=zA d1
  obtain ⟨d1w,d1o⟩:=zA d1r
  obtain ⟨d2w,d2o⟩:=zA d2
  obtain ⟨dAc,dAr⟩:=zA (zG hd)
  obtain ⟨dAn,dAr⟩:=zA dAr
  obtain ⟨dAw,dAo⟩:=zA dAr
  have hoc:oc b=some (.cells #[nv,wv] e (0,0)):=by rw [←hc];exact zaE _ _
  have sc0:PH.sub oc (uni (uni oc (uni mn (uni mw mo))) A):=PH.sub_trans (zV _ _) (zV _ _)
  have nv1:nv.oneCell'=true:=by rcases hrows.2 with ⟨rfl,_⟩|⟨ad,c,rfl,_⟩<;>rfl
  have wv1:wv.oneCell'=true:=by rcases hwas.2 with ⟨rfl,_⟩|⟨ad,c,rfl,_⟩<;>rfl
  have seen:∀{C:Ctx} {m':PH},PH.sub oc m'→zce C [] m' b 0 (.s nv)∧zce C [] m' b 1 (.s wv):=fun {C m'} hs=>
   ⟨zaC (u:=oc) (fun j o h=> .inr ⟨m',by simp,hs j o h⟩) hoc rfl nv1,zaC (u:=oc) (fun j o h=> .inr ⟨m',by simp,hs j o h⟩) hoc rfl wv1⟩
  have hclone:∀w':World,(uni (uni oc (uni mn (uni mw mo))) A).le w'→Spec Tryz.prog zkC [nv] PH.no w' fun rs m'=>∃v mc ma ts',rs=[.s v]∧m'=uni mc ma∧dis mc ma∧SlO mc v 49 4 (ts'.map zl)∧TsOk ma ts' l:=fun w' hm=>by
   have s1:PH.sub mn w'.ph:=fun b o q=>hm b o (zV _ _ _ _ (zao d1 _ _ (zV _ _ b o q)))
   have s2:PH.sub A w'.ph:=fun b o q=>hm b o (zao hd b o q)
   exact zkW w' nv ts l w'.ph (fun _ _ h=>h) (hrows.toR.up s1) (htold.up s2) (by omega) fun t ht=>by have:=ha t ht;omega
  have out:∀(mc ma:PH),dis (uni mc ma) (uni (uni oc (uni mn (uni mw mo))) A)→uni (uni mc ma) (uni (uni oc (uni mn (uni mw mo))) A)=uni mw (uni (uni mc ma) (uni (uni oc (uni mn mo)) A))∧dis mw (uni (uni mc ma) (uni (uni oc (uni mn mo)) A)):=by
   intro mc ma hX
   obtain ⟨hX1,hXA⟩:=zA hX
   obtain ⟨hXc,hX2⟩:=zA hX1
   obtain ⟨hXn,hX3⟩:=zA hX2
   obtain ⟨hXw,hXo⟩:=zA hX3
   refine ⟨?_,zad (zG hXw) (zad (zad (zG d1w) (zad (zG d2w) d3)) (zG dAw))⟩
   rw [zdr d2w,zdr d1w,zbs mw,zdr hXw]
  have close:∀(mc ma u':PH) (v v':Value) (ts':List TreeNode),dis (uni mc ma) (uni (uni oc (uni mn (uni mw mo))) A)→dis mc ma→SlO mc v 49 4 (ts'.map zl)→TsOk ma ts' l→SlO u' v' 43 1 (vs.map GV.s++[.s v])→dis u' (uni (uni mc ma) (uni (uni oc (uni mn mo)) A))→
    (uni u' (uni (uni mc ma) (uni (uni oc (uni mn mo)) A))) b=some (.cells #[nv,wv] e (0,0))∧RC ((uni u' (uni (uni mc ma) (uni (uni oc (uni mn mo)) A))).upd b (.cells #[nv,v'] e (0,0))) b l (ls++[l]):=by
   intro mc ma u' v v' ts' hX hcm hs1 hs2 hs3 hU
   obtain ⟨hX1,hXA⟩:=zA hX
   obtain ⟨hXc,hX2⟩:=zA hX1
   obtain ⟨hXn,hX3⟩:=zA hX2
   obtain ⟨hXw,hXo⟩:=zA hX3
   obtain ⟨cc,ca⟩:=zA (zG hXc)
   obtain ⟨nc,na⟩:=zA (zG hXn)
   obtain ⟨oc',oa⟩:=zA (zG hXo)
   obtain ⟨Ac,Aa⟩:=zA (zG hXA)
   obtain ⟨hU1,hU2⟩:=zA hU
   obtain ⟨hUc,hUa⟩:=zA hU1
   obtain ⟨hU3,hUA⟩:=zA hU2
   obtain ⟨hUo,hU4⟩:=zA hU3
   obtain ⟨hUn,hUm⟩:=zA hU4
   have hub:u' b=none:=(hUo b).resolve_right (by rw [hoc];simp)
   have hxb:(uni mc ma) b=none:=(hXc b).resolve_right (by rw [hoc];simp)
   refine ⟨by simp only [uni]at hxb ⊢;rw [hub,Option.none_or,hxb,Option.none_or,hoc];rfl, ?_⟩
   rw [zdm hub,zdm hxb,zkb,zkb]
   have hoc2:oc.upd b (.cells #[nv,v'] e (0,0))=one b (.cells #[nv,v'] e (0,0)):=by rw [←hc,zzJ]
   rw [hoc2]
   have dn:∀{x:PH},dis oc x→dis (one b (.cells #[nv,v'] e (0,0))) x:=fun hx=>by rw [←hc]at hx;exact zel hx
   have v1:v.oneCell'=true:=by rcases hs1.2 with ⟨rfl,_⟩|⟨ad,c,rfl,_⟩<;>rfl
   have hsubA:PH.sub A (uni ma A):=zao (zG Aa)
   refine ⟨uni (one b (.cells #[nv,v'] e (0,0))) (uni mn (uni u' (uni mo mc))),uni ma A, ?_, ?_,nv,v',e,mn,u',uni mo mc,ts,vs++[v],rfl,⟨?_, ?_, ?_,hrows,htold.up hsubA,hne, ?_, ?_⟩⟩
   ·simp only [zbs]
    rw [zdr (zG (dn ca)),zdr (zG (dn cc)),zdr (zG (dn (zG hUo))),zdr (zG na),zdr (zG nc),zdr hUn,zdr (zG oa),zdr (zG oc')]
   ·refine zeW (zad (dn ca) (dn (zG dAc))) (zeW (zad na (zG dAn)) (zeW (zad hUa hUA) (zeW (zad oa (zG dAo)) (zad hcm (zG Ac)))))
   ·exact zad (dn d1n) (zad (dn (zG hUo)) (zad (dn d1o) (dn cc)))
   ·exact zad (zG hUn) (zad d2o nc)
   ·exact zad hUm hUc
   ·rw [List.map_append];exact hs3
   ·exact (holds.up hsubA).snoc v1 hs1 (hs2.up (zV _ _)) hne (zG oc')
  repeat' (first
   |(refine zJ _ (seen sc0).1 rfl ?_;simp (maxSteps:=2000000) only [zb,zh,ze,za,zbI,zeG,zj,ev,look,zd,Nat.reduceEqDiff,↓reduceIte])
   |(refine zJ _ (seen sc0).2 rfl ?_;simp (maxSteps:=2000000) only [zb,zh,ze,za,zbI,zj,ev,look,zd,Nat.reduceEqDiff,↓reduceIte])
   |(refine zJ _ (seen (PH.sub_trans sc0 (zao hdX))).2 rfl ?_;simp (maxSteps:=2000000) only [zb,zh,ze,za,zbI,zj,ev,evL,gvL,look,zZ,zd,zaF,GV.sz,Nat.reduceEqDiff,↓reduceIte,Nat.zero_add,Bool.and_true,Bool.true_and,true_and,and_true,Option.map_some,zcO,List.length_cons,List.length_nil,List.drop_zero,List.take_succ_cons,List.take_zero])
   |(refine zaJ rfl rfl (Q:=fun rs m'=>∃v mc ma ts',rs=[.s v]∧m'=uni mc ma∧dis mc ma∧SlO mc v 49 4 (ts'.map zl)∧TsOk ma ts' l) (fun w' vs hv hw _ hm=>by obtain ⟨vs,rfl,_,hv⟩:=zt hv;obtain rfl:=zr hv;exact hclone w' hm) fun rs mX _ hq hdX=> ?_;obtain ⟨v,mc,ma,ts',rfl,rfl,hcm,hs1,hs2⟩:=hq;simp (maxSteps:=2000000) only [zK,zb,zh,ze,za,zbI,zeG,zj,ev,evL,gvL,look,zZ,zd,zaF,GV.sz,Nat.reduceEqDiff,↓reduceIte,Nat.zero_add,Bool.and_true,Bool.true_and,true_and,and_true,Option.map_some,zcO,List.length_cons,List.length_nil,List.drop_zero,List.take_succ_cons,List.take_zero])
   |refine And.intro ?_ ?_)
  all_goals
   obtain ⟨o1,o2⟩:=out mc ma hdX
   refine znH rfl rfl mw (uni (uni mc ma) (uni (uni oc (uni mn mo)) A)) (vs.map GV.s) hwas o1 o2 (by simp only [List.length_map,List.length_cons,List.length_nil];omega) fun v' u' hv' hs' hd'=> ?_
   simp (maxSteps:=2000000) only [zb,zh,ze,za,zbI,zj,ev,look,zd,Nat.reduceEqDiff,↓reduceIte,Nat.zero_add]
   obtain ⟨c1,c2⟩:=close mc ma u' v v' ts' hdX hcm hs1 hs2 hs' hd'
   refine zgi rfl #[nv,wv] e ⟨c1,by simp⟩ ?_
   simp (maxSteps:=2000000) only [zf,zc,zb,ze,zdn,look,zS,zg,zk,Nat.reduceEqDiff,↓reduceIte,reduceCtorEq]
   exact tail4 _ c2 _ (zR (by simp [zaf,look]) (by simp [zam,look]) rfl rfl rfl)
end Go.Proofs.YtmjiojflncffeaaGreat.Vc

set_option linter.unusedVariables false
set_option linter.unusedSimpArgs false
namespace Go.Proofs.YtmjiojflncffeaaGreat.Vc
open Go
theorem zAN {l:List TN} {T:PT} {op:Op} {k:Nat} (hL:LOk l) (hv:zaw l=T.view) (hok:T.ok k) (hg:VGood T.view) (hm:zaL T op=true):LOk (doL l op)∧zaw (doL l op)=(T.does op).view:=by
 by_cases k1:op.kind=1
 ·obtain ⟨hn,_⟩:=zhy hm k1
  have hx:zez l op.node=none:=by
   have:zaw l op.node=none:=by rw [hv];exact PT.view_none.2 hn
   unfold zaw at this
   cases hg:zez l op.node with
   |none=>rfl
   |some x=>rw [hg]at this;cases this
  have hN:opN l op=⟨op.node,op.parent,op.name,[]⟩:=by unfold opN opX;rw [if_neg (by omega),hx];rfl
  obtain ⟨h1,h2⟩:=hL.put (a:=opN l op) (by rw [hN];rfl)
  refine ⟨h1, ?_⟩
  show zaw (zdU l (opN l op))=_
  rw [h2,hN,zed hm k1,hv]
  rfl
 ·obtain ⟨x,hx⟩:=zga hm k1
  have hvn:zaw l op.node=some x.view:=by rw [hv];exact PT.view_get hx
  obtain ⟨t,ht⟩:∃t,zez l op.node=some t:=by
   unfold zaw at hvn
   cases hg:zez l op.node with
   |none=>rw [hg]at hvn;cases hvn
   |some t=>exact ⟨t,rfl⟩
  obtain ⟨hm1,hm2⟩:=(zcj hL.sorted).1 ht
  have hta:=hL.attrs t hm1
  have hX:opX l op=t:=by unfold opX;rw [ht];rfl
  rw [zaw,ht]at hvn
  simp only [Option.map_some,Option.some.injEq,PN.view,AN.mk.injEq]at hvn
  obtain ⟨q1,q2,q3⟩:=hvn
  by_cases k2:op.kind=2
  ·have hN:opN l op={t with parent:=op.parent,name:=op.name}:=by unfold opN;rw [if_neg (by omega),hX]
   obtain ⟨h1,h2⟩:=hL.put (a:=opN l op) (by rw [hN];exact hta)
   refine ⟨h1, ?_⟩
   show zaw (zdU l (opN l op))=_
   rw [h2,hN,zen hx k2,hv]
   simp only
   rw [hm2,q3]
  ·have k3:op.kind=3:=by
    rw [zaL,if_neg k1,if_neg k2]at hm
    split at hm
    ·assumption
    ·cases hm
   have hp:zcl op.key op.value=true:=by
    rw [zaL,if_neg k1,if_neg k2,if_pos k3]at hm
    simp only [Bool.and_eq_true]at hm;exact hm.2
   have hkey:(⟨#[]⟩:ByteArray).data.toList<op.key.data.toList:=by
    have:op.key≠⟨#[]⟩:=fun e=>by rw [e]at hp;simp [zcl]at hp
    cases hk:op.key.data.toList with
    |nil=>exact absurd (ByteArray.ext (Array.toList_inj.1 hk)) this
    |cons a l=>simp
   have hN:opN l op={t with attrs:=ztt t.attrs op.key op.value}:=by unfold opN;rw [if_pos k3,hX]
   have hok':=zBR hp _ _ hta hkey
   obtain ⟨h1,h2⟩:=hL.put (a:=opN l op) (by rw [hN];exact hok')
   refine ⟨h1, ?_⟩
   show zaw (zdU l (opN l op))=_
   rw [h2,hN,zec hx (hok.attrs _ _ hx).1 k1 k2,hv]
   simp only
   rw [hm2,q1,q2]
   congr 3
   funext j
   rw [ztt,zyx _ _ hta j,q3]
def okR:Int→List TN→Bool
 |_,[]=>true
 |last,r::l=>zlm last r&&zas ⟨#[]⟩ r.attrs&&okR r.node l
theorem zmS:∀{l:List TN} {T:PT} {last:Int},(∃T',zeJ T last l=some T')↔okR last l=true
 |[],T,last=>⟨fun _=>rfl,fun _=>⟨T,rfl⟩⟩
 |r::l,T,last=>by
  rw [zeJ,okR]
  cases hb:zlm last r&&zas ⟨#[]⟩ r.attrs with
  |false=>simp
  |true=>rw [if_pos rfl,Bool.true_and];exact zmS
theorem zkk {l:List TN}:zeD l↔okR 0 l=true∧∀n,zdw l n≠none→∃k,LeadsN (zdw l) k n:=by
 unfold zeD
 constructor
 ·rintro ⟨T,h1,h2⟩
  have hv:=(zfi h1).view
  refine ⟨zmS.1 ⟨T,h1⟩, ?_⟩
  rw [←hv];exact h2
 ·rintro ⟨h1,h2⟩
  obtain ⟨T,hT⟩:=zmS (T:=T0).2 h1
  refine ⟨T,hT, ?_⟩
  have hv:=(zfi hT).view
  unfold PT.led
  rw [hv];exact h2
theorem zuM:∀{l:List TN} {last:Int},okR last l=true→l.Pairwise (fun a b=>a.node<b.node)∧∀r∈l,last<r.node∧zas ⟨#[]⟩ r.attrs=true
 |[],_,_=>⟨List.Pairwise.nil,by simp⟩
 |r::l,last,h=>by
  rw [okR,Bool.and_eq_true,Bool.and_eq_true]at h
  obtain ⟨⟨h1,h2⟩,h3⟩:=h
  have hl:=zhv h1
  obtain ⟨i1,i2⟩:=zuM h3
  refine ⟨List.pairwise_cons.2 ⟨fun q hq=>(i2 q hq).1,i1⟩,fun q hq=> ?_⟩
  rcases List.mem_cons.1 hq with rfl|hq
  ·exact ⟨hl,h2⟩
  ·obtain ⟨j1,j2⟩:=i2 q hq
   exact ⟨by omega,j2⟩
def rowV (r:TN):AN:=⟨r.parent,r.name,zca r.attrs⟩
def zdK (l:List TN):List TN:=l.foldl zdU T0L
def zrT (v:Int→Option AN):List TN→Int→Option AN
 |[]=>v
 |r::l=>zrT (zcN v r.node (some (rowV r))) l
theorem zlp:∀{l:List TN} {v:Int→Option AN} {n:Int},(∀r∈l,r.node≠n)→zrT v l n=v n
 |[],_,_,_=>rfl
 |r::l,v,n,h=>by
  rw [zrT,zlp fun q hq=>h q (by simp [hq]),zik (fun e=>h r (by simp) e.symm)]
theorem zvC:∀{l:List TN} {v:Int→Option AN} {r:TN},l.Pairwise (fun a b=>a.node<b.node)→r∈l→zrT v l r.node=some (rowV r)
 |[],_,_,_,h=>by simp at h
 |q::l,v,r,h,hr=>by
  rw [List.pairwise_cons]at h
  rw [zrT]
  rcases List.mem_cons.1 hr with rfl|hr
  ·rw [zlp fun x hx=>by have:=h.1 x hx;omega,zkp]
  ·exact zvC h.2 hr
theorem zCy:LOk T0L:=⟨by simp [T0L],fun t ht=>by simp [T0L]at ht;rcases ht with rfl|rfl<;>rfl⟩
theorem zAv:zaw T0L=T0.view:=by
 funext n
 unfold zaw T0L
 rw [znn,znn]
 have hnil:zez [] n=none:=by simp [zez,isL]
 rw [hnil]
 simp only
 by_cases h1:n=1
 ·subst h1;rfl
 ·by_cases h2:n=2
  ·subst h2;rfl
  ·have h0:T0.view n=none:=by
    rw [PT.view_none]
    show zcv _ _=none
    simp [T0,zcv,Ne.symm h1,Ne.symm h2]
   rw [h0]
   by_cases q1:(1:Int)<n
   ·rw [if_pos q1]
    by_cases q2:(2:Int)<n
    ·rw [if_pos q2];rfl
    ·rw [if_neg q2,if_neg (Ne.symm h2)];rfl
   ·rw [if_neg q1,if_neg (Ne.symm h1)];rfl
theorem zAf (l:List TN) (a:TN):(zdU l a).length≤l.length+1:=by
 unfold zdU
 split
 ·simp
 ·have:=zlC l a.node
  simp only [List.length_append,List.length_take,List.length_cons,List.length_drop];omega
theorem zru:∀{l b:List TN},LOk b→(∀r∈l,zas ⟨#[]⟩ r.attrs=true)→LOk (l.foldl zdU b)∧zaw (l.foldl zdU b)=zrT (zaw b) l
 |[],b,h,_=>⟨h,rfl⟩
 |r::l,b,h,ha=>by
  obtain ⟨h1,h2⟩:=h.put (a:=r) (ha r (by simp))
  obtain ⟨i1,i2⟩:=zru (l:=l) h1 fun q hq=>ha q (by simp [hq])
  exact ⟨i1,by rw [List.foldl_cons,i2,h2];rfl⟩
theorem zkY {l:List TN} (h:okR 0 l=true):LOk (zdK l)∧zaw (zdK l)=zdw l:=by
 obtain ⟨h1,h2⟩:=zuM h
 obtain ⟨i1,i2⟩:=zru (l:=l) zCy fun r hr=>(h2 r hr).2
 refine ⟨i1, ?_⟩
 show zaw (l.foldl zdU T0L)=_
 rw [i2,zAv]
 funext n
 by_cases hn:∃r∈l,r.node=n
 ·obtain ⟨r,hr,rfl⟩:=hn
  rw [zvC h1 hr,zdw,znh h1 hr]
  simp only [Option.map_some,Option.some.injEq,rowV,zsL,PN.view,AN.mk.injEq,true_and]
  funext j
  rw [zsi (h2 r hr).2]
 ·have hn':∀r∈l,r.node≠n:=fun r hr e=>hn ⟨r,hr,e⟩
  rw [zlp hn',zdw,zeq hn']
  rfl
theorem LeadsN.fewL {l:List TN} (hL:LOk l) {k:Nat} {n:Int} (h:LeadsN (zaw l) k n):k≤l.length:=by
 obtain ⟨ns,e1,e2,e3,_⟩:=h.way
 have:=zdk (b:=l.map (·.node)) e2 fun m hm=>by
  have:=e3 m hm
  unfold zaw at this
  cases hg:zez l m with
  |none=>rw [hg]at this;simp at this
  |some t=>
   obtain ⟨q1,q2⟩:=(zcj hL.sorted).1 hg
   exact List.mem_map.2 ⟨t,q1,q2⟩
 simpa [e1]using this
end Go.Proofs.YtmjiojflncffeaaGreat.Vc

set_option linter.unusedVariables false
set_option linter.unusedSimpArgs false
set_option maxRecDepth 100000
namespace Go.Proofs.YtmjiojflncffeaaGreat.Vc
open Go Go.Proofs
theorem zqA (w:World) (va:Value) (ts:List TreeNode) (l:List TN) (u:PH) (hu:u.le w) (ha:SlR u va 4 (ts.map zl)) (hts:TsOk u ts l) (hn:l.length≤549755813888) (hat:∀r∈l,r.attrs.length≤549755813888)
  (hsz:∀r∈l,∀a∈r.attrs,a.key.size≤140737488355328∧a.value.size≤140737488355328) (hnm:∀r∈l,r.name.size≤140737488355328):
  Spec Tryz.prog zsC [va] PH.no w fun rs m'=>(zeD l→∃b,rs=[.s (ptr b), .s (.bool true)]∧RC m' b (zdK l) [])∧(¬zeD l→rs=[.s (.pointer none), .s (.bool false)]):=by
 refine zbb zsA [.ro va 4 (zl zTreeNode) (ts.map zl)] (by simp) (by simpa [AV.ok,zbr]using ha.up hu.sub) ?_
 have hlts:=hts.len
 simp (maxSteps:=2000000) only [zmq,zi,zm,zf,zc,zb,zh,ze,za,zj,ev,look,zd,zg,zk,Value.oneCell',cond_true,↓reduceIte,reduceCtorEq,zak,zaK,List.length_map,ptr,List.length_map]
 refine zaJ rfl rfl (Q:=fun rs m'=>∃b,rs=[.s (ptr b)]∧RM u m' b T0L []) (fun w' vs hv hw _ _=> ?_) fun rs m1 _ hq _=> ?_
 ·obtain rfl:=zr hv
  exact zza w' u
 obtain ⟨b,rfl,hR0⟩:=hq
 simp (maxSteps:=2000000) only [zK,zaz,zi,zB,zm,zf,zc,zb,zh,ze,za,zj,ev,look,zd,zg,zk,Value.oneCell',cond_true,Nat.reduceEqDiff,↓reduceIte,reduceCtorEq,ptr]
 refine zaP (ι:=Nat×PH) (fun q=>⟨[(0, .row 0 0 (ts.length)),(4, .g (.s (.pointer (some ⟨b,0,none⟩)))),(5, .g (.s (.int .i64 (q.1))))],[(0, .ro 4 (zl zTreeNode) (ts.map zl))],[],q.2⟩)
  (fun q=>q.1≤ts.length∧RM u q.2 b (zdK (l.take q.1)) []∧okR 0 l=okR (if q.1=0 then 0 else (l.getD (q.1 - 1) zTN).node) (l.drop q.1)∧(0<q.1→0<(l.getD (q.1 - 1) zTN).node)∧(zdK (l.take q.1)).length≤q.1+2) (fun q=>ts.length - q.1) (0,m1) ⟨by simp,hR0,rfl,fun h=>absurd h (by simp),by simp [zdK,T0L]⟩ (zR ?_ ?_ rfl rfl rfl) ?_
 ·simp [zaf,look]
 ·simp [zam,look]
 rintro ⟨i,mA⟩ ⟨hi,hR,hok,hpos,hlen⟩
 simp only at hi hR hok hpos hlen
 generalize hQ:loopQ _ _ _ _ _=Q
 simp (maxSteps:=2000000) only [ziN,zu,zx,zau,zi,zB,zm,zbh,zq,zf,zp,zay,zy,zc,zb,zh,zH,ze,za,zM,zaq,zcA,zU,zw,zX,zj,zaD,RO.isGh,zI,zar,ev,look,zZ,zd,zS,zg,zk,zaF,zdh,zO,zP,GV.getT,Value.oneCell',cond_true,cond_false,Nat.reduceEqDiff,↓reduceIte,reduceCtorEq,List.nil_append,Nat.zero_add,Bool.and_true,Bool.true_and,Bool.not_true,Bool.not_false,true_and,and_true,Int.toNat_natCast,decide_eq_true_eq,decide_eq_false_iff_not,↓zL,↓zbi,↓zbW,↓zN,zax,zdE,zn,zY,zF,zai,zaY,zbR,zbQ,zaZ,zaV,zaG,zbG,zdt]
 refine ⟨fun hlt=>⟨⟨by omega,by omega⟩, ?_⟩,fun hge=> ?_⟩
 ·obtain ⟨t,ht⟩:∃t,ts.getD i zTreeNode=t:=⟨_,rfl⟩
  obtain ⟨r,hr⟩:∃r,l.getD i zTN=r:=⟨_,rfl⟩
  have hrm:r∈l:=by rw [←hr,List.getD_eq_getElem?_getD,List.getElem?_eq_getElem (by omega)];exact List.getElem_mem _
  obtain ⟨e1,e2,e3,hsl⟩:=hts.at i (by omega)
  rw [ht,hr]at e1 e2 e3 hsl
  have hdrop:l.drop i=r::l.drop (i+1):=by
   rw [←hr,List.getD_eq_getElem?_getD,List.getElem?_eq_getElem (by omega)]
   exact List.drop_eq_getElem_cons (by omega)
  have htake:l.take (i+1)=l.take i++[r]:=by
   rw [List.take_add_one,←hr,List.getD_eq_getElem?_getD,List.getElem?_eq_getElem (by omega)];rfl
  rw [hdrop,okR]at hok
  rw [ht]
  obtain ⟨last,hla⟩:∃last,last=(if i=0 then 0 else (l.getD (i - 1) zTN).node):=⟨_,rfl⟩
  rw [←hla]at hok
  have nofrom:(zlm last r&&zas ⟨#[]⟩ r.attrs)=false→¬zeD l:=fun hb h=>by
   have:=(zkk.1 h).1
   rw [hok,hb]at this;cases this
  have hra:zlm last r=(!decide (t.node≤last)&&(zbc t.node==(decide (t.parent=0)&&decide (t.name=⟨#[]⟩)))&&(zbc t.node||zcW t.name)):=by rw [e1,e2,e3];rfl
  have hnb:t.name.size≤140737488355328:=by rw [e3];exact hnm r hrm
  have hal:=hat r hrm
  have good:zlm last r=true→zas ⟨#[]⟩ r.attrs=true→∀σ:SS,Ge σ ⟨[(0, .row 0 0 (ts.length)),(4, .g (.s (.pointer (some ⟨b,0,none⟩)))),(5, .g (.s (.int .i64 (i)))),(6, .ref 6 [])],[(0, .ro 4 (zl zTreeNode) (ts.map zl)),(6, .box (zl t))],[],mA⟩→
    vc ⟨Tryz.prog,141,w,PH.no⟩ zfC (blockQ 1 (thenQ (vc ⟨Tryz.prog,141,w,PH.no⟩ (.rg [⟨none,[(some 18, .mv (.t 5)),(some 19, .bin .add (.t 18) (.c (.int .i64 1))),(some 5, .mv (.t 19))]⟩] [0,4,5]) Q) Q)) σ:=by
   intro h1 h2 σ hσ
   unfold zfC
   refine zbu hσ ?_
   simp (maxSteps:=2000000) only [zm,zh,za,zj,ev,look,zd,Nat.reduceEqDiff,↓reduceIte,reduceCtorEq,Bool.true_and,true_and,zn,zaY]
   refine zgL (Q:=fun rs m'=>rs=[]∧RM u m' b (zdU (zdK (l.take i)) r) []) rfl rfl (fun w' vs hvv _ _=> ?_) fun rs m4 _ hq=> ?_
   ·obtain ⟨vs,rfl,_,hvv⟩:=zt hvv
    obtain ⟨vs,rfl,_,hvv⟩:=zt hvv
    obtain rfl:=zr hvv
    exact zrp w' u mA b _ _ hR t r ⟨e1,e2,e3,hsl⟩ (by omega)
   obtain ⟨rfl,h4⟩:=hq
   simp (maxSteps:=2000000) only [zK,zm,zf,zT,zc,zb,zh,ze,za,zj,ev,look,zd,zg,zk,zO,zP,Value.oneCell',cond_true,Nat.reduceEqDiff,↓reduceIte,reduceCtorEq,Bool.true_and,true_and]
   have hrl:zdK (l.take (i+1))=zdU (zdK (l.take i)) r:=by rw [htake,zdK,zdK,List.foldl_append];rfl
   subst hQ;simp only [zaB];refine ⟨(i+1,m4), ?_, ?_,zR ?_ ?_ rfl rfl rfl⟩
   ·refine ⟨by simp only;omega, ?_, ?_,fun _=> ?_, ?_⟩
    ·simp only;rw [hrl];exact h4
    ·simp only
     rw [hok,h1,h2,if_neg (by omega),Nat.add_sub_cancel,hr];rfl
    ·simp only
     rw [Nat.add_sub_cancel,hr]
     have:=zhv h1
     rw [hla]at this
     split at this
     ·exact this
     ·have:=hpos (by omega);omega
    ·simp only
     rw [hrl]
     have:=zAf (zdK (l.take i)) r
     omega
   ·simp only;omega
   ·simp only [zaf,look,Nat.reduceEqDiff,↓reduceIte,reduceCtorEq,Bool.and_true,Bool.true_and,true_and,and_true]
    rw [zaN (by omega)]
    try simp
   ·simp [zam,look]
  have hprev:0<i→(ts.getD (IntKind.i64.wrap ((i:Int) - 1)).toNat zTreeNode).node=(l.getD (i - 1) zTN).node:=fun h=>by
   rw [show (IntKind.i64.wrap ((i:Int) - 1)).toNat=i - 1 by rw [zeA (by omega) (by omega)];omega]
   exact (hts.at (i - 1) (by omega)).1
  have la1:t.node<1→decide (t.node≤last)=true:=fun h=>by
   rw [hla]
   split
   ·exact decide_eq_true (by omega)
   ·have:=hpos (by omega);exact decide_eq_true (by omega)
  have la2:0<i→t.node≤(ts.getD (IntKind.i64.wrap ((i:Int) - 1)).toNat zTreeNode).node→decide (t.node≤last)=true:=fun h h'=>by
   rw [hprev h]at h'
   rw [hla,if_neg (by omega)];exact decide_eq_true h'
  have la3:¬t.node<1→0<i→¬t.node≤(ts.getD (IntKind.i64.wrap ((i:Int) - 1)).toNat zTreeNode).node→decide (t.node≤last)=false:=fun _ h h'=>by
   rw [hprev h]at h'
   rw [hla,if_neg (by omega)];exact decide_eq_false h'
  have la4:¬t.node<1→¬0<i→decide (t.node≤last)=false:=fun h h'=>by
   rw [hla,if_pos (by omega)];exact decide_eq_false (by omega)
  have hwr:0<i→0≤IntKind.i64.wrap ((i:Int) - 1)∧IntKind.i64.wrap ((i:Int) - 1)<(ts.length:Int):=fun h=>by
   rw [zeA (by omega) (by omega)];omega
  have hattrs:∀w':World,(⟨Tryz.prog,141,w,PH.no⟩:Ctx).u0.le w'→Spec Tryz.prog zkQ [t.attrs] PH.no w' fun rs _=>rs=[.s (.bool (zas ⟨#[]⟩ r.attrs))]:=fun w' hw=>
   zvv w' t.attrs r.attrs u (fun b o h=>hw b o (by rw [zbr];exact hu b o h)) hsl (by omega) (hsz r hrm)
  have h12:zbc t.node=(t.node==1||t.node==2):=rfl
  have hname:FnV Tryz.prog ziw [.s (.string t.name)] [.s (.bool (zcW t.name))]:=zof t.name.data.toList (by simpa using hnb)
  have hne:zcW t.name=true→decide (t.name=⟨#[]⟩)=false:=fun h=>decide_eq_false fun e=>by rw [e]at h;exact absurd h (by decide)
  cases hp1:t.node==1
  all_goals rw [hp1]at h12
  ·simp (maxSteps:=2000000) only [Bool.and_true,and_true,true_imp_iff,false_imp_iff,Bool.false_eq_true]
   refine ⟨fun p2=>⟨fun p3=>⟨hwr (by omega),fun p4=> ?_,fun p4=> ?_⟩,fun p3=> ?_⟩,fun p2=> ?_⟩
   ·rw [la3 p2 (by omega) p4]at hra
    refine zdc _ [.s (.bool (zas ⟨#[]⟩ r.attrs))] rfl rfl (fun w' vs hvv hw=>by obtain ⟨vs,rfl,_,hvv⟩:=zt hvv;obtain rfl:=zr hvv;intro _;exact hattrs w' hw) ?_
    cases hA:zas ⟨#[]⟩ r.attrs
    ·simp (maxSteps:=2000000) only [zK,zx,zi,zm,zq,zf,zp,zy,zc,zb,zh,zH,ze,za,zj,RO.isGh,zI,zar,ev,look,zd,zg,zk,unV,Value.oneCell',cond_true,cond_false,Nat.reduceEqDiff,↓reduceIte,reduceCtorEq,Bool.not_false,↓zL,↓zbW,↓zN]
     subst hQ
     simp (maxSteps:=2000000) only [zp,zy,zah,zab]
     exact zcB rfl ⟨fun h=>absurd h (nofrom (by rw [hA,Bool.and_false])),fun _=>rfl⟩
    ·cases hp2:t.node==2
     ·rw [hp2]at h12
      simp (maxSteps:=2000000) only [zK,zh,zH,ze,za,zj,RO.isGh,zI,zar,ev,look,zd,unV,GV.getT,Value.oneCell',cond_true,cond_false,Nat.reduceEqDiff,↓reduceIte,reduceCtorEq,List.nil_append,Bool.true_and,Bool.not_true,Bool.not_false,true_and,↓zL,↓zbi,↓zN,zn,zF,zbt,zaX]
      have hT:zbc t.node=false:=h12
      refine zac hname rfl rfl rfl fun _=> ?_
      simp (maxSteps:=2000000) only [zK,zu,zx,zi,zm,zq,zf,zp,zy,zc,zb,zh,zH,ze,za,zj,ev,look,zd,zg,zk,unV,Value.oneCell',cond_true,Nat.reduceEqDiff,↓reduceIte,reduceCtorEq,↓zL,↓zbi,↓zN,zax]
      refine ⟨fun q1=> ?_,fun q1=>good ?_ hA _ (zR (by simp [zaf,look]) (by simp [zam,look]) rfl rfl rfl)⟩
      ·subst hQ
       simp (maxSteps:=2000000) only [zp,zy,zah,zab]
       exact zcB rfl ⟨fun h=>absurd h (nofrom (by rw [hra,hT,show zcW t.name=false by simpa using q1];simp)),fun _=>rfl⟩
      ·have q2:zcW t.name=true:=by simpa using q1
       rw [hra,hT,q2,hne q2];simp
     ·rw [hp2]at h12
      simp (maxSteps:=2000000) only [zK,zu,zx,zi,zm,zq,zf,zp,zy,zc,zb,zh,zH,ze,za,zj,RO.isGh,zI,zar,ev,look,zd,zg,zk,zO,zP,unV,GV.getT,Value.oneCell',cond_true,cond_false,Nat.reduceEqDiff,↓reduceIte,reduceCtorEq,List.nil_append,Bool.true_and,Bool.not_true,Bool.not_false,true_and,↓zL,↓zbi,↓zbW,↓zN,zdE,zn,zF,zcc,zbC,zbt,zaX]
      have hT:zbc t.node=true:=h12
      refine ⟨fun q1=>⟨fun q2=>good ?_ hA _ (zR (by simp [zaf,look]) (by simp [zam,look]) rfl rfl rfl),fun q2=> ?_⟩,fun q1=> ?_⟩
      ·rw [hra,hT,decide_eq_true (show t.parent=0 by simpa using q1),show decide (t.name=⟨#[]⟩)=true by simpa using q2];rfl
      ·subst hQ
       simp (maxSteps:=2000000) only [zp,zy,zah,zab]
       exact zcB rfl ⟨fun h=>absurd h (nofrom (by rw [hra,hT,show decide (t.name=⟨#[]⟩)=false by simpa using q2];simp)),fun _=>rfl⟩
      ·subst hQ
       simp (maxSteps:=2000000) only [zp,zy,zah,zab]
       exact zcB rfl ⟨fun h=>absurd h (nofrom (by rw [hra,hT,decide_eq_false (show ¬t.parent=0 by simpa using q1)];simp)),fun _=>rfl⟩
   ·rw [la2 (by omega) p4]at hra
    subst hQ
    simp (maxSteps:=2000000) only [zp,zy,zah,zab]
    exact zcB rfl ⟨fun h=>absurd h (nofrom (by rw [hra];rfl)),fun _=>rfl⟩
   ·rw [la4 p2 (by omega)]at hra
    refine zdc _ [.s (.bool (zas ⟨#[]⟩ r.attrs))] rfl rfl (fun w' vs hvv hw=>by obtain ⟨vs,rfl,_,hvv⟩:=zt hvv;obtain rfl:=zr hvv;intro _;exact hattrs w' hw) ?_
    cases hA:zas ⟨#[]⟩ r.attrs
    ·simp (maxSteps:=2000000) only [zK,zx,zi,zm,zq,zf,zp,zy,zc,zb,zh,zH,ze,za,zj,RO.isGh,zI,zar,ev,look,zd,zg,zk,unV,Value.oneCell',cond_true,cond_false,Nat.reduceEqDiff,↓reduceIte,reduceCtorEq,Bool.not_false,↓zL,↓zbW,↓zN]
     subst hQ
     simp (maxSteps:=2000000) only [zp,zy,zah,zab]
     exact zcB rfl ⟨fun h=>absurd h (nofrom (by rw [hA,Bool.and_false])),fun _=>rfl⟩
    ·cases hp2:t.node==2
     ·rw [hp2]at h12
      simp (maxSteps:=2000000) only [zK,zh,zH,ze,za,zj,RO.isGh,zI,zar,ev,look,zd,unV,GV.getT,Value.oneCell',cond_true,cond_false,Nat.reduceEqDiff,↓reduceIte,reduceCtorEq,List.nil_append,Bool.true_and,Bool.not_true,Bool.not_false,true_and,↓zL,↓zbi,↓zN,zn,zF,zbt,zaX]
      have hT:zbc t.node=false:=h12
      refine zac hname rfl rfl rfl fun _=> ?_
      simp (maxSteps:=2000000) only [zK,zu,zx,zi,zm,zq,zf,zp,zy,zc,zb,zh,zH,ze,za,zj,ev,look,zd,zg,zk,unV,Value.oneCell',cond_true,Nat.reduceEqDiff,↓reduceIte,reduceCtorEq,↓zL,↓zbi,↓zN,zax]
      refine ⟨fun q1=> ?_,fun q1=>good ?_ hA _ (zR (by simp [zaf,look]) (by simp [zam,look]) rfl rfl rfl)⟩
      ·subst hQ
       simp (maxSteps:=2000000) only [zp,zy,zah,zab]
       exact zcB rfl ⟨fun h=>absurd h (nofrom (by rw [hra,hT,show zcW t.name=false by simpa using q1];simp)),fun _=>rfl⟩
      ·have q2:zcW t.name=true:=by simpa using q1
       rw [hra,hT,q2,hne q2];simp
     ·rw [hp2]at h12
      simp (maxSteps:=2000000) only [zK,zu,zx,zi,zm,zq,zf,zp,zy,zc,zb,zh,zH,ze,za,zj,RO.isGh,zI,zar,ev,look,zd,zg,zk,zO,zP,unV,GV.getT,Value.oneCell',cond_true,cond_false,Nat.reduceEqDiff,↓reduceIte,reduceCtorEq,List.nil_append,Bool.true_and,Bool.not_true,Bool.not_false,true_and,↓zL,↓zbi,↓zbW,↓zN,zdE,zn,zF,zcc,zbC,zbt,zaX]
      have hT:zbc t.node=true:=h12
      refine ⟨fun q1=>⟨fun q2=>good ?_ hA _ (zR (by simp [zaf,look]) (by simp [zam,look]) rfl rfl rfl),fun q2=> ?_⟩,fun q1=> ?_⟩
      ·rw [hra,hT,decide_eq_true (show t.parent=0 by simpa using q1),show decide (t.name=⟨#[]⟩)=true by simpa using q2];rfl
      ·subst hQ
       simp (maxSteps:=2000000) only [zp,zy,zah,zab]
       exact zcB rfl ⟨fun h=>absurd h (nofrom (by rw [hra,hT,show decide (t.name=⟨#[]⟩)=false by simpa using q2];simp)),fun _=>rfl⟩
      ·subst hQ
       simp (maxSteps:=2000000) only [zp,zy,zah,zab]
       exact zcB rfl ⟨fun h=>absurd h (nofrom (by rw [hra,hT,decide_eq_false (show ¬t.parent=0 by simpa using q1)];simp)),fun _=>rfl⟩
   ·rw [la1 p2]at hra
    subst hQ
    simp (maxSteps:=2000000) only [zp,zy,zah,zab]
    exact zcB rfl ⟨fun h=>absurd h (nofrom (by rw [hra];rfl)),fun _=>rfl⟩
  ·simp (maxSteps:=2000000) only [Bool.true_and,true_and,true_imp_iff,false_imp_iff,Bool.true_eq_false]
   refine ⟨fun p2=>⟨fun p3=>⟨hwr (by omega),fun p4=> ?_,fun p4=> ?_⟩,fun p3=> ?_⟩,fun p2=> ?_⟩
   ·rw [la3 p2 (by omega) p4]at hra
    refine zdc _ [.s (.bool (zas ⟨#[]⟩ r.attrs))] rfl rfl (fun w' vs hvv hw=>by obtain ⟨vs,rfl,_,hvv⟩:=zt hvv;obtain rfl:=zr hvv;intro _;exact hattrs w' hw) ?_
    cases hA:zas ⟨#[]⟩ r.attrs
    ·simp (maxSteps:=2000000) only [zK,zx,zi,zm,zq,zf,zp,zy,zc,zb,zh,zH,ze,za,zj,RO.isGh,zI,zar,ev,look,zd,zg,zk,unV,Value.oneCell',cond_true,cond_false,Nat.reduceEqDiff,↓reduceIte,reduceCtorEq,Bool.not_false,↓zL,↓zbW,↓zN]
     subst hQ
     simp (maxSteps:=2000000) only [zp,zy,zah,zab]
     exact zcB rfl ⟨fun h=>absurd h (nofrom (by rw [hA,Bool.and_false])),fun _=>rfl⟩
    ·simp (maxSteps:=2000000) only [zK,zu,zx,zi,zm,zq,zf,zp,zy,zc,zb,zh,zH,ze,za,zj,RO.isGh,zI,zar,ev,look,zd,zg,zk,zO,zP,unV,GV.getT,Value.oneCell',cond_true,cond_false,Nat.reduceEqDiff,↓reduceIte,reduceCtorEq,List.nil_append,Bool.true_and,Bool.not_true,Bool.not_false,true_and,↓zL,↓zbi,↓zbW,↓zN,zdE,zn,zF,zcc,zbC,zbt,zaX]
     have hT:zbc t.node=true:=h12
     refine ⟨fun q1=>⟨fun q2=>good ?_ hA _ (zR (by simp [zaf,look]) (by simp [zam,look]) rfl rfl rfl),fun q2=> ?_⟩,fun q1=> ?_⟩
     ·rw [hra,hT,decide_eq_true (show t.parent=0 by simpa using q1),show decide (t.name=⟨#[]⟩)=true by simpa using q2];rfl
     ·subst hQ
      simp (maxSteps:=2000000) only [zp,zy,zah,zab]
      exact zcB rfl ⟨fun h=>absurd h (nofrom (by rw [hra,hT,show decide (t.name=⟨#[]⟩)=false by simpa using q2];simp)),fun _=>rfl⟩
     ·subst hQ
      simp (maxSteps:=2000000) only [zp,zy,zah,zab]
      exact zcB rfl ⟨fun h=>absurd h (nofrom (by rw [hra,hT,decide_eq_false (show ¬t.parent=0 by simpa using q1)];simp)),fun _=>rfl⟩
   ·rw [la2 (by omega) p4]at hra
    subst hQ
    simp (maxSteps:=2000000) only [zp,zy,zah,zab]
    exact zcB rfl ⟨fun h=>absurd h (nofrom (by rw [hra];rfl)),fun _=>rfl⟩
   ·rw [la4 p2 (by omega)]at hra
    refine zdc _ [.s (.bool (zas ⟨#[]⟩ r.attrs))] rfl rfl (fun w' vs hvv hw=>by obtain ⟨vs,rfl,_,hvv⟩:=zt hvv;obtain rfl:=zr hvv;intro _;exact hattrs w' hw) ?_
    cases hA:zas ⟨#[]⟩ r.attrs
    ·simp (maxSteps:=2000000) only [zK,zx,zi,zm,zq,zf,zp,zy,zc,zb,zh,zH,ze,za,zj,RO.isGh,zI,zar,ev,look,zd,zg,zk,unV,Value.oneCell',cond_true,cond_false,Nat.reduceEqDiff,↓reduceIte,reduceCtorEq,Bool.not_false,↓zL,↓zbW,↓zN]
     subst hQ
     simp (maxSteps:=2000000) only [zp,zy,zah,zab]
     exact zcB rfl ⟨fun h=>absurd h (nofrom (by rw [hA,Bool.and_false])),fun _=>rfl⟩
    ·simp (maxSteps:=2000000) only [zK,zu,zx,zi,zm,zq,zf,zp,zy,zc,zb,zh,zH,ze,za,zj,RO.isGh,zI,zar,ev,look,zd,zg,zk,zO,zP,unV,GV.getT,Value.oneCell',cond_true,cond_false,Nat.reduceEqDiff,↓reduceIte,reduceCtorEq,List.nil_append,Bool.true_and,Bool.not_true,Bool.not_false,true_and,↓zL,↓zbi,↓zbW,↓zN,zdE,zn,zF,zcc,zbC,zbt,zaX]
     have hT:zbc t.node=true:=h12
     refine ⟨fun q1=>⟨fun q2=>good ?_ hA _ (zR (by simp [zaf,look]) (by simp [zam,look]) rfl rfl rfl),fun q2=> ?_⟩,fun q1=> ?_⟩
     ·rw [hra,hT,decide_eq_true (show t.parent=0 by simpa using q1),show decide (t.name=⟨#[]⟩)=true by simpa using q2];rfl
     ·subst hQ
      simp (maxSteps:=2000000) only [zp,zy,zah,zab]
      exact zcB rfl ⟨fun h=>absurd h (nofrom (by rw [hra,hT,show decide (t.name=⟨#[]⟩)=false by simpa using q2];simp)),fun _=>rfl⟩
     ·subst hQ
      simp (maxSteps:=2000000) only [zp,zy,zah,zab]
      exact zcB rfl ⟨fun h=>absurd h (nofrom (by rw [hra,hT,decide_eq_false (show ¬t.parent=0 by simpa using q1)];simp)),fun _=>rfl⟩
   ·rw [la1 p2]at hra
    subst hQ
    simp (maxSteps:=2000000) only [zp,zy,zah,zab]
    exact zcB rfl ⟨fun h=>absurd h (nofrom (by rw [hra];rfl)),fun _=>rfl⟩
 ·subst hQ
  simp (maxSteps:=2000000) only [zi,zm,zf,zat,zaQ,zh,za,zj,ev,look,zd,Nat.reduceEqDiff,↓reduceIte,reduceCtorEq,Nat.add_zero]
  have hi':i=l.length:=by omega
  rw [hi',List.take_length]at hR hlen
  rw [hi',List.drop_length,okR]at hok
  obtain ⟨hLr,hvr⟩:=zkY hok
  have hfrom:zeD l↔∀n,zaw (zdK l) n≠none→∃k,LeadsN (zaw (zdK l)) k n:=by rw [hvr,zkk];exact ⟨fun h=>h.2,fun h=>⟨hok,h⟩⟩
  have hlr:∀t∈zdK l,t.attrs.length≤549755813888:=by
   have:∀(l b:List TN),(∀t∈b,t.attrs.length≤549755813888)→(∀t∈l,t.attrs.length≤549755813888)→∀t∈l.foldl zdU b,t.attrs.length≤549755813888:=by
    intro l
    induction l with
    |nil=>intro b hb _;exact hb
    |cons r l ih=>
     intro b hb hl
     refine ih (zdU b r) (fun t ht=> ?_) fun t ht=>hl t (by simp [ht])
     unfold zdU at ht
     split at ht
     ·rcases List.mem_or_eq_of_mem_set ht with h|rfl
      ·exact hb t h
      ·exact hl _ (by simp)
     ·rcases List.mem_append.1 ht with h|h
      ·exact hb t (List.mem_of_mem_take h)
      ·rcases List.mem_cons.1 h with rfl|h
       ·exact hl _ (by simp)
       ·exact hb t (List.mem_of_mem_drop h)
   exact this l T0L (fun t ht=>by simp [T0L]at ht;rcases ht with rfl|rfl<;>simp) hat
  generalize hlrg:zdK l=lr at*
  obtain ⟨nv,wv,e,mn,mw,mo,tr,vs,rfl,p⟩:=hR
  obtain ⟨d1,d2,d3,hrows,htold,hne,hwas,holds⟩:=p
  obtain ⟨d1n,d1r⟩:=zA d1
  obtain ⟨d1w,d1o⟩:=zA d1r
  have nv1:nv.oneCell'=true:=by rcases hrows.2 with ⟨rfl,_⟩|⟨ad,c,rfl,_⟩<;>rfl
  refine zJ _ (zaC zbY (zV _ _ _ _ (zaE _ _)) rfl nv1) rfl ?_
  simp (maxSteps:=2000000) only [za,zj,zd]
  refine zaJ rfl rfl (Q:=fun rs m'=>∃v mc ma ts',rs=[.s v]∧m'=uni mc ma∧dis mc ma∧SlO mc v 49 4 (ts'.map zl)∧TsOk ma ts' lr) (fun w' vs hv hw _ hm=> ?_) fun rs mX _ hq hdX=> ?_
  ·obtain ⟨vs,rfl,_,hv⟩:=zt hv
   obtain rfl:=zr hv
   have s1:PH.sub mn w'.ph:=fun b o q=>hm b o (zao d1 _ _ (zV _ _ b o q))
   have s2:PH.sub u w'.ph:=fun b o q=>hw b o (by rw [zbr];exact hu b o q)
   exact zkW w' nv tr lr w'.ph (fun _ _ h=>h) (hrows.toR.up s1) (htold.up s2) (by omega) fun t ht=>by have:=hlr t ht;omega
  obtain ⟨v,mc,ma,ts',rfl,rfl,hcm,hs1,hs2⟩:=hq
  simp (maxSteps:=2000000) only [zK,za,zj,ev,look,zd,Nat.reduceEqDiff,↓reduceIte,Nat.add_zero]
  obtain ⟨hXc,hX2⟩:=zA hdX
  obtain ⟨hXn,hX3⟩:=zA hX2
  obtain ⟨hXw,hXo⟩:=zA hX3
  have hxb:(uni mc ma) b=none:=(hXc b).resolve_right (by rw [zaE];simp)
  refine zgi rfl #[nv,wv] e ⟨by simp only [uni]at hxb ⊢;rw [hxb,Option.none_or,zaE];rfl,by simp⟩ ?_
  simp (maxSteps:=2000000) only [zi,zB,zm,zf,zc,zb,zh,ze,za,zj,ev,look,zd,zS,zg,zk,Value.oneCell',cond_true,Nat.reduceEqDiff,↓reduceIte,reduceCtorEq]
  rw [zdm hxb,zbZ]
  show vc _ _ _ ⟨_,_,_,uni (uni mc ma) (uni (one b (.cells #[v,wv] e (0,0))) (uni mn (uni mw mo)))⟩
  have dn:∀{x:PH},dis (one b (.cells #[nv,wv] e (0,0))) x→dis (one b (.cells #[v,wv] e (0,0))) x:=fun hx=>zel hx
  obtain ⟨cc,ca⟩:=zA (zG hXc)
  obtain ⟨nc,na⟩:=zA (zG hXn)
  obtain ⟨wc,wa⟩:=zA (zG hXw)
  obtain ⟨oc',oa⟩:=zA (zG hXo)
  obtain ⟨d2w,d2o⟩:=zA d2
  have hvl:vs=[]:=by
   have:=holds.len
   exact List.length_eq_zero_iff.1 this
  subst hvl
  have hmo:mo=PH.no:=holds
  have hRM:RM ma (uni (one b (.cells #[v,wv] e (0,0))) (uni mc (uni mw mo))) b lr []:=⟨v,wv,e,mc,mw,mo,ts',[],rfl,⟨zad (dn cc) (zad (dn d1w) (dn d1o)),zad (zG wc) (zG oc'),d3,hs1,hs2,hne,hwas,hmo⟩⟩
  have hdd:dis (uni (one b (.cells #[v,wv] e (0,0))) (uni mc (uni mw mo))) ma:=zeW (dn ca) (zeW hcm (zeW wa oa))
  have hMeq:uni (uni mc ma) (uni (one b (.cells #[v,wv] e (0,0))) (uni mn (uni mw mo)))=uni (uni (uni (one b (.cells #[v,wv] e (0,0))) (uni mc (uni mw mo))) ma) mn:=by
   rw [zdr d2w,zbU d2o]
   simp only [zbs]
   rw [zdr (zG (dn ca)),zdr (zG (dn cc)),zdr (zG wa),zdr (zG oa)]
  generalize uni (one b (.cells #[v,wv] e (0,0))) (uni mc (uni mw mo))=mR at hRM hdd hMeq
  generalize uni (uni mc ma) (uni (one b (.cells #[v,wv] e (0,0))) (uni mn (uni mw mo)))=M3 at hMeq ⊢
  have sR:PH.sub mR M3:=by rw [hMeq];exact PH.sub_trans (zV _ _) (zV _ _)
  have sRa:PH.sub (uni mR ma) M3:=by rw [hMeq];exact zV _ _
  have hRC:RC (uni mR ma) b lr []:=⟨mR,ma,rfl,hdd,hRM⟩
  obtain ⟨b2,o2,c,tq,hltq,h0,htq,_,hs0,hsi⟩:=hRM.look
  have hk1:∀{C:Ctx},KN C.u0 [M3] mR:=fun {C} j o q=> .inr ⟨M3,by simp,sR j o q⟩
  have hv0:∀i,i<lr.length→zaw lr (lr.getD i zTN).node≠none:=fun i hi=>by
   have hm:lr.getD i zTN∈lr:=by rw [List.getD_eq_getElem?_getD,List.getElem?_eq_getElem hi];exact List.getElem_mem _
   rw [zaw,(zcj hLr.sorted).2 ⟨hm,rfl⟩];simp
  refine zaP (ι:=Nat) (fun i=>⟨[(4, .g (.s (.pointer (some ⟨b,0,none⟩)))),(8, .g (.s (.int .i64 (i))))],[],[],M3⟩) (fun i=>i≤lr.length∧∀j,j<i→∃k,LeadsN (zaw lr) k (lr.getD j zTN).node) (fun i=>lr.length - i) 0 ⟨by simp,fun j hj=>by omega⟩ (zR ?_ ?_ rfl rfl rfl) ?_
  ·simp [zaf,look]
  ·simp [zam,look]
  rintro i ⟨hi2,hled⟩
  generalize hQ:loopQ _ _ _ _ _=Q
  simp (maxSteps:=2000000) only [ziT,zi,zm,zh,za,zj,ev,look,zd,Nat.reduceEqDiff,↓reduceIte,Nat.add_zero]
  refine zJ _ (hs0 hk1) rfl ?_
  simp (maxSteps:=2000000) only [zu,zau,zi,zB,zm,zq,zf,zay,zc,zb,zh,ze,za,zj,ev,look,zd,zg,zk,zO,zP,Nat.reduceEqDiff,↓reduceIte,Nat.add_zero,Bool.true_and,true_and,decide_eq_true_eq,decide_eq_false_iff_not,zax]
  refine ⟨fun hlt=> ?_,fun hge2=> ?_⟩
  ·have hlt:i<lr.length:=by omega
   refine zJ _ (hs0 hk1) rfl ?_
   simp (maxSteps:=2000000) only [za,zj,ev,look,zd,Nat.reduceEqDiff,↓reduceIte,Nat.add_zero,Int.toNat_natCast]
   refine ⟨⟨by omega,by omega⟩,zJ _ (zmg (hsi hk1 i hlt)).1 rfl ?_⟩
   simp (maxSteps:=2000000) only [zi,zB,zm,zf,zc,zb,zh,ze,za,zj,ev,look,zd,zg,zk,Value.oneCell',cond_true,Nat.reduceEqDiff,↓reduceIte]
   have hn0:(tq.getD i zTreeNode).node=(lr.getD i zTN).node:=(htq.at i (by omega)).1
   rw [hn0]
   have hvi:=hv0 i hlt
   obtain ⟨n0,hn0'⟩:∃n0,n0=(lr.getD i zTN).node:=⟨_,rfl⟩
   rw [←hn0']at hvi ⊢
   refine zaP (ι:=Int×Nat) (fun q=>⟨[(4, .g (.s (.pointer (some ⟨b,0,none⟩)))),(8, .g (.s (.int .i64 (i)))),(9, .g (.s (.int .i64 (q.1)))),(10, .g (.s (.int .i64 (q.2))))],[],[],M3⟩) (fun q=>(∀j,LeadsN (zaw lr) (j+q.2) n0↔LeadsN (zaw lr) j q.1)∧(∀j,j<q.2→¬LeadsN (zaw lr) j n0)∧q.2≤lr.length+1) (fun q=>lr.length+2 - q.2) (n0,0) ⟨fun j=>Iff.rfl,fun j hj=>by omega,by omega⟩ (zR ?_ ?_ rfl rfl rfl) ?_
   ·simp [zaf,look]
   ·simp [zam,look]
   rintro ⟨n,k⟩ ⟨hj1,hj2,hkl⟩
   simp only at hj1 hj2 hkl
   generalize hQ2:loopQ _ _ _ _ _=Q2
   have fail:(∀j,¬LeadsN (zaw lr) j n0)→¬zeD l:=fun h hf=>by
    obtain ⟨j,hj⟩:=hfrom.1 hf n0 hvi
    exact h j hj
   simp (maxSteps:=2000000) only [ziM,zu,zau,zi,zB,zm,zq,zf,zay,zc,zb,zh,zH,ze,za,zj,RO.isGh,zI,zar,ev,look,zd,zg,zk,zO,zP,Value.oneCell',cond_true,cond_false,Nat.reduceEqDiff,↓reduceIte,Bool.true_and,Bool.not_true,true_and,↓zL,↓zN,zax]
   have top:zbc n=true→∀σ:SS,zaf σ.fr [(4, .g (.s (.pointer (some ⟨b,0,none⟩)))),(8, .g (.s (.int .i64 (i))))]→σ.m=M3→σ.ph=[]→Q2 (.exit 4) σ:=by
    rintro ht ⟨fr,pv,ph,m'⟩ hfr rfl rfl
    obtain ⟨f1,f2,_⟩:=hfr
    subst hQ2
    simp (maxSteps:=2000000) only [f1,f2,zm,zf,zT,zat,zc,zaQ,zb,zh,ze,za,zj,ev,look,zd,zg,zk,zO,zP,Value.oneCell',cond_true,Nat.reduceEqDiff,↓reduceIte,Bool.true_and,true_and]
    subst hQ;simp only [zaB]
    refine ⟨i+1,⟨by omega,fun j hj=> ?_⟩,by omega,zR ?_ (by simp [zam]) rfl rfl rfl⟩
    ·rcases Nat.lt_or_ge j i with h|h
     ·exact hled j h
     ·have:j=i:=by omega
      rw [this,←hn0']
      exact ⟨0+k,(hj1 0).2 ht⟩
    ·simp only [zaf,look,Nat.reduceEqDiff,↓reduceIte,Bool.and_true,Bool.true_and,true_and,and_true]
     rw [zaN (by omega)]
     try simp
   refine ⟨fun q1=>⟨fun q2=> ?_,fun q2=> ?_⟩,fun q1=> ?_⟩
   ·have ht:zbc n=false:=by
     simp only [zbc]
     have h1:n≠1:=by simpa using q1
     have h2:n≠2:=by simpa using q2
     simp [h1,h2]
    refine zaM _ [.s (.int .i64 (zaS lr n)), .s (.bool (isL lr n))] rfl rfl (fun w' vs hv _ _ hm=> ?_) ?_
    ·obtain ⟨vs,rfl,_,hv⟩:=zt hv
     obtain ⟨vs,rfl,_,hv⟩:=zt hv
     obtain rfl:=zr hv
     exact zhK w' ma mR (fun b o q=>hm b o (sR b o q)) b lr [] hRM n (by omega)
    simp (maxSteps:=2000000) only [zK,List.getElem?_cons_zero,List.getElem?_cons_succ,zx,zi,zm,zq,zf,zp,zy,zc,zb,zh,zH,ze,za,zj,RO.isGh,zI,zar,ev,look,zd,zg,zk,unV,Value.oneCell',cond_true,cond_false,Nat.reduceEqDiff,↓reduceIte,Nat.add_zero,Bool.not_false,↓zL,zdE]
    refine ⟨fun r1=> ?_,fun r1=> ?_⟩
    ·rw [Bool.not_eq_false',zlS]at r1
     obtain ⟨t,ht2⟩:=Option.isSome_iff_exists.1 r1
     obtain ⟨hlt2,hgd⟩:=zts ht2
     have hvn:zaw lr n=some ⟨t.parent,t.name,zca t.attrs⟩:=by rw [zaw,ht2];rfl
     refine zJ _ (hs0 hk1) rfl ?_
     simp (maxSteps:=2000000) only [zu,zx,zi,zm,zq,zf,zp,zy,zc,zb,zh,ze,za,zj,ev,look,zd,zg,zk,zO,zP,Value.oneCell',cond_true,Nat.reduceEqDiff,↓reduceIte,Nat.add_zero,Bool.true_and,true_and,decide_eq_true_eq,decide_eq_false_iff_not,↓zN,zax]
     refine ⟨fun r2=> ?_,fun r2=> ?_⟩
     ·subst hQ2;subst hQ
      simp (maxSteps:=2000000) only [zp,zy,zah,zab]
      refine zcB rfl ⟨fun h=>absurd h (fail fun j hj=> ?_),fun _=>rfl⟩
      have h1:=LeadsN.fewL hLr hj
      exact hj2 j (by omega) hj
     ·refine zJ _ (hs0 hk1) rfl ?_
      simp (maxSteps:=2000000) only [za,zj,ev,look,zd,Nat.reduceEqDiff,↓reduceIte,Int.toNat_natCast]
      refine ⟨⟨by omega,by omega⟩,zJ _ (zmg (hsi hk1 _ hlt2)).2.1 rfl ?_⟩
      simp (maxSteps:=2000000) only [zm,zf,zT,zc,zb,zh,ze,za,zj,ev,look,zd,zg,zk,zO,zP,Value.oneCell',cond_true,Nat.reduceEqDiff,↓reduceIte,Bool.true_and,true_and]
      have hpar:(tq.getD (zaS lr n) zTreeNode).parent=t.parent:=by rw [(htq.at (zaS lr n) (by omega)).2.1,hgd]
      rw [hpar]
      subst hQ2;simp only [zaB]
      refine ⟨(t.parent,k+1),⟨fun j=> ?_,fun j hj=> ?_,by simp only;omega⟩,by simp only;omega,zR ?_ (by simp [zam]) rfl rfl rfl⟩
      ·simp only
       rw [show j+(k+1)=(j+1)+k by omega,hj1]
       constructor
       ·rintro ⟨_,y,hy1,hy2⟩
        rw [hvn]at hy1
        cases hy1
        exact hy2
       ·intro h
        exact ⟨ht,_,hvn,h⟩
      ·simp only at hj
       rcases Nat.lt_or_ge j k with h|h
       ·exact hj2 j h
       ·have:j=0+k:=by omega
        rw [this,hj1]
        intro h
        rw [show zbc n=true from h]at ht;cases ht
      ·simp only [zaf,look,Nat.reduceEqDiff,↓reduceIte,Bool.and_true,Bool.true_and,true_and,and_true]
       rw [zaN (by omega)]
       try simp
    ·rw [Bool.not_eq_true',zls]at r1
     have hvn:zaw lr n=none:=Option.isNone_iff_eq_none.1 (by rw [←Option.not_isSome,r1];rfl)
     subst hQ2;subst hQ
     simp (maxSteps:=2000000) only [zp,zy,zah,zab]
     refine zcB rfl ⟨fun h=>absurd h (fail fun j hj=> ?_),fun _=>rfl⟩
     rcases Nat.lt_or_ge j k with h|h
     ·exact hj2 j h hj
     ·rw [show j=(j - k)+k by omega,hj1]at hj
      cases hjk:j - k with
      |zero=>rw [hjk]at hj;rw [show zbc n=true from hj]at ht;cases ht
      |succ q=>rw [hjk]at hj;obtain ⟨_,y,hy,_⟩:=hj;rw [hvn]at hy;cases hy
   ·exact top (by simp only [zbc];rw [show n=2 by simpa using q2];rfl) _ (by simp [zaf,look]) rfl rfl
   ·exact top (by simp only [zbc];rw [show n=1 by simpa using q1];rfl) _ (by simp [zaf,look]) rfl rfl
  ·subst hQ
   simp (maxSteps:=2000000) only [zx,zi,zm,zf,zat,zc,zaQ,zab,zb,zh,ze,za,zj,ev,look,zd,zg,zk,Value.oneCell',cond_true,Nat.reduceEqDiff,↓reduceIte]
   refine zbq _ rfl sRa ⟨fun _=>⟨b,rfl,hRC⟩,fun h=>absurd (hfrom.2 fun n hn=> ?_) h⟩
   unfold zaw at hn
   cases hg:zez lr n with
   |none=>rw [hg]at hn;simp at hn
   |some t=>
    obtain ⟨q1,q2⟩:=(zcj hLr.sorted).1 hg
    obtain ⟨j,hj,hjt⟩:=List.getElem_of_mem q1
    have:=hled j (by omega)
    rw [List.getD_eq_getElem?_getD,List.getElem?_eq_getElem hj]at this
    simp only [Option.getD_some]at this
    rw [hjt,q2]at this
    exact this
end Go.Proofs.YtmjiojflncffeaaGreat.Vc

set_option linter.unusedVariables false
set_option linter.unusedSimpArgs false
namespace Go.Proofs.YtmjiojflncffeaaGreat.Vc
open Go
theorem zjy {l:List TN} {T:PT} {k:Nat} (h:LOk l) (hv:zaw l=T.view) (hok:T.ok k) (hg:VGood T.view):l.length≤k+2∧∀t∈l,t.attrs.length≤k:=by
 have hin:∀t∈l,∃x,T.get t.node=some x∧t.attrs=zaR x:=fun t ht=>by
  have hg1:=(zcj h.sorted).2 ⟨ht,rfl⟩
  have hvn:zaw l t.node=T.view t.node:=congrFun hv _
  rw [zaw,hg1]at hvn
  obtain ⟨x,hx,he⟩:=zbk hvn.symm
  refine ⟨x,hx,zqm (h.attrs t ht) (zkS (hok.attrs _ x hx).1 fun k w q=>hg.pairs _ _ k w (PT.view_get hx) q) ?_⟩
  simp only [PN.view,AN.mk.injEq]at he
  rw [←he.2.2]
  funext j
  exact (zfT x j).symm
 refine ⟨?_,fun t ht=> ?_⟩
 ·have nd:(l.map (·.node)).Nodup:=by
   rw [List.Nodup,List.pairwise_map]
   exact h.sorted.imp fun {a b} hab e=>by omega
  have:=zdk (b:=T.nodes.map (·.1)) nd fun m hm=>by
   obtain ⟨t,ht,rfl⟩:=List.mem_map.1 hm
   obtain ⟨x,hx,_⟩:=hin t ht
   exact List.mem_map.2 ⟨(t.node,x),zgd hx,rfl⟩
  simp only [List.length_map]at this
  have:=hok.many
  omega
 ·obtain ⟨x,hx,e⟩:=hin t ht
  rw [e]
  have:=(hok.attrs _ x hx).2
  simpa [zaR,zbd,zjS]using this
end Go.Proofs.YtmjiojflncffeaaGreat.Vc

set_option linter.unusedVariables false
set_option linter.unusedSimpArgs false
set_option maxRecDepth 100000
namespace Go.Proofs.YtmjiojflncffeaaGreat.Vc
open Go Go.Proofs
structure RowsIn (u:PH) (v:Value) (ts:List TreeNode) (l:List TN) (N:Nat):Prop where
 rows:SlR u v 4 (ts.map zl)
 told:TsOk u ts l
 few:l.length≤N
 attrs:∀r∈l,r.attrs.length≤N
 size:∀r∈l,∀a∈r.attrs,a.key.size≤140737488355328∧a.value.size≤140737488355328
 name:∀r∈l,r.name.size≤140737488355328
 wf:∀r∈l,(Lit.int .i64 r.node).wf=true
theorem RowsIn.up {u w:PH} {v:Value} {ts:List TreeNode} {l:List TN} {N:Nat} (h:RowsIn u v ts l N) (hs:PH.sub u w):RowsIn w v ts l N:=⟨h.rows.up hs,h.told.up hs,h.few,h.attrs,h.size,h.name,h.wf⟩
def zcR:PT→List Op→List Bool
 |_,[]=>[]
 |B,op::l=>zaL B op::zcR (B.step op) l
theorem zgU:∀(l:List Op) (B:PT) (op:Op),zcR B (l++[op])=zcR B l++[zaL (zbm B l) op]
 |[],_,_=>rfl
 |o::l,B,op=>by
  rw [List.cons_append,zcR,zgU l,zcR]
  rfl
theorem zib:∀(l:List Op) (B:PT),(zcR B l).length=l.length
 |[],_=>rfl
 |_::l,B=>by rw [zcR,List.length_cons,List.length_cons,zib l]
theorem zyv {l:List TN} {T:PT} {op:Op} {k:Nat} (hL:LOk l) (hv:zaw l=T.view) (hok:T.ok k) (hg:VGood T.view):LOk (if zaL T op=true then doL l op else l)∧zaw (if zaL T op=true then doL l op else l)=(T.step op).view:=by
 cases hm:zaL T op with
 |false=>rw [zkl hm];exact ⟨hL,hv⟩
 |true=>rw [zgK hm];exact zAN hL hv hok hg hm
def zvU (T:PT) (flags:List Bool) (rs:List GV) (m':PH):Prop:=∃bt v mt mv lr ls,rs=[.s (ptr bt), .s v]∧m'=uni mt mv∧dis mt mv∧RC mt bt lr ls∧LOk lr∧zaw lr=T.view∧SlO mv v 4 1 (flags.map fun b=> .s (.bool b))
theorem zmx (w:World) (u:PH) (hu:u.le w) (b:Nat) (bv:Value) (f:Int) (ops:List Op) (hL:RLog u b bv f ops) (ts:List TreeNode) (l:List TN) (U:PH) (hU:U.le w) (hb:RowsIn U bv ts l 1048576) (hf:zeD l) (B:PT) (hB:B.ok 1048576) (hg:VGood B.view) (hv:B.view=zdw l) (hl:ops.length≤1048576) (ho:∀op∈ops,zeP op):
  Spec Tryz.prog zmQ [ptr b] PH.no w (zvU (zbm B ops) (zcR B ops)):=by
 refine zbb znw [.g (.s (ptr b))] (by simp) (by simp [AV.ok,GV.ok,Value.oneCell',ptr]) ?_
 obtain ⟨ov,hSo,hs⟩:=hL.look
 obtain ⟨a,c,rfl⟩:=zch hSo
 have hlm:(ops.map gOp).length=ops.length:=List.length_map _
 rw [hlm]at hSo hs
 simp (maxSteps:=2000000) only [zhW,ptr,zi,zm,zf,zc,zb,zh,ze,za,zj,ev,look,zd,zg,zk,Value.oneCell',cond_true,↓reduceIte,reduceCtorEq,Nat.add_zero,zak,zaK,ptr]
 refine zJ _ (hs (zdy hu)).1 rfl ?_
 simp (maxSteps:=2000000) only [za,zj,zd]
 refine zaJ rfl rfl (Q:=fun rs m'=>∃b,rs=[.s (ptr b), .s (.bool true)]∧RC m' b (zdK l) []) (fun w' vs hv' hw _ _=> ?_) fun rs m1 _ hq _=> ?_
 ·obtain ⟨vs,rfl,_,hv'⟩:=zt hv'
  obtain rfl:=zr hv'
  have hU':U.le w':=fun b o q=>hw b o (by rw [zbr];exact hU b o q)
  exact (zqA w' bv ts l U hU' hb.rows hb.told (by have:=hb.few;omega) (fun r hr=>by have:=hb.attrs r hr;omega) hb.size hb.name).mono fun rs m' h=>h.1 hf
 obtain ⟨bt,rfl,hR0⟩:=hq
 simp (maxSteps:=2000000) only [zK,zaz,List.getElem?_cons_zero,List.getElem?_cons_succ,zi,zB,zm,zf,zc,zb,zh,ze,za,zj,ev,look,zd,zg,zk,Value.oneCell',cond_true,Nat.reduceEqDiff,↓reduceIte,reduceCtorEq,ptr]
 have hokR:=(zkk.1 hf).1
 obtain ⟨hLr,hvr⟩:=zkY hokR
 have hvr0:zaw (zdK l)=B.view:=by rw [hvr,hv]
 refine zaP (ι:=Nat×(Value×PH)×(List TN×List (List TN)×PH)) (fun q=>⟨[(0, .g (.s (.pointer (some ⟨b,0,none⟩)))),(4, .g (.s (.pointer (some ⟨bt,0,none⟩)))),(6, .g (.s q.2.1.1)),(7, .g (.s (.int .i64 (q.1))))],[],[],uni q.2.2.2.2 q.2.1.2⟩)
  (fun q=>q.1≤ops.length∧SlO q.2.1.2 q.2.1.1 4 1 ((zcR B (ops.take q.1)).map fun b=> .s (.bool b))∧(RC q.2.2.2.2 bt q.2.2.1 q.2.2.2.1∧LOk q.2.2.1∧zaw q.2.2.1=(zbm B (ops.take q.1)).view∧q.2.2.2.1.length≤q.1)∧dis q.2.2.2.2 q.2.1.2) (fun q=>ops.length - q.1) (0,(.slice none 0 0,PH.no),(zdK l,[],m1)) ⟨by simp,⟨fun x hx=>by simp [zcR]at hx, .inl ⟨rfl,by simp [zcR]⟩⟩,⟨hR0,hLr,hvr0,by simp⟩,zdW _⟩ (zR ?_ ?_ rfl rfl (zaz _)) ?_
 ·simp [zaf,look]
 ·simp [zam,look]
 rintro ⟨i,⟨v,mv⟩,⟨lr,ls,mR⟩⟩ ⟨hi,hS,⟨hR,hLk,hvw,hls⟩,hd⟩
 simp only at hi hS hR hLk hvw hls hd
 have hoT:∀op∈ops.take i,zeP op:=fun op h=>ho op (List.mem_of_mem_take h)
 have hok:=zeB hB hoT
 have hgd:=zgc hB hg hoT
 have htl:(ops.take i).length=i:=by rw [List.length_take];omega
 rw [htl]at hok
 obtain ⟨hb1,hb2⟩:=zjy hLk hvw hok hgd
 generalize hQ:loopQ _ _ _ _ _=Q
 simp (maxSteps:=2000000) only [zfJ,zi,zm,zh,za,zj,ev,look,zd,Nat.reduceEqDiff,↓reduceIte,reduceCtorEq,Nat.zero_add]
 refine zJ _ (hs (zdy hu)).2.2 rfl ?_
 simp (maxSteps:=2000000) only [zu,zau,zi,zB,zm,zq,zf,zay,zc,zb,zh,ze,za,zj,ev,look,zd,zg,zk,zO,zP,Nat.reduceEqDiff,↓reduceIte,reduceCtorEq,Nat.zero_add,Bool.true_and,true_and,decide_eq_true_eq,decide_eq_false_iff_not,zax]
 refine ⟨fun hlt=> ?_,fun hge=> ?_⟩
 ·have hil:i<ops.length:=by omega
  obtain ⟨op,hop⟩:∃op,ops.getD i zOp=op:=⟨_,rfl⟩
  have hmem:op∈ops:=hop▸getD_in hil zOp
  obtain ⟨hw1,hw2⟩:=ho op hmem
  have htk:ops.take (i+1)=ops.take i++[op]:=by rw [zfb hil zOp,hop]
  obtain ⟨b2,o2,rfl,_,_,hse⟩:=hSo.spot (by rw [hlm];omega)
  refine zJ _ (hs (zdy hu)).2.2 rfl ?_
  simp (maxSteps:=2000000) only [za,zj,ev,look,zd,Nat.reduceEqDiff,↓reduceIte,reduceCtorEq,Int.toNat_natCast]
  refine ⟨⟨by omega,by omega⟩,zJ (gOp op) (hse (zdy hu) i (gOp op) (by rw [List.getElem?_map,←hop,List.getD_eq_getElem?_getD,List.getElem?_eq_getElem hil];rfl)) (zbp _) ?_⟩
  simp (maxSteps:=2000000) only [za,zj,zd]
  refine zdz mR mv (zcz rfl) rfl rfl hd (Q:=fun rs m'=>rs=[.s (.bool (zaL (zbm B (ops.take i)) op))]∧RC m' bt (if zaL (zbm B (ops.take i)) op=true then doL lr op else lr) (if zaL (zbm B (ops.take i)) op=true then ls++[lr]else ls)) (fun w' vs hvv _ _=> ?_) fun rs m5 _ hq5 hd5=> ?_
  ·obtain ⟨vs,rfl,_,hvv⟩:=zt hvv
   obtain ⟨vs,rfl,_,hvv⟩:=zt hvv
   obtain rfl:=zr hvv
   refine (zAn w' mR bt lr ls hR hLk (zbm B (ops.take i)) hvw hgd op hw2 (by omega) (by omega) fun t ht=>by have:=hb2 t ht;omega).mono fun rs m' h=> ?_
   cases hm:zaL (zbm B (ops.take i)) op with
   |false=>exact h.1 hm
   |true=>exact h.2 hm
  obtain ⟨rfl,hR5⟩:=hq5
  obtain ⟨hL5,hv5⟩:=zyv (op:=op) hLk hvw hok hgd
  simp (maxSteps:=2000000) only [zK,za,zj,ev,evL,gvL,look,zZ,zd,zaF,GV.sz,Nat.reduceEqDiff,↓reduceIte,Nat.zero_add,Bool.and_true,Bool.true_and,true_and,and_true,Option.map_some,zcO,List.length_cons,List.length_nil,List.drop_zero,List.take_succ_cons,List.take_zero]
  refine znH rfl rfl mv m5 _ hS (zbU hd5) (zG hd5) (by simp only [List.length_map,zib,htl,List.length_cons,List.length_nil];omega) fun v' u' hv' hS' hd'=> ?_
  rw [zbU hd']
  simp (maxSteps:=2000000) only [zm,zf,zT,zc,zb,zh,ze,za,zj,ev,look,zd,zg,zk,zO,zP,Value.oneCell',cond_true,Nat.reduceEqDiff,↓reduceIte,reduceCtorEq,Bool.true_and,true_and]
  have eF:(zcR B (ops.take (i+1))).map (fun b=>GV.s (.bool b))=(zcR B (ops.take i)).map (fun b=>GV.s (.bool b))++[.s (.bool (zaL (zbm B (ops.take i)) op))]:=by
   rw [htk,zgU,List.map_append];rfl
  have eI:zbm B (ops.take (i+1))=(zbm B (ops.take i)).step op:=by rw [htk,zgm]
  subst hQ;simp only [zaB];refine ⟨(i+1,(v',u'),((if zaL (zbm B (ops.take i)) op=true then doL lr op else lr),(if zaL (zbm B (ops.take i)) op=true then ls++[lr]else ls),m5)), ?_, ?_,zR ?_ ?_ rfl rfl rfl⟩
  ·refine ⟨by simp only;omega,by simp only;rw [eF];exact hS',⟨hR5,hL5,by simp only;rw [eI];exact hv5, ?_⟩,zG hd'⟩
   simp only
   split
   ·simp only [List.length_append,List.length_cons,List.length_nil];omega
   ·omega
  ·simp only;omega
  ·simp only [zaf,look,Nat.reduceEqDiff,↓reduceIte,reduceCtorEq,Bool.and_true,Bool.true_and,true_and,and_true]
   rw [zaN (by omega)]
   try simp
  ·simp [zam,look]
 ·subst hQ
  simp (maxSteps:=2000000) only [zx,zi,zm,zf,zat,zc,zaQ,zab,zb,zh,ze,za,zj,ev,look,zd,zg,zk,Nat.reduceEqDiff,↓reduceIte,reduceCtorEq]
  rw [List.take_of_length_le (by omega)]at hS hvw
  exact zbq (rs:=[.s (ptr bt), .s v]) _ rfl (fun _ _ h=>h) ⟨bt,v,mR,mv,lr,ls,rfl,rfl,hd,hR,hLk,hvw,hS⟩
end Go.Proofs.YtmjiojflncffeaaGreat.Vc

set_option linter.unusedVariables false
set_option linter.unusedSimpArgs false
set_option maxRecDepth 100000
namespace Go.Proofs.YtmjiojflncffeaaGreat.Vc
open Go Go.Proofs
theorem zqY (w:World) (u:PH) (hu:u.le w) (b:Nat) (bv:Value) (f:Int) (ops:List Op) (hL:RLog u b bv f ops) (ts:List TreeNode) (l:List TN) (U:PH) (hU:U.le w) (hb:RowsIn U bv ts l 1048576) (hf:zeD l) (B:PT) (hB:B.ok 1048576) (hg:VGood B.view) (hv:B.view=zdw l):
  Spec Tryz.prog zmA [ptr b] PH.no w fun rs m'=>∃v ts',rs=[.s v]∧SlR m' v 4 (ts'.map zl)∧TsOk m' ts' (zae B):=by
 refine zbb zmi [.g (.s (ptr b))] (by simp) (by simp [AV.ok,GV.ok,Value.oneCell',ptr]) ?_
 obtain ⟨ov,hSo,hs⟩:=hL.look
 simp (maxSteps:=2000000) only [zhi,ptr,zi,zm,zf,zc,zb,zh,ze,za,zj,ev,look,zd,zg,zk,Value.oneCell',cond_true,↓reduceIte,reduceCtorEq,Nat.add_zero,zak,zaK,ptr]
 refine zJ _ (hs (zdy hu)).1 rfl ?_
 simp (maxSteps:=2000000) only [za,zj,zd]
 refine zaJ rfl rfl (Q:=fun rs m'=>∃b,rs=[.s (ptr b), .s (.bool true)]∧RC m' b (zdK l) []) (fun w' vs hv' hw _ _=> ?_) fun rs m1 _ hq _=> ?_
 ·obtain ⟨vs,rfl,_,hv'⟩:=zt hv'
  obtain rfl:=zr hv'
  have hU':U.le w':=fun b o q=>hw b o (by rw [zbr];exact hU b o q)
  exact (zqA w' bv ts l U hU' hb.rows hb.told (by have:=hb.few;omega) (fun r hr=>by have:=hb.attrs r hr;omega) hb.size hb.name).mono fun rs m' h=>h.1 hf
 obtain ⟨bt,rfl,hR0⟩:=hq
 simp (maxSteps:=2000000) only [zK,zaz,List.getElem?_cons_zero,List.getElem?_cons_succ,zi,zm,zf,zc,zb,zh,ze,za,zj,ev,look,zd,zg,zk,Nat.reduceEqDiff,↓reduceIte,ptr]
 have hokR:=(zkk.1 hf).1
 obtain ⟨hLr,hvr⟩:=zkY hokR
 have hvr0:zaw (zdK l)=B.view:=by rw [hvr,hv]
 have hpl:zdM (zdK l)=zae B:=zqC hLr hvr0 hB hg
 obtain ⟨hb1,hb2⟩:=zjy hLr hvr0 hB hg
 obtain ⟨m1',A,hmR,hdA,hRM⟩:=hR0
 refine zaJ rfl rfl (Q:=fun rs m'=>∃v ts',rs=[.s v]∧SlR m' v 4 (ts'.map zl)∧TsOk m' ts' (zae B)) (fun w' vs hvv hw _ hm=> ?_) fun rs my _ hq hdy=> ?_
 ·obtain ⟨vs,rfl,_,hvv⟩:=zt hvv
  obtain rfl:=zr hvv
  have s0:PH.sub m1 w'.ph:=fun b o h=>hm b o h
  have:=znS w' A m1' (fun b o h=>s0 b o (by rw [hmR];exact zV _ _ b o h)) (fun b o h=>s0 b o (by rw [hmR];exact zao hdA b o h)) bt _ [] hRM (by omega) fun t ht=>by have:=hb2 t ht;omega
  rw [hpl]at this
  exact this
 obtain ⟨vy,ty,rfl,hsy,hty⟩:=hq
 simp (maxSteps:=2000000) only [zK,zx,zf,zc,zab,zb,ze,za,zj,ev,look,zd,zg,zk,↓reduceIte]
 exact zbq (rs:=[.s vy]) my rfl (zV _ _) ⟨vy,ty,rfl,hsy,hty⟩
def zgx (l:List Op) (ops:List Op):List Op:=ops.foldl (fun l op=>ziZ op l) l
theorem zvZ (l ops:List Op) (op:Op):zgx l (ops++[op])=ziZ op (zgx l ops):=by simp [zgx,List.foldl_append]
theorem zif (l:List Op):∀ops,(zgx l ops).Perm (l++ops):=by
 intro ops
 induction ops generalizing l with
 |nil=>simp [zgx]
 |cons op ops ih=>
  show (zgx (ziZ op l) ops).Perm _
  refine (ih (ziZ op l)).trans ?_
  refine ((zkg op l).append_right ops).trans ?_
  exact List.perm_middle.symm
theorem zsb (l ops:List Op):(zgx l ops).length=l.length+ops.length:=by rw [(zif l ops).length_eq,List.length_append]
theorem zsE {l:List Op}:∀{ops:List Op},Rising (l.map Op.k)→((l++ops).map Op.k).Nodup→Rising ((zgx l ops).map Op.k):=by
 intro ops
 induction ops generalizing l with
 |nil=>exact fun h _=>h
 |cons op ops ih=>
  intro h hn
  refine ih (zor h fun hm=> ?_) ?_
  ·rw [List.map_append,List.nodup_append]at hn
   exact hn.2.2 _ hm _ (by simp) rfl
  ·have hp:(l++op::ops).Perm (ziZ op l++ops):=(List.perm_middle).trans ((zkg op l).symm.append_right ops)
   exact (hp.map Op.k).nodup_iff.1 hn
theorem zoq:∀{ops:List Op} {ds:List Done} {f:Int} {ks:List (Int×Int)},zbl ds f ks ops=0→ks.Nodup→(∀op∈ops,zaO op=0∧f<op.stamp.time∧op.k∉ks∧zgM ds op.k=false)∧(ks++ops.map Op.k).Nodup
 |[],ds,f,ks,_,hn=>⟨by simp,by simpa using hn⟩
 |op::ops,ds,f,ks,h,hn=>by
  by_cases hc:zaO op=0
  case neg=>rw [zhg hc]at h;exact absurd h hc
  by_cases ht:op.stamp.time≤f
  case pos=>rw [zkn hc ht]at h;cases h
  by_cases h3:zgM ds op.k=true∨op.k∈ks
  case pos=>rw [zep hc ht h3]at h;cases h
  rw [zgv hc ht h3]at h
  have hk:op.k∉ks:=fun e=>h3 (.inr e)
  have hn2:(ks++[op.k]).Nodup:=by
   rw [List.nodup_append]
   exact ⟨hn,by simp,fun a ha b hb e=>hk (by rw [List.mem_singleton.1 hb]at e;rw [←e];exact ha)⟩
  obtain ⟨h1,h2⟩:=zoq h hn2
  refine ⟨fun o ho=> ?_,by simpa using h2⟩
  rcases List.mem_cons.1 ho with rfl|ho
  ·exact ⟨hc,by omega,hk,by simpa using fun e=>h3 (.inl e)⟩
  ·obtain ⟨g1,g2,g3,g4⟩:=h1 o ho
   exact ⟨g1,g2,fun e=>g3 (List.mem_append_left _ e),g4⟩
end Go.Proofs.YtmjiojflncffeaaGreat.Vc

set_option linter.unusedVariables false
set_option linter.unusedSimpArgs false
set_option maxRecDepth 100000
namespace Go.Proofs.YtmjiojflncffeaaGreat.Vc
open Go Go.Proofs
def RAddQ (b:Nat) (bv:Value) (f:Int) (ds:List Done) (ops:List Op) (rs:List GV) (m':PH):Prop:=
 (zbl ds f [] ops≠0→rs=[.s (.int .i64 0), .s (.int .i64 0), .s (.int .i64 (zbl ds f [] ops))]∧RLog m' b bv f (ds.map (·.op)))∧
 (zbl ds f [] ops=0→∃x y,rs=[.s (.int .i64 x), .s (.int .i64 y), .s (.int .i64 0)]∧RLog m' b bv f (zgx (ds.map (·.op)) ops))
theorem zuI (w:World) (m:PH) (b:Nat) (bv:Value) (f:Int) (ds:List Done) (hL:RLog m b bv f (ds.map (·.op))) (v:Value) (ops:List Op) (hops:zqn ops) (hS:SlR (but w m) v 8 (ops.map gOp)) (hl:ds.length+ops.length≤1048576) (hod:∀d∈ds,zeP d.op)
  (ts:List TreeNode) (l:List TN) (hb:RowsIn (but w m) bv ts l 1048576) (hf:zeD l) (B:PT) (hB:B.ok 1048576) (hg:VGood B.view) (hv:B.view=zdw l):
  Spec Tryz.prog ziH [ptr b,v] m w (RAddQ b bv f ds ops):=by
 refine zbb zoQ [.g (.s (ptr b)), .ro v 8 (gOp zOp) (ops.map gOp)] (by simp) (by simpa [AV.ok,zwX,GV.ok,Value.oneCell',ptr]using hS) ?_
 have hn:=hops.1
 simp (maxSteps:=2000000) only [ziS,ptr,zi,zm,zf,zc,zb,zh,ze,za,zj,ev,look,zd,zg,zk,Value.oneCell',cond_true,Nat.reduceEqDiff,↓reduceIte,reduceCtorEq,Nat.zero_add,zak,zaK,List.length_map,ptr]
 refine zaM _ [.s (.int .i64 (zbl ds f [] ops))] rfl rfl (fun w' vs hvv _ _ hm=> ?_) ?_
 ·obtain ⟨vs,rfl,_,hvv⟩:=zt hvv
  obtain ⟨v',vs,rfl,k1,hvv⟩:=zhI (z:=8) (xs:=ops.map gOp) rfl (by simp) hvv
  obtain rfl:=zr hvv
  exact zxa w' m hm b bv f ds hL (by omega) v' ops hops k1
 simp (maxSteps:=2000000) only [zK,zu,zx,zi,zm,zq,zf,zp,zc,zab,zb,zh,ze,za,zj,ev,look,zd,zg,zk,zO,zP,Value.oneCell',cond_true,Nat.reduceEqDiff,↓reduceIte,reduceCtorEq,Nat.zero_add,Bool.true_and,true_and,zax]
 by_cases he:zbl ds f [] ops=0
 case neg=>
  simp (maxSteps:=2000000) only [bne_iff_ne.2 he,Bool.and_true,and_true,true_imp_iff,false_imp_iff,Bool.true_eq_false]
  exact zbq (rs:=[.s (.int .i64 0), .s (.int .i64 0), .s (.int .i64 (zbl ds f [] ops))]) _ rfl (fun _ _ h=>h) ⟨fun _=>⟨rfl,hL⟩,fun h=>absurd h he⟩
 simp (maxSteps:=2000000) only [he,Int.reduceBNe,Bool.true_and,true_and,true_imp_iff,false_imp_iff,Bool.false_eq_true]
 obtain ⟨ov,hSo,hs⟩:=hL.look
 obtain ⟨a,c,rfl⟩:=zch hSo
 refine zJ _ (hs zbY).2.2 rfl ?_
 simp (maxSteps:=2000000) only [zi,zB,zm,zf,zc,zb,zh,ze,za,zj,ev,look,zd,zg,zk,Value.oneCell',cond_true,Nat.reduceEqDiff,↓reduceIte,reduceCtorEq,List.length_map]
 refine zaP (ι:=Nat×PH) (fun q=>⟨[(0, .g (.s (.pointer (some ⟨b,0,none⟩)))),(1, .row 1 0 (ops.length)),(8, .g (.s (.int .i64 (ds.length)))),(9, .g (.s (.int .i64 (q.1))))],[(1, .ro 8 (gOp zOp) (ops.map gOp))],[],q.2⟩)
  (fun q=>q.1≤ops.length∧RLog q.2 b bv f (zgx (ds.map (·.op)) (ops.take q.1))) (fun q=>ops.length - q.1) (0,m) ⟨by simp,hL⟩ (zR ?_ ?_ rfl rfl rfl) ?_
 ·simp [zaf,look]
 ·simp [zam,look]
 clear hSo hs
 rintro ⟨i,mi⟩ ⟨hi,hLi⟩
 simp only at hi hLi
 generalize hQ:loopQ _ _ _ _ _=Q
 simp (maxSteps:=2000000) only [zgo,zu,zau,zi,zB,zm,zq,zf,zay,zc,zb,zh,ze,za,zj,ev,look,zd,zg,zk,zaF,zdh,zO,zP,Nat.reduceEqDiff,↓reduceIte,reduceCtorEq,Nat.zero_add,Bool.true_and,true_and,Int.toNat_natCast,decide_eq_true_eq,decide_eq_false_iff_not,zax,zn,zbp,zdY]
 refine ⟨fun hlt=>⟨⟨by omega,by omega⟩, ?_⟩,fun hge=> ?_⟩
 ·have hil:i<ops.length:=by omega
  refine zdz mi PH.no (zcz rfl) rfl (zaz _).symm (zdW _) (Q:=fun rs m'=>rs=[]∧RLog m' b bv f (ziZ (ops.getD i zOp) (zgx (ds.map (·.op)) (ops.take i)))) (fun w' vs hvv _ _=> ?_) fun rs m5 _ hq5 hd5=> ?_
  ·obtain ⟨vs,rfl,_,hvv⟩:=zt hvv
   obtain ⟨vs,rfl,_,hvv⟩:=zt hvv
   obtain rfl:=zr hvv
   exact zwb w' mi b bv f _ hLi (by rw [zsb,List.length_map,List.length_take];omega) _
  obtain ⟨rfl,hL5⟩:=hq5
  simp (maxSteps:=2000000) only [zK,zaz,zm,zf,zT,zc,zb,zh,ze,za,zj,ev,look,zd,zg,zk,zO,zP,Value.oneCell',cond_true,Nat.reduceEqDiff,↓reduceIte,reduceCtorEq,Bool.true_and,true_and]
  subst hQ;simp only [zaB];refine ⟨(i+1,m5), ?_, ?_,zR ?_ ?_ rfl rfl rfl⟩
  ·exact ⟨by simp only;omega,by simp only;rw [zfb hil zOp,zvZ];exact hL5⟩
  ·simp only;omega
  ·simp only [zaf,look,Nat.reduceEqDiff,↓reduceIte,reduceCtorEq,Bool.and_true,Bool.true_and,true_and,and_true]
   rw [zaN (by omega)]
   try simp
  ·simp [zam,look]
 ·subst hQ
  simp (maxSteps:=2000000) only [zi,zm,zf,zat,zaQ,zh,za,zj,ev,look,zd,↓reduceIte]
  rw [List.take_of_length_le (by omega)]at hLi
  obtain ⟨nw,hnw⟩:∃nw,zgx (ds.map (·.op)) ops=nw:=⟨_,rfl⟩
  have hnl:nw.length=ds.length+ops.length:=by rw [←hnw,zsb,List.length_map]
  have hno:∀op∈nw,zeP op:=fun op h=>by
   rw [←hnw]at h
   rcases List.mem_append.1 ((zif _ _).mem_iff.1 h)with h|h
   ·obtain ⟨d,hd,rfl⟩:=List.mem_map.1 h
    exact hod d hd
   ·exact (hops.2 op h).2
  rw [hnw]at hLi
  refine zbV rfl rfl (Q:=zvU (zbm B nw) (zcR B nw)) (fun w' vs hvv hw _ hm=> ?_) fun rs mt _ hq=> ?_
  ·obtain ⟨vs,rfl,_,hvv⟩:=zt hvv
   obtain rfl:=zr hvv
   exact zmx w' mi hm b bv f nw hLi ts l (but w m) (fun b o h=>hw b o (by rw [zwX];exact h)) hb hf B hB hg hv (by omega) hno
  obtain ⟨bt,vf,mtt,mv,lr,ls,rfl,rfl,hdt,_,_,_,hSf⟩:=hq
  simp (maxSteps:=2000000) only [zK,List.getElem?_cons_zero,List.getElem?_cons_succ,zi,zbh,zf,zc,zb,ze,za,zaq,zw,zX,zj,zaD,ev,look,zd,zg,zk,Nat.reduceEqDiff,↓reduceIte,reduceCtorEq,Nat.zero_add,Bool.true_and,true_and,ptr]
  obtain ⟨ov,hSo,hs⟩:=hLi.look
  obtain ⟨a2,c2,rfl⟩:=zch hSo
  have hlm:(nw.map gOp).length=nw.length:=List.length_map _
  rw [hlm]at hSo hs
  have hSr:SlR (uni mtt mv) vf 1 ((zcR B nw).map fun b=> .s (.bool b)):=hSf.toR.up (zao hdt)
  obtain ⟨a3,c3,rfl⟩:=zch hSr
  have hlf:((zcR B nw).map fun b=>GV.s (.bool b)).length=nw.length:=by rw [List.length_map,zib]
  rw [hlf]at hSr
  refine zJ _ (hs zbY).2.2 rfl ?_
  simp (maxSteps:=2000000) only [hlf,zi,zB,zm,zf,zc,zb,zh,ze,za,zM,zU,zw,zX,zj,zaD,ev,look,zd,zg,zk,Value.oneCell',cond_true,Nat.reduceEqDiff,↓reduceIte,reduceCtorEq,Bool.true_and,true_and]
  refine zaP (ι:=Nat×Int×Int) (fun q=>⟨[(0, .g (.s (.pointer (some ⟨b,0,none⟩)))),(1, .row 1 0 (ops.length)),(8, .g (.s (.int .i64 (ds.length)))),(11, .g (.s (.slice a3 nw.length c3))),(12, .g (.s (.int .i64 q.2.1))),(13, .g (.s (.int .i64 q.2.2))),(14, .g (.s (.int .i64 (q.1))))],[(1, .ro 8 (gOp zOp) (ops.map gOp))],[uni mtt mv],mi⟩)
   (fun q=>q.1≤nw.length) (fun q=>nw.length - q.1) (0,0,(nw.length:Int)) (by simp) (zR ?_ ?_ rfl rfl rfl) ?_
  ·simp [zaf,look]
  ·simp [zam,look]
  rintro ⟨j,n,fs⟩ hj
  simp only at hj
  generalize hQ:loopQ _ _ _ _ _=Q
  simp (maxSteps:=2000000) only [zgj,zi,zm,zh,za,zj,ev,look,zd,Nat.reduceEqDiff,↓reduceIte,reduceCtorEq,Nat.zero_add]
  refine zJ _ (hs zbY).2.2 rfl ?_
  simp (maxSteps:=2000000) only [zu,zau,zi,zB,zm,zq,zf,zay,zc,zb,zh,ze,za,zj,ev,look,zd,zg,zk,zO,zP,Nat.reduceEqDiff,↓reduceIte,reduceCtorEq,Nat.zero_add,Bool.true_and,true_and,decide_eq_true_eq,decide_eq_false_iff_not,zax]
  refine ⟨fun hlt=> ?_,fun hge=> ?_⟩
  ·have hjl:j<nw.length:=by omega
   obtain ⟨b2,o2,rfl,_,_,hse⟩:=hSo.spot (by rw [hlm];omega)
   obtain ⟨b3,o3,rfl,_,_,hsf⟩:=hSr.spot (by rw [hlf];omega)
   refine zJ _ (hs zbY).2.2 rfl ?_
   simp (maxSteps:=2000000) only [za,zj,ev,look,zd,Nat.reduceEqDiff,↓reduceIte,reduceCtorEq,Nat.add_zero,Int.toNat_natCast]
   refine ⟨⟨by omega,by omega⟩,zJ _ (zdV (hse zbY j (gOp (nw.getD j zOp)) (by rw [List.getElem?_map,List.getD_eq_getElem?_getD,List.getElem?_eq_getElem hjl];rfl))) (zag _) ?_⟩
   simp (maxSteps:=2000000) only [za,zj,zd]
   refine zdc _ [.s (.bool (zlb ops (nw.getD j zOp).stamp.k))] rfl rfl (fun w' vs hvv _ _=> ?_) ?_
   ·obtain ⟨v',vs,rfl,k1,hvv⟩:=zhI (z:=8) (xs:=ops.map gOp) rfl (by simp) hvv
    obtain ⟨vs,rfl,_,hvv⟩:=zt hvv
    obtain rfl:=zr hvv
    exact zqp w' v' ops _ k1 (by omega)
   simp (maxSteps:=2000000) only [zK,zu,zau,zi,zm,zq,zf,zay,zat,zc,zb,zh,ze,za,zj,ev,look,zd,zg,zk,zO,zP,unV,Value.oneCell',cond_true,cond_false,Nat.reduceEqDiff,↓reduceIte,reduceCtorEq,Bool.true_and,true_and,Int.toNat_natCast,zax]
   refine ⟨fun _=> ?_,fun _=>⟨⟨by omega,by omega⟩,zJ (.s (.bool ((zcR B nw).getD j false))) (hsf (KN.mem (by simp)) j _ (by rw [List.getElem?_map,List.getD_eq_getElem?_getD,List.getElem?_eq_getElem (by rw [zib];omega)];rfl)) rfl ?_⟩⟩
   ·subst hQ;simp only [zaB];refine ⟨(j+1,n,fs), ?_, ?_,zR ?_ ?_ rfl rfl rfl⟩
    ·simp only;omega
    ·simp only;omega
    ·simp only [zaf,look,Nat.reduceEqDiff,↓reduceIte,reduceCtorEq,Bool.and_true,Bool.true_and,true_and,and_true]
     rw [zaN (by omega)]
     try simp
    ·simp [zam,look]
   simp (maxSteps:=2000000) only [zu,zm,zq,zf,zT,zc,zb,zh,ze,za,zj,ev,look,zd,zg,zk,zO,zP,Value.oneCell',cond_true,Nat.reduceEqDiff,↓reduceIte,reduceCtorEq,Bool.true_and,true_and,zax]
   cases (zcR B nw).getD j false with
   |false=>
    simp (maxSteps:=2000000) only [Bool.true_and,true_and,true_imp_iff,false_imp_iff,Bool.false_eq_true]
    subst hQ;simp only [zaB];refine ⟨(j+1,n,min fs (j:Int)), ?_, ?_,zR ?_ ?_ rfl rfl rfl⟩
    ·simp only;omega
    ·simp only;omega
    ·simp only [zaf,look,Nat.reduceEqDiff,↓reduceIte,reduceCtorEq,Bool.and_true,Bool.true_and,true_and,and_true]
     rw [zaN (by omega)]
     try simp
    ·simp [zam,look]
   |true=>
    simp (maxSteps:=2000000) only [Bool.and_true,and_true,true_imp_iff,false_imp_iff,Bool.true_eq_false]
    subst hQ;simp only [zaB];refine ⟨(j+1,IntKind.i64.wrap (n+1),min fs (j:Int)), ?_, ?_,zR ?_ ?_ rfl rfl rfl⟩
    ·simp only;omega
    ·simp only;omega
    ·simp only [zaf,look,Nat.reduceEqDiff,↓reduceIte,reduceCtorEq,Bool.and_true,Bool.true_and,true_and,and_true]
     rw [zaN (by omega)]
     try simp
    ·simp [zam,look]
  ·subst hQ
   simp (maxSteps:=2000000) only [zx,zi,zm,zf,zat,zc,zaQ,zab,zb,zh,ze,za,zj,ev,look,zd,zg,zk,zO,zP,Value.oneCell',cond_true,cond_false,Nat.reduceEqDiff,↓reduceIte,reduceCtorEq,Bool.true_and,true_and]
   exact zbq (rs:=[.s (.int .i64 n), .s (.int .i64 (IntKind.i64.wrap ((ds.length:Int) - min fs (ds.length:Int)))), .s (.int .i64 0)]) _ rfl (fun _ _ h=>h) ⟨fun h=>absurd he h,fun _=>⟨_,_,rfl,by rw [hnw];exact hLi⟩⟩
end Go.Proofs.YtmjiojflncffeaaGreat.Vc

set_option linter.unusedVariables false
set_option maxRecDepth 100000
namespace Go.Proofs.YtmjiojflncffeaaGreat.Vc
open Go Go.Proofs
abbrev zws:Nat:=29
noncomputable def zbF:Code:=((((Tryz.f29.body.map znN).getD [])[0]?).getD .skip)
noncomputable def zkH:Cd:=
 (.seq (.rg [⟨none,[(some 61, .bin .lss (.t 60) (.c (.int .i64 2)))]⟩] [4,5,6,8,10,60,61])
 (.seq (.ite (.t 61)
 .skip
 (.exit 0))
 (.seq (.block 1 (.seq (.rg [⟨none,[(some 11, .new 3 (.s (.int .i64 0))),(none, .st (.t 11) (.c (.int .i64 0)) 1)]⟩] [4,5,6,8,10,11,60])
 (.seq (.seq (.rg [⟨none,[(some 62, .mv (.t 10)),(none, .gh)]⟩] [4,5,6,8,10,11,60,62])
 (.block 2 (.raw zbF)))
 (.seq (.rgq [⟨none,[(some 96, .ld (.t 11) 1 false),(some 97, .ld (.t 4) 1 false),(some 98, .nilc (.t 97)),(some 99, .fldA (.t 98) 2 2),(some 100, .ld (.t 99) 1 false),(some 101, .len (.t 100)),(some 102, .bin .neq (.t 96) (.t 101)),(some 103, .mv (.t 102))]⟩,⟨some (103,true),[(some 104, .ld (.t 11) 1 false),(some 105, .ld (.t 5) 1 false)]⟩] [⟨some (103,true),[(some 106, .bin .neq (.t 104) (.t 105))]⟩,⟨none,[(some 107, .pick (.t 103) (.t 106) (.c (.bool false)))]⟩] [4,5,6,8,10,60,107])
 (.ite (.t 107)
 (.seq (.rg [⟨none,[(none, .st (.t 6) (.c (.bool false)) 1)]⟩] [6])
 .ret)
 .skip)))))
 (.rg [⟨none,[(none, .gh),(some 108, .bin .add (.t 60) (.c (.int .i64 1))),(some 60, .mv (.t 108))]⟩] [4,5,6,8,10,60]))))
noncomputable def zpT:Cd:=
 (.seq (.rg [⟨none,[(some 4, .box 62 (.t 1)),(some 5, .box 3 (.t 2)),(some 6, .new 4 (.s (.bool false)))]⟩] [0,4,5,6])
 (.seq (.rg [⟨none,[(some 15, .ld (.t 4) 1 false),(some 16, .call 64 [(.t 15)]),(some 14, .mv (.t 16)),(some 17, .ext (.t 14) 0),(some 18, .ext (.t 14) 1),(some 8, .new 123 (.s (.slice none 0 0))),(some 7, .mv (.t 17)),(none, .st (.t 8) (.t 18) 1)]⟩] [0,4,5,6,7,8])
 (.seq (.rg [⟨none,[(some 19, .mv (.t 0)),(some 20, .call 19 [(.t 19)]),(some 9, .mv (.t 20))]⟩] [0,4,5,6,7,8,9])
 (.seq (.seq (.rga (.held [9,0,4,7] (.op ⟨none,[(some 21, .mv (.t 9))]⟩ (.op ⟨none,[(some 22, .eqA false 40 (.t 21) (.c (.pointer none)))]⟩ (.op ⟨none,[(some 23, .mv (.t 22))]⟩ (.op ⟨some (23,false),[(some 24, .mv (.t 0))]⟩ (.first ⟨some (23,false),[(some 26, .ld (.t 4) 1 false)]⟩ (.op ⟨some (23,false),[(some 27, .nilc (.t 26))]⟩ (.op ⟨some (23,false),[(some 28, .fldA (.t 27) 1 1)]⟩ (.first ⟨some (23,false),[(some 29, .ld (.t 28) 1 false)]⟩ (.op ⟨some (23,false),[(some 25, .call 30 [(.t 24)])]⟩ (.op ⟨some (23,false),[(some 30, .bin .neq (.t 25) (.t 29))]⟩ (.op ⟨none,[(some 31, .pick (.t 23) (.c (.bool true)) (.t 30))]⟩ (.op ⟨none,[(some 32, .mv (.t 31))]⟩ (.op ⟨some (32,false),[(some 33, .mv (.t 0))]⟩ (.first ⟨some (32,false),[(some 35, .ld (.t 4) 1 false)]⟩ (.op ⟨some (32,false),[(some 36, .nilc (.t 35))]⟩ (.op ⟨some (32,false),[(some 37, .fldA (.t 36) 2 2)]⟩ (.first ⟨some (32,false),[(some 38, .ld (.t 37) 1 false)]⟩ (.op ⟨some (32,false),[(some 39, .len (.t 38))]⟩ (.op ⟨some (32,false),[(some 34, .call 22 [(.t 33)])]⟩ (.op ⟨some (32,false),[(some 40, .bin .neq (.t 34) (.t 39))]⟩ (.op ⟨none,[(some 41, .pick (.t 32) (.c (.bool true)) (.t 40))]⟩ (.op ⟨none,[(some 42, .mv (.t 41))]⟩ (.op ⟨some (42,false),[(some 43, .mv (.t 9))]⟩ (.op ⟨some (42,false),[(some 45, .mv (.t 7))]⟩ (.op ⟨some (42,false),[(some 44, .call 21 [(.t 43)])]⟩ (.op ⟨some (42,false),[(some 46, .call 69 [(.t 45)])]⟩ (.op ⟨some (42,false),[(some 47, .call 20 [(.t 44),(.t 46)])]⟩ (.op ⟨some (42,false),[(some 48, .un .not (.t 47))]⟩ (.op ⟨none,[(some 49, .pick (.t 42) (.c (.bool true)) (.t 48))]⟩ (.op ⟨none,[(some 50, .mv (.t 49))]⟩ (.op ⟨some (50,false),[(some 51, .mv (.t 0))]⟩ (.first ⟨some (50,false),[(some 53, .ld (.t 4) 1 false)]⟩ (.op ⟨some (50,false),[(some 52, .call 28 [(.t 51)])]⟩ (.op ⟨some (50,false),[(some 54, .call 70 [(.t 53)])]⟩ (.op ⟨some (50,false),[(some 55, .call 20 [(.t 52),(.t 54)])]⟩ (.op ⟨some (50,false),[(some 56, .un .not (.t 55))]⟩ (.op ⟨none,[(some 57, .pick (.t 50) (.c (.bool true)) (.t 56))]⟩ .done)))))))))))))))))))))))))))))))))))))) [0,4,5,6,8,57])
 (.ite (.t 57)
 (.seq (.rg [⟨none,[(none, .st (.t 6) (.c (.bool false)) 1)]⟩] [6])
 .ret)
 .skip))
 (.seq (.rg [⟨none,[(some 58, .mv (.t 0)),(some 59, .call 24 [(.t 58)]),(some 10, .mv (.t 59))]⟩] [4,5,6,8,10])
 (.seq (.seq (.rg [⟨none,[(none, .gh),(some 60, .mv (.c (.int .i64 0)))]⟩] [4,5,6,8,10,60])
 (.block 0 (.loop zkH)))
 (.seq (.rg [⟨none,[(none, .st (.t 6) (.c (.bool true)) 1)]⟩] [6])
 .ret)))))))
theorem zwZ:Ok Tryz.prog 29 zpT 109 [(3,999998),(16,10),(12,999998)] [.cell 6 1 false]:=Ok.mk' Tryz.func29 (by kernel_rfl) (by kernel_rfl) (by kernel_rfl)
def zhm:Cd:=
 (.seq (.rg [⟨none,[(some 12, .new 26 (.c (.c (.s (.int .i64 0)) (.c (.s (.int .i64 0)) .u)) (.c (.s (.int .i64 0)) (.c (.s (.int .i64 0)) (.c (.s (.int .i64 0)) (.c (.s (.string ⟨#[]⟩)) (.c (.s (.string ⟨#[]⟩)) (.c (.s (.string ⟨#[]⟩)) .u)))))))),(none, .st (.t 12) (.t 63) 8)]⟩] [4,5,6,8,11,12,64])
 (.rg [⟨none,[(some 13, .mv (.t 64)),(none, .gh)]⟩] [4,5,6,8,11,12,13]))
theorem ztB:comp Tryz.prog 109 [(3,999998),(16,10),(12,999998)] (zvG zbF)=er zhm:=by kernel_rfl
def zho:Cd:=
 (.block 3 (.seq (.seq (.rga (.held [11,4,12,13,8] (.first ⟨none,[(some 65, .ld (.t 11) 1 false)]⟩ (.first ⟨none,[(some 66, .ld (.t 4) 1 false)]⟩ (.op ⟨none,[(some 67, .nilc (.t 66))]⟩ (.op ⟨none,[(some 68, .fldA (.t 67) 2 2)]⟩ (.first ⟨none,[(some 69, .ld (.t 68) 1 false)]⟩ (.op ⟨none,[(some 70, .len (.t 69))]⟩ (.op ⟨none,[(some 71, .bin .geq (.t 65) (.t 70))]⟩ (.op ⟨none,[(some 72, .mv (.t 71))]⟩ (.first ⟨some (72,false),[(some 73, .ld (.t 12) 8 true)]⟩ (.first ⟨some (72,false),[(some 74, .ld (.t 4) 1 false)]⟩ (.op ⟨some (72,false),[(some 75, .nilc (.t 74))]⟩ (.op ⟨some (72,false),[(some 76, .fldA (.t 75) 2 2)]⟩ (.first ⟨some (72,false),[(some 77, .ld (.t 76) 1 false)]⟩ (.first ⟨some (72,false),[(some 78, .ld (.t 11) 1 false)]⟩ (.op ⟨some (72,false),[(some 79, .idxS (.t 77) (.t 78) 8)]⟩ (.first ⟨some (72,false),[(some 80, .ld (.t 79) 8 true)]⟩ (.op ⟨some (72,false),[(some 81, .eqA true 26 (.t 73) (.t 80))]⟩ (.op ⟨none,[(some 82, .pick (.t 72) (.c (.bool true)) (.t 81))]⟩ (.op ⟨none,[(some 83, .mv (.t 82))]⟩ (.op ⟨some (83,false),[(some 84, .mv (.t 13))]⟩ (.first ⟨some (83,false),[(some 85, .ld (.t 8) 1 false)]⟩ (.first ⟨some (83,false),[(some 86, .ld (.t 11) 1 false)]⟩ (.op ⟨some (83,false),[(some 87, .idxS (.t 85) (.t 86) 1)]⟩ (.first ⟨some (83,false),[(some 88, .ld (.t 87) 1 false)]⟩ (.op ⟨some (83,false),[(some 89, .eqA true 4 (.t 84) (.t 88))]⟩ (.op ⟨none,[(some 90, .pick (.t 83) (.c (.bool true)) (.t 89))]⟩ .done))))))))))))))))))))))))))) [5,6,11,90])
 (.ite (.t 90)
 (.seq (.rg [⟨none,[(none, .st (.t 6) (.c (.bool false)) 1)]⟩] [6])
 .ret)
 .skip))
 (.seq (.rg [⟨none,[(some 91, .ld (.t 11) 1 false),(some 92, .bin .add (.t 91) (.c (.int .i64 1))),(none, .st (.t 11) (.t 92) 1)]⟩] [5,11])
 (.seq (.rg [⟨none,[(some 93, .ld (.t 11) 1 false),(some 94, .ld (.t 5) 1 false),(some 95, .bin .eql (.t 93) (.t 94))]⟩] [95])
 (.ite (.t 95)
 (.exit 2)
 .skip)))))
theorem ztx:comp Tryz.prog 109 [(3,999998),(16,10),(12,999998)] (zxi zbF)=er zho:=by kernel_rfl
end Go.Proofs.YtmjiojflncffeaaGreat.Vc

set_option linter.unusedVariables false
set_option linter.unusedSimpArgs false
set_option maxRecDepth 100000
namespace Go.Proofs.YtmjiojflncffeaaGreat.Vc
open Go Go.Proofs
end Go.Proofs.YtmjiojflncffeaaGreat.Vc

set_option linter.unusedVariables false
set_option maxRecDepth 100000
namespace Go.Proofs.YtmjiojflncffeaaGreat.Vc
open Go Go.Proofs
end Go.Proofs.YtmjiojflncffeaaGreat.Vc

set_option linter.unusedVariables false
set_option linter.unusedSimpArgs false
set_option maxRecDepth 100000
namespace Go.Proofs.YtmjiojflncffeaaGreat.Vc
open Go Go.Proofs
def Top (p:PL) (s:Stamp):Prop:=∀d∈p.ds,¬ltK s.k d.k
theorem ztM {op:Op} (h:zaO op=0):zli op:=fun hw=>by
 rw [zeF hw]at h;cases h
theorem zvd {op:Op} (h:zaO op=0):1≤op.stamp.time:=by
 have:=ztM h
 unfold zli at this
 have hc:zcM op.stamp:=Classical.byContradiction fun hn=>this (.inl hn)
 exact hc.1
structure Way1 (b:Nat) (m:PH) (L Lb:Lay) (p:PL) (s:Stamp) (i:Nat):Prop where
 M:LogM m b L Lb p
 good:p.good (ptr (L .mk)) 0 (tri p.ds.length)
 few:p.ds.length≤i
 fr:p.fr=0
 top:Top p s
end Go.Proofs.YtmjiojflncffeaaGreat.Vc

set_option linter.unusedVariables false
set_option maxRecDepth 100000
namespace Go.Proofs.YtmjiojflncffeaaGreat.Vc
open Go Go.Proofs
end Go.Proofs.YtmjiojflncffeaaGreat.Vc

set_option linter.unusedVariables false
set_option linter.unusedSimpArgs false
set_option maxRecDepth 100000
namespace Go.Proofs.YtmjiojflncffeaaGreat.Vc
open Go Go.Proofs
def Goods (l:List Op):Prop:=∀op∈l,(OpIn op∧zeP op)∧zaO op=0
structure Way2 (b:Nat) (m:PH) (L Lb:Lay) (p:PL) (l:List Op):Prop where
 M:LogM m b L Lb p
 good:p.good (ptr (L .mk)) 0 (tri p.ds.length)
 fr:p.fr=0
 B:p.B=T0
 perm:(p.ds.map (·.op)).Perm l
theorem Way2.len {b:Nat} {m:PH} {L Lb:Lay} {p:PL} {l:List Op} (h:Way2 b m L Lb p l):p.ds.length=l.length:=by
 have:=h.perm.length_eq
 simpa using this
theorem Way2.rising {b:Nat} {m:PH} {L Lb:Lay} {p:PL} {l:List Op} (h:Way2 b m L Lb p l):Rising ((p.ds.map (·.op)).map Op.k):=by
 rw [List.map_map];exact h.good.ris
theorem Way2.nod {b:Nat} {m:PH} {L Lb:Lay} {p:PL} {l:List Op} (h:Way2 b m L Lb p l):(l.map Op.k).Nodup:=by
 have h1:((p.ds.map (·.op)).map Op.k).Nodup:=h.rising.imp fun h e=>by rw [e]at h;exact zeR _ h
 exact (h.perm.map _).nodup_iff.1 h1
theorem Way2.same {b b':Nat} {m m':PH} {L Lb L' Lb':Lay} {p p':PL} {l l':List Op} (h:Way2 b m L Lb p l) (h':Way2 b' m' L' Lb' p' l') (hl:l.Perm l'):p.T.view=p'.T.view:=by
 have e:p.ds.map (·.op)=p'.ds.map (·.op):=Rising.uniq (h.perm.trans (hl.trans h'.perm.symm)) h.rising h'.rising
 rw [h.good.fl.view,h'.good.fl.view,e,h.B,h'.B]
theorem Way2.new {b:Nat} {m:PH} {L Lb:Lay} (h:LogM m b L Lb PL.new):Way2 b m L Lb PL.new []:=⟨h,(PL.new_good _).up (Nat.zero_le _),rfl,rfl,List.Perm.refl _⟩
theorem Way2.add {b:Nat} {m m1:PH} {L Lb L':Lay} {p p':PL} {l ops:List Op} {n:Int} (h:Way2 b m L Lb p l) (hM:LogM m1 b L' Lb p') (hL:L' .mk=L .mk) (hg:p'.good (ptr (L .mk)) 0 (tri p'.ds.length)) (hA:Added p ops p' n):Way2 b m1 L' Lb p' (l++ops):=
 ⟨hM,by rw [hL];exact hg,hA.fr.trans h.fr,hA.B.trans h.B,hA.perm.trans (h.perm.append_right _)⟩
theorem Way2.may {b:Nat} {m:PH} {L Lb:Lay} {p:PL} {l ops:List Op} (h:Way2 b m L Lb p l) (ho:Goods ops) (hn:((l++ops).map Op.k).Nodup):zbl p.ds p.fr [] ops=0:=by
 rw [List.map_append,List.nodup_append]at hn
 refine zuQ ⟨fun op hop=>(ho op hop).2,fun op hop=>by rw [h.fr];have:=zvd (ho op hop).2;omega,fun op hop=>⟨fun hm=> ?_,List.not_mem_nil⟩,hn.2.1⟩
 obtain ⟨d,hd,e⟩:=List.mem_map.1 hm
 have:d.op∈l:=h.perm.mem_iff.1 (List.mem_map.2 ⟨d,hd,rfl⟩)
 exact hn.2.2 _ (List.mem_map.2 ⟨d.op,this,rfl⟩) _ (List.mem_map.2 ⟨op,hop,rfl⟩) e
end Go.Proofs.YtmjiojflncffeaaGreat.Vc

set_option linter.unusedVariables false
set_option linter.unusedSimpArgs false
set_option maxRecDepth 100000
namespace Go.Proofs.YtmjiojflncffeaaGreat.Vc
open Go Go.Proofs
end Go.Proofs.YtmjiojflncffeaaGreat.Vc

set_option linter.unusedVariables false
set_option linter.unusedSimpArgs false
namespace Go.Proofs.YtmjiojflncffeaaGreat.Vc
open Go Go.Shelf
theorem zlc (w:World) (o:Obj):Kept PH.no w (w.alloc o):=by
 refine ⟨rfl,rfl,rfl,by rw [World.size_alloc];omega,fun k hk _=> ?_⟩
 show (w.heap.push o)[k]? =_
 rw [Array.getElem?_push_lt hk,Array.getElem?_eq_getElem hk]
theorem zwq {a b c:World} (h1:Kept PH.no a b) (h2:Kept PH.no b c):Kept PH.no a c:=by
 obtain ⟨k1,k2,k3,k4,k5⟩:=h1
 obtain ⟨q1,q2,q3,q4,q5⟩:=h2
 exact ⟨q1.trans k1,q2.trans k2,q3.trans k3,by omega,fun k hk hn=>(q5 k (by omega) hn).trans (k5 k hk hn)⟩
end Go.Proofs.YtmjiojflncffeaaGreat.Vc

