/- Plain structs of a tree. -/
import Derived.Test.YtdpknchgoeboaaaVt1
set_option linter.unusedVariables false
set_option linter.unusedSimpArgs false
namespace Go.Proofs.Ytdpknchgoeboaaa.Vc
open Go

structure Stamp where
  time : Int
  site : Int
def zStamp : Stamp := ⟨0, 0⟩
def gStamp (x : Stamp) : GV := .c (.s (.int .i64 x.time)) (.c (.s (.int .i64 x.site)) .u)
theorem gStamp_ok (x : Stamp) : (gStamp x).ok := ⟨rfl, rfl, trivial⟩
theorem gStamp_sz (x : Stamp) : (gStamp x).sz = 2 := by simp [gStamp, GV.sz, gVec_sz, gVec2_sz]
theorem gStamp_fits (x : Stamp) : (gStamp x).fits 2 true = true := by
  show (true && (gStamp x).sz == 2) = true
  rw [gStamp_sz]; rfl
theorem gStamp_isS (x : Stamp) : (gStamp x).isS = false := rfl
theorem gStamp_same (x y : Stamp) : (gStamp x).same (gStamp y) = True := eq_true ⟨trivial, trivial, trivial⟩
theorem gStamp_fld0 (x : Stamp) : (gStamp x).fld 0 0 = true := by simp [gStamp, GV.fld, GV.sz, gVec_sz, gVec2_sz]
theorem gStamp_get0 (x : Stamp) (p : List Nat) : (gStamp x).getT (0 :: p) = GV.getT (.s (.int .i64 x.time)) p := by simp [gStamp, GV.getT]
theorem gStamp_set0 (x : Stamp) (v : Int) : (gStamp x).setT [0] (.s (.int .i64 v)) = gStamp { x with time := v } := by simp [gStamp, GV.setT, setT_nil]
theorem gStamp_fld1 (x : Stamp) : (gStamp x).fld 1 1 = true := by simp [gStamp, GV.fld, GV.sz, gVec_sz, gVec2_sz]
theorem gStamp_get1 (x : Stamp) (p : List Nat) : (gStamp x).getT (1 :: p) = GV.getT (.s (.int .i64 x.site)) p := by simp [gStamp, GV.getT]
theorem gStamp_set1 (x : Stamp) (v : Int) : (gStamp x).setT [1] (.s (.int .i64 v)) = gStamp { x with site := v } := by simp [gStamp, GV.setT, setT_nil]
theorem gStamp_zero : GV.c (.s (.int .i64 0)) (.c (.s (.int .i64 0)) .u) = gStamp zStamp := by simp only [gStamp, zStamp]
theorem getD_gStamp (l : List Stamp) (i : Nat) : (l.map gStamp).getD i (gStamp zStamp) = gStamp (l.getD i zStamp) := by
  rw [List.getD_eq_getElem?_getD, List.getElem?_map, List.getD_eq_getElem?_getD]
  cases l[i]? <;> rfl

structure Op where
  stamp : Stamp
  kind : Int
  node : Int
  parent : Int
  name : ByteArray
  key : ByteArray
  value : ByteArray
def zOp : Op := ⟨zStamp, 0, 0, 0, ⟨#[]⟩, ⟨#[]⟩, ⟨#[]⟩⟩
def gOp (x : Op) : GV := .c (gStamp x.stamp) (.c (.s (.int .i64 x.kind)) (.c (.s (.int .i64 x.node)) (.c (.s (.int .i64 x.parent)) (.c (.s (.string x.name)) (.c (.s (.string x.key)) (.c (.s (.string x.value)) .u))))))
theorem gOp_ok (x : Op) : (gOp x).ok := ⟨gStamp_ok _, rfl, rfl, rfl, rfl, rfl, rfl, trivial⟩
theorem gOp_sz (x : Op) : (gOp x).sz = 8 := by simp [gOp, GV.sz, gVec_sz, gVec2_sz, gStamp_sz]
theorem gOp_fits (x : Op) : (gOp x).fits 8 true = true := by
  show (true && (gOp x).sz == 8) = true
  rw [gOp_sz]; rfl
theorem gOp_isS (x : Op) : (gOp x).isS = false := rfl
theorem gOp_same (x y : Op) : (gOp x).same (gOp y) = True := eq_true ⟨(by rw [gStamp_same]; trivial), trivial, trivial, trivial, trivial, trivial, trivial, trivial⟩
theorem gOp_fld0 (x : Op) : (gOp x).fld 0 0 = true := by simp [gOp, GV.fld, GV.sz, gVec_sz, gVec2_sz, gStamp_sz]
theorem gOp_get0 (x : Op) (p : List Nat) : (gOp x).getT (0 :: p) = GV.getT (gStamp x.stamp) p := by simp [gOp, GV.getT]
theorem gOp_set0 (x : Op) (v : Stamp) : (gOp x).setT [0] (gStamp v) = gOp { x with stamp := v } := by simp [gOp, GV.setT, setT_nil]
theorem gOp_fld1 (x : Op) : (gOp x).fld 1 2 = true := by simp [gOp, GV.fld, GV.sz, gVec_sz, gVec2_sz, gStamp_sz]
theorem gOp_get1 (x : Op) (p : List Nat) : (gOp x).getT (1 :: p) = GV.getT (.s (.int .i64 x.kind)) p := by simp [gOp, GV.getT]
theorem gOp_set1 (x : Op) (v : Int) : (gOp x).setT [1] (.s (.int .i64 v)) = gOp { x with kind := v } := by simp [gOp, GV.setT, setT_nil]
theorem gOp_fld2 (x : Op) : (gOp x).fld 2 3 = true := by simp [gOp, GV.fld, GV.sz, gVec_sz, gVec2_sz, gStamp_sz]
theorem gOp_get2 (x : Op) (p : List Nat) : (gOp x).getT (2 :: p) = GV.getT (.s (.int .i64 x.node)) p := by simp [gOp, GV.getT]
theorem gOp_set2 (x : Op) (v : Int) : (gOp x).setT [2] (.s (.int .i64 v)) = gOp { x with node := v } := by simp [gOp, GV.setT, setT_nil]
theorem gOp_fld3 (x : Op) : (gOp x).fld 3 4 = true := by simp [gOp, GV.fld, GV.sz, gVec_sz, gVec2_sz, gStamp_sz]
theorem gOp_get3 (x : Op) (p : List Nat) : (gOp x).getT (3 :: p) = GV.getT (.s (.int .i64 x.parent)) p := by simp [gOp, GV.getT]
theorem gOp_set3 (x : Op) (v : Int) : (gOp x).setT [3] (.s (.int .i64 v)) = gOp { x with parent := v } := by simp [gOp, GV.setT, setT_nil]
theorem gOp_fld4 (x : Op) : (gOp x).fld 4 5 = true := by simp [gOp, GV.fld, GV.sz, gVec_sz, gVec2_sz, gStamp_sz]
theorem gOp_get4 (x : Op) (p : List Nat) : (gOp x).getT (4 :: p) = GV.getT (.s (.string x.name)) p := by simp [gOp, GV.getT]
theorem gOp_set4 (x : Op) (v : ByteArray) : (gOp x).setT [4] (.s (.string v)) = gOp { x with name := v } := by simp [gOp, GV.setT, setT_nil]
theorem gOp_fld5 (x : Op) : (gOp x).fld 5 6 = true := by simp [gOp, GV.fld, GV.sz, gVec_sz, gVec2_sz, gStamp_sz]
theorem gOp_get5 (x : Op) (p : List Nat) : (gOp x).getT (5 :: p) = GV.getT (.s (.string x.key)) p := by simp [gOp, GV.getT]
theorem gOp_set5 (x : Op) (v : ByteArray) : (gOp x).setT [5] (.s (.string v)) = gOp { x with key := v } := by simp [gOp, GV.setT, setT_nil]
theorem gOp_fld6 (x : Op) : (gOp x).fld 6 7 = true := by simp [gOp, GV.fld, GV.sz, gVec_sz, gVec2_sz, gStamp_sz]
theorem gOp_get6 (x : Op) (p : List Nat) : (gOp x).getT (6 :: p) = GV.getT (.s (.string x.value)) p := by simp [gOp, GV.getT]
theorem gOp_set6 (x : Op) (v : ByteArray) : (gOp x).setT [6] (.s (.string v)) = gOp { x with value := v } := by simp [gOp, GV.setT, setT_nil]
theorem gOp_zero : GV.c (gStamp zStamp) (.c (.s (.int .i64 0)) (.c (.s (.int .i64 0)) (.c (.s (.int .i64 0)) (.c (.s (.string ⟨#[]⟩)) (.c (.s (.string ⟨#[]⟩)) (.c (.s (.string ⟨#[]⟩)) .u)))))) = gOp zOp := by simp only [gOp, zOp]
theorem getD_gOp (l : List Op) (i : Nat) : (l.map gOp).getD i (gOp zOp) = gOp (l.getD i zOp) := by
  rw [List.getD_eq_getElem?_getD, List.getElem?_map, List.getD_eq_getElem?_getD]
  cases l[i]? <;> rfl

structure Place where
  parent : Int
  name : ByteArray
def zPlace : Place := ⟨0, ⟨#[]⟩⟩
def gPlace (x : Place) : GV := .c (.s (.int .i64 x.parent)) (.c (.s (.string x.name)) .u)
theorem gPlace_ok (x : Place) : (gPlace x).ok := ⟨rfl, rfl, trivial⟩
theorem gPlace_sz (x : Place) : (gPlace x).sz = 2 := by simp [gPlace, GV.sz, gVec_sz, gVec2_sz, gStamp_sz, gOp_sz]
theorem gPlace_fits (x : Place) : (gPlace x).fits 2 true = true := by
  show (true && (gPlace x).sz == 2) = true
  rw [gPlace_sz]; rfl
theorem gPlace_isS (x : Place) : (gPlace x).isS = false := rfl
theorem gPlace_same (x y : Place) : (gPlace x).same (gPlace y) = True := eq_true ⟨trivial, trivial, trivial⟩
theorem gPlace_fld0 (x : Place) : (gPlace x).fld 0 0 = true := by simp [gPlace, GV.fld, GV.sz, gVec_sz, gVec2_sz, gStamp_sz, gOp_sz]
theorem gPlace_get0 (x : Place) (p : List Nat) : (gPlace x).getT (0 :: p) = GV.getT (.s (.int .i64 x.parent)) p := by simp [gPlace, GV.getT]
theorem gPlace_set0 (x : Place) (v : Int) : (gPlace x).setT [0] (.s (.int .i64 v)) = gPlace { x with parent := v } := by simp [gPlace, GV.setT, setT_nil]
theorem gPlace_fld1 (x : Place) : (gPlace x).fld 1 1 = true := by simp [gPlace, GV.fld, GV.sz, gVec_sz, gVec2_sz, gStamp_sz, gOp_sz]
theorem gPlace_get1 (x : Place) (p : List Nat) : (gPlace x).getT (1 :: p) = GV.getT (.s (.string x.name)) p := by simp [gPlace, GV.getT]
theorem gPlace_set1 (x : Place) (v : ByteArray) : (gPlace x).setT [1] (.s (.string v)) = gPlace { x with name := v } := by simp [gPlace, GV.setT, setT_nil]
theorem gPlace_zero : GV.c (.s (.int .i64 0)) (.c (.s (.string ⟨#[]⟩)) .u) = gPlace zPlace := by simp only [gPlace, zPlace]
theorem getD_gPlace (l : List Place) (i : Nat) : (l.map gPlace).getD i (gPlace zPlace) = gPlace (l.getD i zPlace) := by
  rw [List.getD_eq_getElem?_getD, List.getElem?_map, List.getD_eq_getElem?_getD]
  cases l[i]? <;> rfl

structure Undo where
  of : Value
  ix : Int
  op : Op
  was : Place
  attr : ByteArray
def zUndo : Undo := ⟨(.pointer none), 0, zOp, zPlace, ⟨#[]⟩⟩
def gUndo (x : Undo) : GV := .c (.s x.of) (.c (.s (.int .i64 x.ix)) (.c (gOp x.op) (.c (gPlace x.was) (.c (.s (.string x.attr)) .u))))
theorem gUndo_ok (x : Undo) (hof : x.of.oneCell' = true) : (gUndo x).ok := ⟨(by assumption), rfl, gOp_ok _, gPlace_ok _, rfl, trivial⟩
theorem gUndo_sz (x : Undo) : (gUndo x).sz = 13 := by simp [gUndo, GV.sz, gVec_sz, gVec2_sz, gStamp_sz, gOp_sz, gPlace_sz]
theorem gUndo_fits (x : Undo) : (gUndo x).fits 13 true = true := by
  show (true && (gUndo x).sz == 13) = true
  rw [gUndo_sz]; rfl
theorem gUndo_isS (x : Undo) : (gUndo x).isS = false := rfl
theorem gUndo_same (x y : Undo) : (gUndo x).same (gUndo y) = True := eq_true ⟨trivial, trivial, (by rw [gOp_same]; trivial), (by rw [gPlace_same]; trivial), trivial, trivial⟩
theorem gUndo_fld0 (x : Undo) : (gUndo x).fld 0 0 = true := by simp [gUndo, GV.fld, GV.sz, gVec_sz, gVec2_sz, gStamp_sz, gOp_sz, gPlace_sz]
theorem gUndo_get0 (x : Undo) (p : List Nat) : (gUndo x).getT (0 :: p) = GV.getT (.s x.of) p := by simp [gUndo, GV.getT]
theorem gUndo_set0 (x : Undo) (v : Value) : (gUndo x).setT [0] (.s v) = gUndo { x with of := v } := by simp [gUndo, GV.setT, setT_nil]
theorem gUndo_fld1 (x : Undo) : (gUndo x).fld 1 1 = true := by simp [gUndo, GV.fld, GV.sz, gVec_sz, gVec2_sz, gStamp_sz, gOp_sz, gPlace_sz]
theorem gUndo_get1 (x : Undo) (p : List Nat) : (gUndo x).getT (1 :: p) = GV.getT (.s (.int .i64 x.ix)) p := by simp [gUndo, GV.getT]
theorem gUndo_set1 (x : Undo) (v : Int) : (gUndo x).setT [1] (.s (.int .i64 v)) = gUndo { x with ix := v } := by simp [gUndo, GV.setT, setT_nil]
theorem gUndo_fld2 (x : Undo) : (gUndo x).fld 2 2 = true := by simp [gUndo, GV.fld, GV.sz, gVec_sz, gVec2_sz, gStamp_sz, gOp_sz, gPlace_sz]
theorem gUndo_get2 (x : Undo) (p : List Nat) : (gUndo x).getT (2 :: p) = GV.getT (gOp x.op) p := by simp [gUndo, GV.getT]
theorem gUndo_set2 (x : Undo) (v : Op) : (gUndo x).setT [2] (gOp v) = gUndo { x with op := v } := by simp [gUndo, GV.setT, setT_nil]
theorem gUndo_fld3 (x : Undo) : (gUndo x).fld 3 10 = true := by simp [gUndo, GV.fld, GV.sz, gVec_sz, gVec2_sz, gStamp_sz, gOp_sz, gPlace_sz]
theorem gUndo_get3 (x : Undo) (p : List Nat) : (gUndo x).getT (3 :: p) = GV.getT (gPlace x.was) p := by simp [gUndo, GV.getT]
theorem gUndo_set3 (x : Undo) (v : Place) : (gUndo x).setT [3] (gPlace v) = gUndo { x with was := v } := by simp [gUndo, GV.setT, setT_nil]
theorem gUndo_fld4 (x : Undo) : (gUndo x).fld 4 12 = true := by simp [gUndo, GV.fld, GV.sz, gVec_sz, gVec2_sz, gStamp_sz, gOp_sz, gPlace_sz]
theorem gUndo_get4 (x : Undo) (p : List Nat) : (gUndo x).getT (4 :: p) = GV.getT (.s (.string x.attr)) p := by simp [gUndo, GV.getT]
theorem gUndo_set4 (x : Undo) (v : ByteArray) : (gUndo x).setT [4] (.s (.string v)) = gUndo { x with attr := v } := by simp [gUndo, GV.setT, setT_nil]
theorem gUndo_zero : GV.c (.s (.pointer none)) (.c (.s (.int .i64 0)) (.c (gOp zOp) (.c (gPlace zPlace) (.c (.s (.string ⟨#[]⟩)) .u)))) = gUndo zUndo := by simp only [gUndo, zUndo]
theorem getD_gUndo (l : List Undo) (i : Nat) : (l.map gUndo).getD i (gUndo zUndo) = gUndo (l.getD i zUndo) := by
  rw [List.getD_eq_getElem?_getD, List.getElem?_map, List.getD_eq_getElem?_getD]
  cases l[i]? <;> rfl

structure TreeNode where
  node : Int
  parent : Int
  name : ByteArray
  attrs : Value
def zTreeNode : TreeNode := ⟨0, 0, ⟨#[]⟩, (.slice none 0 0)⟩
def gTreeNode (x : TreeNode) : GV := .c (.s (.int .i64 x.node)) (.c (.s (.int .i64 x.parent)) (.c (.s (.string x.name)) (.c (.s x.attrs) .u)))
theorem gTreeNode_ok (x : TreeNode) (hattrs : x.attrs.oneCell' = true) : (gTreeNode x).ok := ⟨rfl, rfl, rfl, (by assumption), trivial⟩
theorem gTreeNode_sz (x : TreeNode) : (gTreeNode x).sz = 4 := by simp [gTreeNode, GV.sz, gVec_sz, gVec2_sz, gStamp_sz, gOp_sz, gPlace_sz, gUndo_sz]
theorem gTreeNode_fits (x : TreeNode) : (gTreeNode x).fits 4 true = true := by
  show (true && (gTreeNode x).sz == 4) = true
  rw [gTreeNode_sz]; rfl
theorem gTreeNode_isS (x : TreeNode) : (gTreeNode x).isS = false := rfl
theorem gTreeNode_same (x y : TreeNode) : (gTreeNode x).same (gTreeNode y) = True := eq_true ⟨trivial, trivial, trivial, trivial, trivial⟩
theorem gTreeNode_fld0 (x : TreeNode) : (gTreeNode x).fld 0 0 = true := by simp [gTreeNode, GV.fld, GV.sz, gVec_sz, gVec2_sz, gStamp_sz, gOp_sz, gPlace_sz, gUndo_sz]
theorem gTreeNode_get0 (x : TreeNode) (p : List Nat) : (gTreeNode x).getT (0 :: p) = GV.getT (.s (.int .i64 x.node)) p := by simp [gTreeNode, GV.getT]
theorem gTreeNode_set0 (x : TreeNode) (v : Int) : (gTreeNode x).setT [0] (.s (.int .i64 v)) = gTreeNode { x with node := v } := by simp [gTreeNode, GV.setT, setT_nil]
theorem gTreeNode_fld1 (x : TreeNode) : (gTreeNode x).fld 1 1 = true := by simp [gTreeNode, GV.fld, GV.sz, gVec_sz, gVec2_sz, gStamp_sz, gOp_sz, gPlace_sz, gUndo_sz]
theorem gTreeNode_get1 (x : TreeNode) (p : List Nat) : (gTreeNode x).getT (1 :: p) = GV.getT (.s (.int .i64 x.parent)) p := by simp [gTreeNode, GV.getT]
theorem gTreeNode_set1 (x : TreeNode) (v : Int) : (gTreeNode x).setT [1] (.s (.int .i64 v)) = gTreeNode { x with parent := v } := by simp [gTreeNode, GV.setT, setT_nil]
theorem gTreeNode_fld2 (x : TreeNode) : (gTreeNode x).fld 2 2 = true := by simp [gTreeNode, GV.fld, GV.sz, gVec_sz, gVec2_sz, gStamp_sz, gOp_sz, gPlace_sz, gUndo_sz]
theorem gTreeNode_get2 (x : TreeNode) (p : List Nat) : (gTreeNode x).getT (2 :: p) = GV.getT (.s (.string x.name)) p := by simp [gTreeNode, GV.getT]
theorem gTreeNode_set2 (x : TreeNode) (v : ByteArray) : (gTreeNode x).setT [2] (.s (.string v)) = gTreeNode { x with name := v } := by simp [gTreeNode, GV.setT, setT_nil]
theorem gTreeNode_fld3 (x : TreeNode) : (gTreeNode x).fld 3 3 = true := by simp [gTreeNode, GV.fld, GV.sz, gVec_sz, gVec2_sz, gStamp_sz, gOp_sz, gPlace_sz, gUndo_sz]
theorem gTreeNode_get3 (x : TreeNode) (p : List Nat) : (gTreeNode x).getT (3 :: p) = GV.getT (.s x.attrs) p := by simp [gTreeNode, GV.getT]
theorem gTreeNode_set3 (x : TreeNode) (v : Value) : (gTreeNode x).setT [3] (.s v) = gTreeNode { x with attrs := v } := by simp [gTreeNode, GV.setT, setT_nil]
theorem gTreeNode_zero : GV.c (.s (.int .i64 0)) (.c (.s (.int .i64 0)) (.c (.s (.string ⟨#[]⟩)) (.c (.s (.slice none 0 0)) .u))) = gTreeNode zTreeNode := by simp only [gTreeNode, zTreeNode]
theorem getD_gTreeNode (l : List TreeNode) (i : Nat) : (l.map gTreeNode).getD i (gTreeNode zTreeNode) = gTreeNode (l.getD i zTreeNode) := by
  rw [List.getD_eq_getElem?_getD, List.getElem?_map, List.getD_eq_getElem?_getD]
  cases l[i]? <;> rfl

structure Attr where
  key : ByteArray
  value : ByteArray
def zAttr : Attr := ⟨⟨#[]⟩, ⟨#[]⟩⟩
def gAttr (x : Attr) : GV := .c (.s (.string x.key)) (.c (.s (.string x.value)) .u)
theorem gAttr_ok (x : Attr) : (gAttr x).ok := ⟨rfl, rfl, trivial⟩
theorem gAttr_sz (x : Attr) : (gAttr x).sz = 2 := by simp [gAttr, GV.sz, gVec_sz, gVec2_sz, gStamp_sz, gOp_sz, gPlace_sz, gUndo_sz, gTreeNode_sz]
theorem gAttr_fits (x : Attr) : (gAttr x).fits 2 true = true := by
  show (true && (gAttr x).sz == 2) = true
  rw [gAttr_sz]; rfl
theorem gAttr_isS (x : Attr) : (gAttr x).isS = false := rfl
theorem gAttr_same (x y : Attr) : (gAttr x).same (gAttr y) = True := eq_true ⟨trivial, trivial, trivial⟩
theorem gAttr_fld0 (x : Attr) : (gAttr x).fld 0 0 = true := by simp [gAttr, GV.fld, GV.sz, gVec_sz, gVec2_sz, gStamp_sz, gOp_sz, gPlace_sz, gUndo_sz, gTreeNode_sz]
theorem gAttr_get0 (x : Attr) (p : List Nat) : (gAttr x).getT (0 :: p) = GV.getT (.s (.string x.key)) p := by simp [gAttr, GV.getT]
theorem gAttr_set0 (x : Attr) (v : ByteArray) : (gAttr x).setT [0] (.s (.string v)) = gAttr { x with key := v } := by simp [gAttr, GV.setT, setT_nil]
theorem gAttr_fld1 (x : Attr) : (gAttr x).fld 1 1 = true := by simp [gAttr, GV.fld, GV.sz, gVec_sz, gVec2_sz, gStamp_sz, gOp_sz, gPlace_sz, gUndo_sz, gTreeNode_sz]
theorem gAttr_get1 (x : Attr) (p : List Nat) : (gAttr x).getT (1 :: p) = GV.getT (.s (.string x.value)) p := by simp [gAttr, GV.getT]
theorem gAttr_set1 (x : Attr) (v : ByteArray) : (gAttr x).setT [1] (.s (.string v)) = gAttr { x with value := v } := by simp [gAttr, GV.setT, setT_nil]
theorem gAttr_zero : GV.c (.s (.string ⟨#[]⟩)) (.c (.s (.string ⟨#[]⟩)) .u) = gAttr zAttr := by simp only [gAttr, zAttr]
theorem getD_gAttr (l : List Attr) (i : Nat) : (l.map gAttr).getD i (gAttr zAttr) = gAttr (l.getD i zAttr) := by
  rw [List.getD_eq_getElem?_getD, List.getElem?_map, List.getD_eq_getElem?_getD]
  cases l[i]? <;> rfl

structure Child where
  name : ByteArray
  node : Int
def zChild : Child := ⟨⟨#[]⟩, 0⟩
def gChild (x : Child) : GV := .c (.s (.string x.name)) (.c (.s (.int .i64 x.node)) .u)
theorem gChild_ok (x : Child) : (gChild x).ok := ⟨rfl, rfl, trivial⟩
theorem gChild_sz (x : Child) : (gChild x).sz = 2 := by simp [gChild, GV.sz, gVec_sz, gVec2_sz, gStamp_sz, gOp_sz, gPlace_sz, gUndo_sz, gTreeNode_sz, gAttr_sz]
theorem gChild_fits (x : Child) : (gChild x).fits 2 true = true := by
  show (true && (gChild x).sz == 2) = true
  rw [gChild_sz]; rfl
theorem gChild_isS (x : Child) : (gChild x).isS = false := rfl
theorem gChild_same (x y : Child) : (gChild x).same (gChild y) = True := eq_true ⟨trivial, trivial, trivial⟩
theorem gChild_fld0 (x : Child) : (gChild x).fld 0 0 = true := by simp [gChild, GV.fld, GV.sz, gVec_sz, gVec2_sz, gStamp_sz, gOp_sz, gPlace_sz, gUndo_sz, gTreeNode_sz, gAttr_sz]
theorem gChild_get0 (x : Child) (p : List Nat) : (gChild x).getT (0 :: p) = GV.getT (.s (.string x.name)) p := by simp [gChild, GV.getT]
theorem gChild_set0 (x : Child) (v : ByteArray) : (gChild x).setT [0] (.s (.string v)) = gChild { x with name := v } := by simp [gChild, GV.setT, setT_nil]
theorem gChild_fld1 (x : Child) : (gChild x).fld 1 1 = true := by simp [gChild, GV.fld, GV.sz, gVec_sz, gVec2_sz, gStamp_sz, gOp_sz, gPlace_sz, gUndo_sz, gTreeNode_sz, gAttr_sz]
theorem gChild_get1 (x : Child) (p : List Nat) : (gChild x).getT (1 :: p) = GV.getT (.s (.int .i64 x.node)) p := by simp [gChild, GV.getT]
theorem gChild_set1 (x : Child) (v : Int) : (gChild x).setT [1] (.s (.int .i64 v)) = gChild { x with node := v } := by simp [gChild, GV.setT, setT_nil]
theorem gChild_zero : GV.c (.s (.string ⟨#[]⟩)) (.c (.s (.int .i64 0)) .u) = gChild zChild := by simp only [gChild, zChild]
theorem getD_gChild (l : List Child) (i : Nat) : (l.map gChild).getD i (gChild zChild) = gChild (l.getD i zChild) := by
  rw [List.getD_eq_getElem?_getD, List.getElem?_map, List.getD_eq_getElem?_getD]
  cases l[i]? <;> rfl


end Go.Proofs.Ytdpknchgoeboaaa.Vc
