/- What the laws of boot take. -/
import Derived.Test.YtgkdipfmhjlbhaaVt1
set_option linter.unusedVariables false
set_option linter.unusedSimpArgs false
namespace Go.Proofs.Ytgkdipfmhjlbhaa.Vc
open Go

structure LGift where
  data : Value
  number : Int
  asked : Int
  from_ : Int
  limit : Int
def zLGift : LGift := ⟨(.slice none 0 0), 0, 0, 0, 0⟩
def gLGift (x : LGift) : GV := .c (.s x.data) (.c (.s (.int .i64 x.number)) (.c (.s (.int .i64 x.asked)) (.c (.s (.int .i64 x.from_)) (.c (.s (.int .i64 x.limit)) .u))))
theorem gLGift_ok (x : LGift) (hdata : x.data.oneCell' = true) : (gLGift x).ok := ⟨(by assumption), rfl, rfl, rfl, rfl, trivial⟩
theorem gLGift_sz (x : LGift) : (gLGift x).sz = 5 := by simp [gLGift, GV.sz, gVec_sz, gVec2_sz]
theorem gLGift_fits (x : LGift) : (gLGift x).fits 5 true = true := by
  show (true && (gLGift x).sz == 5) = true
  rw [gLGift_sz]; rfl
theorem gLGift_isS (x : LGift) : (gLGift x).isS = false := rfl
theorem gLGift_same (x y : LGift) : (gLGift x).same (gLGift y) = True := eq_true ⟨trivial, trivial, trivial, trivial, trivial, trivial⟩
theorem gLGift_fld0 (x : LGift) : (gLGift x).fld 0 0 = true := by simp [gLGift, GV.fld, GV.sz, gVec_sz, gVec2_sz]
theorem gLGift_get0 (x : LGift) (p : List Nat) : (gLGift x).getT (0 :: p) = GV.getT (.s x.data) p := by simp [gLGift, GV.getT]
theorem gLGift_set0 (x : LGift) (v : Value) : (gLGift x).setT [0] (.s v) = gLGift { x with data := v } := by simp [gLGift, GV.setT, setT_nil]
theorem gLGift_fld1 (x : LGift) : (gLGift x).fld 1 1 = true := by simp [gLGift, GV.fld, GV.sz, gVec_sz, gVec2_sz]
theorem gLGift_get1 (x : LGift) (p : List Nat) : (gLGift x).getT (1 :: p) = GV.getT (.s (.int .i64 x.number)) p := by simp [gLGift, GV.getT]
theorem gLGift_set1 (x : LGift) (v : Int) : (gLGift x).setT [1] (.s (.int .i64 v)) = gLGift { x with number := v } := by simp [gLGift, GV.setT, setT_nil]
theorem gLGift_fld2 (x : LGift) : (gLGift x).fld 2 2 = true := by simp [gLGift, GV.fld, GV.sz, gVec_sz, gVec2_sz]
theorem gLGift_get2 (x : LGift) (p : List Nat) : (gLGift x).getT (2 :: p) = GV.getT (.s (.int .i64 x.asked)) p := by simp [gLGift, GV.getT]
theorem gLGift_set2 (x : LGift) (v : Int) : (gLGift x).setT [2] (.s (.int .i64 v)) = gLGift { x with asked := v } := by simp [gLGift, GV.setT, setT_nil]
theorem gLGift_fld3 (x : LGift) : (gLGift x).fld 3 3 = true := by simp [gLGift, GV.fld, GV.sz, gVec_sz, gVec2_sz]
theorem gLGift_get3 (x : LGift) (p : List Nat) : (gLGift x).getT (3 :: p) = GV.getT (.s (.int .i64 x.from_)) p := by simp [gLGift, GV.getT]
theorem gLGift_set3 (x : LGift) (v : Int) : (gLGift x).setT [3] (.s (.int .i64 v)) = gLGift { x with from_ := v } := by simp [gLGift, GV.setT, setT_nil]
theorem gLGift_fld4 (x : LGift) : (gLGift x).fld 4 4 = true := by simp [gLGift, GV.fld, GV.sz, gVec_sz, gVec2_sz]
theorem gLGift_get4 (x : LGift) (p : List Nat) : (gLGift x).getT (4 :: p) = GV.getT (.s (.int .i64 x.limit)) p := by simp [gLGift, GV.getT]
theorem gLGift_set4 (x : LGift) (v : Int) : (gLGift x).setT [4] (.s (.int .i64 v)) = gLGift { x with limit := v } := by simp [gLGift, GV.setT, setT_nil]
theorem gLGift_zero : GV.c (.s (.slice none 0 0)) (.c (.s (.int .i64 0)) (.c (.s (.int .i64 0)) (.c (.s (.int .i64 0)) (.c (.s (.int .i64 0)) .u)))) = gLGift zLGift := by simp only [gLGift, zLGift]
theorem getD_gLGift (l : List LGift) (i : Nat) : (l.map gLGift).getD i (gLGift zLGift) = gLGift (l.getD i zLGift) := by
  rw [List.getD_eq_getElem?_getD, List.getElem?_map, List.getD_eq_getElem?_getD]
  cases l[i]? <;> rfl
-- simp: gLGift_sz, gLGift_fits, gLGift_isS, gLGift_same, gLGift_fld0, gLGift_get0, gLGift_set0, gLGift_fld1, gLGift_get1, gLGift_set1, gLGift_fld2, gLGift_get2, gLGift_set2, gLGift_fld3, gLGift_get3, gLGift_set3, gLGift_fld4, gLGift_get4, gLGift_set4, gLGift_zero, getD_gLGift

structure Fresh where
  one : Value
  two : Value
  a : Int
  b : Int
def zFresh : Fresh := ⟨(.slice none 0 0), (.slice none 0 0), 0, 0⟩
def gFresh (x : Fresh) : GV := .c (.s x.one) (.c (.s x.two) (.c (.s (.int .i64 x.a)) (.c (.s (.int .i64 x.b)) .u)))
theorem gFresh_ok (x : Fresh) (hone : x.one.oneCell' = true) (htwo : x.two.oneCell' = true) : (gFresh x).ok := ⟨(by assumption), (by assumption), rfl, rfl, trivial⟩
theorem gFresh_sz (x : Fresh) : (gFresh x).sz = 4 := by simp [gFresh, GV.sz, gVec_sz, gVec2_sz, gLGift_sz]
theorem gFresh_fits (x : Fresh) : (gFresh x).fits 4 true = true := by
  show (true && (gFresh x).sz == 4) = true
  rw [gFresh_sz]; rfl
theorem gFresh_isS (x : Fresh) : (gFresh x).isS = false := rfl
theorem gFresh_same (x y : Fresh) : (gFresh x).same (gFresh y) = True := eq_true ⟨trivial, trivial, trivial, trivial, trivial⟩
theorem gFresh_fld0 (x : Fresh) : (gFresh x).fld 0 0 = true := by simp [gFresh, GV.fld, GV.sz, gVec_sz, gVec2_sz, gLGift_sz]
theorem gFresh_get0 (x : Fresh) (p : List Nat) : (gFresh x).getT (0 :: p) = GV.getT (.s x.one) p := by simp [gFresh, GV.getT]
theorem gFresh_set0 (x : Fresh) (v : Value) : (gFresh x).setT [0] (.s v) = gFresh { x with one := v } := by simp [gFresh, GV.setT, setT_nil]
theorem gFresh_fld1 (x : Fresh) : (gFresh x).fld 1 1 = true := by simp [gFresh, GV.fld, GV.sz, gVec_sz, gVec2_sz, gLGift_sz]
theorem gFresh_get1 (x : Fresh) (p : List Nat) : (gFresh x).getT (1 :: p) = GV.getT (.s x.two) p := by simp [gFresh, GV.getT]
theorem gFresh_set1 (x : Fresh) (v : Value) : (gFresh x).setT [1] (.s v) = gFresh { x with two := v } := by simp [gFresh, GV.setT, setT_nil]
theorem gFresh_fld2 (x : Fresh) : (gFresh x).fld 2 2 = true := by simp [gFresh, GV.fld, GV.sz, gVec_sz, gVec2_sz, gLGift_sz]
theorem gFresh_get2 (x : Fresh) (p : List Nat) : (gFresh x).getT (2 :: p) = GV.getT (.s (.int .i64 x.a)) p := by simp [gFresh, GV.getT]
theorem gFresh_set2 (x : Fresh) (v : Int) : (gFresh x).setT [2] (.s (.int .i64 v)) = gFresh { x with a := v } := by simp [gFresh, GV.setT, setT_nil]
theorem gFresh_fld3 (x : Fresh) : (gFresh x).fld 3 3 = true := by simp [gFresh, GV.fld, GV.sz, gVec_sz, gVec2_sz, gLGift_sz]
theorem gFresh_get3 (x : Fresh) (p : List Nat) : (gFresh x).getT (3 :: p) = GV.getT (.s (.int .i64 x.b)) p := by simp [gFresh, GV.getT]
theorem gFresh_set3 (x : Fresh) (v : Int) : (gFresh x).setT [3] (.s (.int .i64 v)) = gFresh { x with b := v } := by simp [gFresh, GV.setT, setT_nil]
theorem gFresh_zero : GV.c (.s (.slice none 0 0)) (.c (.s (.slice none 0 0)) (.c (.s (.int .i64 0)) (.c (.s (.int .i64 0)) .u))) = gFresh zFresh := by simp only [gFresh, zFresh]
theorem getD_gFresh (l : List Fresh) (i : Nat) : (l.map gFresh).getD i (gFresh zFresh) = gFresh (l.getD i zFresh) := by
  rw [List.getD_eq_getElem?_getD, List.getElem?_map, List.getD_eq_getElem?_getD]
  cases l[i]? <;> rfl
-- simp: gFresh_sz, gFresh_fits, gFresh_isS, gFresh_same, gFresh_fld0, gFresh_get0, gFresh_set0, gFresh_fld1, gFresh_get1, gFresh_set1, gFresh_fld2, gFresh_get2, gFresh_set2, gFresh_fld3, gFresh_get3, gFresh_set3, gFresh_zero, getD_gFresh

structure Case where
  data : Value
  number : Int
  limit : Int
  lost : Value
def zCase : Case := ⟨(.slice none 0 0), 0, 0, (.slice none 0 0)⟩
def gCase (x : Case) : GV := .c (.s x.data) (.c (.s (.int .i64 x.number)) (.c (.s (.int .u8 x.limit)) (.c (.s x.lost) .u)))
theorem gCase_ok (x : Case) (hdata : x.data.oneCell' = true) (hlost : x.lost.oneCell' = true) : (gCase x).ok := ⟨(by assumption), rfl, rfl, (by assumption), trivial⟩
theorem gCase_sz (x : Case) : (gCase x).sz = 4 := by simp [gCase, GV.sz, gVec_sz, gVec2_sz, gLGift_sz, gFresh_sz]
theorem gCase_fits (x : Case) : (gCase x).fits 4 true = true := by
  show (true && (gCase x).sz == 4) = true
  rw [gCase_sz]; rfl
theorem gCase_isS (x : Case) : (gCase x).isS = false := rfl
theorem gCase_same (x y : Case) : (gCase x).same (gCase y) = True := eq_true ⟨trivial, trivial, trivial, trivial, trivial⟩
theorem gCase_fld0 (x : Case) : (gCase x).fld 0 0 = true := by simp [gCase, GV.fld, GV.sz, gVec_sz, gVec2_sz, gLGift_sz, gFresh_sz]
theorem gCase_get0 (x : Case) (p : List Nat) : (gCase x).getT (0 :: p) = GV.getT (.s x.data) p := by simp [gCase, GV.getT]
theorem gCase_set0 (x : Case) (v : Value) : (gCase x).setT [0] (.s v) = gCase { x with data := v } := by simp [gCase, GV.setT, setT_nil]
theorem gCase_fld1 (x : Case) : (gCase x).fld 1 1 = true := by simp [gCase, GV.fld, GV.sz, gVec_sz, gVec2_sz, gLGift_sz, gFresh_sz]
theorem gCase_get1 (x : Case) (p : List Nat) : (gCase x).getT (1 :: p) = GV.getT (.s (.int .i64 x.number)) p := by simp [gCase, GV.getT]
theorem gCase_set1 (x : Case) (v : Int) : (gCase x).setT [1] (.s (.int .i64 v)) = gCase { x with number := v } := by simp [gCase, GV.setT, setT_nil]
theorem gCase_fld2 (x : Case) : (gCase x).fld 2 2 = true := by simp [gCase, GV.fld, GV.sz, gVec_sz, gVec2_sz, gLGift_sz, gFresh_sz]
theorem gCase_get2 (x : Case) (p : List Nat) : (gCase x).getT (2 :: p) = GV.getT (.s (.int .u8 x.limit)) p := by simp [gCase, GV.getT]
theorem gCase_set2 (x : Case) (v : Int) : (gCase x).setT [2] (.s (.int .u8 v)) = gCase { x with limit := v } := by simp [gCase, GV.setT, setT_nil]
theorem gCase_fld3 (x : Case) : (gCase x).fld 3 3 = true := by simp [gCase, GV.fld, GV.sz, gVec_sz, gVec2_sz, gLGift_sz, gFresh_sz]
theorem gCase_get3 (x : Case) (p : List Nat) : (gCase x).getT (3 :: p) = GV.getT (.s x.lost) p := by simp [gCase, GV.getT]
theorem gCase_set3 (x : Case) (v : Value) : (gCase x).setT [3] (.s v) = gCase { x with lost := v } := by simp [gCase, GV.setT, setT_nil]
theorem gCase_zero : GV.c (.s (.slice none 0 0)) (.c (.s (.int .i64 0)) (.c (.s (.int .u8 0)) (.c (.s (.slice none 0 0)) .u))) = gCase zCase := by simp only [gCase, zCase]
theorem getD_gCase (l : List Case) (i : Nat) : (l.map gCase).getD i (gCase zCase) = gCase (l.getD i zCase) := by
  rw [List.getD_eq_getElem?_getD, List.getElem?_map, List.getD_eq_getElem?_getD]
  cases l[i]? <;> rfl
-- simp: gCase_sz, gCase_fits, gCase_isS, gCase_same, gCase_fld0, gCase_get0, gCase_set0, gCase_fld1, gCase_get1, gCase_set1, gCase_fld2, gCase_get2, gCase_set2, gCase_fld3, gCase_get3, gCase_set3, gCase_zero, getD_gCase


end Go.Proofs.Ytgkdipfmhjlbhaa.Vc
