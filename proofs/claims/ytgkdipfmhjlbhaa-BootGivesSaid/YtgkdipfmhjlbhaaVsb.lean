/- Parts. -/
import Derived.Test.YtgkdipfmhjlbhaaVt1
set_option linter.unusedVariables false
set_option linter.unusedSimpArgs false
namespace Go.Proofs.Ytgkdipfmhjlbhaa.Vc
open Go

structure Part where
  snap : Int
  index : Int
  many : Int
  data : Value
def zPart : Part := ⟨0, 0, 0, (.slice none 0 0)⟩
def gPart (x : Part) : GV := .c (.s (.int .i64 x.snap)) (.c (.s (.int .i64 x.index)) (.c (.s (.int .i64 x.many)) (.c (.s x.data) .u)))
theorem gPart_ok (x : Part) (hdata : x.data.oneCell' = true) : (gPart x).ok := ⟨rfl, rfl, rfl, (by assumption), trivial⟩
theorem gPart_sz (x : Part) : (gPart x).sz = 4 := by simp [gPart, GV.sz, gVec_sz, gVec2_sz]
theorem gPart_fits (x : Part) : (gPart x).fits 4 true = true := by
  show (true && (gPart x).sz == 4) = true
  rw [gPart_sz]; rfl
theorem gPart_isS (x : Part) : (gPart x).isS = false := rfl
theorem gPart_same (x y : Part) : (gPart x).same (gPart y) = True := eq_true ⟨trivial, trivial, trivial, trivial, trivial⟩
theorem gPart_fld0 (x : Part) : (gPart x).fld 0 0 = true := by simp [gPart, GV.fld, GV.sz, gVec_sz, gVec2_sz]
theorem gPart_get0 (x : Part) (p : List Nat) : (gPart x).getT (0 :: p) = GV.getT (.s (.int .i64 x.snap)) p := by simp [gPart, GV.getT]
theorem gPart_set0 (x : Part) (v : Int) : (gPart x).setT [0] (.s (.int .i64 v)) = gPart { x with snap := v } := by simp [gPart, GV.setT, setT_nil]
theorem gPart_fld1 (x : Part) : (gPart x).fld 1 1 = true := by simp [gPart, GV.fld, GV.sz, gVec_sz, gVec2_sz]
theorem gPart_get1 (x : Part) (p : List Nat) : (gPart x).getT (1 :: p) = GV.getT (.s (.int .i64 x.index)) p := by simp [gPart, GV.getT]
theorem gPart_set1 (x : Part) (v : Int) : (gPart x).setT [1] (.s (.int .i64 v)) = gPart { x with index := v } := by simp [gPart, GV.setT, setT_nil]
theorem gPart_fld2 (x : Part) : (gPart x).fld 2 2 = true := by simp [gPart, GV.fld, GV.sz, gVec_sz, gVec2_sz]
theorem gPart_get2 (x : Part) (p : List Nat) : (gPart x).getT (2 :: p) = GV.getT (.s (.int .i64 x.many)) p := by simp [gPart, GV.getT]
theorem gPart_set2 (x : Part) (v : Int) : (gPart x).setT [2] (.s (.int .i64 v)) = gPart { x with many := v } := by simp [gPart, GV.setT, setT_nil]
theorem gPart_fld3 (x : Part) : (gPart x).fld 3 3 = true := by simp [gPart, GV.fld, GV.sz, gVec_sz, gVec2_sz]
theorem gPart_get3 (x : Part) (p : List Nat) : (gPart x).getT (3 :: p) = GV.getT (.s x.data) p := by simp [gPart, GV.getT]
theorem gPart_set3 (x : Part) (v : Value) : (gPart x).setT [3] (.s v) = gPart { x with data := v } := by simp [gPart, GV.setT, setT_nil]
theorem gPart_zero : GV.c (.s (.int .i64 0)) (.c (.s (.int .i64 0)) (.c (.s (.int .i64 0)) (.c (.s (.slice none 0 0)) .u))) = gPart zPart := by simp only [gPart, zPart]
theorem getD_gPart (l : List Part) (i : Nat) : (l.map gPart).getD i (gPart zPart) = gPart (l.getD i zPart) := by
  rw [List.getD_eq_getElem?_getD, List.getElem?_map, List.getD_eq_getElem?_getD]
  cases l[i]? <;> rfl
-- simp: gPart_sz, gPart_fits, gPart_isS, gPart_same, gPart_fld0, gPart_get0, gPart_set0, gPart_fld1, gPart_get1, gPart_set1, gPart_fld2, gPart_get2, gPart_set2, gPart_fld3, gPart_get3, gPart_set3, gPart_zero, getD_gPart


end Go.Proofs.Ytgkdipfmhjlbhaa.Vc
