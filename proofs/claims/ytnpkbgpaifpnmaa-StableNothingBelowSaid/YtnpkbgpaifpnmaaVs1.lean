/- Plain structs of the world of sites. -/
import Derived.Test.YtnpkbgpaifpnmaaVt1
set_option linter.unusedVariables false
set_option linter.unusedSimpArgs false
namespace Go.Proofs.Ytnpkbgpaifpnmaa.Vc
open Go

structure Epoch where
  num : Int
  st : Nat → Int
  seals : Nat → Int
  spon : Nat → Int
def zEpoch : Epoch := ⟨0, fun _ => 0, fun _ => 0, fun _ => 0⟩
def gEpoch (x : Epoch) : GV := .c (.s (.int .i64 x.num)) (.c (gVec x.st) (.c (gVec x.seals) (.c (gVec x.spon) .u)))
theorem gEpoch_ok (x : Epoch) : (gEpoch x).ok := ⟨rfl, gVec_ok _, gVec_ok _, gVec_ok _, trivial⟩
theorem gEpoch_sz (x : Epoch) : (gEpoch x).sz = 25 := by simp [gEpoch, GV.sz, gVec_sz, gVec2_sz]
theorem gEpoch_fits (x : Epoch) : (gEpoch x).fits 25 true = true := by
  show (true && (gEpoch x).sz == 25) = true
  rw [gEpoch_sz]; rfl
theorem gEpoch_isS (x : Epoch) : (gEpoch x).isS = false := rfl
theorem gEpoch_same (x y : Epoch) : (gEpoch x).same (gEpoch y) = True := eq_true ⟨trivial, gVec_same _ _, gVec_same _ _, gVec_same _ _, trivial⟩
theorem gEpoch_fld0 (x : Epoch) : (gEpoch x).fld 0 0 = true := by simp [gEpoch, GV.fld, GV.sz, gVec_sz, gVec2_sz]
theorem gEpoch_get0 (x : Epoch) (p : List Nat) : (gEpoch x).getT (0 :: p) = GV.getT (.s (.int .i64 x.num)) p := by simp [gEpoch, GV.getT]
theorem gEpoch_set0 (x : Epoch) (v : Int) : (gEpoch x).setT [0] (.s (.int .i64 v)) = gEpoch { x with num := v } := by simp [gEpoch, GV.setT, setT_nil]
theorem gEpoch_fld1 (x : Epoch) : (gEpoch x).fld 1 1 = true := by simp [gEpoch, GV.fld, GV.sz, gVec_sz, gVec2_sz]
theorem gEpoch_get1 (x : Epoch) (p : List Nat) : (gEpoch x).getT (1 :: p) = GV.getT (gVec x.st) p := by simp [gEpoch, GV.getT]
theorem gEpoch_set1 (x : Epoch) (v : Nat → Int) : (gEpoch x).setT [1] (gVec v) = gEpoch { x with st := v } := by simp [gEpoch, GV.setT, setT_nil]
theorem gEpoch_set1e (x : Epoch) (j : Nat) (v : Int) : (gEpoch x).setT [1, j] (.s (.int .i64 v)) = gEpoch { x with st := upd x.st j v } := by simp [gEpoch, GV.setT, gVec_set]
theorem gEpoch_fld2 (x : Epoch) : (gEpoch x).fld 2 9 = true := by simp [gEpoch, GV.fld, GV.sz, gVec_sz, gVec2_sz]
theorem gEpoch_get2 (x : Epoch) (p : List Nat) : (gEpoch x).getT (2 :: p) = GV.getT (gVec x.seals) p := by simp [gEpoch, GV.getT]
theorem gEpoch_set2 (x : Epoch) (v : Nat → Int) : (gEpoch x).setT [2] (gVec v) = gEpoch { x with seals := v } := by simp [gEpoch, GV.setT, setT_nil]
theorem gEpoch_set2e (x : Epoch) (j : Nat) (v : Int) : (gEpoch x).setT [2, j] (.s (.int .i64 v)) = gEpoch { x with seals := upd x.seals j v } := by simp [gEpoch, GV.setT, gVec_set]
theorem gEpoch_fld3 (x : Epoch) : (gEpoch x).fld 3 17 = true := by simp [gEpoch, GV.fld, GV.sz, gVec_sz, gVec2_sz]
theorem gEpoch_get3 (x : Epoch) (p : List Nat) : (gEpoch x).getT (3 :: p) = GV.getT (gVec x.spon) p := by simp [gEpoch, GV.getT]
theorem gEpoch_set3 (x : Epoch) (v : Nat → Int) : (gEpoch x).setT [3] (gVec v) = gEpoch { x with spon := v } := by simp [gEpoch, GV.setT, setT_nil]
theorem gEpoch_set3e (x : Epoch) (j : Nat) (v : Int) : (gEpoch x).setT [3, j] (.s (.int .i64 v)) = gEpoch { x with spon := upd x.spon j v } := by simp [gEpoch, GV.setT, gVec_set]
theorem gEpoch_zero : GV.c (.s (.int .i64 0)) (.c (gVec (fun _ => 0)) (.c (gVec (fun _ => 0)) (.c (gVec (fun _ => 0)) .u))) = gEpoch zEpoch := by simp only [gEpoch, zEpoch]
theorem getD_gEpoch (l : List Epoch) (i : Nat) : (l.map gEpoch).getD i (gEpoch zEpoch) = gEpoch (l.getD i zEpoch) := by
  rw [List.getD_eq_getElem?_getD, List.getElem?_map, List.getD_eq_getElem?_getD]
  cases l[i]? <;> rfl
-- simp: gEpoch_sz, gEpoch_fits, gEpoch_isS, gEpoch_same, gEpoch_fld0, gEpoch_get0, gEpoch_set0, gEpoch_fld1, gEpoch_get1, gEpoch_set1, gEpoch_set1e, gEpoch_fld2, gEpoch_get2, gEpoch_set2, gEpoch_set2e, gEpoch_fld3, gEpoch_get3, gEpoch_set3, gEpoch_set3e, gEpoch_zero, getD_gEpoch

structure Stamp where
  time : Int
  site : Int
def zStamp : Stamp := ⟨0, 0⟩
def gStamp (x : Stamp) : GV := .c (.s (.int .i64 x.time)) (.c (.s (.int .i64 x.site)) .u)
theorem gStamp_ok (x : Stamp) : (gStamp x).ok := ⟨rfl, rfl, trivial⟩
theorem gStamp_sz (x : Stamp) : (gStamp x).sz = 2 := by simp [gStamp, GV.sz, gVec_sz, gVec2_sz, gEpoch_sz]
theorem gStamp_fits (x : Stamp) : (gStamp x).fits 2 true = true := by
  show (true && (gStamp x).sz == 2) = true
  rw [gStamp_sz]; rfl
theorem gStamp_isS (x : Stamp) : (gStamp x).isS = false := rfl
theorem gStamp_same (x y : Stamp) : (gStamp x).same (gStamp y) = True := eq_true ⟨trivial, trivial, trivial⟩
theorem gStamp_fld0 (x : Stamp) : (gStamp x).fld 0 0 = true := by simp [gStamp, GV.fld, GV.sz, gVec_sz, gVec2_sz, gEpoch_sz]
theorem gStamp_get0 (x : Stamp) (p : List Nat) : (gStamp x).getT (0 :: p) = GV.getT (.s (.int .i64 x.time)) p := by simp [gStamp, GV.getT]
theorem gStamp_set0 (x : Stamp) (v : Int) : (gStamp x).setT [0] (.s (.int .i64 v)) = gStamp { x with time := v } := by simp [gStamp, GV.setT, setT_nil]
theorem gStamp_fld1 (x : Stamp) : (gStamp x).fld 1 1 = true := by simp [gStamp, GV.fld, GV.sz, gVec_sz, gVec2_sz, gEpoch_sz]
theorem gStamp_get1 (x : Stamp) (p : List Nat) : (gStamp x).getT (1 :: p) = GV.getT (.s (.int .i64 x.site)) p := by simp [gStamp, GV.getT]
theorem gStamp_set1 (x : Stamp) (v : Int) : (gStamp x).setT [1] (.s (.int .i64 v)) = gStamp { x with site := v } := by simp [gStamp, GV.setT, setT_nil]
theorem gStamp_zero : GV.c (.s (.int .i64 0)) (.c (.s (.int .i64 0)) .u) = gStamp zStamp := by simp only [gStamp, zStamp]
theorem getD_gStamp (l : List Stamp) (i : Nat) : (l.map gStamp).getD i (gStamp zStamp) = gStamp (l.getD i zStamp) := by
  rw [List.getD_eq_getElem?_getD, List.getElem?_map, List.getD_eq_getElem?_getD]
  cases l[i]? <;> rfl
-- simp: gStamp_sz, gStamp_fits, gStamp_isS, gStamp_same, gStamp_fld0, gStamp_get0, gStamp_set0, gStamp_fld1, gStamp_get1, gStamp_set1, gStamp_zero, getD_gStamp

structure Op where
  stamp : Stamp
  kind : Int
  node : Int
  parent : Int
  name : ByteArray
  key : ByteArray
  value : ByteArray
def zOp : Op := ⟨zStamp, 0, 0, 0, ⟨#[]⟩, ⟨#[]⟩, ⟨#[]⟩⟩
def gOp (x : Op) : GV := .c (gStamp x.stamp) (.c (.s (.int .i64 x.kind)) (.c (.s (.int .i64 x.node)) (.c (.s (.int .i64 x.parent)) (.c (.s (.string x.name)) (.c (.s (.string x.key)) (.c (.s (.string x.value)) .u))))))
theorem gOp_ok (x : Op) : (gOp x).ok := ⟨gStamp_ok _, rfl, rfl, rfl, rfl, rfl, rfl, trivial⟩
theorem gOp_sz (x : Op) : (gOp x).sz = 8 := by simp [gOp, GV.sz, gVec_sz, gVec2_sz, gEpoch_sz, gStamp_sz]
theorem gOp_fits (x : Op) : (gOp x).fits 8 true = true := by
  show (true && (gOp x).sz == 8) = true
  rw [gOp_sz]; rfl
theorem gOp_isS (x : Op) : (gOp x).isS = false := rfl
theorem gOp_same (x y : Op) : (gOp x).same (gOp y) = True := eq_true ⟨(by rw [gStamp_same]; trivial), trivial, trivial, trivial, trivial, trivial, trivial, trivial⟩
theorem gOp_fld0 (x : Op) : (gOp x).fld 0 0 = true := by simp [gOp, GV.fld, GV.sz, gVec_sz, gVec2_sz, gEpoch_sz, gStamp_sz]
theorem gOp_get0 (x : Op) (p : List Nat) : (gOp x).getT (0 :: p) = GV.getT (gStamp x.stamp) p := by simp [gOp, GV.getT]
theorem gOp_set0 (x : Op) (v : Stamp) : (gOp x).setT [0] (gStamp v) = gOp { x with stamp := v } := by simp [gOp, GV.setT, setT_nil]
theorem gOp_fld1 (x : Op) : (gOp x).fld 1 2 = true := by simp [gOp, GV.fld, GV.sz, gVec_sz, gVec2_sz, gEpoch_sz, gStamp_sz]
theorem gOp_get1 (x : Op) (p : List Nat) : (gOp x).getT (1 :: p) = GV.getT (.s (.int .i64 x.kind)) p := by simp [gOp, GV.getT]
theorem gOp_set1 (x : Op) (v : Int) : (gOp x).setT [1] (.s (.int .i64 v)) = gOp { x with kind := v } := by simp [gOp, GV.setT, setT_nil]
theorem gOp_fld2 (x : Op) : (gOp x).fld 2 3 = true := by simp [gOp, GV.fld, GV.sz, gVec_sz, gVec2_sz, gEpoch_sz, gStamp_sz]
theorem gOp_get2 (x : Op) (p : List Nat) : (gOp x).getT (2 :: p) = GV.getT (.s (.int .i64 x.node)) p := by simp [gOp, GV.getT]
theorem gOp_set2 (x : Op) (v : Int) : (gOp x).setT [2] (.s (.int .i64 v)) = gOp { x with node := v } := by simp [gOp, GV.setT, setT_nil]
theorem gOp_fld3 (x : Op) : (gOp x).fld 3 4 = true := by simp [gOp, GV.fld, GV.sz, gVec_sz, gVec2_sz, gEpoch_sz, gStamp_sz]
theorem gOp_get3 (x : Op) (p : List Nat) : (gOp x).getT (3 :: p) = GV.getT (.s (.int .i64 x.parent)) p := by simp [gOp, GV.getT]
theorem gOp_set3 (x : Op) (v : Int) : (gOp x).setT [3] (.s (.int .i64 v)) = gOp { x with parent := v } := by simp [gOp, GV.setT, setT_nil]
theorem gOp_fld4 (x : Op) : (gOp x).fld 4 5 = true := by simp [gOp, GV.fld, GV.sz, gVec_sz, gVec2_sz, gEpoch_sz, gStamp_sz]
theorem gOp_get4 (x : Op) (p : List Nat) : (gOp x).getT (4 :: p) = GV.getT (.s (.string x.name)) p := by simp [gOp, GV.getT]
theorem gOp_set4 (x : Op) (v : ByteArray) : (gOp x).setT [4] (.s (.string v)) = gOp { x with name := v } := by simp [gOp, GV.setT, setT_nil]
theorem gOp_fld5 (x : Op) : (gOp x).fld 5 6 = true := by simp [gOp, GV.fld, GV.sz, gVec_sz, gVec2_sz, gEpoch_sz, gStamp_sz]
theorem gOp_get5 (x : Op) (p : List Nat) : (gOp x).getT (5 :: p) = GV.getT (.s (.string x.key)) p := by simp [gOp, GV.getT]
theorem gOp_set5 (x : Op) (v : ByteArray) : (gOp x).setT [5] (.s (.string v)) = gOp { x with key := v } := by simp [gOp, GV.setT, setT_nil]
theorem gOp_fld6 (x : Op) : (gOp x).fld 6 7 = true := by simp [gOp, GV.fld, GV.sz, gVec_sz, gVec2_sz, gEpoch_sz, gStamp_sz]
theorem gOp_get6 (x : Op) (p : List Nat) : (gOp x).getT (6 :: p) = GV.getT (.s (.string x.value)) p := by simp [gOp, GV.getT]
theorem gOp_set6 (x : Op) (v : ByteArray) : (gOp x).setT [6] (.s (.string v)) = gOp { x with value := v } := by simp [gOp, GV.setT, setT_nil]
theorem gOp_zero : GV.c (gStamp zStamp) (.c (.s (.int .i64 0)) (.c (.s (.int .i64 0)) (.c (.s (.int .i64 0)) (.c (.s (.string ⟨#[]⟩)) (.c (.s (.string ⟨#[]⟩)) (.c (.s (.string ⟨#[]⟩)) .u)))))) = gOp zOp := by simp only [gOp, zOp]
theorem getD_gOp (l : List Op) (i : Nat) : (l.map gOp).getD i (gOp zOp) = gOp (l.getD i zOp) := by
  rw [List.getD_eq_getElem?_getD, List.getElem?_map, List.getD_eq_getElem?_getD]
  cases l[i]? <;> rfl
-- simp: gOp_sz, gOp_fits, gOp_isS, gOp_same, gOp_fld0, gOp_get0, gOp_set0, gOp_fld1, gOp_get1, gOp_set1, gOp_fld2, gOp_get2, gOp_set2, gOp_fld3, gOp_get3, gOp_set3, gOp_fld4, gOp_get4, gOp_set4, gOp_fld5, gOp_get5, gOp_set5, gOp_fld6, gOp_get6, gOp_set6, gOp_zero, getD_gOp

structure View where
  epoch : Epoch
  self : Int
  vector : Nat → Int
  told : Nat → Int
  clocks : Nat → Int
  sure : Nat → Int
  clock : Int
  known : Nat → Nat → Int
def zView : View := ⟨zEpoch, 0, fun _ => 0, fun _ => 0, fun _ => 0, fun _ => 0, 0, fun _ _ => 0⟩
def gView (x : View) : GV := .c (gEpoch x.epoch) (.c (.s (.int .i64 x.self)) (.c (gVec x.vector) (.c (gVec x.told) (.c (gVec x.clocks) (.c (gVec x.sure) (.c (.s (.int .i64 x.clock)) (.c (gVec2 x.known) .u)))))))
theorem gView_ok (x : View) : (gView x).ok := ⟨gEpoch_ok _, rfl, gVec_ok _, gVec_ok _, gVec_ok _, gVec_ok _, rfl, gVec2_ok _, trivial⟩
theorem gView_sz (x : View) : (gView x).sz = 123 := by simp [gView, GV.sz, gVec_sz, gVec2_sz, gEpoch_sz, gStamp_sz, gOp_sz]
theorem gView_fits (x : View) : (gView x).fits 123 true = true := by
  show (true && (gView x).sz == 123) = true
  rw [gView_sz]; rfl
theorem gView_isS (x : View) : (gView x).isS = false := rfl
theorem gView_same (x y : View) : (gView x).same (gView y) = True := eq_true ⟨(by rw [gEpoch_same]; trivial), trivial, gVec_same _ _, gVec_same _ _, gVec_same _ _, gVec_same _ _, trivial, gVec2_same _ _, trivial⟩
theorem gView_fld0 (x : View) : (gView x).fld 0 0 = true := by simp [gView, GV.fld, GV.sz, gVec_sz, gVec2_sz, gEpoch_sz, gStamp_sz, gOp_sz]
theorem gView_get0 (x : View) (p : List Nat) : (gView x).getT (0 :: p) = GV.getT (gEpoch x.epoch) p := by simp [gView, GV.getT]
theorem gView_set0 (x : View) (v : Epoch) : (gView x).setT [0] (gEpoch v) = gView { x with epoch := v } := by simp [gView, GV.setT, setT_nil]
theorem gView_fld1 (x : View) : (gView x).fld 1 25 = true := by simp [gView, GV.fld, GV.sz, gVec_sz, gVec2_sz, gEpoch_sz, gStamp_sz, gOp_sz]
theorem gView_get1 (x : View) (p : List Nat) : (gView x).getT (1 :: p) = GV.getT (.s (.int .i64 x.self)) p := by simp [gView, GV.getT]
theorem gView_set1 (x : View) (v : Int) : (gView x).setT [1] (.s (.int .i64 v)) = gView { x with self := v } := by simp [gView, GV.setT, setT_nil]
theorem gView_fld2 (x : View) : (gView x).fld 2 26 = true := by simp [gView, GV.fld, GV.sz, gVec_sz, gVec2_sz, gEpoch_sz, gStamp_sz, gOp_sz]
theorem gView_get2 (x : View) (p : List Nat) : (gView x).getT (2 :: p) = GV.getT (gVec x.vector) p := by simp [gView, GV.getT]
theorem gView_set2 (x : View) (v : Nat → Int) : (gView x).setT [2] (gVec v) = gView { x with vector := v } := by simp [gView, GV.setT, setT_nil]
theorem gView_set2e (x : View) (j : Nat) (v : Int) : (gView x).setT [2, j] (.s (.int .i64 v)) = gView { x with vector := upd x.vector j v } := by simp [gView, GV.setT, gVec_set]
theorem gView_fld3 (x : View) : (gView x).fld 3 34 = true := by simp [gView, GV.fld, GV.sz, gVec_sz, gVec2_sz, gEpoch_sz, gStamp_sz, gOp_sz]
theorem gView_get3 (x : View) (p : List Nat) : (gView x).getT (3 :: p) = GV.getT (gVec x.told) p := by simp [gView, GV.getT]
theorem gView_set3 (x : View) (v : Nat → Int) : (gView x).setT [3] (gVec v) = gView { x with told := v } := by simp [gView, GV.setT, setT_nil]
theorem gView_set3e (x : View) (j : Nat) (v : Int) : (gView x).setT [3, j] (.s (.int .i64 v)) = gView { x with told := upd x.told j v } := by simp [gView, GV.setT, gVec_set]
theorem gView_fld4 (x : View) : (gView x).fld 4 42 = true := by simp [gView, GV.fld, GV.sz, gVec_sz, gVec2_sz, gEpoch_sz, gStamp_sz, gOp_sz]
theorem gView_get4 (x : View) (p : List Nat) : (gView x).getT (4 :: p) = GV.getT (gVec x.clocks) p := by simp [gView, GV.getT]
theorem gView_set4 (x : View) (v : Nat → Int) : (gView x).setT [4] (gVec v) = gView { x with clocks := v } := by simp [gView, GV.setT, setT_nil]
theorem gView_set4e (x : View) (j : Nat) (v : Int) : (gView x).setT [4, j] (.s (.int .i64 v)) = gView { x with clocks := upd x.clocks j v } := by simp [gView, GV.setT, gVec_set]
theorem gView_fld5 (x : View) : (gView x).fld 5 50 = true := by simp [gView, GV.fld, GV.sz, gVec_sz, gVec2_sz, gEpoch_sz, gStamp_sz, gOp_sz]
theorem gView_get5 (x : View) (p : List Nat) : (gView x).getT (5 :: p) = GV.getT (gVec x.sure) p := by simp [gView, GV.getT]
theorem gView_set5 (x : View) (v : Nat → Int) : (gView x).setT [5] (gVec v) = gView { x with sure := v } := by simp [gView, GV.setT, setT_nil]
theorem gView_set5e (x : View) (j : Nat) (v : Int) : (gView x).setT [5, j] (.s (.int .i64 v)) = gView { x with sure := upd x.sure j v } := by simp [gView, GV.setT, gVec_set]
theorem gView_fld6 (x : View) : (gView x).fld 6 58 = true := by simp [gView, GV.fld, GV.sz, gVec_sz, gVec2_sz, gEpoch_sz, gStamp_sz, gOp_sz]
theorem gView_get6 (x : View) (p : List Nat) : (gView x).getT (6 :: p) = GV.getT (.s (.int .i64 x.clock)) p := by simp [gView, GV.getT]
theorem gView_set6 (x : View) (v : Int) : (gView x).setT [6] (.s (.int .i64 v)) = gView { x with clock := v } := by simp [gView, GV.setT, setT_nil]
theorem gView_fld7 (x : View) : (gView x).fld 7 59 = true := by simp [gView, GV.fld, GV.sz, gVec_sz, gVec2_sz, gEpoch_sz, gStamp_sz, gOp_sz]
theorem gView_get7 (x : View) (p : List Nat) : (gView x).getT (7 :: p) = GV.getT (gVec2 x.known) p := by simp [gView, GV.getT]
theorem gView_set7 (x : View) (v : Nat → Nat → Int) : (gView x).setT [7] (gVec2 v) = gView { x with known := v } := by simp [gView, GV.setT, setT_nil]
theorem gView_zero : GV.c (gEpoch zEpoch) (.c (.s (.int .i64 0)) (.c (gVec (fun _ => 0)) (.c (gVec (fun _ => 0)) (.c (gVec (fun _ => 0)) (.c (gVec (fun _ => 0)) (.c (.s (.int .i64 0)) (.c (gVec2 (fun _ _ => 0)) .u))))))) = gView zView := by simp only [gView, zView]
theorem getD_gView (l : List View) (i : Nat) : (l.map gView).getD i (gView zView) = gView (l.getD i zView) := by
  rw [List.getD_eq_getElem?_getD, List.getElem?_map, List.getD_eq_getElem?_getD]
  cases l[i]? <;> rfl
-- simp: gView_sz, gView_fits, gView_isS, gView_same, gView_fld0, gView_get0, gView_set0, gView_fld1, gView_get1, gView_set1, gView_fld2, gView_get2, gView_set2, gView_set2e, gView_fld3, gView_get3, gView_set3, gView_set3e, gView_fld4, gView_get4, gView_set4, gView_set4e, gView_fld5, gView_get5, gView_set5, gView_set5e, gView_fld6, gView_get6, gView_set6, gView_fld7, gView_get7, gView_set7, gView_zero, getD_gView

structure Event where
  act : Int
  site : Int
  step : Int
  many : Int
def zEvent : Event := ⟨0, 0, 0, 0⟩
def gEvent (x : Event) : GV := .c (.s (.int .i64 x.act)) (.c (.s (.int .i64 x.site)) (.c (.s (.int .i64 x.step)) (.c (.s (.int .i64 x.many)) .u)))
theorem gEvent_ok (x : Event) : (gEvent x).ok := ⟨rfl, rfl, rfl, rfl, trivial⟩
theorem gEvent_sz (x : Event) : (gEvent x).sz = 4 := by simp [gEvent, GV.sz, gVec_sz, gVec2_sz, gEpoch_sz, gStamp_sz, gOp_sz, gView_sz]
theorem gEvent_fits (x : Event) : (gEvent x).fits 4 true = true := by
  show (true && (gEvent x).sz == 4) = true
  rw [gEvent_sz]; rfl
theorem gEvent_isS (x : Event) : (gEvent x).isS = false := rfl
theorem gEvent_same (x y : Event) : (gEvent x).same (gEvent y) = True := eq_true ⟨trivial, trivial, trivial, trivial, trivial⟩
theorem gEvent_fld0 (x : Event) : (gEvent x).fld 0 0 = true := by simp [gEvent, GV.fld, GV.sz, gVec_sz, gVec2_sz, gEpoch_sz, gStamp_sz, gOp_sz, gView_sz]
theorem gEvent_get0 (x : Event) (p : List Nat) : (gEvent x).getT (0 :: p) = GV.getT (.s (.int .i64 x.act)) p := by simp [gEvent, GV.getT]
theorem gEvent_set0 (x : Event) (v : Int) : (gEvent x).setT [0] (.s (.int .i64 v)) = gEvent { x with act := v } := by simp [gEvent, GV.setT, setT_nil]
theorem gEvent_fld1 (x : Event) : (gEvent x).fld 1 1 = true := by simp [gEvent, GV.fld, GV.sz, gVec_sz, gVec2_sz, gEpoch_sz, gStamp_sz, gOp_sz, gView_sz]
theorem gEvent_get1 (x : Event) (p : List Nat) : (gEvent x).getT (1 :: p) = GV.getT (.s (.int .i64 x.site)) p := by simp [gEvent, GV.getT]
theorem gEvent_set1 (x : Event) (v : Int) : (gEvent x).setT [1] (.s (.int .i64 v)) = gEvent { x with site := v } := by simp [gEvent, GV.setT, setT_nil]
theorem gEvent_fld2 (x : Event) : (gEvent x).fld 2 2 = true := by simp [gEvent, GV.fld, GV.sz, gVec_sz, gVec2_sz, gEpoch_sz, gStamp_sz, gOp_sz, gView_sz]
theorem gEvent_get2 (x : Event) (p : List Nat) : (gEvent x).getT (2 :: p) = GV.getT (.s (.int .i64 x.step)) p := by simp [gEvent, GV.getT]
theorem gEvent_set2 (x : Event) (v : Int) : (gEvent x).setT [2] (.s (.int .i64 v)) = gEvent { x with step := v } := by simp [gEvent, GV.setT, setT_nil]
theorem gEvent_fld3 (x : Event) : (gEvent x).fld 3 3 = true := by simp [gEvent, GV.fld, GV.sz, gVec_sz, gVec2_sz, gEpoch_sz, gStamp_sz, gOp_sz, gView_sz]
theorem gEvent_get3 (x : Event) (p : List Nat) : (gEvent x).getT (3 :: p) = GV.getT (.s (.int .i64 x.many)) p := by simp [gEvent, GV.getT]
theorem gEvent_set3 (x : Event) (v : Int) : (gEvent x).setT [3] (.s (.int .i64 v)) = gEvent { x with many := v } := by simp [gEvent, GV.setT, setT_nil]
theorem gEvent_zero : GV.c (.s (.int .i64 0)) (.c (.s (.int .i64 0)) (.c (.s (.int .i64 0)) (.c (.s (.int .i64 0)) .u))) = gEvent zEvent := by simp only [gEvent, zEvent]
theorem getD_gEvent (l : List Event) (i : Nat) : (l.map gEvent).getD i (gEvent zEvent) = gEvent (l.getD i zEvent) := by
  rw [List.getD_eq_getElem?_getD, List.getElem?_map, List.getD_eq_getElem?_getD]
  cases l[i]? <;> rfl
-- simp: gEvent_sz, gEvent_fits, gEvent_isS, gEvent_same, gEvent_fld0, gEvent_get0, gEvent_set0, gEvent_fld1, gEvent_get1, gEvent_set1, gEvent_fld2, gEvent_get2, gEvent_set2, gEvent_fld3, gEvent_get3, gEvent_set3, gEvent_zero, getD_gEvent


end Go.Proofs.Ytnpkbgpaifpnmaa.Vc
