/- Plain data and their trees. -/
import Derived.Test.YtdpknchgoeboaaaVc10
set_option linter.unusedVariables false
set_option linter.unusedSimpArgs false
namespace Go.Proofs.Ytdpknchgoeboaaa.Vc
open Go

theorem wrap64 {x : Int} (h1 : -9223372036854775808 ≤ x) (h2 : x ≤ 9223372036854775807) : IntKind.i64.wrap x = x := by
  simp only [IntKind.wrap, IntKind.bits, IntKind.signed]
  have : (2 : Int) ^ 64 = 18446744073709551616 := by decide
  have : (2 : Int) ^ 63 = 9223372036854775808 := by decide
  by_cases h : 0 ≤ x
  · have h3 : x % 18446744073709551616 = x := Int.emod_eq_of_lt h (by omega)
    simp_all
    try omega
  · have h3 : x % 18446744073709551616 = x + 18446744073709551616 := by omega
    simp_all
    try omega
theorem wrap_s {x : Int} (h1 : -9223372036854775808 ≤ x ∧ x ≤ 9223372036854775806) : IntKind.i64.wrap (x + 1) = x + 1 := wrap64 (by omega) (by omega)
theorem wrap_n {n : Nat} (h : n < 9223372036854775807) : IntKind.i64.wrap ((n : Int) + 1) = ((n + 1 : Nat) : Int) := by rw [wrap64 (by omega) (by omega)]; rfl

theorem fits_s (v : Value) (n : Nat) (b : Bool) : GV.fits (.s v) n b = !b := rfl
theorem fits_c (h t : GV) (n : Nat) (b : Bool) : GV.fits (.c h t) n b = (b && (GV.sz (.c h t) == n)) := rfl
theorem fits_ar (k e : Nat) (f : Nat → GV) (n : Nat) (b : Bool) : GV.fits (.ar k e f) n b = (b && (GV.sz (.ar k e f) == n)) := rfl
theorem arr_ar (k e : Nat) (f : Nat → GV) (m d : Nat) : GV.arr (.ar k e f) m d = (k == m && e == d) := rfl

/-! ### Numbers -/
def gi (n : Int) : GV := .s (.int .i64 n)
theorem getD_gi (l : List Int) (i : Nat) : (l.map gi).getD i (gi 0) = .s (.int .i64 (l.getD i 0)) := by
  rw [List.getD_eq_getElem?_getD, List.getElem?_map, List.getD_eq_getElem?_getD]
  cases l[i]? <;> rfl
theorem gi_mk (n : Int) : GV.s (.int .i64 n) = gi n := rfl
theorem gi_ok (n : Int) : (gi n).ok := rfl
theorem gs_ok (v : Value) (h : v.oneCell' = true) : (GV.s v).ok := h
theorem gb_ok (b : Bool) : (GV.s (.bool b)).ok := rfl

/-! ### Eight numbers -/
def upd {α : Type} (f : Nat → α) (j : Nat) (x : α) : Nat → α := fun k => if k = j then x else f k
def gVec (f : Nat → Int) : GV := .ar 8 1 fun j => .s (.int .i64 (f j))
theorem gVec_ok (f : Nat → Int) : (gVec f).ok := by intro j _; exact ⟨rfl, rfl⟩
theorem gVec_get (f : Nat → Int) (j : Nat) : (gVec f).getT [j] = .s (.int .i64 (f j)) := by simp [gVec, GV.getT]
theorem gVec_set (f : Nat → Int) (j : Nat) (x : Int) : (gVec f).setT [j] (.s (.int .i64 x)) = gVec (upd f j x) := by
  simp only [gVec, GV.setT]
  congr 1
  funext k
  simp only [upd]
  split <;> rfl
theorem gVec_arr (f : Nat → Int) : (gVec f).arr 8 1 = true := rfl
theorem gVec_fits (f : Nat → Int) : (gVec f).fits 8 true = true := rfl
theorem gVec_sz (f : Nat → Int) : (gVec f).sz = 8 := rfl
theorem gVec_same (f g : Nat → Int) : (gVec f).same (gVec g) := ⟨rfl, rfl, fun _ _ => trivial⟩
theorem gVec_zero : GV.ar 8 1 (fun _ => .s (.int .i64 0)) = gVec fun _ => 0 := rfl
theorem gVec_isS (f : Nat → Int) : (gVec f).isS = false := rfl

theorem getT_nil (g : GV) : g.getT [] = g := by cases g <;> rfl
theorem get_nil (g : GV) : g.get [] = some g := by cases g <;> rfl
theorem setT_nil (g x : GV) : g.setT [] x = x := by cases g <;> rfl

def gVec2 (f : Nat → Nat → Int) : GV := .ar 8 8 fun j => gVec (f j)
theorem gVec2_ok (f : Nat → Nat → Int) : (gVec2 f).ok := by intro j _; exact ⟨gVec_ok _, rfl⟩
theorem gVec2_get (f : Nat → Nat → Int) (j : Nat) (p : List Nat) : (gVec2 f).getT (j :: p) = (gVec (f j)).getT p := by simp [gVec2, GV.getT]
theorem gVec2_arr (f : Nat → Nat → Int) : (gVec2 f).arr 8 8 = true := rfl
theorem gVec2_fits (f : Nat → Nat → Int) : (gVec2 f).fits 64 true = true := rfl
theorem gVec2_sz (f : Nat → Nat → Int) : (gVec2 f).sz = 64 := rfl
theorem gVec2_same (f g : Nat → Nat → Int) : (gVec2 f).same (gVec2 g) := ⟨rfl, rfl, fun _ _ => gVec_same _ _⟩
theorem gVec2_zero : GV.ar 8 8 (fun _ => gVec fun _ => 0) = gVec2 fun _ _ => 0 := rfl
theorem gVec_sameT (f g : Nat → Int) : (gVec f).same (gVec g) = True := eq_true (gVec_same f g)
theorem gVec2_sameT (f g : Nat → Nat → Int) : (gVec2 f).same (gVec2 g) = True := eq_true (gVec2_same f g)
theorem same_int (k k' : IntKind) (x y : Int) : GV.same (.s (.int k x)) (.s (.int k' y)) = True := eq_true trivial
theorem gVec2_set (f : Nat → Nat → Int) (j k : Nat) (x : Int) : (gVec2 f).setT [j, k] (.s (.int .i64 x)) = gVec2 (upd f j (upd (f j) k x)) := by
  simp only [gVec2, GV.setT]
  congr 1
  funext i
  by_cases h : i = j
  · subst h
    have := gVec_set (f i) k x
    simp only [upd, if_true]
    simpa [upd] using this
  · simp only [upd, h, if_false]

/-! ### Lists -/
theorem take_s {α : Type} (l : List α) (i : Nat) (d : α) (h : i < l.length) : l.take (i + 1) = l.take i ++ [l.getD i d] := by
  rw [List.take_add_one, List.getD_eq_getElem?_getD, List.getElem?_eq_getElem h]
  rfl

end Go.Proofs.Ytdpknchgoeboaaa.Vc
