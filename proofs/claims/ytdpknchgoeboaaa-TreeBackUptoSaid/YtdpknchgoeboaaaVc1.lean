/- A verified symbolic executor for cut Go code: values as trees, code with its types resolved, and what is to be shown of it. Definitions. -/
import Derived.WalkKit
import Derived.KernelRfl
import Derived.Deep.Quiet
import Derived.StillTail
import Derived.Scope
import Derived.Maps.RangeRun
set_option linter.unusedVariables false
namespace Go.Proofs.Ytdpknchgoeboaaa.Vc
open Go

/-! ### Values as trees -/
inductive GV where
  | s (v : Value)
  | u
  | c (h t : GV)
  | ar (n e : Nat) (f : Nat → GV)

namespace GV
def flat : GV → List Value
  | s v => [v]
  | u => []
  | c h t => flat h ++ flat t
  | ar n _ f => (List.range n).flatMap fun j => flat (f j)

def sz : GV → Nat
  | s _ => 1
  | u => 0
  | c h t => sz h + sz t
  | ar n e _ => n * e

def ok : GV → Prop
  | s v => v.oneCell' = true
  | u => True
  | c h t => ok h ∧ ok t
  | ar n e f => ∀ j, j < n → ok (f j) ∧ sz (f j) = e

def val : GV → Value
  | s v => v
  | g => .agg (flat g).toArray

def get : GV → List Nat → Option GV
  | g, [] => some g
  | c h _, 0 :: p => get h p
  | c _ t, (i + 1) :: p => get t (i :: p)
  | ar n _ f, j :: p => if j < n then get (f j) p else none
  | _, _ => none

def offs : GV → List Nat → Nat
  | _, [] => 0
  | c h _, 0 :: p => offs h p
  | c h t, (i + 1) :: p => sz h + offs t (i :: p)
  | ar _ e f, j :: p => j * e + offs (f j) p
  | _, _ => 0

def set : GV → List Nat → GV → Option GV
  | _, [], x => some x
  | c h t, 0 :: p, x => (set h p x).map fun h' => c h' t
  | c h t, (i + 1) :: p, x => (set t (i :: p) x).map fun t' => c h t'
  | ar n e f, j :: p, x => if j < n then (set (f j) p x).map fun y => ar n e fun k => if k = j then y else f k else none
  | _, _, _ => none

def getT : GV → List Nat → GV
  | g, [] => g
  | c h _, 0 :: p => getT h p
  | c _ t, (i + 1) :: p => getT t (i :: p)
  | ar _ _ f, j :: p => getT (f j) p
  | _, _ => u

def setT : GV → List Nat → GV → GV
  | _, [], x => x
  | c h t, 0 :: p, x => c (setT h p x) t
  | c h t, (i + 1) :: p, x => c h (setT t (i :: p) x)
  | ar n e f, j :: p, x => ar n e fun k => if k = j then setT (f j) p x else f k
  | g, _, _ => g

/-- Two trees of one form. -/
def same : GV → GV → Prop
  | s _, s _ => True
  | u, u => True
  | c h t, c h' t' => same h h' ∧ same t t'
  | ar n e f, ar n' e' f' => n = n' ∧ e = e' ∧ ∀ j, j < n → same (f j) (f' j)
  | _, _ => False

/-- What a load of so many cells (a struct or an array: agg) gives. -/
def fits : GV → Nat → Bool → Bool
  | s _, _, agg => !agg
  | g, n, agg => agg && sz g == n

/-- The field i, so many cells behind the beginning. -/
def fld : GV → Nat → Nat → Bool
  | c _ _, 0, o => o == 0
  | c h t, i + 1, o => decide (sz h ≤ o) && fld t i (o - sz h)
  | _, _, _ => false

/-- An array of n elements of e cells. -/
def arr : GV → Nat → Nat → Bool
  | ar n e _, m, d => n == m && e == d
  | _, _, _ => false

def isS : GV → Bool
  | s _ => true
  | _ => false

/-- A literal: parts put into zero. -/
def bldT : GV → List Nat → List GV → GV
  | g, i :: is, x :: xs => bldT (setT g [i] x) is xs
  | g, _, _ => g
def bldC : GV → List Nat → List GV → Prop
  | g, i :: is, x :: xs => (get g [i]).isSome = true ∧ same x (getT g [i]) ∧ bldC (setT g [i] x) is xs
  | _, [], [] => True
  | _, _, _ => False
end GV

/-! ### The code, its types resolved -/
inductive Opd where
  | t (n : Nat)
  | c (v : Value)

inductive RO where
  | mv (x : Opd)
  | pick (c a b : Opd)
  | box (e : TypeId) (x : Opd)
  | new (e : TypeId) (z : GV)
  | fldA (x : Opd) (i off : Nat)
  | idxA (x i : Opd) (n esz : Nat)
  | idxS (x i : Opd) (esz : Nat)
  | ld (x : Opd) (sz : Nat) (agg : Bool)
  | st (x v : Opd) (sz : Nat)
  | fldV (x : Opd) (i off sz : Nat) (agg : Bool)
  | idxV (x i : Opd) (n esz : Nat) (agg : Bool)
  | bin (op : BinOp) (x y : Opd)
  | un (op : UnOp) (x : Opd)
  | call (f : Nat) (args : List Opd)
  | len (x : Opd)
  | lenS (x : Opd)
  | mnx (isMax : Bool) (x y : Opd)
  | bldS (e : TypeId) (esz : Nat) (df : GV) (parts : List Opd)
  | bld (z : GV) (parts : List (Nat × Opd))
  | app (e : TypeId) (esz bytes : Nat) (df : GV) (x y : Opd)
  | sl (z : Nat) (x : Opd) (lo hi : Option Opd)
  | ext (x : Opd) (i : Nat)
  | mkf (f : Nat) (caps : List Opd)
  | callV (x : Opd) (args : List Opd)
  | nilc (x : Opd)
  | strI (x i : Opd)
  | slS (x : Opd) (lo hi : Option Opd)
  | cvI (k : IntKind) (x : Opd)
  | eqA (neq : Bool) (t : TypeId) (x y : Opd)
  | b2s (x : Opd)
  | capS (x : Opd)
  | mks (e : TypeId) (esz bytes : Nat) (df : GV) (n c : Opd)
  | appZ (e : TypeId) (esz bytes : Nat) (df : GV) (x n : Opd)
  | mkm
  | mlk (kd : Option IntKind) (x i : Opd) (z : Value) (ok : Bool)
  | mup (kd : Option IntKind) (x i v : Opd)
  | mdl (kd : Option IntKind) (x i : Opd)
  | mln (kd : Option IntKind) (x : Opd)
  | rng (kd : Option IntKind) (x : Opd)
  | nxt (x : Opd)
  | ent (x : Opd)
  | s2b (e : TypeId) (x : Opd)
  | gh
  | bot

structure Seg where
  guard : Option (Nat × Bool)
  ops : List (Option Nat × RO)

/-- Operations in whatever orders they may come up. -/
inductive OT where
  | done
  | bad
  | op (s : Seg) (t : OT)
  | or (a b : OT)
  | first (s : Seg) (t : OT)
  | held (ts : List Nat) (t : OT)

inductive Cd where
  | skip
  | ret
  | exit (id : Nat)
  | seq (a b : Cd)
  | ite (c : Opd) (a b : Cd)
  | block (id : Nat) (a : Cd)
  | loop (a : Cd)
  | scope (a : Cd)
  | rg (segs : List Seg) (keep : List Nat)
  | rgq (head tail : List Seg) (keep : List Nat)
  | rga (t : OT) (keep : List Nat)
  | gh (a : Cd)
  | raw (c : Code)

/-! ### States -/
abbrev PH := Nat → Option Obj
def PH.le (u : PH) (w : World) : Prop := ∀ k o, u k = some o → w.heap[k]? = some o
def PH.no : PH := fun _ => none
def _root_.Go.World.ph (w : World) : PH := fun k => w.heap[k]?

/-- What a slot holds: a value; a place in a variable of the call's own; n elements of a row, from o on; a place in an element of a row; results; nothing ('undef'); what nobody knows. -/
inductive SV where
  | g (x : GV)
  | ref (k : Nat) (p : List Nat)
  | row (k o n : Nat)
  | rref (k i : Nat) (p : List Nat)
  | tup (xs : List GV)
  | no
  | any

/-- A variable of the call's own; a row of its own; a row that is only read (df: what is read where there is no element: never). -/
inductive PV where
  | box (g : GV)
  | row (e : TypeId) (esz : Nat) (df : GV) (xs : List GV)
  | ro (esz : Nat) (df : GV) (xs : List GV)

structure SS where
  fr : List (Nat × SV)
  pv : List (Nat × PV)
  ph : List PH
  m : PH

def look {α : Type} : List (Nat × α) → Nat → Option α
  | [], _ => none
  | (k, x) :: l, t => if t = k then some x else look l t

def updL {α : Type} : List (Nat × α) → Nat → α → List (Nat × α)
  | [], t, y => [(t, y)]
  | (k, x) :: l, t, y => if t = k then (k, y) :: l else (k, x) :: updL l t y

def SS.put (σ : SS) (d : Option Nat) (x : SV) : SS :=
  match d with
  | some t => { σ with fr := (t, x) :: σ.fr }
  | none => σ

def SV.mentions (k : Nat) : SV → Bool
  | .ref j _ => j == k
  | .row j _ _ => j == k
  | .rref j _ _ => j == k
  | _ => false

/-- Without the slots that speak of k. -/
def kill (k : Nat) : List (Nat × SV) → List (Nat × SV)
  | [] => []
  | (t, x) :: l => bif x.mentions k then (t, .any) :: kill k l else (t, x) :: kill k l

def ev (σ : SS) : Opd → Option SV
  | .t n => look σ.fr n
  | .c v => bif v.oneCell' then some (.g (.s v)) else none

def keepL (fr : List (Nat × SV)) : List Nat → List (Nat × SV)
  | [] => []
  | t :: ts => match look fr t with
    | some x => (t, x) :: keepL fr ts
    | none => keepL fr ts

def SS.keep (σ : SS) (l : List Nat) : SS := { σ with fr := keepL σ.fr l }

end Go.Proofs.Ytdpknchgoeboaaa.Vc
