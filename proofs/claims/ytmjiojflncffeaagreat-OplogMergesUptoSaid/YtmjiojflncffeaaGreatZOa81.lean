/- Part 1 of what a law of this seat rests on. -/
import Derived.WalkKit
import Derived.KernelRfl
import Derived.Deep.Quiet
import Derived.StillTail
import Derived.Scope
import Derived.Maps.RangeRun
import Derived.Laws.BytesString
/- A verified symbolic executor for cut Go code: values as trees, code with its types resolved, and what is to be shown of it. Definitions. -/
set_option linter.unusedVariables false
namespace Go.Proofs.YtmjiojflncffeaaGreat.Vc
open Go

/-! ### Values as trees -/
inductive GV where
  | s (v : Value)
  | u
  | c (h t : GV)
  | ar (n e : Nat) (f : Nat → GV)

namespace GV
def flat : GV → List Value
  | s v => [v]
  | u => []
  | c h t => flat h ++ flat t
  | ar n _ f => (List.range n).flatMap fun j => flat (f j)

def sz : GV → Nat
  | s _ => 1
  | u => 0
  | c h t => sz h + sz t
  | ar n e _ => n * e

def ok : GV → Prop
  | s v => v.oneCell' = true
  | u => True
  | c h t => ok h ∧ ok t
  | ar n e f => ∀ j, j < n → ok (f j) ∧ sz (f j) = e

def val : GV → Value
  | s v => v
  | g => .agg (flat g).toArray

def get : GV → List Nat → Option GV
  | g, [] => some g
  | c h _, 0 :: p => get h p
  | c _ t, (i + 1) :: p => get t (i :: p)
  | ar n _ f, j :: p => if j < n then get (f j) p else none
  | _, _ => none

def offs : GV → List Nat → Nat
  | _, [] => 0
  | c h _, 0 :: p => offs h p
  | c h t, (i + 1) :: p => sz h + offs t (i :: p)
  | ar _ e f, j :: p => j * e + offs (f j) p
  | _, _ => 0

def set : GV → List Nat → GV → Option GV
  | _, [], x => some x
  | c h t, 0 :: p, x => (set h p x).map fun h' => c h' t
  | c h t, (i + 1) :: p, x => (set t (i :: p) x).map fun t' => c h t'
  | ar n e f, j :: p, x => if j < n then (set (f j) p x).map fun y => ar n e fun k => if k = j then y else f k else none
  | _, _, _ => none

def getT : GV → List Nat → GV
  | g, [] => g
  | c h _, 0 :: p => getT h p
  | c _ t, (i + 1) :: p => getT t (i :: p)
  | ar _ _ f, j :: p => getT (f j) p
  | _, _ => u

def setT : GV → List Nat → GV → GV
  | _, [], x => x
  | c h t, 0 :: p, x => c (setT h p x) t
  | c h t, (i + 1) :: p, x => c h (setT t (i :: p) x)
  | ar n e f, j :: p, x => ar n e fun k => if k = j then setT (f j) p x else f k
  | g, _, _ => g

/-- Two trees of one form. -/
def same : GV → GV → Prop
  | s _, s _ => True
  | u, u => True
  | c h t, c h' t' => same h h' ∧ same t t'
  | ar n e f, ar n' e' f' => n = n' ∧ e = e' ∧ ∀ j, j < n → same (f j) (f' j)
  | _, _ => False

/-- What a load of so many cells (a struct or an array: agg) gives. -/
def fits : GV → Nat → Bool → Bool
  | s _, _, agg => !agg
  | g, n, agg => agg && sz g == n

/-- The field i, so many cells behind the beginning. -/
def fld : GV → Nat → Nat → Bool
  | c _ _, 0, o => o == 0
  | c h t, i + 1, o => decide (sz h ≤ o) && fld t i (o - sz h)
  | _, _, _ => false

/-- An array of n elements of e cells. -/
def arr : GV → Nat → Nat → Bool
  | ar n e _, m, d => n == m && e == d
  | _, _, _ => false

def isS : GV → Bool
  | s _ => true
  | _ => false

/-- A literal: parts put into zero. -/
def bldT : GV → List Nat → List GV → GV
  | g, i :: is, x :: xs => bldT (setT g [i] x) is xs
  | g, _, _ => g
def bldC : GV → List Nat → List GV → Prop
  | g, i :: is, x :: xs => (get g [i]).isSome = true ∧ same x (getT g [i]) ∧ bldC (setT g [i] x) is xs
  | _, [], [] => True
  | _, _, _ => False
end GV

/-! ### The code, its types resolved -/
inductive Opd where
  | t (n : Nat)
  | c (v : Value)

inductive RO where
  | mv (x : Opd)
  | pick (c a b : Opd)
  | box (e : TypeId) (x : Opd)
  | new (e : TypeId) (z : GV)
  | fldA (x : Opd) (i off : Nat)
  | idxA (x i : Opd) (n esz : Nat)
  | idxS (x i : Opd) (esz : Nat)
  | ld (x : Opd) (sz : Nat) (agg : Bool)
  | st (x v : Opd) (sz : Nat)
  | fldV (x : Opd) (i off sz : Nat) (agg : Bool)
  | idxV (x i : Opd) (n esz : Nat) (agg : Bool)
  | bin (op : BinOp) (x y : Opd)
  | un (op : UnOp) (x : Opd)
  | call (f : Nat) (args : List Opd)
  | len (x : Opd)
  | lenS (x : Opd)
  | mnx (isMax : Bool) (x y : Opd)
  | bldS (e : TypeId) (esz : Nat) (df : GV) (parts : List Opd)
  | bld (z : GV) (parts : List (Nat × Opd))
  | app (e : TypeId) (esz bytes : Nat) (df : GV) (x y : Opd)
  | sl (z : Nat) (x : Opd) (lo hi : Option Opd)
  | ext (x : Opd) (i : Nat)
  | mkf (f : Nat) (caps : List Opd)
  | callV (x : Opd) (args : List Opd)
  | nilc (x : Opd)
  | strI (x i : Opd)
  | slS (x : Opd) (lo hi : Option Opd)
  | cvI (k : IntKind) (x : Opd)
  | eqA (neq : Bool) (t : TypeId) (x y : Opd)
  | b2s (x : Opd)
  | capS (x : Opd)
  | mks (e : TypeId) (esz bytes : Nat) (df : GV) (n c : Opd)
  | appZ (e : TypeId) (esz bytes : Nat) (df : GV) (x n : Opd)
  | mkm
  | mlk (kd : Option IntKind) (x i : Opd) (z : Value) (ok : Bool)
  | mup (kd : Option IntKind) (x i v : Opd)
  | mdl (kd : Option IntKind) (x i : Opd)
  | mln (kd : Option IntKind) (x : Opd)
  | mlk2 (x i : Opd) (z : Value) (ok : Bool)
  | mup2 (x i v : Opd)
  | men2 (x i : Opd) (z : Value)
  | mes2 (x s v : Opd)
  | mlkG (x i : Opd) (z : GV) (ok : Bool)
  | mupG (x i v : Opd)
  | mlnG (x : Opd)
  | rng (kd : Option IntKind) (x : Opd)
  | nxt (x : Opd)
  | ent (x : Opd)
  | s2b (e : TypeId) (x : Opd)
  | gh
  | bot

structure Seg where
  guard : Option (Nat × Bool)
  ops : List (Option Nat × RO)

/-- Operations in whatever orders they may come up. -/
inductive OT where
  | done
  | bad
  | op (s : Seg) (t : OT)
  | or (a b : OT)
  | first (s : Seg) (t : OT)
  | held (ts : List Nat) (t : OT)
  | gh (t : OT)
  | heldF (ts : List Nat) (t : OT)

inductive Cd where
  | skip
  | ret
  | exit (id : Nat)
  | seq (a b : Cd)
  | ite (c : Opd) (a b : Cd)
  | block (id : Nat) (a : Cd)
  | loop (a : Cd)
  | scope (a : Cd)
  | rg (segs : List Seg) (keep : List Nat)
  | rgq (head tail : List Seg) (keep : List Nat)
  | rga (t : OT) (keep : List Nat)
  | gh (a : Cd)
  | raw (c : Code)

/-! ### States -/
abbrev PH := Nat → Option Obj
def PH.le (u : PH) (w : World) : Prop := ∀ k o, u k = some o → w.heap[k]? = some o
def PH.no : PH := fun _ => none
def _root_.Go.World.ph (w : World) : PH := fun k => w.heap[k]?

/-- What a slot holds: a value; a place in a variable of the call's own; n elements of a row, from o on; a place in an element of a row; results; nothing ('undef'); what nobody knows. -/
inductive SV where
  | g (x : GV)
  | ref (k : Nat) (p : List Nat)
  | row (k o n : Nat)
  | rref (k i : Nat) (p : List Nat)
  | tup (xs : List GV)
  | no
  | any

/-- A variable of the call's own; a row of its own; a row that is only read (df: what is read where there is no element: never). -/
inductive PV where
  | box (g : GV)
  | row (e : TypeId) (esz : Nat) (df : GV) (xs : List GV)
  | ro (esz : Nat) (df : GV) (xs : List GV)

structure SS where
  fr : List (Nat × SV)
  pv : List (Nat × PV)
  ph : List PH
  m : PH

def look {α : Type} : List (Nat × α) → Nat → Option α
  | [], _ => none
  | (k, x) :: l, t => if t = k then some x else look l t

def updL {α : Type} : List (Nat × α) → Nat → α → List (Nat × α)
  | [], t, y => [(t, y)]
  | (k, x) :: l, t, y => if t = k then (k, y) :: l else (k, x) :: updL l t y

def SS.put (σ : SS) (d : Option Nat) (x : SV) : SS :=
  match d with
  | some t => { σ with fr := (t, x) :: σ.fr }
  | none => σ

def SV.mentions (k : Nat) : SV → Bool
  | .ref j _ => j == k
  | .row j _ _ => j == k
  | .rref j _ _ => j == k
  | _ => false

/-- Without the slots that speak of k. -/
def kill (k : Nat) : List (Nat × SV) → List (Nat × SV)
  | [] => []
  | (t, x) :: l => bif x.mentions k then (t, .any) :: kill k l else (t, x) :: kill k l

def ev (σ : SS) : Opd → Option SV
  | .t n => look σ.fr n
  | .c v => bif v.oneCell' then some (.g (.s v)) else none

def keepL (fr : List (Nat × SV)) : List Nat → List (Nat × SV)
  | [] => []
  | t :: ts => match look fr t with
    | some x => (t, x) :: keepL fr ts
    | none => keepL fr ts

def SS.keep (σ : SS) (l : List Nat) : SS := { σ with fr := keepL σ.fr l }

end Go.Proofs.YtmjiojflncffeaaGreat.Vc

/- Trees: what is read and written at a path is read and written at a place of the flat cells. -/
set_option linter.unusedVariables false
set_option linter.unusedSimpArgs false
namespace Go.Proofs.YtmjiojflncffeaaGreat.Vc
open Go
namespace GV

theorem flatMap_len {α : Type} (n e : Nat) (F : Nat → List α) (h : ∀ j, j < n → (F j).length = e) : ((List.range n).flatMap F).length = n * e := by
  induction n with
  | zero => simp
  | succ n ih => rw [List.range_succ, List.flatMap_append, List.length_append, ih fun j hj => h j (by omega)]; simp [h n (by omega), Nat.succ_mul]

theorem flat_len : ∀ (g : GV), g.ok → (flat g).length = sz g
  | s _, _ => rfl
  | u, _ => rfl
  | c h t, ⟨a, b⟩ => by simp [flat, sz, flat_len h a, flat_len t b]
  | ar n e f, h => by
    simp only [flat, sz]
    exact flatMap_len n e _ fun j hj => by rw [flat_len (f j) (h j hj).1, (h j hj).2]

theorem flat_one : ∀ (g : GV), g.ok → ∀ v ∈ flat g, v.oneCell' = true
  | s w, h, v, hv => by simp [flat] at hv; subst hv; exact h
  | u, _, v, hv => by simp [flat] at hv
  | c h t, ⟨a, b⟩, v, hv => by
    simp [flat] at hv
    exact hv.elim (flat_one h a v) (flat_one t b v)
  | ar n e f, h, v, hv => by
    simp [flat] at hv
    obtain ⟨j, hj, hv⟩ := hv
    exact flat_one (f j) (h j hj).1 v hv

theorem flatMap_same {α β : Type} (l : List α) (F G : α → List β) (h : ∀ x ∈ l, F x = G x) : l.flatMap F = l.flatMap G := by
  induction l with
  | nil => rfl
  | cons x l ih => simp only [List.flatMap_cons]; rw [h x (by simp), ih fun y hy => h y (by simp [hy])]

theorem range_split (n j : Nat) (hj : j < n) : List.range n = List.range j ++ (j :: (List.range' (j + 1) (n - j - 1))) := by
  rw [List.range_eq_range', List.range_eq_range']
  have h1 : n = j + (1 + (n - j - 1)) := by omega
  conv => lhs; rw [h1, ← List.range'_append_1]
  rw [← List.range'_append_1 (s := 0 + j) (m := 1)]
  simp [List.range'_one]

theorem get_at : ∀ (g : GV) (p : List Nat) (y : GV), g.ok → get g p = some y → y.ok ∧ ∃ pre post, flat g = pre ++ (flat y ++ post) ∧ pre.length = offs g p
  | g, [], y, h, e => by
    have e' : g = y := by cases g <;> simpa [get] using e
    subst e'
    exact ⟨h, [], [], by simp, by cases g <;> simp [offs]⟩
  | s _, _ :: _, y, _, e => by simp [get] at e
  | u, _ :: _, y, _, e => by simp [get] at e
  | c h t, 0 :: p, y, ⟨a, b⟩, e => by
    obtain ⟨h1, pre, post, h2, h3⟩ := get_at h p y a (by simpa [get] using e)
    exact ⟨h1, pre, post ++ flat t, by simp [flat, h2], by simpa [offs] using h3⟩
  | c h t, (i + 1) :: p, y, ⟨a, b⟩, e => by
    obtain ⟨h1, pre, post, h2, h3⟩ := get_at t (i :: p) y b (by simpa [get] using e)
    exact ⟨h1, flat h ++ pre, post, by simp [flat, h2], by simp [offs, h3, flat_len h a]⟩
  | ar n d f, j :: p, y, h, e => by
    simp only [get] at e
    split at e
    · rename_i hj
      obtain ⟨h1, pre, post, h2, h3⟩ := get_at (f j) p y (h j hj).1 e
      refine ⟨h1, ((List.range j).flatMap fun k => flat (f k)) ++ pre, post ++ ((List.range' (j + 1) (n - j - 1)).flatMap fun k => flat (f k)), ?_, ?_⟩
      · simp [flat, range_split n j hj, h2]
      · rw [List.length_append, h3, flatMap_len j d _ fun k hk => by rw [flat_len (f k) (h k (by omega)).1, (h k (by omega)).2]]
        simp [offs]
    · cases e

theorem same_refl : ∀ (g : GV), same g g
  | s _ => trivial
  | u => trivial
  | c h t => ⟨same_refl h, same_refl t⟩
  | ar _ _ f => ⟨rfl, rfl, fun j _ => same_refl (f j)⟩

theorem same_sz : ∀ (g h : GV), same g h → sz g = sz h
  | s _, s _, _ => rfl
  | u, u, _ => rfl
  | c h t, c h' t', ⟨a, b⟩ => by simp [sz, same_sz h h' a, same_sz t t' b]
  | ar n e f, ar n' e' f', ⟨a, b, _⟩ => by simp [sz, a, b]
  | s _, u, h | s _, c _ _, h | s _, ar _ _ _, h | u, s _, h | u, c _ _, h | u, ar _ _ _, h | c _ _, s _, h | c _ _, u, h | c _ _, ar _ _ _, h | ar _ _ _, s _, h | ar _ _ _, u, h | ar _ _ _, c _ _, h => h.elim

theorem same_get : ∀ (g h : GV) (p : List Nat) (y : GV), same g h → get g p = some y → offs g p = offs h p ∧ ∃ z, get h p = some z ∧ same y z
  | g, h, [], y, hs, e => by
    have e' : g = y := by cases g <;> simpa [get] using e
    exact ⟨by cases g <;> cases h <;> rfl, h, by cases h <;> rfl, e' ▸ hs⟩
  | s _, _, _ :: _, y, _, e => by simp [get] at e
  | u, _, _ :: _, y, _, e => by simp [get] at e
  | c h t, c h' t', 0 :: p, y, ⟨a, b⟩, e => by simpa [get, offs] using same_get h h' p y a (by simpa [get] using e)
  | c h t, c h' t', (i + 1) :: p, y, ⟨a, b⟩, e => by
    have := same_get t t' (i :: p) y b (by simpa [get] using e)
    simpa [get, offs, same_sz h h' a] using this
  | ar n e f, ar n' e' f', j :: p, y, ⟨a, b, hs⟩, he => by
    subst a; subst b
    by_cases hj : j < n
    · have := same_get (f j) (f' j) p y (hs j hj) (by simpa [get, hj] using he)
      simpa [get, offs, hj] using this
    · simp [get, hj] at he
  | c _ _, s _, _ :: _, y, h, _ => h.elim
  | c _ _, u, _ :: _, y, h, _ => h.elim
  | c _ _, ar _ _ _, _ :: _, y, h, _ => h.elim
  | ar _ _ _, s _, _ :: _, y, h, _ => h.elim
  | ar _ _ _, u, _ :: _, y, h, _ => h.elim
  | ar _ _ _, c _ _, _ :: _, y, h, _ => h.elim

theorem same_symm : ∀ (a b : GV), same a b → same b a
  | s _, s _, _ => trivial
  | u, u, _ => trivial
  | c h t, c h' t', ⟨a, b⟩ => ⟨same_symm _ _ a, same_symm _ _ b⟩
  | ar n e f, ar n' e' f', ⟨a, b, hs⟩ => ⟨a.symm, b.symm, fun j hj => same_symm _ _ (hs j (a ▸ hj))⟩
  | s _, u, h => h.elim
  | s _, c _ _, h => h.elim
  | s _, ar _ _ _, h => h.elim
  | u, s _, h => h.elim
  | u, c _ _, h => h.elim
  | u, ar _ _ _, h => h.elim
  | c _ _, s _, h => h.elim
  | c _ _, u, h => h.elim
  | c _ _, ar _ _ _, h => h.elim
  | ar _ _ _, s _, h => h.elim
  | ar _ _ _, u, h => h.elim
  | ar _ _ _, c _ _, h => h.elim

theorem same_trans : ∀ (a b d : GV), same a b → same b d → same a d
  | s _, s _, s _, _, _ => trivial
  | u, u, u, _, _ => trivial
  | c h t, c h' t', c h2 t2, ⟨a, b⟩, ⟨a', b'⟩ => ⟨same_trans _ _ _ a a', same_trans _ _ _ b b'⟩
  | ar n e f, ar n' e' f', ar n2 e2 f2, ⟨a, b, hs⟩, ⟨a', b', hs'⟩ => ⟨a.trans a', b.trans b', fun j hj => same_trans _ _ _ (hs j hj) (hs' j (a ▸ hj))⟩
  | s _, u, _, h, _ => h.elim
  | s _, c _ _, _, h, _ => h.elim
  | s _, ar _ _ _, _, h, _ => h.elim
  | u, s _, _, h, _ => h.elim
  | u, c _ _, _, h, _ => h.elim
  | u, ar _ _ _, _, h, _ => h.elim
  | c _ _, s _, _, h, _ => h.elim
  | c _ _, u, _, h, _ => h.elim
  | c _ _, ar _ _ _, _, h, _ => h.elim
  | ar _ _ _, s _, _, h, _ => h.elim
  | ar _ _ _, u, _, h, _ => h.elim
  | ar _ _ _, c _ _, _, h, _ => h.elim
  | s _, s _, u, _, h => h.elim
  | s _, s _, c _ _, _, h => h.elim
  | s _, s _, ar _ _ _, _, h => h.elim
  | u, u, s _, _, h => h.elim
  | u, u, c _ _, _, h => h.elim
  | u, u, ar _ _ _, _, h => h.elim
  | c _ _, c _ _, s _, _, h => h.elim
  | c _ _, c _ _, u, _, h => h.elim
  | c _ _, c _ _, ar _ _ _, _, h => h.elim
  | ar _ _ _, ar _ _ _, s _, _, h => h.elim
  | ar _ _ _, ar _ _ _, u, _, h => h.elim
  | ar _ _ _, ar _ _ _, c _ _, _, h => h.elim

theorem set_at : ∀ (g : GV) (p : List Nat) (x y h : GV), g.ok → x.ok → get g p = some y → same x y → set g p x = some h →
    h.ok ∧ same h g ∧ ∃ pre post, flat g = pre ++ (flat y ++ post) ∧ flat h = pre ++ (flat x ++ post) ∧ pre.length = offs g p
  | g, [], x, y, h, hg, hx, e, hs, e2 => by
    have e' : g = y := by cases g <;> simpa [get] using e
    have e3 : x = h := by cases g <;> simpa [set] using e2
    subst e'; subst e3
    exact ⟨hx, hs, [], [], by simp, by simp, by cases g <;> simp [offs]⟩
  | s _, _ :: _, x, y, h, _, _, e, _, _ => by simp [get] at e
  | u, _ :: _, x, y, h, _, _, e, _, _ => by simp [get] at e
  | c a t, 0 :: p, x, y, h, ⟨ha, ht⟩, hx, e, hs, e2 => by
    simp only [set, Option.map_eq_some_iff] at e2
    obtain ⟨a', e3, rfl⟩ := e2
    obtain ⟨h1, h2, pre, post, h3, h4, h5⟩ := set_at a p x y a' ha hx (by simpa [get] using e) hs e3
    exact ⟨⟨h1, ht⟩, ⟨h2, same_refl t⟩, pre, post ++ flat t, by simp [flat, h3], by simp [flat, h4], by simpa [offs] using h5⟩
  | c a t, (i + 1) :: p, x, y, h, ⟨ha, ht⟩, hx, e, hs, e2 => by
    simp only [set, Option.map_eq_some_iff] at e2
    obtain ⟨t', e3, rfl⟩ := e2
    obtain ⟨h1, h2, pre, post, h3, h4, h5⟩ := set_at t (i :: p) x y t' ht hx (by simpa [get] using e) hs e3
    exact ⟨⟨ha, h1⟩, ⟨same_refl a, h2⟩, flat a ++ pre, post, by simp [flat, h3], by simp [flat, h4], by simp [offs, h5, flat_len a ha]⟩
  | ar n d f, j :: p, x, y, h, hg, hx, e, hs, e2 => by
    simp only [get] at e
    simp only [set] at e2
    split at e
    · rename_i hj
      simp only [hj, if_true, Option.map_eq_some_iff] at e2
      obtain ⟨y', e3, rfl⟩ := e2
      obtain ⟨h1, h2, pre, post, h3, h4, h5⟩ := set_at (f j) p x y y' (hg j hj).1 hx e hs e3
      have hlen : ∀ k, k < j → (flat (f k)).length = d := fun k hk => by rw [flat_len (f k) (hg k (by omega)).1, (hg k (by omega)).2]
      refine ⟨fun k hk => ?_, ⟨rfl, rfl, fun k hk => ?_⟩, ((List.range j).flatMap fun k => flat (f k)) ++ pre, post ++ ((List.range' (j + 1) (n - j - 1)).flatMap fun k => flat (f k)), ?_, ?_, ?_⟩
      · by_cases hkj : k = j
        · simp only [hkj, if_true]; exact ⟨h1, by rw [same_sz _ _ h2]; exact (hg j hj).2⟩
        · simp only [hkj, if_false]; exact hg k hk
      · by_cases hkj : k = j
        · simp only [hkj, if_true]; exact h2
        · simp only [hkj, if_false]; exact same_refl _
      · simp [flat, range_split n j hj, h3]
      · simp only [flat, range_split n j hj, List.flatMap_append, List.flatMap_cons, if_true, h4]
        have e1 : ((List.range j).flatMap fun k => flat (if k = j then y' else f k)) = (List.range j).flatMap fun k => flat (f k) := by
          apply flatMap_same
          intro k hk
          have : k < j := by simpa using hk
          simp [show k ≠ j by omega]
        have e2 : ((List.range' (j + 1) (n - j - 1)).flatMap fun k => flat (if k = j then y' else f k)) = (List.range' (j + 1) (n - j - 1)).flatMap fun k => flat (f k) := by
          apply flatMap_same
          intro k hk
          have : j + 1 ≤ k := by simp [List.mem_range'_1] at hk; omega
          simp [show k ≠ j by omega]
        rw [e1, e2]
        simp
      · rw [List.length_append, h5, flatMap_len j d _ hlen]
        simp [offs]
    · cases e

theorem getT_of : ∀ (g : GV) (p : List Nat) (y : GV), get g p = some y → getT g p = y
  | g, [], y, e => by
    have e' : g = y := by cases g <;> simpa [get] using e
    subst e'
    cases g <;> rfl
  | s _, _ :: _, y, e => by simp [get] at e
  | u, _ :: _, y, e => by simp [get] at e
  | c h t, 0 :: p, y, e => getT_of h p y (by simpa [get] using e)
  | c h t, (i + 1) :: p, y, e => getT_of t (i :: p) y (by simpa [get] using e)
  | ar n d f, j :: p, y, e => by
    simp only [get] at e
    split at e
    · simpa [getT] using getT_of (f j) p y e
    · cases e

theorem setT_of : ∀ (g : GV) (p : List Nat) (x y : GV), get g p = some y → set g p x = some (setT g p x)
  | g, [], x, y, e => by cases g <;> rfl
  | s _, _ :: _, x, y, e => by simp [get] at e
  | u, _ :: _, x, y, e => by simp [get] at e
  | c h t, 0 :: p, x, y, e => by simp [set, setT, setT_of h p x y (by simpa [get] using e)]
  | c h t, (i + 1) :: p, x, y, e => by simp [set, setT, setT_of t (i :: p) x y (by simpa [get] using e)]
  | ar n d f, j :: p, x, y, e => by
    simp only [get] at e
    split at e
    · rename_i hj
      simp [set, setT, hj, setT_of (f j) p x y e]
    · cases e

theorem get_append : ∀ (g : GV) (p q : List Nat), get g (p ++ q) = (get g p).bind fun y => get y q
  | g, [], q => by cases g <;> simp [get]
  | s _, _ :: _, q => by simp [get]
  | u, _ :: _, q => by simp [get]
  | c h t, 0 :: p, q => by simpa [get] using get_append h p q
  | c h t, (i + 1) :: p, q => by simpa [get] using get_append t (i :: p) q
  | ar n e f, j :: p, q => by
    simp only [List.cons_append, get]
    split
    · exact get_append (f j) p q
    · rfl

theorem offs_append : ∀ (g : GV) (p q : List Nat) (y : GV), get g p = some y → offs g (p ++ q) = offs g p + offs y q
  | g, [], q, y, e => by
    have e' : g = y := by cases g <;> simpa [get] using e
    subst e'
    cases g <;> simp [offs]
  | s _, _ :: _, q, y, e => by simp [get] at e
  | u, _ :: _, q, y, e => by simp [get] at e
  | c h t, 0 :: p, q, y, e => by simpa [offs] using offs_append h p q y (by simpa [get] using e)
  | c h t, (i + 1) :: p, q, y, e => by
    have := offs_append t (i :: p) q y (by simpa [get] using e)
    simp only [List.cons_append] at this
    simp only [List.cons_append, offs, this]
    omega
  | ar n d f, j :: p, q, y, e => by
    simp only [get] at e
    split at e
    · have := offs_append (f j) p q y e
      simp only [List.cons_append, offs, this]
      omega
    · cases e

theorem cells_val (g : GV) (h : g.ok) : g.val.cells = (flat g).toArray := by
  cases g with
  | s v => simp only [ok] at h; cases v <;> simp_all [val, flat, Value.cells, Value.oneCell']
  | u => rfl
  | c _ _ => rfl
  | ar _ _ _ => rfl

theorem fits_no {g : GV} {n : Nat} (h : g.fits n false = true) : ∃ v, g = s v := by
  cases g <;> simp [fits] at h
  exact ⟨_, rfl⟩

theorem fits_agg {g : GV} {n : Nat} (hg : g.ok) (h : g.fits n true = true) : g.val = .agg (flat g).toArray ∧ (flat g).length = n := by
  cases g with
  | s v => simp [fits] at h
  | u => simp [fits] at h; exact ⟨rfl, by rw [flat_len _ hg]; exact h⟩
  | c a b => simp [fits] at h; exact ⟨rfl, by rw [flat_len _ hg]; exact h⟩
  | ar a b f => simp [fits] at h; exact ⟨rfl, by rw [flat_len _ hg]; exact h⟩

theorem fld_at : ∀ (g : GV) (i o : Nat), g.fld i o = true → (∃ y, get g [i] = some y) ∧ offs g [i] = o
  | c h t, 0, o, e => by
    simp [fld] at e
    subst e
    exact ⟨⟨h, by cases h <;> rfl⟩, by cases h <;> rfl⟩
  | c h t, i + 1, o, e => by
    simp [fld] at e
    obtain ⟨⟨y, h1⟩, h2⟩ := fld_at t i (o - sz h) e.2
    exact ⟨⟨y, by simpa [get] using h1⟩, by simp [offs, h2]; omega⟩
  | s _, _, _, e => by simp [fld] at e
  | u, _, _, e => by simp [fld] at e
  | ar _ _ _, _, _, e => by simp [fld] at e

theorem arr_at {g : GV} {n e : Nat} (h : g.arr n e = true) : ∃ f, g = ar n e f := by
  cases g <;> simp [arr] at h
  obtain ⟨rfl, rfl⟩ := h
  exact ⟨_, rfl⟩

theorem get_ar (n e : Nat) (f : Nat → GV) (j : Nat) (hj : j < n) : get (ar n e f) [j] = some (f j) ∧ offs (ar n e f) [j] = j * e := by
  refine ⟨?_, ?_⟩
  · simp only [get, hj, if_true]
  · simp [offs]

/-- The cell at a place of a tree that is one value. -/
theorem get_s {g : GV} {p : List Nat} {v : Value} (hg : g.ok) (h : get g p = some (s v)) : (flat g)[offs g p]? = some v := by
  obtain ⟨_, pre, post, h2, h3⟩ := get_at g p _ hg h
  rw [h2, ← h3]
  simp [flat]

theorem get_cells {g y : GV} {p : List Nat} (hg : g.ok) (h : get g p = some y) : ∀ j v, (flat y)[j]? = some v → (flat g)[offs g p + j]? = some v := by
  intro j v hv
  obtain ⟨_, pre, post, h2, h3⟩ := get_at g p _ hg h
  rw [h2, ← h3]
  have hj : j < (flat y).length := by
    rcases Nat.lt_or_ge j (flat y).length with h' | h'
    · exact h'
    · simp [List.getElem?_eq_none h'] at hv
  rw [List.getElem?_append_right (by omega), Nat.add_sub_cancel_left, List.getElem?_append_left hj]
  exact hv

end GV
end Go.Proofs.YtmjiojflncffeaaGreat.Vc

/- What is to be shown of resolved code, and how code is resolved. -/
set_option linter.unusedVariables false
namespace Go.Proofs.YtmjiojflncffeaaGreat.Vc
open Go

def writeAt (cs : Array Value) (j : Nat) : List Value → Array Value
  | [] => cs
  | v :: vs => writeAt (cs.setIfInBounds j v) (j + 1) vs

/-! ### The call's own frame of reference -/
structure Ctx where
  P : Program
  N : Nat
  w0 : World
  m0 : PH

def Ctx.mine (C : Ctx) (b : Nat) : Prop := C.w0.heap.size ≤ b ∨ C.m0 b ≠ none
def Ctx.u0 (C : Ctx) : PH := fun k => if (C.m0 k).isNone then C.w0.heap[k]? else none

/-- Where a variable or a row lies: block, first cell, capacity. -/
abbrev Loc := Nat → Option (Nat × Nat × Nat)

def PV.own : PV → Bool
  | .ro _ _ _ => false
  | _ => true

def rowE (pv : List (Nat × PV)) (k : Nat) : Option (Nat × List GV) :=
  match look pv k with
  | some (.row _ z _ xs) => some (z, xs)
  | some (.ro z _ xs) => some (z, xs)
  | _ => none

/-- What is read at element i. -/
def rowD (pv : List (Nat × PV)) (k i : Nat) : GV :=
  match look pv k with
  | some (.row _ _ df xs) => xs.getD i df
  | some (.ro _ df xs) => xs.getD i df
  | _ => .u

def flats (xs : List GV) : List Value := xs.flatMap GV.flat

/-- The slice value of n elements from o on. -/
def SlcV (l : Option (Nat × Nat × Nat)) (z o n : Nat) (v : Value) : Prop :=
  match l with
  | none => ∃ base, v = .slice base 0 0
  | some (b, f, c) => ∃ a : Addr, v = .slice (some a) n (c - o) ∧ (o < c → a = ⟨b, f + o * z, none⟩)

def SVr (loc : Loc) (pv : List (Nat × PV)) : SV → Value → Prop
  | .g x, v => x.ok ∧ v = x.val
  | .ref k p, v => ∃ g b c y, look pv k = some (.box g) ∧ loc k = some (b, 0, c) ∧ g.get p = some y ∧ v = .pointer (some ⟨b, g.offs p, none⟩)
  | .row k o n, v => ∃ z xs, rowE pv k = some (z, xs) ∧ o + n ≤ xs.length ∧ SlcV (loc k) z o n v
  | .rref k i p, v => ∃ z xs x y b o c, rowE pv k = some (z, xs) ∧ xs[i]? = some x ∧ x.get p = some y ∧ loc k = some (b, o, c) ∧ v = .pointer (some ⟨b, o + i * z + x.offs p, none⟩)
  | .tup xs, v => (∀ x ∈ xs, x.ok) ∧ v = .tuple (xs.map GV.val).toArray
  | .no, v => v = undef
  | .any, _ => True

def Els (z : Nat) (xs : List GV) : Prop := ∀ x ∈ xs, x.ok ∧ x.sz = z
def RowAt (cs : Array Value) (o : Nat) (l : List Value) : Prop := ∀ j v, l[j]? = some v → cs[o + j]? = some v

def PVr (C : Ctx) (loc : Loc) (ph : List PH) (w : World) (k : Nat) : PV → Prop
  | .box g => g.ok ∧ ∃ b c e, loc k = some (b, 0, c) ∧ w.heap[b]? = some (.cells g.flat.toArray e (0, 0))
  | .row e z _ xs => Els z xs ∧ match loc k with
    | none => xs = []
    | some (b, o, c) => ∃ cs, w.heap[b]? = some (.cells cs e (0, 0)) ∧ xs.length ≤ c ∧ o + c * z ≤ cs.size ∧ RowAt cs o (flats xs)
  | .ro z _ xs => Els z xs ∧ match loc k with
    | none => xs = []
    | some (b, o, c) => xs.length ≤ c ∧ (0 < c → ∃ u cs e fz, (u = C.u0 ∨ u ∈ ph) ∧ u b = some (.cells cs e fz) ∧ RowAt cs o (flats xs))

def Kept (m : PH) (w w' : World) : Prop :=
  w'.os = w.os ∧ w'.tape = w.tape ∧ w'.output = w.output ∧ w.heap.size ≤ w'.heap.size ∧ ∀ k, k < w.heap.size → m k = none → w'.heap[k]? = w.heap[k]?

structure HR (C : Ctx) (loc : Loc) (pv : List (Nat × PV)) (ph : List PH) (m : PH) (w : World) : Prop where
  kept : Kept C.m0 C.w0 w
  pvs : ∀ k y, look pv k = some y → PVr C loc ph w k y
  apart : ∀ k k' y y' b o c o' c', look pv k = some y → y.own = true → loc k = some (b, o, c) → look pv k' = some y' → y'.own = true → loc k' = some (b, o', c') → k = k'
  priv : ∀ k y b o c, look pv k = some y → y.own = true → loc k = some (b, o, c) → C.mine b ∧ m b = none ∧ ∀ u ∈ ph, u b = none
  mle : m.le w
  mmine : ∀ b, m b ≠ none → C.mine b
  phs : ∀ u ∈ ph, u.le w ∧ ∀ b, u b ≠ none → C.mine b ∧ m b = none

/-- What is deferred: the marks of loops over functions alone; their blocks are known, and empty. -/
def Marks (ph : List PH) (ds : List Deferred) : Prop := ds.Pairwise (fun d d' => d.target ≠ d'.target) ∧ ∀ d ∈ ds, ∃ D u, d.target = .collected D ∧ u ∈ ph ∧ u D = some (.deferred (some []))
theorem Marks.nil (ph : List PH) : Marks ph [] := ⟨List.Pairwise.nil, fun _ h => by cases h⟩
theorem Marks.up {ph ph' : List PH} {ds : List Deferred} (h : Marks ph ds) (hs : ∀ u ∈ ph, u ∈ ph') : Marks ph' ds := ⟨h.1, fun d hd => by
  obtain ⟨D, u, h1, h2, h3⟩ := h.2 d hd
  exact ⟨D, u, h1, hs u h2, h3⟩⟩
structure FR (loc : Loc) (N : Nat) (fr : List (Nat × SV)) (pv : List (Nat × PV)) (ph : List PH) (a : Act) : Prop where
  defers : Marks ph a.defers
  size : a.tmps.size = N
  slots : ∀ t x, look fr t = some x → ∃ v, a.tmps[t]? = some v ∧ SVr loc pv x v

theorem FR.up {loc : Loc} {N : Nat} {fr : List (Nat × SV)} {pv : List (Nat × PV)} {ph ph' : List PH} {a : Act} (h : FR loc N fr pv ph a) (hs : ∀ u ∈ ph, u ∈ ph') : FR loc N fr pv ph' a := ⟨h.defers.up hs, h.size, h.slots⟩
def Rel (C : Ctx) (σ : SS) (a : Act) (w : World) : Prop := ∃ loc, FR loc C.N σ.fr σ.pv σ.ph a ∧ HR C loc σ.pv σ.ph σ.m w

abbrev KT := SS → Prop
abbrev QT := Exit → SS → Prop
def liftK (C : Ctx) (K : KT) (a : Act) (w : World) : Prop := ∃ σ, K σ ∧ Rel C σ a w
def liftQ (C : Ctx) (Q : QT) (e : Exit) (a : Act) (w : World) : Prop := ∃ σ, Q e σ ∧ Rel C σ a w

/-! ### Slices in memory -/
/-- A slice that reads as these elements. -/
def SlR (u : PH) (v : Value) (z : Nat) (xs : List GV) : Prop :=
  Els z xs ∧ ((v = .slice none 0 0 ∧ xs = []) ∨ ∃ (a : Addr) (c : Nat), v = .slice (some a) xs.length c ∧ xs.length ≤ c ∧ (0 < c → ∃ cs e fz, a.spot = none ∧ u a.block = some (.cells cs e fz) ∧ RowAt cs a.off (flats xs)))

/-- A slice that may be written and grown. -/
def SlO (u : PH) (v : Value) (e : TypeId) (z : Nat) (xs : List GV) : Prop :=
  Els z xs ∧ ((v = .slice none 0 0 ∧ xs = []) ∨ ∃ (a : Addr) (c : Nat), v = .slice (some a) xs.length c ∧ xs.length ≤ c ∧ (0 < c → ∃ cs, a.spot = none ∧ a.off + c * z ≤ cs.size ∧ u a.block = some (.cells cs e (0, 0)) ∧ RowAt cs a.off (flats xs)))

theorem SlO.toR {u : PH} {v : Value} {e : TypeId} {z : Nat} {xs : List GV} (h : SlO u v e z xs) : SlR u v z xs := by
  refine ⟨h.1, h.2.imp id ?_⟩
  rintro ⟨a, c, h1, h2, h3⟩
  refine ⟨a, c, h1, h2, fun hc => ?_⟩
  obtain ⟨cs, g1, g2, g3, g4⟩ := h3 hc
  exact ⟨cs, e, (0, 0), g1, g3, g4⟩

def PH.sub (u v : PH) : Prop := ∀ b o, u b = some o → v b = some o
theorem PH.le.sub {u : PH} {w : World} (h : u.le w) : PH.sub u w.ph := h

theorem SlR.up {u v : PH} {x : Value} {z : Nat} {xs : List GV} (h : SlR u x z xs) (hs : PH.sub u v) : SlR v x z xs := by
  refine ⟨h.1, h.2.imp id ?_⟩
  rintro ⟨a, c, h1, h2, h3⟩
  refine ⟨a, c, h1, h2, fun hc => ?_⟩
  obtain ⟨cs, e, fz, g1, g2, g3⟩ := h3 hc
  exact ⟨cs, e, fz, g1, hs _ _ g2, g3⟩
theorem SlO.up {u v : PH} {x : Value} {e : TypeId} {z : Nat} {xs : List GV} (h : SlO u x e z xs) (hs : PH.sub u v) : SlO v x e z xs := by
  refine ⟨h.1, h.2.imp id ?_⟩
  rintro ⟨a, c, h1, h2, h3⟩
  refine ⟨a, c, h1, h2, fun hc => ?_⟩
  obtain ⟨cs, g1, g2, g3, g4⟩ := h3 hc
  exact ⟨cs, g1, g2, hs _ _ g3, g4⟩

def uni (a b : PH) : PH := fun k => (a k).or (b k)
def dis (a b : PH) : Prop := ∀ k, a k = none ∨ b k = none
theorem sub_uni_l (a b : PH) : PH.sub a (uni a b) := fun k o h => by simp [uni, h]
theorem sub_uni_r {a b : PH} (hd : dis a b) : PH.sub b (uni a b) := fun k o h => by
  rcases hd k with h1 | h1
  · simp [uni, h1, h]
  · rw [h1] at h; cases h
theorem PH.sub_trans {a b c : PH} (h : PH.sub a b) (k : PH.sub b c) : PH.sub a c := fun x o e => k x o (h x o e)


/-! ### What is to be shown -/
def binV (op : BinOp) (a b : Value) : Option Value :=
  match op, a, b with
  | .add, .int k x, .int k' y => if k = k' then some (.int k (k.wrap (x + y))) else none
  | .sub, .int k x, .int k' y => if k = k' then some (.int k (k.wrap (x - y))) else none
  | .mul, .int k x, .int k' y => if k = k' then some (.int k (k.wrap (x * y))) else none
  | .quo, .int k x, .int k' y => if k = k' then some (.int k (k.wrap (x.tdiv y))) else none
  | .rem, .int k x, .int k' y => if k = k' then some (.int k (x.tmod y)) else none
  | .and, .int k x, .int k' y => if k = k' then some (.int k (k.wrap (BitVec.ofInt k.bits x &&& BitVec.ofInt k.bits y).toNat)) else none
  | .xor, .int k x, .int k' y => if k = k' then some (.int k (k.wrap (BitVec.ofInt k.bits x ^^^ BitVec.ofInt k.bits y).toNat)) else none
  | .shr, .int k x, .int _ y => some (.int k (x.fdiv (2 ^ (min y.toNat k.bits))))
  | .shl, .int k x, .int _ y => some (.int k (k.wrap (x * 2 ^ (min y.toNat k.bits))))
  | .eql, .int k x, .int k' y => if k = k' then some (.bool (x == y)) else none
  | .neq, .int k x, .int k' y => if k = k' then some (.bool (x != y)) else none
  | .lss, .int k x, .int k' y => if k = k' then some (.bool (decide (x < y))) else none
  | .leq, .int k x, .int k' y => if k = k' then some (.bool (decide (x ≤ y))) else none
  | .gtr, .int k x, .int k' y => if k = k' then some (.bool (decide (x > y))) else none
  | .geq, .int k x, .int k' y => if k = k' then some (.bool (decide (x ≥ y))) else none
  | .eql, .string x, .string y => some (.bool (decide (x = y)))
  | .neq, .string x, .string y => some (.bool (!decide (x = y)))
  | .lss, .string x, .string y => some (.bool (Op.bytesLess x.data.toList y.data.toList))
  | .gtr, .string x, .string y => some (.bool (!(Op.bytesLess x.data.toList y.data.toList || decide (x = y))))
  | .leq, .string x, .string y => some (.bool (Op.bytesLess x.data.toList y.data.toList || decide (x = y)))
  | .geq, .string x, .string y => some (.bool (!Op.bytesLess x.data.toList y.data.toList))
  | .add, .string x, .string y => some (.string (x ++ y))
  | _, _, _ => none

/-- What an operator asks of its operands. -/
def binC (op : BinOp) (a b : Value) : Prop :=
  match op, a, b with
  | .quo, _, .int _ y | .rem, _, .int _ y => y ≠ 0
  | .shl, _, .int _ y | .shr, _, .int _ y => 0 ≤ y
  | .add, .string x, .string y => ((x.size + y.size : Nat) : Int) ≤ 9223372036854775807
  | _, _, _ => True

def unV (op : UnOp) (a : Value) : Option Value :=
  match op, a with
  | .not, .bool b => some (.bool !b)
  | .neg, .int k n => some (.int k (k.wrap (0 - n)))
  | _, _ => none

def evO (a : Act) : Opd → Value
  | .t n => a.tmps.getD n undef
  | .c v => v

/-- A call: whoever is called, whatever it is told by. -/
structure vcCall (C : Ctx) (f : Nat) (args : List Opd) (d : Option Nat) (K : KT) (σ : SS) : Prop where
  h : ∀ a w, Rel C σ a w → Calls C.P f (args.map (evO a)).toArray w fun e w' => ∃ v, e = .returned v ∧ liftK C K (a.put d v) w'

def evL (σ : SS) : List Opd → Option (List SV)
  | [] => some []
  | x :: l => match ev σ x, evL σ l with
    | some y, some r => some (y :: r)
    | _, _ => none

def gvL : List SV → Option (List GV)
  | [] => some []
  | .g x :: l => (gvL l).map (x :: ·)
  | _ :: _ => none

def scL : List SV → Option (List Value)
  | [] => some []
  | .g (.s v) :: l => (scL l).map (v :: ·)
  | _ :: _ => none

def szAll (z : Nat) : List GV → Prop
  | [] => True
  | x :: l => x.sz = z ∧ szAll z l

/-- A bound of a slice expression. -/
def bndN (σ : SS) (x : Option Opd) (dflt : Nat) : Option Int :=
  match x with
  | none => some dflt
  | some x => match ev σ x with
    | some (.g (.s (.int _ j))) => some j
    | _ => none

/-- Are two values of a type the same? -/
def EqG (P : Program) (t : TypeId) (a b : GV) (r : Bool) : Prop :=
  ∀ x y w, ((do eqGuard .eql t x y a.val b.val; binOp .eql t a.val b.val) : Sem Value).run P w = .ok (.bool r) w ∧ ((do eqGuard .neq t x y a.val b.val; binOp .neq t a.val b.val) : Sem Value).run P w = .ok (.bool !r) w

/-- What is known of memory: y lies in block b, from cell o on. -/
def Seen (C : Ctx) (ph : List PH) (m : PH) (b o : Nat) (y : GV) : Prop :=
  y.ok ∧ ∃ cs e fz, (m b = some (.cells cs e fz) ∨ (∃ u ∈ ph, u b = some (.cells cs e fz)) ∨ C.u0 b = some (.cells cs e fz)) ∧ RowAt cs o y.flat

def PH.upd (m : PH) (b : Nat) (o : Obj) : PH := fun k => if k = b then some o else m k

/-- Seen another way. -/
structure ghC (C : Ctx) (K : KT) (σ : SS) : Prop where
  h : ∀ a w, Rel C σ a w → ∃ τ, Rel C τ a w ∧ K τ

/-- Two ways. -/
def brB (b want : Bool) (x y : Prop) : Prop := (b = want → x) ∧ (b = !want → y)

/-- A load from known memory. -/
def ldK (C : Ctx) (σ : SS) (b o z : Nat) (ag : Bool) (d : Option Nat) (K : KT) : Prop := ∃ y, Seen C σ.ph σ.m b o y ∧ y.fits z ag = true ∧ K (σ.put d (.g y))
/-- A store to memory of one's own. -/
def stK (σ : SS) (b o z : Nat) (y : GV) (d : Option Nat) (K : KT) : Prop := y.sz = z ∧ ∃ cs e, (σ.m b = some (.cells cs e (0, 0)) ∧ o + z ≤ cs.size) ∧ K ({ σ with m := σ.m.upd b (.cells (writeAt cs o y.flat) e (0, 0)) }.put d .no)
/-- Two values of a type, held together. -/
def eqK (C : Ctx) (t : TypeId) (a b : GV) (neg : Bool) (d : Option Nat) (K : KT) (σ : SS) : Prop := ∃ r, EqG C.P t a b r ∧ K (σ.put d (.g (.s (.bool (r != neg)))))
theorem ld_of {C : Ctx} {σ : SS} {b o z : Nat} {ag : Bool} {d : Option Nat} {K : KT} (y : GV) (h : Seen C σ.ph σ.m b o y) (hf : y.fits z ag = true) (hK : K (σ.put d (.g y))) : ldK C σ b o z ag d K := ⟨y, h, hf, hK⟩
theorem st_of {σ : SS} {b o z : Nat} {y : GV} {d : Option Nat} {K : KT} (hz : y.sz = z) (cs : Array Value) (e : TypeId) (h : σ.m b = some (.cells cs e (0, 0)) ∧ o + z ≤ cs.size) (hK : K ({ σ with m := σ.m.upd b (.cells (writeAt cs o y.flat) e (0, 0)) }.put d .no)) : stK σ b o z y d K := ⟨hz, cs, e, h, hK⟩
/-- A byte. -/
def gb (b : UInt8) : GV := .s (.int .u8 b.toNat)
/-- The bytes that a slice reads as. -/
def BytesAt (C : Ctx) (σ : SS) : SV → List UInt8 → Prop
  | .row k o n, bs => ∃ xs, rowE σ.pv k = some (1, xs) ∧ (xs.drop o).take n = bs.map gb
  | .g (.s v), bs => ∃ u, (u = C.u0 ∨ u ∈ σ.ph ∨ u = σ.m) ∧ SlR u v 1 (bs.map gb)
  | _, _ => False
/-- A string out of bytes. -/
def b2sK (C : Ctx) (x : SV) (d : Option Nat) (K : KT) (σ : SS) : Prop := ∃ bs, BytesAt C σ x bs ∧ K (σ.put d (.g (.s (.string ⟨bs.toArray⟩))))
/-- Elements put behind a slice of one's own memory. -/
def appK (x : Opd) (e : TypeId) (z by_ : Nat) (v : Value) (ys : List GV) (d : Option Nat) (K : KT) (σ : SS) : Prop :=
  (∃ t, x = .t t) ∧ ∃ u m' xs, SlO u v e z xs ∧ σ.m = uni u m' ∧ dis u m' ∧ (xs.length + ys.length) * by_ ≤ 140737488355328 ∧ d ≠ none ∧
    ∀ v' u', v'.oneCell' = true → SlO u' v' e z (xs ++ ys) → dis u' m' → K ({ σ with m := uni u' m' }.put d (.g (.s v')))
/-- Elements put behind a slice: nil, or one's own. -/
def appG (x : Opd) (e : TypeId) (z by_ : Nat) (df : GV) (v : Value) (n' : Nat) (ys : List GV) (d : Option Nat) (K : KT) (σ : SS) : Prop :=
  (v = .slice none 0 0 ∧ ∃ k, d = some k ∧ look σ.pv k = none ∧ n' * by_ ≤ 140737488355328 ∧ K { σ with fr := (k, .row k 0 n') :: σ.fr, pv := updL σ.pv k (.row e z df ys) }) ∨ appK x e z by_ v ys d K σ
theorem app_of {x : Opd} {e : TypeId} {z by_ : Nat} {v : Value} {ys : List GV} {d : Option Nat} {K : KT} {σ : SS} {df : GV} {n' t s : Nat} (hx : x = .t t) (hd : d = some s) (u m' : PH) (xs : List GV) (h : SlO u v e z xs) (hm : σ.m = uni u m') (hdis : dis u m')
    (hb : (xs.length + ys.length) * by_ ≤ 140737488355328) (hK : ∀ v' u', v'.oneCell' = true → SlO u' v' e z (xs ++ ys) → dis u' m' → K ({ σ with m := uni u' m' }.put d (.g (.s v')))) : appG x e z by_ df v n' ys d K σ :=
  .inr ⟨⟨t, hx⟩, u, m', xs, h, hm, hdis, hb, by rw [hd]; simp, hK⟩
theorem eq_of {C : Ctx} {t : TypeId} {a b : GV} {neg : Bool} {d : Option Nat} {K : KT} {σ : SS} {r : Bool} (h : EqG C.P t a b r) (hK : K (σ.put d (.g (.s (.bool (r != neg)))))) : eqK C t a b neg d K σ := ⟨r, h, hK⟩

/-! ### Maps -/
def one (b : Nat) (o : Obj) : PH := fun k => if k = b then some o else none
def keq : Value → Value → Bool
  | .int k a, .int k' b => k == k' && a == b
  | .string a, .string b => decide (a = b)
  | _, _ => false
def mget : List (Value × Value) → Value → Option Value
  | [], _ => none
  | (k, v) :: l, x => bif keq k x then some v else mget l x
def mput : List (Value × Value) → Value → Value → List (Value × Value)
  | [], x, v => [(x, v)]
  | (k, u) :: l, x, v => bif keq k x then (x, v) :: l else (k, u) :: mput l x v
def mdel : List (Value × Value) → Value → List (Value × Value)
  | [], _ => []
  | (k, u) :: l, x => bif keq k x then l else (k, u) :: mdel l x
def mkD : Option IntKind → TypeDesc
  | some k => .int k
  | none => .string
def kv (e : MapEntry) : Value × Value := (e.key, e.val)
/-- A map that holds these, each key once. -/
def MapI (kd : Option IntKind) (o : Obj) (l : List (Value × Value)) : Prop :=
  ∃ es cl, o = .map es cl ∧ es.toList.map kv = l ∧ MapKept.Stamped es cl ∧ ∀ e ∈ es.toList, MapKept.IsKey (mkD kd) e.key ∧ e.val.oneCell' = true
/-- What goes through the map mo in block b, and has come by s. -/
def IterM (it mo : Obj) (b : Nat) (s : List (Value × Value)) : Prop :=
  ∃ (es : Array MapEntry) (cl : Nat) (vs : List MapEntry), mo = .map es cl ∧ it = .mapIter (some b) cl (vs.map (·.born)).toArray cl ∧ (∀ e ∈ vs, e ∈ es.toList) ∧ (vs.map (·.born)).Nodup ∧ s = vs.map kv
/-- An object that is known. -/
def SeenO (C : Ctx) (ph : List PH) (m : PH) (b : Nat) (o : Obj) : Prop := m b = some o ∨ (∃ u ∈ ph, u b = some o) ∨ C.u0 b = some o
def lkS (l : List (Value × Value)) (k z : Value) (ok : Bool) : SV :=
  bif ok then .tup [.s ((mget l k).getD z), .s (.bool (mget l k).isSome)] else .g (.s ((mget l k).getD z))
def mkmK (d : Option Nat) (K : KT) (σ : SS) : Prop := ∀ b o, (∀ kd, MapI kd o []) → dis (one b o) σ.m → K ({ σ with m := uni (one b o) σ.m }.put d (.g (.s (.map (some b)))))
def mlkK (C : Ctx) (kd : Option IntKind) (b : Nat) (k z : Value) (ok : Bool) (d : Option Nat) (K : KT) (σ : SS) : Prop :=
  ∃ o l, SeenO C σ.ph σ.m b o ∧ MapI kd o l ∧ MapKept.IsKey (mkD kd) k ∧ K (σ.put d (lkS l k z ok))
def mupK (kd : Option IntKind) (b : Nat) (k y : Value) (d : Option Nat) (K : KT) (σ : SS) : Prop :=
  ∃ o l, σ.m b = some o ∧ MapI kd o l ∧ MapKept.IsKey (mkD kd) k ∧ ∀ o', MapI kd o' (mput l k y) → K ({ σ with m := σ.m.upd b o' }.put d .no)
def mdlK (kd : Option IntKind) (b : Nat) (k : Value) (d : Option Nat) (K : KT) (σ : SS) : Prop :=
  ∃ o l, σ.m b = some o ∧ MapI kd o l ∧ MapKept.IsKey (mkD kd) k ∧ ∀ o', MapI kd o' (mdel l k) → K ({ σ with m := σ.m.upd b o' }.put d (.tup []))
def mlnK (C : Ctx) (kd : Option IntKind) (b : Nat) (d : Option Nat) (K : KT) (σ : SS) : Prop :=
  ∃ o l, SeenO C σ.ph σ.m b o ∧ MapI kd o l ∧ K (σ.put d (.g (.s (.int .i64 l.length))))
/-- Maps whose keys are two numbers. -/
def gk2 (k : Int × Int) : GV := .c (.s (.int .i64 k.1)) (.c (.s (.int .i64 k.2)) .u)
def k2 (k : Int × Int) : Value := .agg #[.int .i64 k.1, .int .i64 k.2]
def Map2 (o : Obj) (l : List ((Int × Int) × Value)) : Prop :=
  ∃ es cl, o = .map es cl ∧ es.toList.map kv = l.map (fun p => (k2 p.1, p.2)) ∧ MapKept.Stamped es cl ∧ ∀ p ∈ l, p.2.oneCell' = true
def mget2 : List ((Int × Int) × Value) → Int × Int → Option Value
  | [], _ => none
  | (k, v) :: l, x => if k = x then some v else mget2 l x
def mput2 : List ((Int × Int) × Value) → Int × Int → Value → List ((Int × Int) × Value)
  | [], x, v => [(x, v)]
  | (k, u) :: l, x, v => if k = x then (x, v) :: l else (k, u) :: mput2 l x v
def lkS2 (l : List ((Int × Int) × Value)) (k : Int × Int) (z : Value) (ok : Bool) : SV :=
  bif ok then .tup [.s ((mget2 l k).getD z), .s (.bool (mget2 l k).isSome)] else .g (.s ((mget2 l k).getD z))
def mlk2K (C : Ctx) (b : Nat) (g : GV) (z : Value) (ok : Bool) (d : Option Nat) (K : KT) (σ : SS) : Prop :=
  ∃ k o l, g = gk2 k ∧ SeenO C σ.ph σ.m b o ∧ Map2 o l ∧ K (σ.put d (lkS2 l k z ok))
def mup2K (b : Nat) (g : GV) (y : Value) (d : Option Nat) (K : KT) (σ : SS) : Prop :=
  ∃ k o l, g = gk2 k ∧ σ.m b = some o ∧ Map2 o l ∧ ∀ o', Map2 o' (mput2 l k y) → K ({ σ with m := σ.m.upd b o' }.put d .no)
/-- An entry, there with nothing if it was not there. -/
def mens2 (l : List ((Int × Int) × Value)) (k : Int × Int) (z : Value) : List ((Int × Int) × Value) := if (mget2 l k).isSome then l else l ++ [(k, z)]
def Ent2 (o : Obj) (k : Int × Int) (β : Int) : Prop := ∃ es cl, o = .map es cl ∧ ∃ e ∈ es.toList, e.key = k2 k ∧ (e.born : Int) = β
def men2K (b : Nat) (g : GV) (z : Value) (d : Option Nat) (K : KT) (σ : SS) : Prop :=
  ∃ k o l, g = gk2 k ∧ σ.m b = some o ∧ Map2 o l ∧ ∀ o' β, Map2 o' (mens2 l k z) → Ent2 o' k β → K ({ σ with m := σ.m.upd b o' }.put d (.tup [.s ((mget2 l k).getD z), .s (.int .i64 β)]))
def mes2K (b : Nat) (s y : Value) (d : Option Nat) (K : KT) (σ : SS) : Prop :=
  ∃ k o l β, s = .int .i64 β ∧ σ.m b = some o ∧ Map2 o l ∧ Ent2 o k β ∧ ∀ o', Map2 o' (mput2 l k y) → K ({ σ with m := σ.m.upd b o' }.put d .no)
/-- Maps whose keys are two numbers, and whose values are structs. -/
def MapG (o : Obj) (l : List ((Int × Int) × GV)) : Prop :=
  ∃ es cl, o = .map es cl ∧ es.toList.map kv = l.map (fun p => (k2 p.1, p.2.val)) ∧ MapKept.Stamped es cl ∧ ∀ p ∈ l, p.2.ok
def mgetG : List ((Int × Int) × GV) → Int × Int → Option GV
  | [], _ => none
  | (k, v) :: l, x => if k = x then some v else mgetG l x
def mputG : List ((Int × Int) × GV) → Int × Int → GV → List ((Int × Int) × GV)
  | [], x, v => [(x, v)]
  | (k, y) :: l, x, v => if k = x then (x, v) :: l else (k, y) :: mputG l x v
def lkSG (l : List ((Int × Int) × GV)) (k : Int × Int) (z : GV) (ok : Bool) : SV :=
  bif ok then .tup [(mgetG l k).getD z, .s (.bool (mgetG l k).isSome)] else .g ((mgetG l k).getD z)
def mlkGK (C : Ctx) (b : Nat) (g z : GV) (ok : Bool) (d : Option Nat) (K : KT) (σ : SS) : Prop :=
  ∃ k o l, g = gk2 k ∧ SeenO C σ.ph σ.m b o ∧ MapG o l ∧ K (σ.put d (lkSG l k z ok))
def mupGK (b : Nat) (g y : GV) (d : Option Nat) (K : KT) (σ : SS) : Prop :=
  ∃ k o l, g = gk2 k ∧ σ.m b = some o ∧ MapG o l ∧ ∀ o', MapG o' (mputG l k y) → K ({ σ with m := σ.m.upd b o' }.put d .no)
def mlnGK (C : Ctx) (b : Nat) (d : Option Nat) (K : KT) (σ : SS) : Prop :=
  ∃ o l, SeenO C σ.ph σ.m b o ∧ MapG o l ∧ K (σ.put d (.g (.s (.int .i64 l.length))))
def rngK (C : Ctx) (kd : Option IntKind) (b : Nat) (d : Option Nat) (K : KT) (σ : SS) : Prop :=
  ∃ o l, SeenO C σ.ph σ.m b o ∧ MapI kd o l ∧ ∀ r it, IterM it o b [] → dis (one r it) σ.m → K ({ σ with m := uni (one r it) σ.m }.put d (.g (.s (.pointer (some ⟨r, 0, none⟩)))))
def nxtK (C : Ctx) (r : Nat) (d : Option Nat) (K : KT) (σ : SS) : Prop :=
  ∃ it b o kd l s, σ.m r = some it ∧ SeenO C σ.ph σ.m b o ∧ MapI kd o l ∧ IterM it o b s ∧ (s.Perm l → K (σ.put d (.tup [.s (.bool false)]))) ∧
    ∀ p it', p ∈ l → p ∉ s → IterM it' o b (s ++ [p]) → K ({ σ with m := σ.m.upd r it' }.put d (.tup [.s (.bool true), .s p.1, .s p.2]))
def entK (C : Ctx) (r : Nat) (d : Option Nat) (K : KT) (σ : SS) : Prop :=
  ∃ it b o kd l s p, SeenO C σ.ph σ.m r it ∧ SeenO C σ.ph σ.m b o ∧ MapI kd o l ∧ IterM it o b (s ++ [p]) ∧ K (σ.put d (.tup [.s p.1, .s p.2]))

def vcOp (C : Ctx) (d : Option Nat) (K : KT) (σ : SS) : RO → Prop
  | .mv x => match ev σ x with
    | some v => K (σ.put d v)
    | none => False
  | .pick c a b => match ev σ c, ev σ a, ev σ b with
    | some (.g (.s (.bool t))), some x, some y => brB t true (K (σ.put d x)) (K (σ.put d y))
    | _, _, _ => False
  | .fldA x i off => match ev σ x with
    | some (.ref k p) => match look σ.pv k with
      | some (.box g) => (g.getT p).fld i off = true ∧ K (σ.put d (.ref k (p ++ [i])))
      | _ => False
    | some (.rref k j p) => ((rowD σ.pv k j).getT p).fld i off = true ∧ K (σ.put d (.rref k j (p ++ [i])))
    | some (.g (.s (.pointer (some ⟨b, o, none⟩)))) => K (σ.put d (.g (.s (.pointer (some ⟨b, o + off, none⟩)))))
    | _ => False
  | .idxA x i n z => match ev σ x, ev σ i with
    | some (.ref k p), some (.g (.s (.int _ j))) => match look σ.pv k with
      | some (.box g) => (g.getT p).arr n z = true ∧ (0 ≤ j ∧ j < n) ∧ K (σ.put d (.ref k (p ++ [j.toNat])))
      | _ => False
    | some (.rref k l p), some (.g (.s (.int _ j))) => ((rowD σ.pv k l).getT p).arr n z = true ∧ (0 ≤ j ∧ j < n) ∧ K (σ.put d (.rref k l (p ++ [j.toNat])))
    | some (.g (.s (.pointer (some ⟨b, o, none⟩)))), some (.g (.s (.int _ j))) => (0 ≤ j ∧ j < n) ∧ K (σ.put d (.g (.s (.pointer (some ⟨b, o + j.toNat * z, none⟩)))))
    | _, _ => False
  | .idxS x i z => match ev σ x, ev σ i with
    | some (.row k o n), some (.g (.s (.int _ j))) => match rowE σ.pv k with
      | some (z', _) => z' = z ∧ (0 ≤ j ∧ j < n) ∧ K (σ.put d (.rref k (o + j.toNat) []))
      | _ => False
    | some (.g (.s (.slice (some ⟨b, o, none⟩) n _))), some (.g (.s (.int _ j))) => (0 ≤ j ∧ j < n) ∧ K (σ.put d (.g (.s (.pointer (some ⟨b, o + j.toNat * z, none⟩)))))
    | _, _ => False
  | .ld x z ag => match ev σ x with
    | some (.ref k p) => match look σ.pv k with
      | some (.box g) => (g.getT p).fits z ag = true ∧ K (σ.put d (.g (g.getT p)))
      | _ => False
    | some (.rref k i p) => ((rowD σ.pv k i).getT p).fits z ag = true ∧ K (σ.put d (.g ((rowD σ.pv k i).getT p)))
    | some (.g (.s (.pointer (some ⟨b, o, none⟩)))) => ldK C σ b o z ag d K
    | _ => False
  | .bin op x y => match ev σ x, ev σ y with
    | some (.g (.s a)), some (.g (.s b)) => match binV op a b with
      | some v => binC op a b ∧ K (σ.put d (.g (.s v)))
      | none => False
    | _, _ => False
  | .un op x => match ev σ x with
    | some (.g (.s a)) => match unV op a with
      | some v => K (σ.put d (.g (.s v)))
      | none => False
    | _ => False
  | .len x => match ev σ x with
    | some (.row _ _ n) => K (σ.put d (.g (.s (.int .i64 n))))
    | some (.g (.s (.slice _ n _))) => K (σ.put d (.g (.s (.int .i64 n))))
    | _ => False
  | .lenS x => match ev σ x with
    | some (.g (.s (.string b))) => K (σ.put d (.g (.s (.int .i64 b.size))))
    | _ => False
  | .mnx b x y => match ev σ x, ev σ y with
    | some (.g (.s (.int k i))), some (.g (.s (.int _ j))) => K (σ.put d (.g (.s (.int k (bif b then max i j else min i j)))))
    | _, _ => False
  | .ext x i => match ev σ x with
    | some (.tup xs) => match xs[i]? with
      | some y => K (σ.put d (.g y))
      | none => False
    | _ => False
  | .fldV x i off z ag => match ev σ x with
    | some (.g g) => g.fld i off = true ∧ (g.getT [i]).fits z ag = true ∧ K (σ.put d (.g (g.getT [i])))
    | _ => False
  | .idxV x i n z ag => match ev σ x, ev σ i with
    | some (.g g), some (.g (.s (.int _ j))) => g.arr n z = true ∧ (0 ≤ j ∧ j < n) ∧ (g.getT [j.toNat]).fits z ag = true ∧ K (σ.put d (.g (g.getT [j.toNat])))
    | _, _ => False
  | .sl z x lo hi => match ev σ x with
    | some (.row k o n) => match bndN σ lo 0, bndN σ hi n, rowE σ.pv k with
      | some l, some h, some (z', _) => (z' = z ∧ 0 ≤ l ∧ l ≤ h ∧ h ≤ n) ∧ K (σ.put d (.row k (o + l.toNat) (h.toNat - l.toNat)))
      | _, _, _ => False
    | some (.g (.s (.slice none 0 0))) => match bndN σ lo 0, bndN σ hi 0 with
      | some l, some h => (l = 0 ∧ h = 0) ∧ K (σ.put d (.g (.s (.slice none 0 0))))
      | _, _ => False
    | some (.g (.s (.slice (some ⟨b, o, none⟩) n c))) => match bndN σ lo 0, bndN σ hi n with
      | some l, some h => (n ≤ c ∧ 0 ≤ l ∧ l ≤ h ∧ h ≤ c) ∧ K (σ.put d (.g (.s (.slice (some ⟨b, if c = l.toNat then o else o + l.toNat * z, none⟩) (h.toNat - l.toNat) (c - l.toNat)))))
      | _, _ => False
    | some (.g (.s (.slice (some ⟨b, o, some sp⟩) 0 0))) => match bndN σ lo 0, bndN σ hi 0 with
      | some l, some h => (l = 0 ∧ h = 0) ∧ K (σ.put d (.g (.s (.slice (some ⟨b, o, some sp⟩) 0 0))))
      | _, _ => False
    | _ => False
  | .slS x lo hi => match ev σ x with
    | some (.g (.s (.string b))) => match bndN σ lo 0, bndN σ hi b.size with
      | some l, some h => (0 ≤ l ∧ l ≤ h ∧ h ≤ b.size) ∧ K (σ.put d (.g (.s (.string (b.extract l.toNat h.toNat)))))
      | _, _ => False
    | _ => False
  | .strI x i => match ev σ x, ev σ i with
    | some (.g (.s (.string b))), some (.g (.s (.int _ j))) => (0 ≤ j ∧ j < b.size) ∧ K (σ.put d (.g (.s (.int .u8 (b.data.getD j.toNat 0).toNat))))
    | _, _ => False
  | .cvI k x => match ev σ x with
    | some (.g (.s (.int _ j))) => K (σ.put d (.g (.s (.int k (k.wrap j)))))
    | _ => False
  | .nilc x => match ev σ x with
    | some (.ref k p) => K (σ.put d (.ref k p))
    | some (.rref k i p) => K (σ.put d (.rref k i p))
    | some (.g (.s (.pointer (some a)))) => K (σ.put d (.g (.s (.pointer (some a)))))
    | some (.g (.s (.func (.func f) p q))) => K (σ.put d (.g (.s (.func (.func f) p q))))
    | _ => False
  | .mkf f l => match evL σ l with
    | some xs => match scL xs with
      | some vs => K (σ.put d (.g (.s (.func (.func f) #[] vs.toArray))))
      | none => False
    | none => False
  | .callV x args => match ev σ x with
    | some (.g (.s (.func (.func f) p q))) => (∃ fn, C.P.funcs[f]? = some fn ∧ (fn.body.isSome && fn.name != "runtime.NumGoroutine") = true) ∧ vcCall C f (p.toList.map .c ++ args ++ q.toList.map .c) d K σ
    | _ => False
  | .bld z parts => match evL σ (parts.map (·.2)) with
    | some xs => match gvL xs with
      | some gs => GV.bldC z (parts.map (·.1)) gs ∧ K (σ.put d (.g (GV.bldT z (parts.map (·.1)) gs)))
      | none => False
    | none => False
  | .eqA neg t x y => match ev σ x, ev σ y with
    | some (.g a), some (.g b) => eqK C t a b neg d K σ
    | some (.ref _ _), some (.g (.s (.pointer none))) => (∃ e, C.P.underlying t = some (.pointer e)) ∧ K (σ.put d (.g (.s (.bool neg))))
    | some (.rref _ _ _), some (.g (.s (.pointer none))) => (∃ e, C.P.underlying t = some (.pointer e)) ∧ K (σ.put d (.g (.s (.bool neg))))
    | some (.row _ _ n), some (.g (.s (.slice none 0 0))) => (∃ e, C.P.underlying t = some (.slice e)) ∧ ∀ r : Bool, (0 < n → r = false) → K (σ.put d (.g (.s (.bool (r != neg)))))
    | _, _ => False
  | .box _ x => match d, ev σ x with
    | some k, some (.g g) => look σ.pv k = none ∧ K { σ with fr := (k, .ref k []) :: σ.fr, pv := updL σ.pv k (.box g) }
    | _, _ => False
  | .new _ z => match d with
    | some k => look σ.pv k = none ∧ K { σ with fr := (k, .ref k []) :: σ.fr, pv := updL σ.pv k (.box z) }
    | _ => False
  | .st x v z => match ev σ x, ev σ v with
    | some (.ref k p), some (.g y) => match look σ.pv k with
      | some (.box g) => (y.same (g.getT p) ∧ y.sz = z) ∧ K ({ σ with pv := updL σ.pv k (.box (g.setT p y)) }.put d .no)
      | _ => False
    | some (.rref k i p), some (.g y) => match look σ.pv k with
      | some (.row e z' df xs) => (y.same ((xs.getD i df).getT p) ∧ y.sz = z) ∧ K ({ σ with pv := updL σ.pv k (.row e z' df (xs.set i ((xs.getD i df).setT p y))) }.put d .no)
      | _ => False
    | some (.g (.s (.pointer (some ⟨b, o, none⟩)))), some (.g y) => stK σ b o z y d K
    | _, _ => False
  | .bldS e z df parts => match d, evL σ parts with
    | some k, some xs => match gvL xs with
      | some gs => (szAll z gs ∧ look σ.pv k = none) ∧ K { σ with fr := (k, .row k 0 gs.length) :: σ.fr, pv := updL σ.pv k (.row e z df gs) }
      | none => False
    | _, _ => False
  | .app e z by_ df x y => match ev σ x, ev σ y with
    | some (.row k o n), some (.row j o' n') => match look σ.pv k, rowE σ.pv j with
      | some (.row e' z' df' xs), some (z2, ys) => (k ≠ j ∧ e' = e ∧ z' = z ∧ z2 = z ∧ o = 0 ∧ n = xs.length) ∧ (n + n') * by_ ≤ 140737488355328 ∧
          K ({ σ with fr := kill k σ.fr, pv := updL σ.pv k (.row e z df' (xs ++ (ys.drop o').take n')) }.put d (.row k 0 (n + n')))
      | _, _ => False
    | some (.g (.s v)), some (.row j o' n') => match rowE σ.pv j with
      | some (z2, ys) => z2 = z ∧ appG x e z by_ df v n' ((ys.drop o').take n') d K σ
      | _ => False
    | _, _ => False
  | .b2s x => match ev σ x with
    | some y => b2sK C y d K σ
    | none => False
  | .capS x => match ev σ x with
    | some (.g (.s (.slice _ _ c))) => K (σ.put d (.g (.s (.int .i64 c))))
    | _ => False
  | .mks e z by_ df n c => match ev σ n, ev σ c with
    | some (.g (.s (.int _ i))), some (.g (.s (.int _ j))) => match d with
      | some k => (look σ.pv k = none ∧ i = j ∧ 0 ≤ i) ∧ i * by_ ≤ 140737488355328 ∧ K { σ with fr := (k, .row k 0 i.toNat) :: σ.fr, pv := updL σ.pv k (.row e z df (List.replicate i.toNat df)) }
      | none => False
    | _, _ => False
  | .appZ e z by_ df x n => match ev σ x, ev σ n with
    | some (.g (.s (.slice none 0 0))), some (.g (.s (.int _ i))) => match d with
      | some k => (look σ.pv k = none ∧ 0 < i) ∧ i * by_ ≤ 140737488355328 ∧ K { σ with fr := (k, .row k 0 i.toNat) :: σ.fr, pv := updL σ.pv k (.row e z df (List.replicate i.toNat df)) }
      | none => False
    | _, _ => False
  | .mkm => mkmK d K σ
  | .mlk kd x i z ok => match ev σ x, ev σ i with
    | some (.g (.s (.map (some b)))), some (.g (.s k)) => mlkK C kd b k z ok d K σ
    | _, _ => False
  | .mlk2 x i z ok => match ev σ x, ev σ i with
    | some (.g (.s (.map (some b)))), some (.g g) => mlk2K C b g z ok d K σ
    | _, _ => False
  | .mup2 x i v => match ev σ x, ev σ i, ev σ v with
    | some (.g (.s (.map (some b)))), some (.g g), some (.g (.s y)) => mup2K b g y d K σ
    | _, _, _ => False
  | .mlkG x i z ok => match ev σ x, ev σ i with
    | some (.g (.s (.map (some b)))), some (.g g) => mlkGK C b g z ok d K σ
    | _, _ => False
  | .mupG x i v => match ev σ x, ev σ i, ev σ v with
    | some (.g (.s (.map (some b)))), some (.g g), some (.g y) => mupGK b g y d K σ
    | _, _, _ => False
  | .mlnG x => match ev σ x with
    | some (.g (.s (.map (some b)))) => mlnGK C b d K σ
    | _ => False
  | .men2 x i z => match ev σ x, ev σ i with
    | some (.g (.s (.map (some b)))), some (.g g) => men2K b g z d K σ
    | _, _ => False
  | .mes2 x s v => match ev σ x, ev σ s, ev σ v with
    | some (.g (.s (.map (some b)))), some (.g (.s s)), some (.g (.s y)) => mes2K b s y d K σ
    | _, _, _ => False
  | .mup kd x i v => match ev σ x, ev σ i, ev σ v with
    | some (.g (.s (.map (some b)))), some (.g (.s k)), some (.g (.s y)) => mupK kd b k y d K σ
    | _, _, _ => False
  | .mdl kd x i => match ev σ x, ev σ i with
    | some (.g (.s (.map (some b)))), some (.g (.s k)) => mdlK kd b k d K σ
    | _, _ => False
  | .mln kd x => match ev σ x with
    | some (.g (.s (.map (some b)))) => mlnK C kd b d K σ
    | some (.g (.s (.map none))) => K (σ.put d (.g (.s (.int .i64 0))))
    | _ => False
  | .rng kd x => match ev σ x with
    | some (.g (.s (.map (some b)))) => rngK C kd b d K σ
    | _ => False
  | .nxt x => match ev σ x with
    | some (.g (.s (.pointer (some ⟨r, 0, none⟩)))) => nxtK C r d K σ
    | _ => False
  | .ent x => match ev σ x with
    | some (.g (.s (.pointer (some ⟨r, 0, none⟩)))) => entK C r d K σ
    | _ => False
  | .s2b _ x => match d, ev σ x with
    | some k, some (.g (.s (.string b))) => look σ.pv k = none ∧ ∀ u, K { σ with fr := (k, .row k 0 b.size) :: σ.fr, pv := updL σ.pv k (.ro 1 (gb 0) (b.data.toList.map gb)), ph := u :: σ.ph }
    | _, _ => False
  | .call f args => vcCall C f args d K σ
  | .gh => ghC C K σ
  | .bot => False

/-- What only looks. -/
def isRd : RO → Bool
  | .mv _ | .pick .. | .fldA .. | .idxA .. | .idxS .. | .ld .. | .bin .. | .un .. | .len _ | .lenS _ | .mnx .. | .ext .. | .fldV .. | .idxV .. | .sl .. | .slS .. | .strI .. | .cvI .. | .nilc _ | .mkf .. | .bld .. | .eqA .. | .b2s _ | .capS _ | .mlk .. | .mln .. | .ent _ | .mlk2 .. | .mlkG .. | .mlnG _ => true
  | _ => false

/-- A call that leaves what is known as it is, and whose result hangs on its arguments alone. -/
def vcCallQ (C : Ctx) (f : Nat) (args : List Opd) (d : Option Nat) (K : KT) (σ : SS) : Prop :=
  ∃ y : GV, y.ok ∧ (∀ loc a w, FR loc C.N σ.fr σ.pv σ.ph a → HR C loc σ.pv σ.ph σ.m w → Calls C.P f (args.map (evO a)).toArray w fun e w' => e = .returned y.val ∧ HR C loc σ.pv σ.ph σ.m w') ∧ K (σ.put d (.g y))

def vcqOp (C : Ctx) (d : Option Nat) (K : KT) (σ : SS) (o : RO) : Prop :=
  match o with
  | .call f args => vcCallQ C f args d K σ
  | .callV x args => match ev σ x with
    | some (.g (.s (.func (.func f) p q))) => (∃ fn, C.P.funcs[f]? = some fn ∧ (fn.body.isSome && fn.name != "runtime.NumGoroutine") = true) ∧ vcCallQ C f (p.toList.map .c ++ args ++ q.toList.map .c) d K σ
    | _ => False
  | o => isRd o = true ∧ vcOp C d K σ o

def vcqSegOps (C : Ctx) : List (Option Nat × RO) → KT → KT
  | [], K, σ => K σ
  | (d, o) :: r, K, σ => vcqOp C d (vcqSegOps C r K) σ o

def vcSegOps (C : Ctx) : List (Option Nat × RO) → KT → KT
  | [], K, σ => K σ
  | (d, o) :: r, K, σ => vcOp C d (vcSegOps C r K) σ o

def RO.isGh : RO → Bool
  | .gh => true
  | _ => false

def skipAll : List (Option Nat × RO) → SS → SS
  | [], σ => σ
  | (d, o) :: r, σ => bif o.isGh then skipAll r σ else skipAll r (σ.put d .no)

def vcSegs (C : Ctx) : List Seg → KT → KT
  | [], K, σ => K σ
  | ⟨none, ops⟩ :: r, K, σ => vcSegOps C ops (vcSegs C r K) σ
  | ⟨some (t, want), ops⟩ :: r, K, σ =>
    match look σ.fr t with
    | some (.g (.s (.bool b))) =>
      brB b want (vcSegOps C ops (vcSegs C r K) (σ.put (some t) (.g (.s (.bool want))))) (vcSegs C r K (skipAll ops (σ.put (some t) (.g (.s (.bool !want))))))
    | some .no => vcSegs C r K (skipAll ops σ)
    | _ => False

def vcqSegs (C : Ctx) : List Seg → KT → KT
  | [], K, σ => K σ
  | ⟨none, ops⟩ :: r, K, σ => vcqSegOps C ops (vcqSegs C r K) σ
  | ⟨some (t, want), ops⟩ :: r, K, σ =>
    match look σ.fr t with
    | some (.g (.s (.bool b))) =>
      brB b want (vcqSegOps C ops (vcqSegs C r K) (σ.put (some t) (.g (.s (.bool want))))) (vcqSegs C r K (skipAll ops (σ.put (some t) (.g (.s (.bool !want))))))
    | some .no => vcqSegs C r K (skipAll ops σ)
    | _ => False

/-- The variables that some slots speak of. -/
def heldK (fr : List (Nat × SV)) : List Nat → List Nat
  | [] => []
  | t :: ts => match look fr t with
    | some (.ref k []) => k :: heldK fr ts
    | _ => heldK fr ts
/-- They stand as they stood. -/
def heldOk (σ0 σ : SS) : List Nat → Prop
  | [] => True
  | t :: ts => (match look σ0.fr t with
    | some (.ref k []) => look σ.fr t = some (.ref k []) ∧ look σ.pv k = look σ0.pv k
    | _ => True) ∧ heldOk σ0 σ ts
/-- What was known of memory is known still. -/
structure HeldM (m : PH) (ph : List PH) (m' : PH) (ph' : List PH) : Prop where
  m : ∀ b o, m b = some o → m' b = some o
  ph : ∀ u, u ∈ ph → u ∈ ph'
theorem HeldM.self (m : PH) (ph : List PH) : HeldM m ph m ph := ⟨fun _ _ h => h, fun _ h => h⟩
theorem heldM_self (m : PH) (ph : List PH) : HeldM m ph m ph = True := eq_true (HeldM.self m ph)
/-- A load of what stands throughout. -/
def ldH (C : Ctx) (σ0 : SS) (ts : List Nat) (x : Opd) (z : Nat) (ag : Bool) (d : Option Nat) (K : KT) (σ : SS) : Prop :=
  match ev σ x with
  | some (.ref k p) => (heldK σ0.fr ts).contains k = true ∧ match look σ0.pv k with
    | some (.box g) => (g.getT p).fits z ag = true ∧ K (σ.put d (.g (g.getT p)))
    | _ => False
  | some (.g (.s (.pointer (some ⟨b, o, none⟩)))) => ∃ y, Seen C σ0.ph σ0.m b o y ∧ y.fits z ag = true ∧ K (σ.put d (.g y))
  | _ => False

def vcFirst (C : Ctx) (σ0 : SS) (ts : List Nat) (s : Seg) (K : KT) (σ : SS) : Prop :=
  match s.ops with
  | [(d, .ld x z ag)] => match s.guard with
    | none => ldH C σ0 ts x z ag d K σ
    | some (t, want) => match look σ.fr t with
      | some (.g (.s (.bool b))) => brB b want (ldH C σ0 ts x z ag d K (σ.put (some t) (.g (.s (.bool want))))) (K ((σ.put (some t) (.g (.s (.bool !want)))).put d .no))
      | some .no => K (σ.put d .no)
      | _ => False
  | _ => False

def vcOTH (C : Ctx) (K : KT) (ts : List Nat) (σ0 : SS) : OT → KT
  | .done, σ => K σ
  | .bad, _ => False
  | .op s t, σ => vcSegs C [s] (fun σ' => HeldM σ0.m σ0.ph σ'.m σ'.ph ∧ heldOk σ0 σ' ts ∧ vcOTH C K ts σ0 t σ') σ
  | .first s t, σ => vcFirst C σ0 ts s (fun σ' => heldOk σ0 σ' ts ∧ vcOTH C K ts σ0 t σ') σ
  | .or a b, σ => vcOTH C K ts σ0 a σ ∧ vcOTH C K ts σ0 b σ
  | .gh t, σ => ghC C (fun σ' => HeldM σ0.m σ0.ph σ'.m σ'.ph ∧ heldOk σ0 σ' ts ∧ vcOTH C K ts σ0 t σ') σ
  | .held _ _, _ => False
  | .heldF _ _, _ => False

def vcOT (C : Ctx) (K : KT) : OT → KT
  | .done, σ => K σ
  | .bad, _ => False
  | .op s t, σ => vcSegs C [s] (vcOT C K t) σ
  | .or a b, σ => vcOT C K a σ ∧ vcOT C K b σ
  | .gh t, σ => ghC C (vcOT C K t) σ
  | .first _ _, _ => False
  | .held ts t, σ => heldOk σ σ ts ∧ vcOTH C K ts σ t σ
  | .heldF ts t, σ => heldOk { σ with m := PH.no } σ ts ∧ vcOTH C K ts { σ with m := PH.no } t σ

def kKeep (keep : List Nat) (Q : QT) : KT := fun σ => Q .normal (σ.keep keep)
def thenQ (K : KT) (Q : QT) : QT
  | .normal, σ => K σ
  | e, σ => Q e σ
def blockQ (id : Nat) (Q : QT) : QT
  | .exit j, σ => if j = id then Q .normal σ else Q (.exit j) σ
  | e, σ => Q e σ

/-- σ says all that τ says. -/
structure Ge (σ τ : SS) : Prop where
  fr : ∀ t x, look τ.fr t = some x → look σ.fr t = some x
  pv : ∀ k y, look τ.pv k = some y → look σ.pv k = some y
  wf : ∀ t x, look τ.fr t = some x → ∀ k, x.mentions k = true → (look τ.pv k).isSome = true
  ph : ∀ u, u ∈ τ.ph → u ∈ σ.ph
  ros : ∀ k z df xs, look τ.pv k = some (.ro z df xs) → ∀ u, u ∈ σ.ph → u ∈ τ.ph
  m : τ.m = σ.m
  same : ∀ u, u ∈ σ.ph → u ∈ τ.ph

def scopeQ (Q : QT) : QT
  | .goto _, _ => False
  | e, σ => Q e σ

def loopQ {ι : Type} (st : ι → SS) (inv : ι → Prop) (ms : ι → Nat) (i : ι) (Q : QT) : QT
  | .normal, σ => ∃ j, inv j ∧ ms j < ms i ∧ Ge σ (st j)
  | e, σ => Q e σ

def vc (C : Ctx) : Cd → QT → KT
  | .skip, Q, σ => Q .normal σ
  | .ret, Q, σ => Q .ret σ
  | .exit id, Q, σ => Q (.exit id) σ
  | .seq a b, Q, σ => vc C a (thenQ (vc C b Q) Q) σ
  | .ite c a b, Q, σ => match ev σ c with
    | some (.g (.s (.bool t))) => brB t true (vc C a Q σ) (vc C b Q σ)
    | _ => False
  | .block id a, Q, σ => vc C a (blockQ id Q) σ
  | .loop a, Q, σ => ∃ (ι : Type) (st : ι → SS) (inv : ι → Prop) (ms : ι → Nat) (i : ι), inv i ∧ Ge σ (st i) ∧ ∀ i, inv i → vc C a (loopQ st inv ms i Q) (st i)
  | .scope a, Q, σ => vc C a (scopeQ Q) σ
  | .rg segs keep, Q, σ => vcSegs C segs (kKeep keep Q) σ
  | .rgq hd tl keep, Q, σ => vcqSegs C hd (vcSegs C tl (kKeep keep Q)) σ
  | .rga t keep, Q, σ => vcOT C (kKeep keep Q) t σ
  | .gh a, Q, σ => ∀ act w, Rel C σ act w → ∃ τ, Rel C τ act w ∧ vc C a Q τ
  | .raw c, Q, σ => ∀ act w, Rel C σ act w → c.wp C.P (liftQ C Q) act w

/-! ### How code is resolved -/
def agD : TypeDesc → Bool
  | .struct _ | .array _ _ => true
  | _ => false

def cOpd : Operand → Option Opd
  | .tmp t => some (.t t)
  | .const v => if v.oneCell' then some (.c v) else none
  | .global g => some (.c (.pointer (some ⟨g, 0, none⟩)))
  | .func f => some (.c (.func (.func f) #[] #[]))

def cOpdO : Option Operand → Option (Option Opd)
  | none => some none
  | some u => (cOpd u).map some

/-- The tree of a type's zero value. -/
def zeroT (P : Program) : Nat → TypeId → Option GV
  | 0, _ => none
  | n + 1, t => match P.underlying t with
    | some (.struct fs) => fs.toList.foldr (fun f acc => match zeroT P n f.type, acc with | some x, some y => some (.c x y) | _, _ => none) (some .u)
    | some (.array k e) => match zeroT P n e, (P.info? e).map (·.size) with
      | some x, some z => some (.ar k z fun _ => x)
      | _, _ => none
    | some _ => match (P.info? t).bind (·.zero) with
      | some v => if v.oneCell' then some (.s v) else none
      | none => none
    | none => none

def scEq : Value → Value → Bool
  | .int k a, .int k' b => k == k' && a == b
  | .bool a, .bool b => a == b
  | .string a, .string b => a.data.toList == b.data.toList
  | .pointer none, .pointer none | .slice none 0 0, .slice none 0 0 | .map none, .map none | .nilFunc, .nilFunc | .nilIface, .nilIface => true
  | _, _ => false

def scEqL : List Value → List Value → Bool
  | [], [] => true
  | a :: x, b :: y => scEq a b && scEqL x y
  | _, _ => false

def okB : GV → Bool
  | .s v => v.oneCell'
  | .u => true
  | .c h t => okB h && okB t
  | .ar n e f => (List.range n).all fun j => okB (f j) && GV.sz (f j) == e

/-- The parts' places, as the type tells them, are the tree's. -/
def bldOk (P : Program) (t : TypeId) (z : GV) (is : List Nat) : Bool :=
  match P.underlying t with
  | some (.struct fs) => match fs.toList.mapM (fun f => (P.info? f.type).map fun i => (f.offset, i.size)) with
    | some places => is.all fun i => (z.get [i]).isSome && places.toArray[i]? == some (z.offs [i], (z.getT [i]).sz)
    | none => false
  | some (.array _ e) => match P.info? e with
    | some i => is.all fun j => (z.get [j]).isSome && (j * i.size, i.size) == (z.offs [j], (z.getT [j]).sz)
    | none => false
  | _ => false

/-- A map's key, and what is read where there is none. -/
def mapT (P : Program) (t : TypeId) : Option (Option IntKind × Option Value) :=
  match P.underlying t with
  | some (.map k e) => match P.underlying k with
    | some (.int kd) => some (some kd, match (P.info? e).bind (·.zero) with | some z => if z.oneCell' then some z else none | none => none)
    | some .string => some (none, match (P.info? e).bind (·.zero) with | some z => if z.oneCell' then some z else none | none => none)
    | _ => none
  | _ => none

def isI64 : Option TypeDesc → Bool
  | some (.int .i64) => true
  | _ => false
/-- A map whose keys are two numbers. -/
def map2T (P : Program) (t : TypeId) : Option (Option Value) :=
  match P.underlying t with
  | some (.map k e) => match P.underlying k with
    | some (.struct fs) => match fs.toList with
      | [f0, f1] => if f0.offset == 0 && f1.offset == 1 && f0.name != "_" && f1.name != "_" && !P.stoodInHeld k && isI64 (P.underlying f0.type) && isI64 (P.underlying f1.type) then
          some (match (P.info? e).bind (·.zero) with | some z => if z.oneCell' then some z else none | none => none) else none
      | _ => none
    | _ => none
  | _ => none

/-- The value that is read of such a map where there is none. -/
def map2G (P : Program) (t : TypeId) : Option GV := match P.underlying t with
  | some (.map _ e) => match zeroT P 8 e, (P.info? e).bind (·.zero) with
    | some z, some (.agg xs) => if !z.isS && okB z && scEqL z.flat xs.toList then some z else none
    | _, _ => none
  | _ => none
def cOp? (P : Program) (o : Oper) : Option RO :=
  match o.op with
  | .move x | .assign x => (cOpd x).map .mv
  | .pick c a b => match cOpd c, cOpd a, cOpd b with
    | some c, some a, some b => some (.pick c a b)
    | _, _, _ => none
  | .box e x => (cOpd x).map (.box e)
  | .alloc e => match zeroT P 8 e, (P.info? e).bind (·.zero) with
    | some z, some v => if okB z && scEqL z.flat v.cells.toList then some (.new e z) else none
    | _, _ => none
  | .fieldAddr s x f => match P.underlying s, cOpd x with
    | some (.struct fs), some x => match fs[f]? with
      | some fd => match P.info? fd.type with
        | some i => if i.size = 0 then none else some (.fldA x f fd.offset)
        | none => none
      | none => none
    | _, _ => none
  | .indexAddr t x i => match P.underlying t, cOpd x, cOpd i with
    | some (.array n e), some x, some i => (P.info? e).map fun z => .idxA x i n z.size
    | some (.slice e), some x, some i => (P.info? e).map fun z => .idxS x i z.size
    | _, _, _ => none
  | .load t x => match P.underlying t, P.info? t, cOpd x with
    | some d, some i, some x => some (.ld x i.size (agD d))
    | _, _, _ => none
  | .store t x v => match P.info? t, cOpd x, cOpd v with
    | some i, some x, some v => some (.st x v i.size)
    | _, _, _ => none
  | .binOp op t x y _ => match P.underlying t, cOpd x, cOpd y with
    | some (.int _), some x, some y => some (.bin op x y)
    | some .string, some x, some y => some (.bin op x y)
    | some _, some x, some y => match op with
      | .eql => some (.eqA false t x y)
      | .neq => some (.eqA true t x y)
      | _ => none
    | _, _, _ => none
  | .unOp op _ x => (cOpd x).map (.un op)
  | .field t x f => match P.underlying t, cOpd x with
    | some (.struct fs), some x => match fs[f]? with
      | some fd => match P.underlying fd.type, P.info? fd.type with
        | some d, some i => some (.fldV x f fd.offset i.size (agD d))
        | _, _ => none
      | none => none
    | _, _ => none
  | .index t x i => match P.underlying t, cOpd x, cOpd i with
    | some (.array n e), some x, some i => match P.underlying e, P.info? e with
      | some d, some z => some (.idxV x i n z.size (agD d))
      | _, _ => none
    | some .string, some x, some i => some (.strI x i)
    | _, _, _ => none
  | .slice t x lo hi mx => match P.underlying t, cOpd x, cOpdO lo, cOpdO hi, mx with
    | some .string, some x, some lo, some hi, none => some (.slS x lo hi)
    | some (.slice e), some x, some lo, some hi, none => (P.info? e).map fun z => .sl z.size x lo hi
    | _, _, _, _, _ => none
  | .convert s t x => match P.underlying s, P.underlying t, cOpd x with
    | some (.int _), some (.int k), some x => some (.cvI k x)
    | some (.slice e), some .string, some x => match P.underlying e with
      | some (.int .u8) => some (.b2s x)
      | _ => none
    | some .string, some (.slice e), some x => match P.underlying e with
      | some (.int .u8) => some (.s2b e x)
      | _ => none
    | _, _, _ => none
  | .nilCheck x => (cOpd x).map .nilc
  | .makeFunc fn first caps => match fn, first.toList with
    | .func f, [] => (caps.toList.mapM cOpd).map (.mkf f)
    | _, _ => none
  | .build t parts => match zeroT P 8 t, (P.info? t).bind (·.zero), parts.toList.mapM (fun x => (cOpd x.2).map fun y => (x.1, y)) with
    | some z, some zv, some l => if !z.isS && okB z && scEqL z.flat zv.cells.toList && bldOk P t z (l.map (·.1)) then some (.bld z l) else none
    | _, _, _ => none
  | .buildSlice t n parts => match P.underlying t, (parts.toList.mapM fun x => cOpd x.2) with
    | some (.slice e), some l => match P.info? e, zeroT P 8 e with
      | some i, some df => if n == parts.size && i.zero.isSome && decide (parts.size * i.size ≤ 2 ^ 24) && (parts.toList.map (·.1) == List.range parts.size) then some (.bldS e i.size df l) else none
      | _, _ => none
    | _, _ => none
  | .extract x i => (cOpd x).map (.ext · i)
  | .call c => match c.callee with
    | .value (.tmp v) => (c.args.toList.mapM cOpd).map (.callV (.t v))
    | .value (.func f) => match P.funcs[f]? with
      | some fn => if fn.body.isSome && fn.name != "runtime.NumGoroutine" then (c.args.toList.mapM cOpd).map (.call f) else none
      | none => none
    | .builtin .len => match c.args.toList, c.argTypes[0]? with
      | [x], some t => match P.underlying t with
        | some (.slice _) => (cOpd x).map .len
        | some .string => (cOpd x).map .lenS
        | some (.map _ _) => match mapT P t, cOpd x with
          | some (kd, _), some x => some (.mln kd x)
          | none, some x => match map2T P t with
            | some _ => some (.mlnG x)
            | none => none
          | _, _ => none
        | _ => none
      | _, _ => none
    | .builtin .append => match c.args.toList, c.argTypes[0]?, c.argTypes[1]? with
      | [x, y], some t, some t2 => match P.underlying t, P.underlying t2, cOpd x, cOpd y with
        | some (.slice e), some (.slice _), some x, some y => match P.info? e, zeroT P 8 e with
          | some i, some df => match i.zero with
            | some zv => if zv.cells.size == i.size && i.bytes != 0 then some (.app e i.size i.bytes df x y) else none
            | none => none
          | _, _ => none
        | some (.slice e), some (.int _), some x, some y => match P.info? e, zeroT P 8 e with
          | some i, some df => match i.zero with
            | some zv => if (okB df && scEqL df.flat zv.cells.toList && df.sz == i.size) && zv.cells.size == i.size && i.bytes != 0 && i.size != 0 then some (.appZ e i.size i.bytes df x y) else none
            | none => none
          | _, _ => none
        | _, _, _, _ => none
      | _, _, _ => none
    | .builtin .min => match c.args.toList with
      | [x, y] => match cOpd x, cOpd y with
        | some x, some y => some (.mnx false x y)
        | _, _ => none
      | _ => none
    | .builtin .max => match c.args.toList with
      | [x, y] => match cOpd x, cOpd y with
        | some x, some y => some (.mnx true x y)
        | _, _ => none
      | _ => none
    | .builtin .cap => match c.args.toList, c.argTypes[0]? with
      | [x], some t => match P.underlying t with
        | some (.slice _) => (cOpd x).map .capS
        | _ => none
      | _, _ => none
    | .builtin .delete => match c.args.toList, c.argTypes[0]? with
      | [x, i], some t => match mapT P t, cOpd x, cOpd i with
        | some (kd, _), some x, some i => some (.mdl kd x i)
        | _, _, _ => none
      | _, _ => none
    | _ => none
  | .makeSlice t n c => match P.underlying t, cOpd n, cOpd c with
    | some (.slice e), some n, some c => match P.info? e, zeroT P 8 e with
      | some i, some df => match i.zero with
        | some zv => if (okB df && scEqL df.flat zv.cells.toList && df.sz == i.size) && zv.cells.size == i.size && i.bytes != 0 then some (.mks e i.size i.bytes df n c) else none
        | none => none
      | _, _ => none
    | _, _, _ => none
  | .makeMap _ r => match r with
    | none => some .mkm
    | some _ => none
  | .lookup t x i ok => match mapT P t, cOpd x, cOpd i with
    | some (kd, some z), some x, some i => some (.mlk kd x i z ok)
    | none, some x, some i => match map2T P t with
      | some (some z) => some (.mlk2 x i z ok)
      | some none => match map2G P t with
        | some z => some (.mlkG x i z ok)
        | none => none
      | none => none
    | _, _, _ => none
  | .mapUpdate t x i v | .insert t x i v => match mapT P t, cOpd x, cOpd i, cOpd v with
    | some (kd, _), some x, some i, some v => some (.mup kd x i v)
    | none, some x, some i, some v => match map2T P t with
      | some (some _) => some (.mup2 x i v)
      | some none => some (.mupG x i v)
      | none => none
    | _, _, _, _ => none
  | .range t x => match mapT P t, cOpd x with
    | some (kd, _), some x => some (.rng kd x)
    | _, _ => none
  | .next x false => (cOpd x).map .nxt
  | .entry x => (cOpd x).map .ent
  | .mapEntry t x i => match map2T P t, cOpd x, cOpd i with
    | some (some z), some x, some i => some (.men2 x i z)
    | _, _, _ => none
  | .entryStore t x s v => match map2T P t, cOpd x, cOpd s, cOpd v with
    | some _, some x, some s, some v => some (.mes2 x s v)
    | _, _, _, _ => none
  | _ => none

def cOp (P : Program) (o : Oper) : RO := (cOp? P o).getD .bot

def gOf (ops : Array Oper) (o : Oper) : Option (Nat × Bool) := o.guard.map fun x => (((ops[x.1]?).bind (·.dst)).getD 0, x.2)

/-- Operations with one guard together. -/
def grp (ops : Array Oper) : List Oper → List (Option (Nat × Bool) × List Oper)
  | [] => []
  | o :: r => match grp ops r with
    | (h, l) :: s => if h = gOf ops o then (gOf ops o, o :: l) :: s else (gOf ops o, [o]) :: (h, l) :: s
    | [] => [(gOf ops o, [o])]

def cSeg (P : Program) (x : Option (Nat × Bool) × List Oper) : Seg := ⟨x.1, x.2.map fun o => (o.dst, cOp P o)⟩
def cSegs (P : Program) (ops : Array Oper) (l : List Oper) : List Seg := (grp ops l).map (cSeg P)

def dstOk (N : Nat) (o : Oper) : Bool := match o.dst with
  | some d => decide (d < N)
  | none => true

def guardOk (ops : Array Oper) (o : Oper) : Bool := match o.guard with
  | some (j, _) => match (ops[j]?).bind (·.dst) with
    | some t => o.dst != some t
    | none => false
  | none => true

/-- What looks at its slots alone. -/
def isPure : RO → Bool
  | .ld .. | .b2s _ | .mlk .. | .mln .. | .ent _ | .mlk2 .. | .mlkG .. | .mlnG _ => false
  | r => isRd r

def segOf (P : Program) (ops : Array Oper) (i : Nat) : Seg := match ops[i]? with
  | some o => ⟨gOf ops o, [(o.dst, cOp P o)]⟩
  | none => ⟨none, []⟩

def orL : List OT → OT
  | [] => .bad
  | [x] => x
  | x :: r => .or x (orL r)

/-- The orders in which operations may come up; what is pure, ahead. -/
def otOf (P : Program) (ops : Array Oper) : Nat → Array Bool → OT
  | 0, listed => bif (Region.ready .any ops listed).isEmpty then .done else .bad
  | f + 1, listed =>
    bif (Region.ready .any ops listed).isEmpty then .done else
    match (Region.ready .any ops listed).find? (fun i => (match ops[i]? with | some o => isPure (cOp P o) | none => false) && Region.free .any ops listed i) with
    | some i => .op (segOf P ops i) (otOf P ops f (listed.setIfInBounds i true))
    | none => orL ((Region.ready .any ops listed).map fun i => .op (segOf P ops i) (otOf P ops f (listed.setIfInBounds i true)))

def isLd : RO → Bool
  | .ld .. => true
  | _ => false

/-- The same; loads, where they may, ahead. -/
def otOfH (P : Program) (ops : Array Oper) : Nat → Array Bool → OT
  | 0, listed => bif (Region.ready .any ops listed).isEmpty then .done else .bad
  | f + 1, listed =>
    bif (Region.ready .any ops listed).isEmpty then .done else
    match (Region.ready .any ops listed).find? (fun i => (match ops[i]? with | some o => isPure (cOp P o) | none => false) && Region.free .any ops listed i) with
    | some i => .op (segOf P ops i) (otOfH P ops f (listed.setIfInBounds i true))
    | none => match (Region.ready .any ops listed).find? (fun i => (match ops[i]? with | some o => isLd (cOp P o) | none => false) && Region.free .any ops listed i) with
      | some i => .first (segOf P ops i) (otOfH P ops f (listed.setIfInBounds i true))
      | none => orL ((Region.ready .any ops listed).map fun i => .op (segOf P ops i) (otOfH P ops f (listed.setIfInBounds i true)))

/-- The slots from which loads go out, and that no operation fills. -/
def heldTs (P : Program) (ops : Array Oper) : List Nat :=
  (ops.toList.filterMap fun o => match cOp P o with
    | .fldA (.t x) _ _ => if ops.all (fun o => o.dst != some x) then some x else none
    | .ld (.t x) _ _ => if ops.all (fun o => o.dst != some x) then some x else none
    | .mv (.t x) => if ops.all (fun o => o.dst != some x) then some x else none
    | _ => none).eraseDups

/-- ns: of each region whose order is open, how many of its operations only look. -/
def compR (P : Program) (N : Nat) (ns : List (Nat × Nat)) (id : Nat) (ops : Array Oper) (draw : Bool) : Cd :=
  bif ops.all (dstOk N) && ops.all (guardOk ops) then
    bif draw then
      match look ns id with
      | some n =>
        bif n == 999999 then (bif P.follows .mixedOrders && Region.noSelect ops then .rga (otOf P ops ops.size (Array.replicate ops.size false)) [] else .raw (.region id ops draw)) else
        bif n == 999998 then (bif (P.follows .mixedOrders && Region.noSelect ops) && ops.all (fun o => (heldTs P ops).all fun t => o.dst != some t) then .rga (.held (heldTs P ops) (otOfH P ops ops.size (Array.replicate ops.size false))) [] else .raw (.region id ops draw)) else
        bif P.follows .mixedOrders && (bif n == ops.size then Region.lexB .any ops else Region.lexTailB .any ops n) then .rgq (cSegs P ops (ops.toList.take n)) (cSegs P ops (ops.toList.drop n)) [] else .raw (.region id ops draw)
      | none => .raw (.region id ops draw)
    else .rg (cSegs P ops ops.toList) []
  else .raw (.region id ops draw)

theorem compR_cases (P : Program) (N : Nat) (ns : List (Nat × Nat)) (id : Nat) (ops : Array Oper) (draw : Bool) :
    (draw = false ∧ ops.all (dstOk N) = true ∧ ops.all (guardOk ops) = true ∧ compR P N ns id ops draw = .rg (cSegs P ops ops.toList) []) ∨
    (∃ n, draw = true ∧ ops.all (dstOk N) = true ∧ ops.all (guardOk ops) = true ∧ P.follows .mixedOrders = true ∧ ((n = ops.size ∧ Region.lexB .any ops = true) ∨ (n ≠ ops.size ∧ Region.lexTailB .any ops n = true)) ∧
      compR P N ns id ops draw = .rgq (cSegs P ops (ops.toList.take n)) (cSegs P ops (ops.toList.drop n)) []) ∨
    (draw = true ∧ ops.all (dstOk N) = true ∧ ops.all (guardOk ops) = true ∧ P.follows .mixedOrders = true ∧ Region.noSelect ops = true ∧
      compR P N ns id ops draw = .rga (otOf P ops ops.size (Array.replicate ops.size false)) []) ∨
    (draw = true ∧ ops.all (dstOk N) = true ∧ ops.all (guardOk ops) = true ∧ P.follows .mixedOrders = true ∧ Region.noSelect ops = true ∧ ops.all (fun o => (heldTs P ops).all fun t => o.dst != some t) = true ∧
      compR P N ns id ops draw = .rga (.held (heldTs P ops) (otOfH P ops ops.size (Array.replicate ops.size false))) []) ∨
    compR P N ns id ops draw = .raw (.region id ops draw) := by
  unfold compR
  cases h1 : ops.all (dstOk N) && ops.all (guardOk ops) with
  | false => exact .inr (.inr (.inr (.inr rfl)))
  | true =>
    simp only [Bool.and_eq_true] at h1
    cases draw with
    | false => exact .inl ⟨by first | rfl | trivial, h1.1, h1.2, by first | rfl | trivial⟩
    | true =>
      simp only [cond_true]
      cases look ns id with
      | none => exact .inr (.inr (.inr (.inr rfl)))
      | some n =>
        simp only
        cases h3 : n == 999999 with
        | true =>
          simp only [cond_true]
          cases h2 : P.follows .mixedOrders && Region.noSelect ops with
          | false => exact .inr (.inr (.inr (.inr rfl)))
          | true =>
            simp only [Bool.and_eq_true] at h2
            exact .inr (.inr (.inl ⟨by first | rfl | trivial, h1.1, h1.2, h2.1, h2.2, rfl⟩))
        | false =>
          simp only [cond_false]
          cases h4 : n == 999998 with
          | true =>
            simp only [cond_true]
            cases h2 : (P.follows .mixedOrders && Region.noSelect ops) && ops.all (fun o => (heldTs P ops).all fun t => o.dst != some t) with
            | false => exact .inr (.inr (.inr (.inr rfl)))
            | true =>
              rw [Bool.and_eq_true, Bool.and_eq_true] at h2
              exact .inr (.inr (.inr (.inl ⟨by first | rfl | trivial, h1.1, h1.2, h2.1.1, h2.1.2, h2.2, rfl⟩)))
          | false =>
          simp only [cond_false]
          cases h2 : P.follows .mixedOrders && (bif n == ops.size then Region.lexB .any ops else Region.lexTailB .any ops n) with
          | false => exact .inr (.inr (.inr (.inr rfl)))
          | true =>
            simp only [Bool.and_eq_true] at h2
            refine .inr (.inl ⟨n, by first | rfl | trivial, h1.1, h1.2, h2.1, ?_, rfl⟩)
            by_cases hn : n = ops.size
            · simp [hn] at h2; exact .inl ⟨hn, h2.2⟩
            · have hb : (n == ops.size) = false := by simpa using hn
              simp only [hb, cond_false] at h2
              exact .inr ⟨hn, h2.2⟩

def comp (P : Program) (N : Nat) (ns : List (Nat × Nat)) : Code → Cd
  | .skip => .skip
  | .ret => .ret
  | .exit id => .exit id
  | .seq a b => .seq (comp P N ns a) (comp P N ns b)
  | .cond c a b => match cOpd c with
    | some c' => .ite c' (comp P N ns a) (comp P N ns b)
    | none => .raw (.cond c a b)
  | .block id a => .block id (comp P N ns a)
  | .loop a => .loop (comp P N ns a)
  | .scope a => .scope (comp P N ns a)
  | .label _ => .skip
  | .region id ops draw => compR P N ns id ops draw
  | c => .raw c

def erSeg (s : Seg) : Seg := ⟨s.guard, s.ops.filter fun x => !x.2.isGh⟩

def erO : OT → OT
  | .op s t => .op s (erO t)
  | .first s t => .first s (erO t)
  | .or a b => .or (erO a) (erO b)
  | .held ts t => .held ts (erO t)
  | .heldF ts t => .held ts (erO t)
  | .gh t => erO t
  | .done => .done
  | .bad => .bad
/-- Without the slots' lists and the marks for the eye. -/
def er : Cd → Cd
  | .seq a b => .seq (er a) (er b)
  | .ite c a b => .ite c (er a) (er b)
  | .block id a => .block id (er a)
  | .loop a => .loop (er a)
  | .scope a => .scope (er a)
  | .rg s _ => .rg (s.map erSeg) []
  | .rgq h t _ => .rgq h (t.map erSeg) []
  | .rga t _ => .rga (erO t) []
  | .gh a => er a
  | c => c

end Go.Proofs.YtmjiojflncffeaaGreat.Vc

/- Soundness, one operation at a time: those that only read. -/
set_option linter.unusedVariables false
set_option linter.unusedSimpArgs false
namespace Go.Proofs.YtmjiojflncffeaaGreat.Vc
open Go

theorem look_upd {α : Type} : ∀ (l : List (Nat × α)) (t : Nat) (y : α) (k : Nat), look (updL l t y) k = if k = t then some y else look l k
  | [], t, y, k => by simp [updL, look]
  | (j, x) :: l, t, y, k => by
    simp only [updL]
    by_cases h : t = j
    · subst h; simp only [if_true, look]; split <;> rfl
    · simp only [h, if_false, look, look_upd l t y k]
      by_cases hk : k = j
      · subst hk; simp [show ¬ k = t from fun e => h e.symm]
      · simp [hk]

theorem look_put (σ : SS) (d : Nat) (x : SV) (t : Nat) : look (σ.put (some d) x).fr t = if t = d then some x else look σ.fr t := rfl

section
variable {loc : Loc} {N : Nat} {fr : List (Nat × SV)} {pv : List (Nat × PV)} {ph : List PH} {a : Act}

theorem FR.put (h : FR loc N fr pv ph a) {d : Option Nat} (hd : ∀ t, d = some t → t < N) {σ : SS} (hf : σ.fr = fr) {x : SV} {v : Value} (hx : SVr loc pv x v) :
    FR loc N (σ.put d x).fr pv ph (a.put d v) := by
  cases d with
  | none => subst hf; exact h
  | some d =>
    have hlt := hd d rfl
    refine ⟨h.defers, by simp [Act.put, h.size], fun t y hy => ?_⟩
    rw [look_put] at hy
    by_cases htd : t = d
    · subst htd
      simp only [if_true, Option.some.injEq] at hy
      subst hy
      exact ⟨v, by simp [Act.put, h.size, hlt], hx⟩
    · simp only [htd, if_false] at hy
      obtain ⟨u, hu, hr⟩ := h.slots t y (hf ▸ hy)
      exact ⟨u, by simp only [Act.put]; rw [Array.getElem?_setIfInBounds_ne (fun e => htd e.symm)]; exact hu, hr⟩

theorem FR.ev (h : FR loc N fr pv ph a) {σ : SS} (hf : σ.fr = fr) {x : Opd} {y : SV} (hy : ev σ x = some y) : SVr loc pv y (evO a x) := by
  cases x with
  | t n =>
    obtain ⟨v, hv, hr⟩ := h.slots n y (by simpa [Go.Proofs.YtmjiojflncffeaaGreat.Vc.ev, hf] using hy)
    simpa [evO, hv] using hr
  | c v =>
    simp only [Go.Proofs.YtmjiojflncffeaaGreat.Vc.ev] at hy
    cases hv : v.oneCell' <;> simp [hv] at hy
    subst hy
    exact ⟨hv, rfl⟩

theorem cOpd_eval {x : Operand} {y : Opd} (h : cOpd x = some y) (a : Act) : a.eval x = evO a y := by
  cases x with
  | tmp t => simp [cOpd] at h; subst h; rfl
  | const v => simp only [cOpd] at h; split at h <;> simp at h; subst h; rfl
  | global g => simp [cOpd] at h; subst h; rfl
  | func f => simp [cOpd] at h; subst h; rfl

/-- The value of a tree that is one value. -/
theorem SVr.s {v u : Value} (h : SVr loc pv (.g (.s v)) u) : u = v := h.2

end

/-- An operation that only reads gives this value in whatever world stands so. -/
def Reads (C : Ctx) (loc : Loc) (σ : SS) (o : Oper) (a : Act) (x : SV) : Prop :=
  ∃ v, SVr loc σ.pv x v ∧ (∀ w, HR C loc σ.pv σ.ph σ.m w → (execOp a.eval o).run C.P w = .ok (.value v) w) ∧ (isPure (cOp C.P o) = true → ∀ w, (execOp a.eval o).run C.P w = .ok (.value v) w)

theorem Reads.of {C : Ctx} {loc : Loc} {σ : SS} {o : Oper} {a : Act} {x : SV} {v : Value} (hv : SVr loc σ.pv x v) (h : ∀ w, (execOp a.eval o).run C.P w = .ok (.value v) w) : Reads C loc σ o a x := ⟨v, hv, fun w _ => h w, fun _ => h⟩

theorem run_andThen_value {P : Program} {s : Sem Value} {w : World} {v : Value} (h : s.run P w = .ok v w) : (do pure (.value (← s)) : Sem Next).run P w = .ok (.value v) w := by
  simp [Sem.run_bind, h]

theorem SVr.val {loc : Loc} {pv : List (Nat × PV)} {g : GV} {v : Value} (h : SVr loc pv (.g g) v) : g.ok ∧ v = g.val := h

theorem rd_mv {C : Ctx} {loc : Loc} {σ : SS} {a : Act} {o : Oper} {x : Operand} {y : Opd} (ho : o.op = .move x ∨ o.op = .assign x) (hx : cOpd x = some y) (hF : FR loc C.N σ.fr σ.pv σ.ph a)
    {v : SV} (hv : ev σ y = some v) : Reads C loc σ o a v := by
  refine Reads.of (hF.ev rfl hv) fun w => ?_
  rcases ho with ho | ho <;> simp [execOp, ho, cOpd_eval hx a]

theorem rd_pick {C : Ctx} {loc : Loc} {σ : SS} {a : Act} {o : Oper} {c x y : Operand} {c' x' y' : Opd} (ho : o.op = .pick c x y) (hc : cOpd c = some c') (hx : cOpd x = some x') (hy : cOpd y = some y')
    (hF : FR loc C.N σ.fr σ.pv σ.ph a) {t : Bool} (ht : ev σ c' = some (.g (.s (.bool t)))) {v : SV} (hv : ev σ (if t then x' else y') = some v) : Reads C loc σ o a v := by
  refine Reads.of (hF.ev rfl hv) fun w => ?_
  have h1 := (hF.ev rfl ht).s
  simp [execOp, ho, cOpd_eval hc a, cOpd_eval hx a, cOpd_eval hy a, h1, asBool]
  cases t <;> simp

theorem run_underlying' {P : Program} {t : TypeId} {d : TypeDesc} (h : P.underlying t = some d) (w : World) : (underlying t).run P w = .ok d w := by
  simp [underlying, Sem.run_bind, h]

theorem run_sizeOf' {P : Program} {t : TypeId} {i : TypeInfo} (h : P.info? t = some i) (w : World) : (Go.sizeOf t).run P w = .ok i.size w := by
  simp [Go.sizeOf, typeInfo, Sem.run_bind, h]

theorem addr_add (b o n : Nat) : (⟨b, o, none⟩ : Addr).add n = ⟨b, o + n, none⟩ := by
  unfold Addr.add
  split <;> simp_all

theorem run_fieldAt' {P : Program} {s : TypeId} {fs : Array Field} {f : Nat} {fd : Field} {i : TypeInfo} (hs : P.underlying s = some (.struct fs)) (hf : fs[f]? = some fd) (hi : P.info? fd.type = some i) (hz : i.size ≠ 0)
    (b o : Nat) (w : World) : (Instr.fieldAt s (.pointer (some ⟨b, o, none⟩)) f).run P w = .ok (.pointer (some ⟨b, o + fd.offset, none⟩)) w := by
  simp [Instr.fieldAt, Sem.run_bind, run_underlying' hs, hf, Instr.sureAddr, fieldPlace, run_sizeOf' hi, hz, addr_add]

theorem run_indexArr {P : Program} {t e : TypeId} {n : Nat} {z : TypeInfo} (ht : P.underlying t = some (.array n e)) (hz : P.info? e = some z) (b o : Nat) (k : IntKind) (j : Int) (h0 : 0 ≤ j) (h1 : j < n) (w : World) :
    (Instr.indexAt t (.pointer (some ⟨b, o, none⟩)) (.int k j)).run P w = .ok (.pointer (some ⟨b, o + j.toNat * z.size, none⟩)) w := by
  simp [Instr.indexAt, Sem.run_bind, asIntOf, run_underlying' ht, Instr.sureAddr, run_sizeOf' hz, h0, h1, addr_add]

theorem run_indexSlc {P : Program} {t e : TypeId} {z : TypeInfo} (ht : P.underlying t = some (.slice e)) (hz : P.info? e = some z) (b o n c : Nat) (k : IntKind) (j : Int) (h0 : 0 ≤ j) (h1 : j < n) (w : World) :
    (Instr.indexAt t (.slice (some ⟨b, o, none⟩) n c) (.int k j)).run P w = .ok (.pointer (some ⟨b, o + j.toNat * z.size, none⟩)) w := by
  simp [Instr.indexAt, Sem.run_bind, asIntOf, run_underlying' ht, run_sizeOf' hz, h0, h1, addr_add]

theorem run_loadVar' {P : Program} {t : TypeId} {d : TypeDesc} {i : TypeInfo} (ht : P.underlying t = some d) (hi : P.info? t = some i) {y : GV} (hy : y.ok) (hf : y.fits i.size (agD d) = true) (b o : Nat) (w : World)
    (hc : ∀ j v, (GV.flat y)[j]? = some v → w.cell? ⟨b, o + j, none⟩ = some v) : (loadVar t ⟨b, o, none⟩).run P w = .ok y.val w := by
  cases hd : agD d with
  | false =>
    rw [hd] at hf
    obtain ⟨v, rfl⟩ := GV.fits_no hf
    have hcell := hc 0 v rfl
    have hag : (isAgg t).run P w = .ok false w := by
      unfold isAgg
      rw [Sem.run_bind, run_underlying' ht]
      cases d <;> simp_all [agD]
    simp only [Nat.add_zero] at hcell
    simp [loadVar, Sem.run_bind, hag, hcell, GV.val]
  | true =>
    rw [hd] at hf
    obtain ⟨hv, hl⟩ := GV.fits_agg hy hf
    have hag : (isAgg t).run P w = .ok true w := by
      unfold isAgg
      rw [Sem.run_bind, run_underlying' ht]
      cases d <;> simp_all [agD]
    have hlc := run_loadCells_list (P := P) w ⟨b, o, none⟩ (GV.flat y) (fun j v hj => by rw [addr_add]; exact hc j v hj)
    rw [hl] at hlc
    simp [loadVar, Sem.run_bind, hag, run_sizeOf' hi, hlc, hv]

/-- Cells of a block that is known whole. -/
theorem cell_of {w : World} {b o : Nat} {cs : Array Value} {e : TypeId} {fz : Nat × Nat} (h : w.heap[b]? = some (.cells cs e fz)) : w.cell? ⟨b, o, none⟩ = cs[o]? := by
  simp [World.cell?, h]

theorem HR.u0le {C : Ctx} {loc : Loc} {pv : List (Nat × PV)} {ph : List PH} {m : PH} {w : World} (h : HR C loc pv ph m w) : C.u0.le w := by
  intro k o hk
  unfold Ctx.u0 at hk
  split at hk
  · rename_i hn
    have hlt : k < C.w0.heap.size := (Array.getElem?_eq_some_iff.1 hk).1
    rw [h.kept.2.2.2.2 k hlt (by simpa using hn)]
    exact hk
  · cases hk

/-- A row, whoever owns it: its elements' cells are there. -/
theorem HR.row {C : Ctx} {loc : Loc} {pv : List (Nat × PV)} {ph : List PH} {m : PH} {w : World} (h : HR C loc pv ph m w) {k z : Nat} {xs : List GV} (hr : rowE pv k = some (z, xs)) :
    Els z xs ∧ match loc k with
      | none => xs = []
      | some (b, o, c) => xs.length ≤ c ∧ ∀ j v, (flats xs)[j]? = some v → w.cell? ⟨b, o + j, none⟩ = some v := by
  unfold rowE at hr
  cases hl : look pv k with
  | none => simp [hl] at hr
  | some y =>
    cases y with
    | box g => simp [hl] at hr
    | row e z' df xs' =>
      simp [hl] at hr
      obtain ⟨rfl, rfl⟩ := hr
      have hp := h.pvs k _ hl
      simp only [PVr] at hp
      refine ⟨hp.1, ?_⟩
      cases hc : loc k with
      | none => simpa [hc] using hp.2
      | some l =>
        obtain ⟨b, o, c⟩ := l
        rw [hc] at hp
        obtain ⟨cs, h1, h2, h3, h4⟩ := hp.2
        exact ⟨h2, fun j v hj => by rw [cell_of h1]; exact h4 j v hj⟩
    | ro z' df xs' =>
      simp [hl] at hr
      obtain ⟨rfl, rfl⟩ := hr
      have hp := h.pvs k _ hl
      simp only [PVr] at hp
      refine ⟨hp.1, ?_⟩
      cases hc : loc k with
      | none => simpa [hc] using hp.2
      | some l =>
        obtain ⟨b, o, c⟩ := l
        rw [hc] at hp
        obtain ⟨h2, hp3⟩ := hp.2
        rcases Nat.eq_zero_or_pos c with hc0 | hc0
        · have : xs' = [] := List.length_eq_zero_iff.mp (by omega)
          subst this
          exact ⟨h2, fun j v hj => by simp [flats] at hj⟩
        obtain ⟨u, cs, e, fz, hu, hb, h4⟩ := hp3 hc0
        have hle : u.le w := by
          rcases hu with rfl | hu
          · exact h.u0le
          · exact (h.phs u hu).1
        exact ⟨h2, fun j v hj => by rw [cell_of (hle b _ hb)]; exact h4 j v hj⟩

theorem flats_len {z : Nat} : ∀ {xs : List GV}, Els z xs → (flats xs).length = xs.length * z
  | [], _ => by simp [flats]
  | x :: xs, h => by
    have h1 := h x (by simp)
    have := flats_len (xs := xs) (fun y hy => h y (by simp [hy]))
    simp only [flats, List.flatMap_cons, List.length_append, List.length_cons] at *
    rw [this, GV.flat_len x h1.1, h1.2, Nat.succ_mul, Nat.add_comm]

/-- Element i's cells among a row's. -/
theorem flats_at {z : Nat} : ∀ {xs : List GV} {i : Nat} {x : GV}, Els z xs → xs[i]? = some x → ∀ j v, (GV.flat x)[j]? = some v → (flats xs)[i * z + j]? = some v
  | [], i, x, _, hx, _, _, _ => by simp at hx
  | y :: xs, 0, x, h, hx, j, v, hv => by
    simp at hx
    subst hx
    have hj : j < (GV.flat y).length := by
      rcases Nat.lt_or_ge j (GV.flat y).length with h' | h'
      · exact h'
      · simp [List.getElem?_eq_none h'] at hv
    simp only [flats, List.flatMap_cons, Nat.zero_mul, Nat.zero_add]
    rw [List.getElem?_append_left hj]
    exact hv
  | y :: xs, i + 1, x, h, hx, j, v, hv => by
    have h1 := h y (by simp)
    have ih := flats_at (xs := xs) (i := i) (fun y hy => h y (by simp [hy])) (by simpa using hx) j v hv
    simp only [flats, List.flatMap_cons] at *
    have hl : (GV.flat y).length = z := by rw [GV.flat_len y h1.1, h1.2]
    rw [List.getElem?_append_right (by rw [hl, Nat.succ_mul]; omega), hl]
    rw [show (i + 1) * z + j - z = i * z + j by rw [Nat.succ_mul]; omega]
    exact ih

theorem toList_eq' (a b : ByteArray) : (a.toList == b.toList) = decide (a = b) := by
  rw [Bool.eq_iff_iff]
  simp only [beq_iff_eq, decide_eq_true_eq, ByteArray.toList_eq]
  exact ⟨fun h => ByteArray.ext (Array.toList_inj.mp h), fun h => by rw [h]⟩

theorem data_eq' (a b : ByteArray) : (a.data == b.data) = decide (a = b) := by
  rw [Bool.eq_iff_iff]
  simp only [beq_iff_eq, decide_eq_true_eq]
  exact ⟨fun h => ByteArray.ext h, fun h => by rw [h]⟩

theorem run_binV {P : Program} {op : BinOp} {t : TypeId} {x y : Operand} {a b v : Value} (h : binV op a b = some v) (hc : binC op a b) (w : World) :
    ((do eqGuard op t x y a b; binOp op t a b) : Sem Value).run P w = .ok v w := by
  unfold binV at h
  split at h <;> first | (cases h; done) | skip
  all_goals (try split at h) <;> first | (cases h; done) | skip
  all_goals simp only [Option.some.injEq] at h
  all_goals subst h
  all_goals simp only [binC] at hc
  all_goals simp_all [eqGuard, binOp, Op.intArith, Op.intDiv, Op.intBits, Op.intCmp, Op.stringOp, Op.shift, Sem.run_bind, toList_eq', ByteArray.toList_eq, IntKind.max]
  all_goals first | (simp [data_eq']; done) | (simp only [data_eq']; done) | (simpa [IntKind.signed, IntKind.bits] using ‹_›) | (intro hlt; omega)

theorem run_unV {P : Program} {op : UnOp} {a v : Value} (h : unV op a = some v) (w : World) : (Op.unary op a).run P w = .ok v w := by
  unfold unV at h
  split at h <;> first | (cases h; done) | skip
  all_goals simp only [Option.some.injEq] at h
  all_goals subst h
  all_goals simp [Op.unary, Op.intArith]

section
variable {C : Ctx} {loc : Loc} {σ : SS} {a : Act} {o : Oper}

theorem rd_val {s : Sem Value} {x : SV} {v : Value} (hv : SVr loc σ.pv x v) (he : execOp a.eval o = (do pure (.value (← s)))) (h : ∀ w, s.run C.P w = .ok v w) : Reads C loc σ o a x :=
  Reads.of hv fun w => by rw [he]; exact run_andThen_value (h w)

theorem isPure_load {P : Program} {o : Oper} {t : TypeId} {x : Operand} (ho : o.op = .load t x) : isPure (cOp P o) = false := by
  unfold cOp cOp?
  rw [ho]
  simp only
  split <;> rfl

theorem isPure_b2s {P : Program} {o : Oper} {s t e : TypeId} {x : Operand} (ho : o.op = .convert s t x) (hs : P.underlying s = some (.slice e)) : isPure (cOp P o) = false := by
  unfold cOp cOp?
  rw [ho]
  simp only
  split
  · rename_i h _ _; rw [hs] at h; cases h
  · split <;> rfl
  · rename_i h _ _; rw [hs] at h; cases h
  · rfl

theorem rd_valL {s : Sem Value} {x : SV} {v : Value} (ho : isPure (cOp C.P o) = false) (hv : SVr loc σ.pv x v) (he : execOp a.eval o = (do pure (.value (← s)))) (h : ∀ w, HR C loc σ.pv σ.ph σ.m w → s.run C.P w = .ok v w) : Reads C loc σ o a x :=
  ⟨v, hv, fun w hw => by rw [he]; exact run_andThen_value (h w hw), fun hn => by rw [ho] at hn; cases hn⟩

theorem rowD_of {pv : List (Nat × PV)} {k i z : Nat} {xs : List GV} {x : GV} (hr : rowE pv k = some (z, xs)) (hx : xs[i]? = some x) : rowD pv k i = x := by
  unfold rowE at hr
  unfold rowD
  cases hl : look pv k with
  | none => simp [hl] at hr
  | some y =>
    cases y with
    | box g => simp [hl] at hr
    | row e z' df xs' =>
      simp [hl] at hr
      obtain ⟨rfl, rfl⟩ := hr
      simp [hx]
    | ro z' df xs' =>
      simp [hl] at hr
      obtain ⟨rfl, rfl⟩ := hr
      simp [hx]

theorem rd_fldA {s : TypeId} {x : Operand} {f : Nat} {fs : Array Field} {fd : Field} {i : TypeInfo} {y : Opd} (ho : o.op = .fieldAddr s x f) (hs : C.P.underlying s = some (.struct fs)) (hf : fs[f]? = some fd)
    (hi : C.P.info? fd.type = some i) (hz : i.size ≠ 0) (hx : cOpd x = some y) (hF : FR loc C.N σ.fr σ.pv σ.ph a) {k : Nat} {p : List Nat} {g : GV} (hv : ev σ y = some (.ref k p)) (hg : look σ.pv k = some (.box g))
    (h : (g.getT p).fld f fd.offset = true) : Reads C loc σ o a (.ref k (p ++ [f])) := by
  obtain ⟨g', b, c, y1, hg', hl, hy1, he⟩ := hF.ev rfl hv
  rw [hg] at hg'
  obtain rfl : g = g' := by simpa using hg'
  rw [GV.getT_of g p y1 hy1] at h
  obtain ⟨⟨y3, hy3⟩, hoff⟩ := GV.fld_at _ _ _ h
  refine rd_val (v := .pointer (some ⟨b, g.offs (p ++ [f]), none⟩)) ⟨g, b, c, y3, hg, hl, by rw [GV.get_append, hy1]; exact hy3, rfl⟩ (by simp only [execOp, ho, cOpd_eval hx a, he]; rfl) fun w => ?_
  rw [run_fieldAt' hs hf hi hz, GV.offs_append g p [f] y1 hy1, hoff]

theorem rd_fldA' {s : TypeId} {x : Operand} {f : Nat} {fs : Array Field} {fd : Field} {i : TypeInfo} {y : Opd} (ho : o.op = .fieldAddr s x f) (hs : C.P.underlying s = some (.struct fs)) (hf : fs[f]? = some fd)
    (hi : C.P.info? fd.type = some i) (hz : i.size ≠ 0) (hx : cOpd x = some y) (hF : FR loc C.N σ.fr σ.pv σ.ph a) {k j : Nat} {p : List Nat} (hv : ev σ y = some (.rref k j p))
    (h : ((rowD σ.pv k j).getT p).fld f fd.offset = true) : Reads C loc σ o a (.rref k j (p ++ [f])) := by
  obtain ⟨z, xs, x2, y1, b, o', c, hg, hx2, hy1, hl, he⟩ := hF.ev rfl hv
  rw [rowD_of hg hx2, GV.getT_of x2 p y1 hy1] at h
  obtain ⟨⟨y3, hy3⟩, hoff⟩ := GV.fld_at _ _ _ h
  refine rd_val (v := .pointer (some ⟨b, o' + j * z + x2.offs (p ++ [f]), none⟩)) ⟨z, xs, x2, y3, b, o', c, hg, hx2, by rw [GV.get_append, hy1]; exact hy3, hl, rfl⟩ (by simp only [execOp, ho, cOpd_eval hx a, he]; rfl) fun w => ?_
  rw [run_fieldAt' hs hf hi hz, GV.offs_append x2 p [f] y1 hy1, hoff, Nat.add_assoc, Nat.add_assoc]

theorem rd_idxA {t e : TypeId} {n : Nat} {z : TypeInfo} {x i : Operand} {y i' : Opd} (ho : o.op = .indexAddr t x i) (ht : C.P.underlying t = some (.array n e)) (hz : C.P.info? e = some z) (hx : cOpd x = some y) (hi : cOpd i = some i')
    (hF : FR loc C.N σ.fr σ.pv σ.ph a) {k : Nat} {p : List Nat} {g : GV} {kd : IntKind} {j : Int} (hv : ev σ y = some (.ref k p)) (hj : ev σ i' = some (.g (.s (.int kd j)))) (hg : look σ.pv k = some (.box g))
    (h : (g.getT p).arr n z.size = true) (hb : 0 ≤ j ∧ j < n) : Reads C loc σ o a (.ref k (p ++ [j.toNat])) := by
  obtain ⟨g', b, c, y1, hg', hl, hy1, he⟩ := hF.ev rfl hv
  have hej := (hF.ev rfl hj).s
  rw [hg] at hg'
  obtain rfl : g = g' := by simpa using hg'
  rw [GV.getT_of g p y1 hy1] at h
  obtain ⟨f, rfl⟩ := GV.arr_at h
  obtain ⟨h3, h4⟩ := GV.get_ar n z.size f j.toNat (by omega)
  refine rd_val (v := .pointer (some ⟨b, g.offs (p ++ [j.toNat]), none⟩)) ⟨g, b, c, _, hg, hl, by rw [GV.get_append, hy1]; exact h3, rfl⟩ (by simp only [execOp, ho, cOpd_eval hx a, cOpd_eval hi a, he, hej]; rfl) fun w => ?_
  rw [run_indexArr ht hz _ _ _ _ hb.1 hb.2, GV.offs_append g p _ _ hy1, h4]

theorem rd_idxA' {t e : TypeId} {n : Nat} {z : TypeInfo} {x i : Operand} {y i' : Opd} (ho : o.op = .indexAddr t x i) (ht : C.P.underlying t = some (.array n e)) (hz : C.P.info? e = some z) (hx : cOpd x = some y) (hi : cOpd i = some i')
    (hF : FR loc C.N σ.fr σ.pv σ.ph a) {k l : Nat} {p : List Nat} {kd : IntKind} {j : Int} (hv : ev σ y = some (.rref k l p)) (hj : ev σ i' = some (.g (.s (.int kd j))))
    (h : ((rowD σ.pv k l).getT p).arr n z.size = true) (hb : 0 ≤ j ∧ j < n) : Reads C loc σ o a (.rref k l (p ++ [j.toNat])) := by
  obtain ⟨zz, xs, x2, y1, b, o', c, hg, hx2, hy1, hl, he⟩ := hF.ev rfl hv
  have hej := (hF.ev rfl hj).s
  rw [rowD_of hg hx2, GV.getT_of x2 p y1 hy1] at h
  obtain ⟨f, rfl⟩ := GV.arr_at h
  obtain ⟨h3, h4⟩ := GV.get_ar n z.size f j.toNat (by omega)
  refine rd_val (v := .pointer (some ⟨b, o' + l * zz + x2.offs (p ++ [j.toNat]), none⟩)) ⟨zz, xs, x2, _, b, o', c, hg, hx2, by rw [GV.get_append, hy1]; exact h3, hl, rfl⟩ (by simp only [execOp, ho, cOpd_eval hx a, cOpd_eval hi a, he, hej]; rfl) fun w => ?_
  rw [run_indexArr ht hz _ _ _ _ hb.1 hb.2, GV.offs_append x2 p _ _ hy1, h4, Nat.add_assoc, Nat.add_assoc]

theorem rd_idxS {t e : TypeId} {z : TypeInfo} {x i : Operand} {y i' : Opd} (ho : o.op = .indexAddr t x i) (ht : C.P.underlying t = some (.slice e)) (hz : C.P.info? e = some z) (hx : cOpd x = some y) (hi : cOpd i = some i')
    (hF : FR loc C.N σ.fr σ.pv σ.ph a) (hH : ∃ w, HR C loc σ.pv σ.ph σ.m w) {k s n : Nat} {xs : List GV} {kd : IntKind} {j : Int} (hv : ev σ y = some (.row k s n)) (hj : ev σ i' = some (.g (.s (.int kd j)))) (hg : rowE σ.pv k = some (z.size, xs)) (hb : 0 ≤ j ∧ j < n) : Reads C loc σ o a (.rref k (s + j.toNat) []) := by
  obtain ⟨z', xs', hg', hn, he⟩ := hF.ev rfl hv
  have hej := (hF.ev rfl hj).s
  rw [hg] at hg'
  obtain ⟨h1, rfl⟩ : z.size = z' ∧ xs = xs' := by simpa using hg'
  obtain ⟨w0, hw0⟩ := hH
  have hrow := (hw0.row hg).2
  cases hl : loc k with
  | none =>
    rw [hl] at hrow
    simp only at hrow
    subst hrow
    simp at hn
    omega
  | some l =>
    obtain ⟨b, o', c⟩ := l
    rw [hl] at hrow
    simp only [SlcV, hl] at he
    obtain ⟨ad, he, had⟩ := he
    have hlt : s + j.toNat < xs.length := by omega
    have hsc : s < c := by have := hrow.1; omega
    refine rd_val (v := .pointer (some ⟨b, o' + (s + j.toNat) * z.size, none⟩)) ⟨z.size, xs, xs[s + j.toNat], xs[s + j.toNat], b, o', c, hg, by simp [hlt], by cases xs[s + j.toNat] <;> rfl, hl, ?_⟩ (by simp only [execOp, ho, cOpd_eval hx a, cOpd_eval hi a, he, hej]; rfl) fun w => ?_
    · cases xs[s + j.toNat] <;> simp [GV.offs]
    · rw [had hsc, run_indexSlc ht hz _ _ _ _ _ _ hb.1 hb.2 w, ← h1, Nat.add_mul, Nat.add_assoc]

theorem rd_ld {t : TypeId} {d : TypeDesc} {i : TypeInfo} {x : Operand} {y : Opd} (ho : o.op = .load t x) (ht : C.P.underlying t = some d) (hi : C.P.info? t = some i) (hx : cOpd x = some y)
    (hF : FR loc C.N σ.fr σ.pv σ.ph a) {k : Nat} {p : List Nat} {g : GV} (hv : ev σ y = some (.ref k p)) (hg : look σ.pv k = some (.box g)) (hfit : (g.getT p).fits i.size (agD d) = true)
    (hH : ∃ w, HR C loc σ.pv σ.ph σ.m w) : Reads C loc σ o a (.g (g.getT p)) := by
  obtain ⟨g', b, c, r, hg', hl, hr, he⟩ := hF.ev rfl hv
  rw [hg] at hg'
  obtain rfl : g = g' := by simpa using hg'
  rw [GV.getT_of g p r hr] at hfit ⊢
  obtain ⟨w0, hw0⟩ := hH
  have hok := (hw0.pvs k _ hg).1
  refine rd_valL (isPure_load ho) (v := r.val) ⟨(GV.get_at g p r hok hr).1, rfl⟩ (by simp only [execOp, ho, cOpd_eval hx a, he]; rfl) fun w hw => ?_
  obtain ⟨_, b', c', e, hl', hb⟩ := hw.pvs k _ hg
  rw [hl] at hl'
  obtain ⟨rfl, rfl⟩ : b = b' ∧ c = c' := by simpa using hl'
  simp only [Instr.loadAt, Instr.sureAddr, Sem.run_bind, Sem.run_pure, Result.andThen_ok]
  refine run_loadVar' ht hi (GV.get_at g p r hok hr).1 hfit b _ w fun j v hj => ?_
  rw [cell_of hb]
  simpa using GV.get_cells hok hr j v hj

theorem rd_ld' {t : TypeId} {d : TypeDesc} {i : TypeInfo} {x : Operand} {y : Opd} (ho : o.op = .load t x) (ht : C.P.underlying t = some d) (hi : C.P.info? t = some i) (hx : cOpd x = some y)
    (hF : FR loc C.N σ.fr σ.pv σ.ph a) {k l : Nat} {p : List Nat} (hv : ev σ y = some (.rref k l p)) (hfit : ((rowD σ.pv k l).getT p).fits i.size (agD d) = true)
    (hH : ∃ w, HR C loc σ.pv σ.ph σ.m w) : Reads C loc σ o a (.g ((rowD σ.pv k l).getT p)) := by
  obtain ⟨z, xs, x1, r, b, o', c, hg, hx1, hr, hl, he⟩ := hF.ev rfl hv
  rw [rowD_of hg hx1, GV.getT_of x1 p r hr] at hfit ⊢
  obtain ⟨w0, hw0⟩ := hH
  have hels := (hw0.row hg).1
  have hok := (hels x1 (List.mem_of_getElem? hx1)).1
  refine rd_valL (isPure_load ho) (v := r.val) ⟨(GV.get_at x1 p r hok hr).1, rfl⟩ (by simp only [execOp, ho, cOpd_eval hx a, he]; rfl) fun w hw => ?_
  have hrow := (hw.row hg).2
  rw [hl] at hrow
  simp only [Instr.loadAt, Instr.sureAddr, Sem.run_bind, Sem.run_pure, Result.andThen_ok]
  refine run_loadVar' ht hi (GV.get_at x1 p r hok hr).1 hfit b _ w fun j v hj => ?_
  have h1 := flats_at hels hx1 _ _ (GV.get_cells hok hr j v hj)
  have h2 := hrow.2 _ _ h1
  rw [show o' + l * z + GV.offs x1 p + j = o' + (l * z + (GV.offs x1 p + j)) by omega]
  exact h2

theorem rd_bin {op : BinOp} {t u : TypeId} {x y : Operand} {x' y' : Opd} (ho : o.op = .binOp op t x y u) (hx : cOpd x = some x') (hy : cOpd y = some y') (hF : FR loc C.N σ.fr σ.pv σ.ph a) {p q v : Value}
    (hp : ev σ x' = some (.g (.s p))) (hq : ev σ y' = some (.g (.s q))) (h : binV op p q = some v) (hc : binC op p q) : Reads C loc σ o a (.g (.s v)) := by
  have e1 := (hF.ev rfl hp).s
  have e2 := (hF.ev rfl hq).s
  have hv : v.oneCell' = true := by
    unfold binV at h
    split at h <;> first | (cases h; done) | skip
    all_goals (try split at h) <;> first | (cases h; done) | skip
    all_goals simp only [Option.some.injEq] at h
    all_goals subst h
    all_goals rfl
  exact rd_val (s := do eqGuard op t x y p q; binOp op t p q) (v := v) ⟨hv, rfl⟩ (by simp only [execOp, ho, cOpd_eval hx a, cOpd_eval hy a, e1, e2]) fun w => run_binV h hc w

theorem rd_un {op : UnOp} {t : TypeId} {x : Operand} {x' : Opd} (ho : o.op = .unOp op t x) (hx : cOpd x = some x') (hF : FR loc C.N σ.fr σ.pv σ.ph a) {p v : Value}
    (hp : ev σ x' = some (.g (.s p))) (h : unV op p = some v) : Reads C loc σ o a (.g (.s v)) := by
  have e1 := (hF.ev rfl hp).s
  have hv : v.oneCell' = true := by
    unfold unV at h
    split at h <;> first | (cases h; done) | skip
    all_goals simp only [Option.some.injEq] at h
    all_goals subst h
    all_goals rfl
  exact rd_val (v := v) ⟨hv, rfl⟩ (by simp only [execOp, ho, cOpd_eval hx a, e1]) fun w => run_unV h w

theorem exec_builtin {ρ : Operand → Value} {c : Call} {b : Builtin} (ho : o.op = .call c) (hc : c.callee = .builtin b) :
    execOp ρ o = builtin b c.argTypes o.type (c.args.map fun | .const _ => true | _ => false) (c.args.map ρ) := by
  obtain ⟨dst, op, type, pos, after, guard⟩ := o
  obtain ⟨callee, args, argTypes⟩ := c
  simp only at ho hc
  subst ho; subst hc
  rfl

theorem args_one {c : Call} {x : Operand} (h : c.args.toList = [x]) : c.args = #[x] := by
  rw [← Array.toArray_toList (xs := c.args), h]
theorem args_two {c : Call} {x y : Operand} (h : c.args.toList = [x, y]) : c.args = #[x, y] := by
  rw [← Array.toArray_toList (xs := c.args), h]

theorem rd_len {c : Call} {x : Operand} {y : Opd} {t : TypeId} {d : TypeDesc} (ho : o.op = .call c) (hc : c.callee = .builtin .len) (ha : c.args.toList = [x]) (ht : c.argTypes[0]? = some t) (hu : C.P.underlying t = some d)
    (hx : cOpd x = some y) {v : Value} {n : Int} (he : evO a y = v) (hd : (∃ e b k c, d = .slice e ∧ v = .slice b k c ∧ n = k) ∨ (∃ s, d = .string ∧ v = .string s ∧ n = s.size)) : Reads C loc σ o a (.g (.s (.int .i64 n))) := by
  refine rd_val (s := Builtin.len_ c.argTypes o.type (c.args.map a.eval)) (v := .int .i64 n) ⟨rfl, rfl⟩ (by rw [exec_builtin ho hc]; rfl) fun w => ?_
  rw [args_one ha]
  rcases hd with ⟨e, b, k, cp, rfl, rfl, rfl⟩ | ⟨s, rfl, rfl, rfl⟩
  · simp [Builtin.len_, ht, Sem.run_bind, run_underlying' hu, cOpd_eval hx a, he, goInt]
  · simp [Builtin.len_, ht, Sem.run_bind, run_underlying' hu, cOpd_eval hx a, he, goInt]

theorem rd_min {c : Call} {x y : Operand} {x' y' : Opd} (ho : o.op = .call c) (hc : c.callee = .builtin .min) (ha : c.args.toList = [x, y]) (hx : cOpd x = some x') (hy : cOpd y = some y')
    (hF : FR loc C.N σ.fr σ.pv σ.ph a) {k k' : IntKind} {i j : Int} (hp : ev σ x' = some (.g (.s (.int k i)))) (hq : ev σ y' = some (.g (.s (.int k' j)))) : Reads C loc σ o a (.g (.s (.int k (min i j)))) := by
  have e1 := (hF.ev rfl hp).s
  have e2 := (hF.ev rfl hq).s
  refine rd_val (s := Builtin.min_ c.argTypes o.type (c.args.map a.eval)) (v := .int k (min i j)) ⟨rfl, rfl⟩ (by rw [exec_builtin ho hc]; rfl) fun w => ?_
  rw [args_two ha]
  simp [Builtin.min_, Builtin.min2, cOpd_eval hx a, cOpd_eval hy a, e1, e2]
  rw [Int.min_def]; split <;> split <;> omega

theorem rd_max {c : Call} {x y : Operand} {x' y' : Opd} (ho : o.op = .call c) (hc : c.callee = .builtin .max) (ha : c.args.toList = [x, y]) (hx : cOpd x = some x') (hy : cOpd y = some y')
    (hF : FR loc C.N σ.fr σ.pv σ.ph a) {k k' : IntKind} {i j : Int} (hp : ev σ x' = some (.g (.s (.int k i)))) (hq : ev σ y' = some (.g (.s (.int k' j)))) : Reads C loc σ o a (.g (.s (.int k (max i j)))) := by
  have e1 := (hF.ev rfl hp).s
  have e2 := (hF.ev rfl hq).s
  refine rd_val (s := Builtin.max_ c.argTypes o.type (c.args.map a.eval)) (v := .int k (max i j)) ⟨rfl, rfl⟩ (by rw [exec_builtin ho hc]; rfl) fun w => ?_
  rw [args_two ha]
  simp [Builtin.max_, Builtin.max2, cOpd_eval hx a, cOpd_eval hy a, e1, e2]
  rw [Int.max_def]; split <;> split <;> omega

theorem rd_ext {x : Operand} {y : Opd} {i : Nat} (ho : o.op = .extract x i) (hx : cOpd x = some y) (hF : FR loc C.N σ.fr σ.pv σ.ph a) {xs : List GV} {r : GV} (hp : ev σ y = some (.tup xs)) (hr : xs[i]? = some r) : Reads C loc σ o a (.g r) := by
  obtain ⟨h1, h2⟩ := hF.ev rfl hp
  refine rd_val (s := Instr.extract (a.eval x) i) (v := r.val) ⟨h1 r (List.mem_of_getElem? hr), rfl⟩ (by simp only [execOp, ho]) fun w => ?_
  rw [cOpd_eval hx a, h2]
  simp [Instr.extract, hr]

end

end Go.Proofs.YtmjiojflncffeaaGreat.Vc

/- Soundness, one operation at a time: more of those that only read. -/
set_option linter.unusedVariables false
set_option linter.unusedSimpArgs false
namespace Go.Proofs.YtmjiojflncffeaaGreat.Vc
open Go

theorem run_part {P : Program} {t : TypeId} {d : TypeDesc} {i : TypeInfo} (ht : P.underlying t = some d) (hi : P.info? t = some i) {g y : GV} {p : List Nat} (hg : g.ok) (hy : g.get p = some y) (hf : y.fits i.size (agD d) = true) (w : World) :
    (part t (GV.flat g).toArray (g.offs p)).run P w = .ok y.val w := by
  obtain ⟨hyok, pre, post, h2, h3⟩ := GV.get_at g p y hg hy
  cases hd : agD d with
  | false =>
    rw [hd] at hf
    obtain ⟨v, rfl⟩ := GV.fits_no hf
    have hag : (isAgg t).run P w = .ok false w := by
      unfold isAgg
      rw [Sem.run_bind, run_underlying' ht]
      cases d <;> simp_all [agD]
    have hc := GV.get_s hg hy
    simp [part, Sem.run_bind, hag, hc, GV.val]
  | true =>
    rw [hd] at hf
    obtain ⟨hv, hl⟩ := GV.fits_agg hyok hf
    have hag : (isAgg t).run P w = .ok true w := by
      unfold isAgg
      rw [Sem.run_bind, run_underlying' ht]
      cases d <;> simp_all [agD]
    have hex : (GV.flat g).toArray.extract (g.offs p) (g.offs p + i.size) = (GV.flat y).toArray := by
      apply Array.toList_inj.mp
      simp only [Array.toList_extract, List.extract_eq_take_drop]
      rw [h2, ← h3, ← hl]
      simp
    simp [part, Sem.run_bind, hag, run_sizeOf' hi, hv]
    simpa using hex

theorem val_agg {g : GV} (h : ∀ v, g ≠ .s v) : g.val = .agg (GV.flat g).toArray := by
  cases g with
  | s v => exact absurd rfl (h v)
  | _ => rfl

section
variable {C : Ctx} {loc : Loc} {σ : SS} {a : Act} {o : Oper}

theorem rd_fldV {t : TypeId} {x : Operand} {f : Nat} {fs : Array Field} {fd : Field} {d : TypeDesc} {i : TypeInfo} {y : Opd} (ho : o.op = .field t x f) (hs : C.P.underlying t = some (.struct fs)) (hf : fs[f]? = some fd)
    (hd : C.P.underlying fd.type = some d) (hi : C.P.info? fd.type = some i) (hx : cOpd x = some y) (hF : FR loc C.N σ.fr σ.pv σ.ph a) {g : GV} (hv : ev σ y = some (.g g))
    (h : g.fld f fd.offset = true) (hfit : (g.getT [f]).fits i.size (agD d) = true) : Reads C loc σ o a (.g (g.getT [f])) := by
  obtain ⟨hok, he⟩ := hF.ev rfl hv
  obtain ⟨⟨y3, hy3⟩, hoff⟩ := GV.fld_at _ _ _ h
  rw [GV.getT_of g [f] y3 hy3] at hfit ⊢
  have hag : g.val = .agg (GV.flat g).toArray := val_agg (fun v e => by subst e; simp [GV.fld] at h)
  refine rd_val (v := y3.val) ⟨(GV.get_at g [f] y3 hok hy3).1, rfl⟩ (by simp only [execOp, ho, cOpd_eval hx a, he, hag]; rfl) fun w => ?_
  have := run_part (P := C.P) hd hi hok hy3 hfit w
  rw [hoff] at this
  simp [Instr.field, Sem.run_bind, run_underlying' hs, hf, asAgg, this]

theorem rd_idxV {t e : TypeId} {n : Nat} {d : TypeDesc} {z : TypeInfo} {x i : Operand} {y i' : Opd} (ho : o.op = .index t x i) (ht : C.P.underlying t = some (.array n e)) (hd : C.P.underlying e = some d) (hz : C.P.info? e = some z) (hx : cOpd x = some y) (hi : cOpd i = some i')
    (hF : FR loc C.N σ.fr σ.pv σ.ph a) {g : GV} {kd : IntKind} {j : Int} (hv : ev σ y = some (.g g)) (hj : ev σ i' = some (.g (.s (.int kd j))))
    (h : g.arr n z.size = true) (hb : 0 ≤ j ∧ j < n) (hfit : (g.getT [j.toNat]).fits z.size (agD d) = true) : Reads C loc σ o a (.g (g.getT [j.toNat])) := by
  obtain ⟨hok, he⟩ := hF.ev rfl hv
  have hej := (hF.ev rfl hj).s
  obtain ⟨f, rfl⟩ := GV.arr_at h
  obtain ⟨h3, h4⟩ := GV.get_ar n z.size f j.toNat (by omega)
  rw [GV.getT_of _ _ _ h3] at hfit ⊢
  refine rd_val (v := (f j.toNat).val) ⟨(GV.get_at _ _ _ hok h3).1, rfl⟩ (by simp only [execOp, ho, cOpd_eval hx a, cOpd_eval hi a, he, hej]; rfl) fun w => ?_
  have := run_part (P := C.P) hd hz hok h3 hfit w
  rw [h4] at this
  simp [Instr.index, Sem.run_bind, asIntOf, run_underlying' ht, GV.val, hb, run_sizeOf' hz, this]

/-- A bound, as it is asked. -/
theorem bnd_run {P : Program} {x : Option Operand} {x' : Option Opd} (hx : cOpdO x = some x') (hF : FR loc C.N σ.fr σ.pv σ.ph a) {dflt : Nat} {j : Int} (h : bndN σ x' dflt = some j) {y : Nat} {code : BoundsCode}
    (h0 : 0 ≤ j) (h1 : j ≤ y) (hd : dflt ≤ y) (w : World) : (match x.map a.eval with | some v => Instr.sliceBound v y code | none => pure dflt : Sem Nat).run P w = .ok j.toNat w := by
  cases x with
  | none =>
    simp [cOpdO] at hx; subst hx
    simp [bndN] at h; subst h; simp
  | some u =>
    simp only [cOpdO, Option.map_eq_some_iff] at hx
    obtain ⟨u', hu, rfl⟩ := hx
    simp only [bndN] at h
    split at h
    · rename_i k j' hv
      simp at h; subst h
      have he := (hF.ev rfl hv).s
      simp only [Option.map_some, cOpd_eval hu a, he]
      simp [Instr.sliceBound, asIntOf, Sem.run_bind, h0, h1]
    · cases h

theorem rd_sl {t e : TypeId} {z : TypeInfo} {x : Operand} {lo hi : Option Operand} {y : Opd} {lo' hi' : Option Opd} (ho : o.op = .slice t x lo hi none) (ht : C.P.underlying t = some (.slice e)) (hz : C.P.info? e = some z) (hx : cOpd x = some y)
    (hlo : cOpdO lo = some lo') (hhi : cOpdO hi = some hi')
    (hF : FR loc C.N σ.fr σ.pv σ.ph a) (hH : ∃ w, HR C loc σ.pv σ.ph σ.m w) {k s n : Nat} (hv : ev σ y = some (.row k s n)) {l h : Int} (hl : bndN σ lo' 0 = some l) (hh : bndN σ hi' n = some h) (hb : 0 ≤ l ∧ l ≤ h ∧ h ≤ n)
    (hsz : ∀ z' xs, rowE σ.pv k = some (z', xs) → z' = z.size) : Reads C loc σ o a (.row k (s + l.toNat) (h.toNat - l.toNat)) := by
  obtain ⟨z', xs, hg, hn, he⟩ := hF.ev rfl hv
  obtain rfl := hsz z' xs hg
  obtain ⟨w0, hw0⟩ := hH
  have hrow := (hw0.row hg).2
  cases hlk : loc k with
  | none =>
    rw [hlk] at hrow he
    simp only at hrow
    subst hrow
    simp at hn
    obtain ⟨rfl, rfl⟩ := hn
    obtain ⟨base, he⟩ := he
    have hl0 : l = 0 := by omega
    have hh0 : h = 0 := by omega
    subst hl0; subst hh0
    refine rd_val (v := .slice base 0 0) ⟨z.size, [], hg, by simp, by rw [hlk]; exact ⟨base, rfl⟩⟩ (by simp only [execOp, ho, cOpd_eval hx a, he]; rfl) fun w => ?_
    have r1 := bnd_run (P := C.P) (y := 0) (code := .sliceAcap) hhi hF hh (by omega) (by omega) (by omega) w
    have r2 := bnd_run (P := C.P) (y := 0) (code := .sliceB) hlo hF hl (by omega) (by omega) (by omega) w
    simp only [Instr.sliceAt, Instr.slice, Instr.sliceBounds, Sem.run_bind, run_underlying' ht, Result.andThen_ok, Option.map_none, Sem.run_pure, if_true, Option.isSome_none]
    cases hi with
    | none =>
      cases lo with
      | none => simp [run_sizeOf' hz]
      | some u => simp only [Option.map_some] at r2; simp [r2, run_sizeOf' hz, Sem.run_bind]
    | some v =>
      simp only [Option.map_some] at r1
      cases lo with
      | none => simp [r1, run_sizeOf' hz, Sem.run_bind]
      | some u => simp only [Option.map_some] at r2; simp [r1, r2, run_sizeOf' hz, Sem.run_bind]
  | some L =>
    obtain ⟨b, f, c⟩ := L
    rw [hlk] at hrow he
    simp only [SlcV] at he
    obtain ⟨ad, he, had⟩ := he
    have hc := hrow.1
    refine rd_val (v := .slice (some (if c - s = l.toNat then ad else ad.add (l.toNat * z.size))) (h.toNat - l.toNat) (c - s - l.toNat)) ⟨z.size, xs, hg, by omega, ?_⟩ (by simp only [execOp, ho, cOpd_eval hx a, he]; rfl) fun w => ?_
    · rw [hlk]
      refine ⟨_, by rw [Nat.sub_sub], fun hlt => ?_⟩
      rw [if_neg (by omega), had (by omega), addr_add, Nat.add_mul, Nat.add_assoc]
    · have r1 := bnd_run (P := C.P) (y := c - s) (code := .sliceAcap) hhi hF hh (by omega) (by omega) (by omega) w
      have r2 := bnd_run (P := C.P) (y := h.toNat) (code := .sliceB) hlo hF hl (by omega) (by omega) (by omega) w
      have key : ∀ (P' : Sem Nat) , True := fun _ => trivial
      simp only [Instr.sliceAt, Instr.slice, Instr.sliceBounds, Sem.run_bind, run_underlying' ht, Result.andThen_ok, Option.map_none, Sem.run_pure, if_true, Option.isSome_none]
      have fin : ∀ L H : Nat, L = l.toNat → H = h.toNat → (Result.ok (Value.slice (if c - s = L then some ad else Option.map (fun x : Addr => x.add (L * z.size)) (some ad)) (H - L) (c - s - L)) w : Result Value) =
          .ok (.slice (some (if c - s = l.toNat then ad else ad.add (l.toNat * z.size))) (h.toNat - l.toNat) (c - s - l.toNat)) w := by
        intro L H e1 e2
        subst e1; subst e2
        split <;> simp [addr_add]
      cases hi with
      | none =>
        simp only [Option.map_none, Sem.run_pure] at r1
        have hn' : n = h.toNat := by
          have := r1; simp at this; exact this
        cases lo with
        | none =>
          simp only [Option.map_none, Sem.run_pure] at r2
          have hl' : 0 = l.toNat := by have := r2; simp at this; omega
          simp only [Sem.run_pure, Result.andThen_ok, Option.map_none, run_sizeOf' hz]
          exact fin _ _ hl' hn'
        | some u =>
          simp only [Option.map_some] at r2
          rw [← hn'] at r2
          simp only [Sem.run_pure, Result.andThen_ok, Option.map_some, Option.map_none, Sem.run_bind, r2, run_sizeOf' hz, Bool.false_eq_true, if_false]
          exact fin _ _ rfl hn'
      | some v =>
        simp only [Option.map_some] at r1
        cases lo with
        | none =>
          simp only [Option.map_none, Sem.run_pure] at r2
          have hl' : 0 = l.toNat := by have := r2; simp at this; omega
          simp only [Sem.run_pure, Result.andThen_ok, Option.map_some, Option.map_none, Sem.run_bind, r1, run_sizeOf' hz]
          exact fin _ _ hl' rfl
        | some u =>
          simp only [Option.map_some] at r2
          simp only [Sem.run_pure, Result.andThen_ok, Option.map_some, Sem.run_bind, r1, r2, run_sizeOf' hz, Bool.false_eq_true, if_false]
          exact fin _ _ rfl rfl

theorem rd_slS {t : TypeId} {x : Operand} {lo hi : Option Operand} {y : Opd} {lo' hi' : Option Opd} (ho : o.op = .slice t x lo hi none) (ht : C.P.underlying t = some .string) (hx : cOpd x = some y)
    (hlo : cOpdO lo = some lo') (hhi : cOpdO hi = some hi')
    (hF : FR loc C.N σ.fr σ.pv σ.ph a) {s : ByteArray} (hv : ev σ y = some (.g (.s (.string s)))) {l h : Int} (hl : bndN σ lo' 0 = some l) (hh : bndN σ hi' s.size = some h) (hb : 0 ≤ l ∧ l ≤ h ∧ h ≤ s.size) : Reads C loc σ o a (.g (.s (.string (s.extract l.toNat h.toNat)))) := by
  have he := (hF.ev rfl hv).s
  refine rd_val (v := .string (s.extract l.toNat h.toNat)) ⟨rfl, rfl⟩ (by simp only [execOp, ho, cOpd_eval hx a, he]; rfl) fun w => ?_
  have r1 := bnd_run (P := C.P) (y := s.size) (code := .sliceAlen) hhi hF hh (by omega) (by omega) (by omega) w
  have r2 := bnd_run (P := C.P) (y := h.toNat) (code := .sliceB) hlo hF hl (by omega) (by omega) (by omega) w
  simp only [Instr.sliceAt, Instr.slice, Instr.sliceBounds, Sem.run_bind, run_underlying' ht, Result.andThen_ok, Option.map_none, Sem.run_pure, if_true, Option.isSome_none]
  cases hi with
  | none =>
    simp only [Option.map_none, Sem.run_pure] at r1
    have hn' : s.size = h.toNat := by have := r1; simp at this; exact this
    cases lo with
    | none =>
      simp only [Option.map_none, Sem.run_pure] at r2
      have hl' : 0 = l.toNat := by have := r2; simp at this; omega
      simp [← hn', ← hl']
    | some u =>
      simp only [Option.map_some] at r2
      rw [← hn'] at r2
      simp [r2, Sem.run_bind, ← hn']
  | some v =>
    simp only [Option.map_some] at r1
    cases lo with
    | none =>
      simp only [Option.map_none, Sem.run_pure] at r2
      have hl' : 0 = l.toNat := by have := r2; simp at this; omega
      simp [r1, Sem.run_bind, ← hl']
    | some u =>
      simp only [Option.map_some] at r2
      simp [r1, r2, Sem.run_bind]

theorem rd_strI {t : TypeId} {x i : Operand} {y i' : Opd} (ho : o.op = .index t x i) (ht : C.P.underlying t = some .string) (hx : cOpd x = some y) (hi : cOpd i = some i') (hF : FR loc C.N σ.fr σ.pv σ.ph a) {s : ByteArray} {kd : IntKind} {j : Int}
    (hv : ev σ y = some (.g (.s (.string s)))) (hj : ev σ i' = some (.g (.s (.int kd j)))) (hb : 0 ≤ j ∧ j < s.size) : Reads C loc σ o a (.g (.s (.int .u8 (s.data.getD j.toNat 0).toNat))) := by
  have he := (hF.ev rfl hv).s
  have hej := (hF.ev rfl hj).s
  refine rd_val (v := .int .u8 (s.data.getD j.toNat 0).toNat) ⟨rfl, rfl⟩ (by simp only [execOp, ho, cOpd_eval hx a, cOpd_eval hi a, he, hej]; rfl) fun w => ?_
  have hlt : j.toNat < s.size := by omega
  have h1 : s[j.toNat]? = some (s.data.getD j.toNat 0) := by
    rw [getElem?_pos s j.toNat hlt]
    congr 1
    have hd : j.toNat < s.data.size := hlt
    have e : s[j.toNat] = s.data[j.toNat] := rfl
    rw [e, show s.data.getD j.toNat 0 = s.data[j.toNat]?.getD 0 by simp, Array.getElem?_eq_getElem hd]
    rfl
  simp [Instr.index, Sem.run_bind, asIntOf, run_underlying' ht, hb.1, h1]

theorem rd_cvI {s t : TypeId} {k : IntKind} {x : Operand} {y : Opd} (ho : o.op = .convert s t x) {ds : TypeDesc} (hs : C.P.underlying s = some ds) (ht : C.P.underlying t = some (.int k)) (hx : cOpd x = some y) (hF : FR loc C.N σ.fr σ.pv σ.ph a) {kd : IntKind} {j : Int}
    (hv : ev σ y = some (.g (.s (.int kd j)))) : Reads C loc σ o a (.g (.s (.int k (k.wrap j)))) := by
  have he := (hF.ev rfl hv).s
  refine rd_val (s := convert s t (evO a y)) (v := .int k (k.wrap j)) ⟨rfl, rfl⟩ (by simp only [execOp, ho, cOpd_eval hx a]) fun w => ?_
  rw [he]
  simp [convert, Sem.run_bind, run_underlying' hs, run_underlying' ht, Conv.intToInt]

theorem rd_nilc {x : Operand} {y : Opd} (ho : o.op = .nilCheck x) (hx : cOpd x = some y) (hF : FR loc C.N σ.fr σ.pv σ.ph a) {v : SV} (hv : ev σ y = some v)
    (h : (∃ k p, v = .ref k p) ∨ (∃ k i p, v = .rref k i p) ∨ (∃ ad, v = .g (.s (.pointer (some ad)))) ∨ (∃ f p q, v = .g (.s (.func (.func f) p q)))) : Reads C loc σ o a v := by
  have he := hF.ev rfl hv
  refine Reads.of he fun w => ?_
  rcases h with ⟨k, p, rfl⟩ | ⟨k, i, p, rfl⟩ | ⟨ad, rfl⟩ | ⟨f, p, q, rfl⟩
  · obtain ⟨g, b, c, y1, _, _, _, h4⟩ := he
    simp [execOp, ho, cOpd_eval hx a, h4]
  · obtain ⟨z, xs, x1, y1, b, o', c, _, _, _, _, h4⟩ := he
    simp [execOp, ho, cOpd_eval hx a, h4]
  · have h4 := he.2
    simp only [GV.val] at h4
    simp [execOp, ho, cOpd_eval hx a, h4]
  · have h4 := he.2
    simp only [GV.val] at h4
    simp [execOp, ho, cOpd_eval hx a, h4]

theorem evL_vals (hF : FR loc C.N σ.fr σ.pv σ.ph a) : ∀ {l : List Opd} {xs : List SV} {vs : List Value}, evL σ l = some xs → scL xs = some vs → l.map (evO a) = vs
  | [], xs, vs, h, h2 => by simp [evL] at h; subst h; simp [scL] at h2; subst h2; rfl
  | x :: l, xs, vs, h, h2 => by
    simp only [evL] at h
    split at h
    · rename_i y r hy hr
      simp at h; subst h
      unfold scL at h2
      split at h2
      · rename_i e; cases e
      · rename_i v l' e
        simp only [List.cons.injEq] at e
        obtain ⟨rfl, rfl⟩ := e
        simp only [Option.map_eq_some_iff] at h2
        obtain ⟨vs', h3, rfl⟩ := h2
        simp [evL_vals hF hr h3, (hF.ev rfl hy).s]
      · cases h2
    · cases h

theorem evL_gvs (hF : FR loc C.N σ.fr σ.pv σ.ph a) : ∀ {l : List Opd} {xs : List SV} {gs : List GV}, evL σ l = some xs → gvL xs = some gs → l.map (evO a) = gs.map GV.val ∧ ∀ g ∈ gs, g.ok
  | [], xs, vs, h, h2 => by simp [evL] at h; subst h; simp [gvL] at h2; subst h2; simp
  | x :: l, xs, vs, h, h2 => by
    simp only [evL] at h
    split at h
    · rename_i y r hy hr
      simp at h; subst h
      unfold gvL at h2
      split at h2
      · rename_i e; cases e
      · rename_i v l' e
        simp only [List.cons.injEq] at e
        obtain ⟨rfl, rfl⟩ := e
        simp only [Option.map_eq_some_iff] at h2
        obtain ⟨vs', h3, rfl⟩ := h2
        obtain ⟨e1, e2⟩ := evL_gvs hF hr h3
        obtain ⟨e3, e4⟩ := hF.ev rfl hy
        exact ⟨by simp [e1, e4], by simpa using ⟨e3, e2⟩⟩
      · cases h2
    · cases h

theorem rd_mkf {f : Nat} {caps : Array Operand} {l : List Opd} {xs : List SV} {vs : List Value} (ho : o.op = .makeFunc (.func f) #[] caps) (hl : caps.toList.mapM cOpd = some l) (hF : FR loc C.N σ.fr σ.pv σ.ph a) (hm : caps.map a.eval = (l.map (evO a)).toArray)
    (h1 : evL σ l = some xs) (h2 : scL xs = some vs) : Reads C loc σ o a (.g (.s (.func (.func f) #[] vs.toArray))) := by
  refine rd_val (s := Instr.makeFunc (.func f) #[] (caps.map a.eval)) (v := .func (.func f) #[] vs.toArray) ⟨rfl, rfl⟩ (by simp only [execOp, ho]; simp) fun w => ?_
  rw [hm, evL_vals hF h1 h2]
  simp [Instr.makeFunc]

end

/-! ### Literals -/
theorem writeAt_size : ∀ (vs : List Value) (cs : Array Value) (j : Nat), (writeAt cs j vs).size = cs.size
  | [], _, _ => rfl
  | v :: vs, cs, j => by simp [writeAt, writeAt_size vs]

theorem writeAt_get : ∀ (vs : List Value) (cs : Array Value) (j k : Nat), j + vs.length ≤ cs.size → (writeAt cs j vs)[k]? = if j ≤ k ∧ k < j + vs.length then vs[k - j]? else cs[k]?
  | [], cs, j, k, _ => by simp [writeAt]; intro h1 h2; omega
  | v :: vs, cs, j, k, h => by
    simp at h
    rw [writeAt, writeAt_get vs _ (j + 1) k (by simp; omega)]
    by_cases h1 : k = j
    · subst h1
      rw [if_neg (by omega), if_pos (by simp)]
      simp [show k < cs.size by omega]
    · by_cases h2 : j + 1 ≤ k ∧ k < j + 1 + vs.length
      · rw [if_pos h2, if_pos (by simp; omega), show k - j = (k - (j + 1)) + 1 by omega]
        simp
      · rw [if_neg h2, if_neg (by simp; omega), Array.getElem?_setIfInBounds_ne (fun e => h1 e.symm)]

theorem sub_cells {g y : GV} {p : List Nat} {x h : GV} (hg : g.ok) (hx : x.ok) (hy : g.get p = some y) (hs : GV.same x y) (hh : g.set p x = some h) :
    writeAt (GV.flat g).toArray (g.offs p) (GV.flat x) = (GV.flat h).toArray ∧ g.offs p + x.sz ≤ (GV.flat g).length ∧ h.ok ∧ GV.same h g := by
  obtain ⟨h1, h2, pre, post, h3, h4, h5⟩ := GV.set_at g p x y h hg hx hy hs hh
  have hl : (GV.flat x).length = (GV.flat y).length := by
    rw [GV.flat_len x hx, GV.flat_len y (GV.get_at g p y hg hy).1, GV.same_sz x y hs]
  have hsz : x.sz = (GV.flat x).length := (GV.flat_len x hx).symm
  refine ⟨?_, by rw [h3, hsz]; simp; omega, h1, h2⟩
  apply Array.ext_getElem?
  intro k
  rw [writeAt_get _ _ _ _ (by rw [h3]; simp; omega)]
  simp only [List.getElem?_toArray]
  rw [h3, h4]
  by_cases hk : g.offs p ≤ k ∧ k < g.offs p + (GV.flat x).length
  · rw [if_pos hk, List.getElem?_append_right (by omega), List.getElem?_append_left (by omega), h5]
  · rw [if_neg hk]
    by_cases hk2 : k < pre.length
    · rw [List.getElem?_append_left hk2, List.getElem?_append_left hk2]
    · rw [List.getElem?_append_right (by omega), List.getElem?_append_right (by omega), List.getElem?_append_right (by omega), List.getElem?_append_right (by omega), hl]

theorem foldl_writeAt (off : Nat) : ∀ (l : List Value) (j : Nat) (cs : Array Value), (l.zipIdx j).foldl (fun (cs : Array Value) (x : Value × Nat) => cs.setIfInBounds (off + x.2) x.1) cs = writeAt cs (off + j) l
  | [], _, _ => rfl
  | v :: l, j, cs => by simp only [List.zipIdx_cons, List.foldl_cons, writeAt]; rw [foldl_writeAt off l (j + 1)]; rfl

theorem zipIdx_writeAt (cells : Array Value) (off : Nat) (cs : Array Value) : cells.zipIdx.foldl (fun (cs : Array Value) (x : Value × Nat) => cs.setIfInBounds (off + x.2) x.1) cs = writeAt cs off cells.toList := by
  rw [← Array.foldl_toList, Array.toList_zipIdx, foldl_writeAt]
  rfl

/-- Where the parts go, as the literal's type tells it, is where the tree has them. -/
def PlaceOk (z : GV) (place : Nat → Option (Nat × Nat)) (i : Nat) : Prop :=
  (z.get [i]).isSome = true ∧ place i = some (z.offs [i], (z.getT [i]).sz)

theorem fill_run (z : GV) (place : Nat → Option (Nat × Nat)) : ∀ (is : List Nat) (gs : List GV) (g : GV), g.ok → GV.same g z → (∀ x ∈ gs, x.ok) → (∀ i ∈ is, PlaceOk z place i) → GV.bldC g is gs →
    Instr.fill place (GV.flat g).toArray (is.zip (gs.map GV.val)) = some (GV.flat (GV.bldT g is gs)).toArray ∧ (GV.bldT g is gs).ok ∧ GV.same (GV.bldT g is gs) z
  | [], [], g, hg, hs, _, _, _ => ⟨by simp [Instr.fill, GV.bldT], by simpa [GV.bldT] using hg, by simpa [GV.bldT] using hs⟩
  | [], x :: gs, g, _, _, _, _, h => by simp [GV.bldC] at h
  | i :: is, [], g, _, _, _, _, h => by simp [GV.bldC] at h
  | i :: is, x :: gs, g, hg, hs, hx, hp, h => by
    simp only [GV.bldC] at h
    obtain ⟨h1, h2, h3⟩ := h
    obtain ⟨y, hy⟩ := Option.isSome_iff_exists.mp h1
    have hyT := GV.getT_of g [i] y hy
    rw [hyT] at h2
    have hxok := hx x (by simp)
    have hset := GV.setT_of g [i] x y hy
    obtain ⟨e1, e2, e3, e4⟩ := sub_cells hg hxok hy h2 hset
    obtain ⟨hp1, hp2⟩ := hp i (by simp)
    obtain ⟨e5, y', hy', hyy⟩ := GV.same_get g z [i] y hs hy
    have hsz : x.sz = (z.getT [i]).sz := by rw [GV.getT_of z [i] y' hy', GV.same_sz x y h2, GV.same_sz y y' hyy]
    have hcells : x.val.cells = (GV.flat x).toArray := GV.cells_val x hxok
    have hlen : x.val.cells.size = x.sz := by rw [hcells]; simp [GV.flat_len x hxok]
    have ih := fill_run z place is gs (g.setT [i] x) e3 (GV.same_trans _ _ _ e4 hs) (fun q hq => hx q (by simp [hq])) (fun j hj => hp j (by simp [hj])) h3
    refine ⟨?_, by simpa [GV.bldT] using ih.2.1, by simpa [GV.bldT] using ih.2.2⟩
    simp only [List.map_cons, List.zip_cons_cons, Instr.fill, hp2]
    rw [if_neg (by simp only [hlen, hsz, List.size_toArray]; simp; rw [← hsz, ← e5]; omega)]
    rw [zipIdx_writeAt, hcells]
    simp only [← e5]
    rw [e1]
    exact ih.1

section
variable {C : Ctx} {loc : Loc} {σ : SS} {a : Act} {o : Oper}

theorem parts_map : ∀ {l : List (Nat × Operand)} {l' : List (Nat × Opd)}, l.mapM (fun x => (cOpd x.2).map fun y => (x.1, y)) = some l' → ∀ a : Act, l.map (fun x => (x.1, a.eval x.2)) = (l'.map (·.1)).zip ((l'.map (·.2)).map (evO a))
  | [], l', h, a => by simp at h; subst h; rfl
  | x :: l, l', h, a => by
    simp only [List.mapM_cons, Option.bind_eq_bind, Option.bind_eq_some_iff, Option.pure_def, Option.some.injEq, Option.map_eq_some_iff] at h
    obtain ⟨y, ⟨y', hy, rfl⟩, l2, hl2, rfl⟩ := h
    simp [cOpd_eval hy a, parts_map hl2 a]

theorem rd_bld {t : TypeId} {parts : Array (Nat × Operand)} {l : List (Nat × Opd)} {z : GV} {zv : Value} {place : Nat → Option (Nat × Nat)} (ho : o.op = .build t parts)
    (hz : z.ok) (hzf : z.flat = zv.cells.toList) (hs : ∀ v, z ≠ .s v) (hpl : ∀ l', C.P.built t l' = Instr.fill place zv.cells l')
    (hp : ∀ i ∈ l.map (·.1), PlaceOk z place i) (hl : parts.toList.mapM (fun x => (cOpd x.2).map fun y => (x.1, y)) = some l) (hF : FR loc C.N σ.fr σ.pv σ.ph a)
    {xs : List SV} {gs : List GV} (h1 : evL σ (l.map (·.2)) = some xs) (h2 : gvL xs = some gs) (hc : GV.bldC z (l.map (·.1)) gs) : Reads C loc σ o a (.g (GV.bldT z (l.map (·.1)) gs)) := by
  obtain ⟨e1, e2⟩ := evL_gvs hF h1 h2
  obtain ⟨f1, f2, f3⟩ := fill_run z place (l.map (·.1)) gs z hz (GV.same_refl z) e2 hp hc
  have hns : ∀ v, GV.bldT z (l.map (·.1)) gs ≠ .s v := fun v e => by
    rw [e] at f3
    cases z with
    | s u => exact hs u rfl
    | _ => exact f3.elim
  refine rd_val (s := Instr.build t (parts.map fun (i, x) => (i, a.eval x))) (v := .agg (GV.flat (GV.bldT z (l.map (·.1)) gs)).toArray) ⟨f2, (val_agg hns).symm⟩ (by simp only [execOp, ho]) fun w => ?_
  have hparts : (parts.map fun (i, x) => (i, a.eval x)).toList = (l.map (·.1)).zip (gs.map GV.val) := by
    rw [← e1, ← parts_map hl a]
    simp
  refine run_build w t _ _ ?_
  rw [hparts, hpl, show zv.cells = (GV.flat z).toArray by rw [hzf]]
  exact f1

end

section
variable {C : Ctx} {loc : Loc} {σ : SS} {a : Act} {o : Oper}

theorem rd_fldP {s : TypeId} {x : Operand} {f : Nat} {fs : Array Field} {fd : Field} {i : TypeInfo} {y : Opd} (ho : o.op = .fieldAddr s x f) (hs : C.P.underlying s = some (.struct fs)) (hf : fs[f]? = some fd)
    (hi : C.P.info? fd.type = some i) (hz : i.size ≠ 0) (hx : cOpd x = some y) (hF : FR loc C.N σ.fr σ.pv σ.ph a) {b q : Nat} (hv : ev σ y = some (.g (.s (.pointer (some ⟨b, q, none⟩))))) :
    Reads C loc σ o a (.g (.s (.pointer (some ⟨b, q + fd.offset, none⟩)))) := by
  have he := (hF.ev rfl hv).s
  refine rd_val (v := .pointer (some ⟨b, q + fd.offset, none⟩)) ⟨rfl, rfl⟩ (by simp only [execOp, ho, cOpd_eval hx a, he]; rfl) fun w => ?_
  rw [run_fieldAt' hs hf hi hz]

theorem rd_idxP {t e : TypeId} {n : Nat} {z : TypeInfo} {x i : Operand} {y i' : Opd} (ho : o.op = .indexAddr t x i) (ht : C.P.underlying t = some (.array n e)) (hz : C.P.info? e = some z) (hx : cOpd x = some y) (hi : cOpd i = some i')
    (hF : FR loc C.N σ.fr σ.pv σ.ph a) {b q : Nat} {kd : IntKind} {j : Int} (hv : ev σ y = some (.g (.s (.pointer (some ⟨b, q, none⟩))))) (hj : ev σ i' = some (.g (.s (.int kd j)))) (hb : 0 ≤ j ∧ j < n) :
    Reads C loc σ o a (.g (.s (.pointer (some ⟨b, q + j.toNat * z.size, none⟩)))) := by
  have he := (hF.ev rfl hv).s
  have hej := (hF.ev rfl hj).s
  refine rd_val (v := .pointer (some ⟨b, q + j.toNat * z.size, none⟩)) ⟨rfl, rfl⟩ (by simp only [execOp, ho, cOpd_eval hx a, cOpd_eval hi a, he, hej]; rfl) fun w => ?_
  rw [run_indexArr ht hz _ _ _ _ hb.1 hb.2]

theorem rd_idxSP {t e : TypeId} {z : TypeInfo} {x i : Operand} {y i' : Opd} (ho : o.op = .indexAddr t x i) (ht : C.P.underlying t = some (.slice e)) (hz : C.P.info? e = some z) (hx : cOpd x = some y) (hi : cOpd i = some i')
    (hF : FR loc C.N σ.fr σ.pv σ.ph a) {b q n c : Nat} {kd : IntKind} {j : Int} (hv : ev σ y = some (.g (.s (.slice (some ⟨b, q, none⟩) n c)))) (hj : ev σ i' = some (.g (.s (.int kd j)))) (hb : 0 ≤ j ∧ j < n) :
    Reads C loc σ o a (.g (.s (.pointer (some ⟨b, q + j.toNat * z.size, none⟩)))) := by
  have he := (hF.ev rfl hv).s
  have hej := (hF.ev rfl hj).s
  refine rd_val (v := .pointer (some ⟨b, q + j.toNat * z.size, none⟩)) ⟨rfl, rfl⟩ (by simp only [execOp, ho, cOpd_eval hx a, cOpd_eval hi a, he, hej]; rfl) fun w => ?_
  rw [run_indexSlc ht hz _ _ _ _ _ _ hb.1 hb.2]

theorem rd_ldP {t : TypeId} {d : TypeDesc} {i : TypeInfo} {x : Operand} {y : Opd} (ho : o.op = .load t x) (ht : C.P.underlying t = some d) (hi : C.P.info? t = some i) (hx : cOpd x = some y)
    (hF : FR loc C.N σ.fr σ.pv σ.ph a) {b q : Nat} {g : GV} (hv : ev σ y = some (.g (.s (.pointer (some ⟨b, q, none⟩))))) (hs : Seen C σ.ph σ.m b q g) (hfit : g.fits i.size (agD d) = true) : Reads C loc σ o a (.g g) := by
  have he := (hF.ev rfl hv).s
  obtain ⟨hok, cs, e, fz, hm, hat⟩ := hs
  refine rd_valL (isPure_load ho) (v := g.val) ⟨hok, rfl⟩ (by simp only [execOp, ho, cOpd_eval hx a, he]; rfl) fun w hw => ?_
  simp only [Instr.loadAt, Instr.sureAddr, Sem.run_bind, Sem.run_pure, Result.andThen_ok]
  have hb : w.heap[b]? = some (.cells cs e fz) := by
    rcases hm with hm | ⟨u, hu, hm⟩ | hm
    · exact hw.mle b _ hm
    · exact (hw.phs u hu).1 b _ hm
    · exact hw.u0le b _ hm
  refine run_loadVar' ht hi hok hfit b _ w fun j v hj => ?_
  rw [cell_of hb]
  exact hat j v hj

theorem rd_slP {t e : TypeId} {z : TypeInfo} {x : Operand} {lo hi : Option Operand} {y : Opd} {lo' hi' : Option Opd} (ho : o.op = .slice t x lo hi none) (ht : C.P.underlying t = some (.slice e)) (hz : C.P.info? e = some z) (hx : cOpd x = some y)
    (hlo : cOpdO lo = some lo') (hhi : cOpdO hi = some hi') (hF : FR loc C.N σ.fr σ.pv σ.ph a) {b q n c : Nat} (hv : ev σ y = some (.g (.s (.slice (some ⟨b, q, none⟩) n c)))) {l h : Int} (hl : bndN σ lo' 0 = some l) (hh : bndN σ hi' n = some h) (hb : n ≤ c ∧ 0 ≤ l ∧ l ≤ h ∧ h ≤ c) :
    Reads C loc σ o a (.g (.s (.slice (some ⟨b, if c = l.toNat then q else q + l.toNat * z.size, none⟩) (h.toNat - l.toNat) (c - l.toNat)))) := by
  have he := (hF.ev rfl hv).s
  obtain ⟨hnc, hb⟩ := hb
  refine rd_val (v := .slice (some ⟨b, if c = l.toNat then q else q + l.toNat * z.size, none⟩) (h.toNat - l.toNat) (c - l.toNat)) ⟨rfl, rfl⟩ (by simp only [execOp, ho, cOpd_eval hx a, he]; rfl) fun w => ?_
  have r1 := bnd_run (P := C.P) (y := c) (code := .sliceAcap) hhi hF hh (by omega) (by omega) hnc w
  have r2 := bnd_run (P := C.P) (y := h.toNat) (code := .sliceB) hlo hF hl (by omega) (by omega) (by omega) w
  simp only [Instr.sliceAt, Instr.slice, Instr.sliceBounds, Sem.run_bind, run_underlying' ht, Result.andThen_ok, Option.map_none, Sem.run_pure, if_true, Option.isSome_none]
  have fin : ∀ L H : Nat, L = l.toNat → H = h.toNat → (Result.ok (Value.slice (if c = L then some (⟨b, q, none⟩ : Addr) else Option.map (fun x : Addr => x.add (L * z.size)) (some (⟨b, q, none⟩ : Addr))) (H - L) (c - L)) w : Result Value) =
      .ok (.slice (some ⟨b, if c = l.toNat then q else q + l.toNat * z.size, none⟩) (h.toNat - l.toNat) (c - l.toNat)) w := by
    intro L H e1 e2
    subst e1; subst e2
    split <;> simp [addr_add]
  cases hi with
  | none =>
    simp only [Option.map_none, Sem.run_pure] at r1
    have hn' : n = h.toNat := by
      have := r1; simp at this; exact this
    cases lo with
    | none =>
      simp only [Option.map_none, Sem.run_pure] at r2
      have hl' : 0 = l.toNat := by have := r2; simp at this; omega
      simp only [Sem.run_pure, Result.andThen_ok, Option.map_none, run_sizeOf' hz]
      exact fin _ _ hl' hn'
    | some u =>
      simp only [Option.map_some] at r2
      rw [← hn'] at r2
      simp only [Sem.run_pure, Result.andThen_ok, Option.map_some, Option.map_none, Sem.run_bind, r2, run_sizeOf' hz, Bool.false_eq_true, if_false]
      exact fin _ _ rfl hn'
  | some v =>
    simp only [Option.map_some] at r1
    cases lo with
    | none =>
      simp only [Option.map_none, Sem.run_pure] at r2
      have hl' : 0 = l.toNat := by have := r2; simp at this; omega
      simp only [Sem.run_pure, Result.andThen_ok, Option.map_some, Option.map_none, Sem.run_bind, r1, run_sizeOf' hz]
      exact fin _ _ hl' rfl
    | some u =>
      simp only [Option.map_some] at r2
      simp only [Sem.run_pure, Result.andThen_ok, Option.map_some, Sem.run_bind, r1, r2, run_sizeOf' hz, Bool.false_eq_true, if_false]
      exact fin _ _ rfl rfl

theorem rd_eqA {op : BinOp} {neg : Bool} {t u : TypeId} {x y : Operand} {x' y' : Opd} (ho : o.op = .binOp op t x y u) (hop : op = .eql ∧ neg = false ∨ op = .neq ∧ neg = true) (hx : cOpd x = some x') (hy : cOpd y = some y') (hF : FR loc C.N σ.fr σ.pv σ.ph a) {p q : GV} {r : Bool}
    (hp : ev σ x' = some (.g p)) (hq : ev σ y' = some (.g q)) (h : EqG C.P t p q r) : Reads C loc σ o a (.g (.s (.bool (r != neg)))) := by
  have e1 := (hF.ev rfl hp).2
  have e2 := (hF.ev rfl hq).2
  exact rd_val (s := do eqGuard op t x y p.val q.val; binOp op t p.val q.val) (v := .bool (r != neg)) ⟨rfl, rfl⟩ (by simp only [execOp, ho, cOpd_eval hx a, cOpd_eval hy a, e1, e2]) fun w => by
    rcases hop with ⟨rfl, rfl⟩ | ⟨rfl, rfl⟩
    · rw [(h x y w).1]; simp
    · rw [(h x y w).2]; simp

theorem run_eqIn_ptr {P : Program} {t e : TypeId} (d : Nat) (ht : P.underlying t = some (.pointer e)) (ad : Addr) (w : World) : (Op.equalIn (d + 1) t (.pointer (some ad)) (.pointer none)).run P w = .ok false w := by
  simp [Op.equalIn, Sem.run_bind, run_underlying' ht]
theorem run_eq_ptr {P : Program} {t e : TypeId} (ht : P.underlying t = some (.pointer e)) (ad : Addr) (w : World) : (Op.equal t (.pointer (some ad)) (.pointer none)).run P w = .ok false w := run_eqIn_ptr 9999 ht ad w
theorem run_eqIn_slc {P : Program} {t e : TypeId} (d : Nat) (ht : P.underlying t = some (.slice e)) (ad : Option Addr) (n c : Nat) (w : World) : (Op.equalIn (d + 1) t (.slice ad n c) (.slice none 0 0)).run P w = .ok ad.isNone w := by
  cases ad <;> simp [Op.equalIn, Sem.run_bind, run_underlying' ht]
theorem run_eq_slc {P : Program} {t e : TypeId} (ht : P.underlying t = some (.slice e)) (ad : Option Addr) (n c : Nat) (w : World) : (Op.equal t (.slice ad n c) (.slice none 0 0)).run P w = .ok ad.isNone w := run_eqIn_slc 9999 ht ad n c w

theorem rd_eqNilP {op : BinOp} {neg : Bool} {t u e : TypeId} {x y : Operand} {x' y' : Opd} (ho : o.op = .binOp op t x y u) (hop : op = .eql ∧ neg = false ∨ op = .neq ∧ neg = true) (hx : cOpd x = some x') (hy : cOpd y = some y') (hF : FR loc C.N σ.fr σ.pv σ.ph a)
    (ht : C.P.underlying t = some (.pointer e)) {ad : Addr} (hp : evO a x' = .pointer (some ad)) (hq : ev σ y' = some (.g (.s (.pointer none)))) : Reads C loc σ o a (.g (.s (.bool neg))) := by
  have e2 := (hF.ev rfl hq).s
  exact rd_val (s := do eqGuard op t x y (.pointer (some ad)) (.pointer none); binOp op t (.pointer (some ad)) (.pointer none)) (v := .bool neg) ⟨rfl, rfl⟩ (by simp only [execOp, ho, cOpd_eval hx a, cOpd_eval hy a, hp, e2]) fun w => by
    rcases hop with ⟨rfl, rfl⟩ | ⟨rfl, rfl⟩ 
    · simp [eqGuard, binOp, Sem.run_bind, run_eq_ptr ht]
    · simp [eqGuard, binOp, Sem.run_bind, run_eq_ptr ht]

theorem rd_eqNilS {op : BinOp} {neg : Bool} {t u e : TypeId} {x y : Operand} {x' y' : Opd} (ho : o.op = .binOp op t x y u) (hop : op = .eql ∧ neg = false ∨ op = .neq ∧ neg = true) (hx : cOpd x = some x') (hy : cOpd y = some y') (hF : FR loc C.N σ.fr σ.pv σ.ph a)
    (ht : C.P.underlying t = some (.slice e)) {ad : Option Addr} {n c : Nat} (hp : evO a x' = .slice ad n c) (hq : ev σ y' = some (.g (.s (.slice none 0 0)))) : Reads C loc σ o a (.g (.s (.bool (ad.isNone != neg)))) := by
  have e2 := (hF.ev rfl hq).s
  exact rd_val (s := do eqGuard op t x y (.slice ad n c) (.slice none 0 0); binOp op t (.slice ad n c) (.slice none 0 0)) (v := .bool (ad.isNone != neg)) ⟨rfl, rfl⟩ (by simp only [execOp, ho, cOpd_eval hx a, cOpd_eval hy a, hp, e2]) fun w => by
    rcases hop with ⟨rfl, rfl⟩ | ⟨rfl, rfl⟩
    · simp [eqGuard, binOp, Sem.run_bind, run_eq_slc ht]
    · simp [eqGuard, binOp, Sem.run_bind, run_eq_slc ht]

end

end Go.Proofs.YtmjiojflncffeaaGreat.Vc

/- Soundness, one operation at a time. -/
set_option linter.unusedVariables false
set_option linter.unusedSimpArgs false
namespace Go.Proofs.YtmjiojflncffeaaGreat.Vc
open Go

theorem SS.put_pv (σ : SS) (d : Option Nat) (x : SV) : (σ.put d x).pv = σ.pv ∧ (σ.put d x).ph = σ.ph ∧ (σ.put d x).m = σ.m := by
  cases d <;> exact ⟨rfl, rfl, rfl⟩

section
variable {C : Ctx} {loc : Loc} {σ : SS} {a : Act} {o : Oper} {w : World} {K : KT} {Q : Exit → Act → World → Prop}

theorem wp_of_reads {x : SV} (hd : ∀ t, o.dst = some t → t < C.N) (hR : Reads C loc σ o a x) (hF : FR loc C.N σ.fr σ.pv σ.ph a) (hH : HR C loc σ.pv σ.ph σ.m w) (hK : K (σ.put o.dst x)) : o.wp C.P a w (liftK C K) Q := by
  obtain ⟨v, hv, hrun, _⟩ := hR
  unfold Oper.wp
  rw [hrun w hH, Oper.upon_value]
  obtain ⟨e1, e2, e3⟩ := σ.put_pv o.dst x
  refine ⟨_, hK, loc, ?_, ?_⟩
  · rw [e1, e2]; exact hF.put hd rfl hv
  · rw [e1, e2, e3]; exact hH

theorem alloc_old {w : World} {ob : Obj} {j : Nat} (hj : j < w.heap.size) : (w.alloc ob).heap[j]? = w.heap[j]? := by
  show (w.heap.push _)[j]? = _
  rw [Array.getElem?_push, if_neg (by omega)]
theorem alloc_new {w : World} {ob : Obj} : (w.alloc ob).heap[w.heap.size]? = some ob := by
  show (w.heap.push _)[w.heap.size]? = _
  simp

theorem HR.own_lt {pv : List (Nat × PV)} {ph : List PH} {m : PH} (hH : HR C loc pv ph m w) {k : Nat} {y : PV} {b o c : Nat} (hk : look pv k = some y) (hy : y.own = true) (hl : loc k = some (b, o, c)) : b < w.heap.size := by
  have hp := hH.pvs k y hk
  cases y with
  | box g =>
    obtain ⟨_, b', c', e', hl', hb⟩ := hp
    rw [hl] at hl'
    obtain ⟨rfl, _⟩ : b = b' ∧ _ := by simpa using hl'
    exact (Array.getElem?_eq_some_iff.1 hb).1
  | row e z df xs =>
    obtain ⟨_, hp⟩ := hp
    rw [hl] at hp
    obtain ⟨cs, hb, _⟩ := hp
    exact (Array.getElem?_eq_some_iff.1 hb).1
  | ro z df xs => cases hy

/-- A new block in a world that stands so: it is k's from now on. -/
theorem HR.alloc (hH : HR C loc σ.pv σ.ph σ.m w) {k c : Nat} {y : PV} {ob : Obj} (hy : y.own = true) (hnew : PVr C (fun j => if j = k then some (w.heap.size, 0, c) else loc j) σ.ph (w.alloc ob) k y) :
    HR C (fun j => if j = k then some (w.heap.size, 0, c) else loc j) (updL σ.pv k y) σ.ph σ.m (w.alloc ob) := by
  have hW := hH.kept.2.2.2.1
  have hle : ∀ (u : PH), u.le w → u.le (w.alloc ob) := fun u hu j o hj => by
    have := hu j o hj
    rw [alloc_old (Array.getElem?_eq_some_iff.1 this).1]; exact this
  have hne : ∀ (u : PH), u.le w → u w.heap.size = none := fun u hu => by
    cases hh : u w.heap.size with
    | none => rfl
    | some o => have := hu _ _ hh; simp at this
  refine ⟨?_, ?_, ?_, ?_, hle _ hH.mle, hH.mmine, fun u hu => ⟨hle _ (hH.phs u hu).1, (hH.phs u hu).2⟩⟩
  · obtain ⟨h1, h2, h3, h4, h5⟩ := hH.kept
    exact ⟨h1, h2, h3, by simp; omega, fun j hj hm => by rw [alloc_old (by omega)]; exact h5 j hj hm⟩
  · intro j y' hj
    rw [look_upd] at hj
    by_cases hjk : j = k
    · simp only [hjk, if_true, Option.some.injEq] at hj
      subst hj; subst hjk
      exact hnew
    · simp only [hjk, if_false] at hj
      have hp := hH.pvs j y' hj
      cases y' with
      | box g' =>
        obtain ⟨h0, b', c', e', hl', hb⟩ := hp
        exact ⟨h0, b', c', e', by simp [hjk, hl'], by rw [alloc_old (Array.getElem?_eq_some_iff.1 hb).1]; exact hb⟩
      | row e' z df xs =>
        refine ⟨hp.1, ?_⟩
        simp only [hjk, if_false]
        have hp2 := hp.2
        cases hl : loc j with
        | none => rw [hl] at hp2; exact hp2
        | some l =>
          obtain ⟨b, o, c⟩ := l
          rw [hl] at hp2
          obtain ⟨cs, hb, hr⟩ := hp2
          exact ⟨cs, by rw [alloc_old (Array.getElem?_eq_some_iff.1 hb).1]; exact hb, hr⟩
      | ro z df xs =>
        refine ⟨hp.1, ?_⟩
        simp only [hjk, if_false]
        exact hp.2
  · intro j j' y1 y' b o c o' c' h1 h2 h3 h4 h5 h6
    rw [look_upd] at h1 h4
    by_cases hj : j = k <;> by_cases hj' : j' = k
    · rw [hj, hj']
    · simp only [hj, if_true] at h3
      simp only [hj', if_false] at h4 h6
      have := hH.own_lt h4 h5 h6
      simp at h3; omega
    · simp only [hj', if_true] at h6
      simp only [hj, if_false] at h1 h3
      have := hH.own_lt h1 h2 h3
      simp at h6; omega
    · simp only [hj, if_false] at h1 h3
      simp only [hj', if_false] at h4 h6
      exact hH.apart j j' y1 y' b o c o' c' h1 h2 h3 h4 h5 h6
  · intro j y1 b o c h1 h2 h3
    rw [look_upd] at h1
    by_cases hj : j = k
    · simp only [hj, if_true] at h3
      simp at h3
      obtain ⟨rfl, _⟩ := h3
      exact ⟨.inl hW, hne _ hH.mle, fun u hu => hne u (hH.phs u hu).1⟩
    · simp only [hj, if_false] at h1 h3
      exact hH.priv j y1 b o c h1 h2 h3

theorem SVr.weaken {loc loc' : Loc} {pv pv' : List (Nat × PV)} {x : SV} {v : Value} (h : SVr loc pv x v) (hp : ∀ k, x.mentions k = true → loc' k = loc k ∧ look pv' k = look pv k) : SVr loc' pv' x v := by
  have row : ∀ k, (loc' k = loc k ∧ look pv' k = look pv k) → rowE pv' k = rowE pv k := fun k hk => by unfold rowE; rw [hk.2]
  cases x with
  | g x => exact h
  | ref k p =>
    obtain ⟨e1, e2⟩ := hp k (by simp [SV.mentions])
    simpa only [SVr, e1, e2] using h
  | row k s n =>
    have := hp k (by simp [SV.mentions])
    simpa only [SVr, row k this, this.1] using h
  | rref k i p =>
    have := hp k (by simp [SV.mentions])
    simpa only [SVr, row k this, this.1] using h
  | tup xs => exact h
  | no => exact h
  | any => trivial

theorem SVr.there {x : SV} {v : Value} {pv : List (Nat × PV)} (h : SVr loc pv x v) (k : Nat) (hk : x.mentions k = true) : look pv k ≠ none := by
  cases x with
  | ref j p =>
    simp [SV.mentions] at hk; subst hk
    obtain ⟨g, b, c, y, h1, _⟩ := h
    simp [h1]
  | row j s n =>
    simp [SV.mentions] at hk; subst hk
    obtain ⟨z, xs, h1, _⟩ := h
    intro e; simp [rowE, e] at h1
  | rref j i p =>
    simp [SV.mentions] at hk; subst hk
    obtain ⟨z, xs, x, y, b, o, c, h1, _⟩ := h
    intro e; simp [rowE, e] at h1
  | g x => simp [SV.mentions] at hk
  | tup xs => simp [SV.mentions] at hk
  | no => simp [SV.mentions] at hk
  | any => simp [SV.mentions] at hk

/-- A variable of the call's own comes to be, in slot k. -/
theorem wp_newbox {k : Nat} {g : GV} {e : TypeId} (hdst : o.dst = some k) (hd : ∀ t, o.dst = some t → t < C.N) (hrun : (execOp a.eval o).run C.P w = .ok (.value (.pointer (some ⟨w.heap.size, 0, none⟩))) (w.alloc (.cells g.flat.toArray e)))
    (hg : g.ok) (hF : FR loc C.N σ.fr σ.pv σ.ph a) (hH : HR C loc σ.pv σ.ph σ.m w) (hk : look σ.pv k = none) (hK : K { σ with fr := (k, .ref k []) :: σ.fr, pv := updL σ.pv k (.box g) }) : o.wp C.P a w (liftK C K) Q := by
  unfold Oper.wp
  rw [hrun, Oper.upon_value]
  refine ⟨_, hK, fun j => if j = k then some (w.heap.size, 0, 0) else loc j, ?_, hH.alloc (y := .box g) rfl ⟨hg, w.heap.size, 0, e, by simp, alloc_new⟩⟩
  have hkN := hd k hdst
  rw [hdst]
  refine ⟨hF.defers, by simp [Act.put, hF.size], fun t x hx => ?_⟩
  simp only [look] at hx
  by_cases ht : t = k
  · simp only [ht, if_true, Option.some.injEq] at hx
    subst hx; subst ht
    refine ⟨.pointer (some ⟨w.heap.size, 0, none⟩), by simp [Act.put, hF.size, hkN], g, w.heap.size, 0, g, by simp [look_upd], by simp, by cases g <;> rfl, by cases g <;> simp [GV.offs]⟩
  · simp only [ht, if_false] at hx
    obtain ⟨v, hv, hr⟩ := hF.slots t x hx
    refine ⟨v, by simp only [Act.put]; rw [Array.getElem?_setIfInBounds_ne (fun e => ht e.symm)]; exact hv, hr.weaken fun j hj => ?_⟩
    have hjk : j ≠ k := fun e => hr.there j hj (e ▸ hk)
    exact ⟨by simp [hjk], by simp [look_upd, hjk]⟩

end

/-! ### Stores -/
def _root_.Go.World.setBlk (w : World) (b : Nat) (o : Obj) : World := { w with heap := w.heap.setIfInBounds b o }

theorem setBlk_same {w : World} {b : Nat} {o : Obj} (h : b < w.heap.size) : (w.setBlk b o).heap[b]? = some o := by
  simp [World.setBlk, h]
theorem setBlk_other {w : World} {b k : Nat} {o : Obj} (h : k ≠ b) : (w.setBlk b o).heap[k]? = w.heap[k]? := by
  simp only [World.setBlk]
  rw [Array.getElem?_setIfInBounds_ne (fun e => h e.symm)]
theorem setBlk_size {w : World} {b : Nat} {o : Obj} : (w.setBlk b o).heap.size = w.heap.size := by simp [World.setBlk]

theorem setCell_blk {w : World} {b j : Nat} {cs : Array Value} {e : TypeId} {fz : Nat × Nat} (h : w.heap[b]? = some (.cells cs e fz)) (v : Value) : w.setCell ⟨b, j, none⟩ v = w.setBlk b (.cells (cs.setIfInBounds j v) e fz) := by
  have hlt : b < w.heap.size := (Array.getElem?_eq_some_iff.1 h).1
  have hv : w.heap[b] = .cells cs e fz := (Array.getElem?_eq_some_iff.1 h).2
  unfold World.setCell World.setBlk
  congr 1
  apply Array.ext_getElem?
  intro k
  simp only [Array.getElem?_modify, Array.getElem?_setIfInBounds]
  by_cases hk : b = k
  · subst hk; simp [hlt, hv]
  · simp [hk]

theorem setBlk_twice {w : World} {b : Nat} {o o' : Obj} : (w.setBlk b o).setBlk b o' = w.setBlk b o' := by
  simp [World.setBlk]

theorem setBlk_self {w : World} {b : Nat} {o : Obj} (h : w.heap[b]? = some o) : w.setBlk b o = w := by
  have hlt : b < w.heap.size := (Array.getElem?_eq_some_iff.1 h).1
  have hv : w.heap[b] = o := (Array.getElem?_eq_some_iff.1 h).2
  unfold World.setBlk
  cases w with
  | mk heap tape drawn os output =>
    congr 1
    apply Array.ext_getElem?
    intro k
    simp only [Array.getElem?_setIfInBounds]
    by_cases hk : b = k
    · subst hk; simp at hlt hv; simp [hlt, hv]
    · simp [hk]

theorem run_storeCells' {P : Program} {b o : Nat} {e : TypeId} : ∀ (vs : List Value) (i : Nat) (cs : Array Value) (w : World), w.heap[b]? = some (.cells cs e (0, 0)) → o + i + vs.length ≤ cs.size → (∀ v ∈ vs, v.oneCell' = true) →
    (storeCells ⟨b, o, none⟩ vs i).run P w = .ok () (w.setBlk b (.cells (writeAt cs (o + i) vs) e (0, 0)))
  | [], i, cs, w, hb, _, _ => by simp only [storeCells, writeAt]; rw [setBlk_self hb]; rfl
  | v :: vs, i, cs, w, hb, hl, h1 => by
    simp at hl
    have hi : o + i < cs.size := by omega
    have hlt : b < w.heap.size := (Array.getElem?_eq_some_iff.1 hb).1
    have hcell : w.cell? ⟨b, o + i, none⟩ = some cs[o + i] := by simp [World.cell?, hb, hi]
    have hfro : w.frozen? ⟨b, o + i, none⟩ = false := by simp [World.frozen?, hb]
    have hst : (store ((⟨b, o, none⟩ : Addr).add i) v).run P w = .ok () (w.setBlk b (.cells (cs.setIfInBounds (o + i) v) e (0, 0))) := by
      rw [addr_add, run_store P w _ v _ (h1 v (by simp)), hcell]
      simp only [hfro, Bool.false_eq_true, if_false]
      rw [setCell_blk hb]
    have ih := run_storeCells' (P := P) (b := b) (o := o) (e := e) vs (i + 1) (cs.setIfInBounds (o + i) v) (w.setBlk b (.cells (cs.setIfInBounds (o + i) v) e (0, 0))) (setBlk_same hlt) (by simp only [Array.size_setIfInBounds]; omega) (fun x hx => h1 x (by simp [hx]))
    simp only [storeCells, Sem.run_bind, hst, Result.andThen_ok, ih, setBlk_twice, writeAt]
    rw [Nat.add_assoc]

theorem run_storeVar' {P : Program} {t : TypeId} {i : TypeInfo} (hi : P.info? t = some i) {y : GV} (hy : y.ok) (hz : y.sz = i.size) {b o : Nat} {cs : Array Value} {e : TypeId} {w : World} (hb : w.heap[b]? = some (.cells cs e (0, 0)))
    (hl : o + i.size ≤ cs.size) : (storeVar t ⟨b, o, none⟩ y.val).run P w = .ok () (w.setBlk b (.cells (writeAt cs o (GV.flat y)) e (0, 0))) := by
  have hc := GV.cells_val y hy
  have hlen := GV.flat_len y hy
  have := run_storeCells' (P := P) (b := b) (o := o) (e := e) (GV.flat y) 0 cs w hb (by omega) (GV.flat_one y hy)
  simp only [Nat.add_zero] at this
  simp [storeVar, Sem.run_bind, run_sizeOf' hi, hc, hlen, hz, this]

theorem SVr.upd_box {loc : Loc} {pv : List (Nat × PV)} {x : SV} {v : Value} (hx : SVr loc pv x v) {k : Nat} {g h : GV} (hg : look pv k = some (.box g)) (hs : GV.same h g) : SVr loc (updL pv k (.box h)) x v := by
  have hs' : GV.same g h := GV.same_symm _ _ hs
  cases x with
  | ref j p =>
    by_cases hj : j = k
    · subst hj
      obtain ⟨g', b, c, y, h1, h2, h3, h4⟩ := hx
      rw [hg] at h1
      obtain rfl : g = g' := by simpa using h1
      obtain ⟨e1, z, e2, e3⟩ := GV.same_get g h p y hs' h3
      exact ⟨h, b, c, z, by simp [look_upd], h2, e2, by rw [h4, e1]⟩
    · exact hx.weaken fun i hi => by
        simp [SV.mentions] at hi; subst hi
        exact ⟨rfl, by simp [look_upd, hj]⟩
  | row j s n =>
    have hj : j ≠ k := fun e => by
      obtain ⟨z, xs, h1, _⟩ := hx
      simp [rowE, e, hg] at h1
    exact hx.weaken fun i hi => by
      simp [SV.mentions] at hi; subst hi
      exact ⟨rfl, by simp [look_upd, hj]⟩
  | rref j i p =>
    have hj : j ≠ k := fun e => by
      obtain ⟨z, xs, _, _, _, _, _, h1, _⟩ := hx
      simp [rowE, e, hg] at h1
    exact hx.weaken fun i hi => by
      simp [SV.mentions] at hi; subst hi
      exact ⟨rfl, by simp [look_upd, hj]⟩
  | g x => exact hx
  | tup xs => exact hx
  | no => exact hx
  | any => trivial

theorem rowE_upd {pv : List (Nat × PV)} {k j z : Nat} {e : TypeId} {df : GV} {xs : List GV} : rowE (updL pv k (.row e z df xs)) j = if j = k then some (z, xs) else rowE pv j := by
  unfold rowE
  rw [look_upd]
  by_cases h : j = k <;> simp [h]

theorem SVr.upd_row {loc : Loc} {pv : List (Nat × PV)} {x : SV} {v : Value} (hx : SVr loc pv x v) {k z i : Nat} {e : TypeId} {df : GV} {xs : List GV} {x0 h : GV} (hg : look pv k = some (.row e z df xs)) (hi : xs[i]? = some x0) (hs : GV.same h x0) :
    SVr loc (updL pv k (.row e z df (xs.set i h))) x v := by
  have hs' : GV.same x0 h := GV.same_symm _ _ hs
  have hrow : rowE pv k = some (z, xs) := by simp [rowE, hg]
  cases x with
  | ref j p =>
    have hj : j ≠ k := fun e => by
      obtain ⟨g', b, c, y, h1, _⟩ := hx
      simp [e, hg] at h1
    exact hx.weaken fun i hi => by
      simp [SV.mentions] at hi; subst hi
      exact ⟨rfl, by simp [look_upd, hj]⟩
  | row j s n =>
    by_cases hj : j = k
    · subst hj
      obtain ⟨z', xs', h1, h2, h3⟩ := hx
      rw [hrow] at h1
      obtain ⟨rfl, rfl⟩ : z = z' ∧ xs = xs' := by simpa using h1
      exact ⟨z, _, by rw [rowE_upd, if_pos rfl], by simpa using h2, h3⟩
    · exact hx.weaken fun i hi => by
        simp [SV.mentions] at hi; subst hi
        exact ⟨rfl, by simp [look_upd, hj]⟩
  | rref j l p =>
    by_cases hj : j = k
    · subst hj
      obtain ⟨z', xs', x', y, b, o, c, h1, h2, h3, h4, h5⟩ := hx
      rw [hrow] at h1
      obtain ⟨rfl, rfl⟩ : z = z' ∧ xs = xs' := by simpa using h1
      by_cases hl : l = i
      · subst hl
        rw [hi] at h2
        obtain rfl : x0 = x' := by simpa using h2
        obtain ⟨e1, y', e2, e3⟩ := GV.same_get x0 h p y hs' h3
        have hlt : l < xs.length := by
          rcases Nat.lt_or_ge l xs.length with h' | h'
          · exact h'
          · simp [List.getElem?_eq_none h'] at hi
        exact ⟨z, _, h, y', b, o, c, by rw [rowE_upd, if_pos rfl], by simp [hlt], e2, h4, by rw [h5, e1]⟩
      · exact ⟨z, _, x', y, b, o, c, by rw [rowE_upd, if_pos rfl], by rw [List.getElem?_set_ne (fun e => hl e.symm)]; exact h2, h3, h4, h5⟩
    · exact hx.weaken fun i hi => by
        simp [SV.mentions] at hi; subst hi
        exact ⟨rfl, by simp [look_upd, hj]⟩
  | g x => exact hx
  | tup xs => exact hx
  | no => exact hx
  | any => trivial

section
variable {C : Ctx} {loc : Loc} {pv : List (Nat × PV)} {ph : List PH} {m : PH} {w : World}

/-- A block of the call's own is written. -/
theorem HR.write (hH : HR C loc pv ph m w) {k b o c : Nat} {y y' : PV} {ob : Obj} (hk : look pv k = some y) (hy : y.own = true) (hl : loc k = some (b, o, c)) (hb : b < w.heap.size) (hnew : PVr C loc ph (w.setBlk b ob) k y') (hy' : y'.own = true) :
    HR C loc (updL pv k y') ph m (w.setBlk b ob) := by
  obtain ⟨hmine, hmb, hphb⟩ := hH.priv k y b o c hk hy hl
  have hle : ∀ (u : PH), u b = none → u.le w → u.le (w.setBlk b ob) := fun u hn hu j o hj => by
    rw [setBlk_other (fun e => by subst e; rw [hn] at hj; cases hj)]
    exact hu j o hj
  refine ⟨?_, ?_, ?_, ?_, hle m hmb hH.mle, hH.mmine, fun u hu => ⟨hle u (hphb u hu) (hH.phs u hu).1, (hH.phs u hu).2⟩⟩
  · obtain ⟨h1, h2, h3, h4, h5⟩ := hH.kept
    refine ⟨h1, h2, h3, by rw [setBlk_size]; exact h4, fun j hj hm => ?_⟩
    rw [setBlk_other (fun e => by subst e; exact hmine.elim (fun h => by omega) (fun h => h hm))]
    exact h5 j hj hm
  · intro j x hj
    rw [look_upd] at hj
    by_cases hjk : j = k
    · simp only [hjk, if_true, Option.some.injEq] at hj
      subst hj; subst hjk
      exact hnew
    · simp only [hjk, if_false] at hj
      have hp := hH.pvs j x hj
      cases x with
      | box g' =>
        obtain ⟨h0, b', c', e', hl', hb'⟩ := hp
        have hne : b' ≠ b := fun e => hjk (hH.apart j k _ _ b' 0 c' o c hj rfl hl' hk hy (e ▸ hl))
        exact ⟨h0, b', c', e', hl', by rw [setBlk_other hne]; exact hb'⟩
      | row e' z df xs =>
        refine ⟨hp.1, ?_⟩
        have hp2 := hp.2
        cases hlj : loc j with
        | none => rw [hlj] at hp2; exact hp2
        | some l =>
          obtain ⟨b', o', c'⟩ := l
          rw [hlj] at hp2
          obtain ⟨cs, hb', hr⟩ := hp2
          have hne : b' ≠ b := fun e => hjk (hH.apart j k _ _ b' o' c' o c hj rfl hlj hk hy (e ▸ hl))
          exact ⟨cs, by rw [setBlk_other hne]; exact hb', hr⟩
      | ro z df xs => exact hp
  · intro j j' x x' b1 o1 c1 o2 c2 h1 h2 h3 h4 h5 h6
    rw [look_upd] at h1 h4
    by_cases hj : j = k <;> by_cases hj' : j' = k
    · rw [hj, hj']
    · simp only [hj', if_false] at h4
      subst hj
      exact hH.apart j j' y x' b1 o1 c1 o2 c2 hk hy h3 h4 h5 h6
    · simp only [hj, if_false] at h1
      subst hj'
      exact hH.apart j j' x y b1 o1 c1 o2 c2 h1 h2 h3 hk hy h6
    · simp only [hj, if_false] at h1
      simp only [hj', if_false] at h4
      exact hH.apart j j' x x' b1 o1 c1 o2 c2 h1 h2 h3 h4 h5 h6
  · intro j x b1 o1 c1 h1 h2 h3
    rw [look_upd] at h1
    by_cases hj : j = k
    · subst hj; exact hH.priv j y b1 o1 c1 hk hy h3
    · simp only [hj, if_false] at h1; exact hH.priv j x b1 o1 c1 h1 h2 h3
end

section
variable {C : Ctx} {loc : Loc} {σ : SS} {a : Act} {o : Oper} {w : World} {K : KT} {Q : Exit → Act → World → Prop}

theorem wp_st_box {t : TypeId} {i : TypeInfo} {x v : Operand} {x' v' : Opd} (ho : o.op = .store t x v) (hi : C.P.info? t = some i) (hx : cOpd x = some x') (hv : cOpd v = some v') (hd : ∀ t, o.dst = some t → t < C.N)
    (hF : FR loc C.N σ.fr σ.pv σ.ph a) (hH : HR C loc σ.pv σ.ph σ.m w) {k : Nat} {p : List Nat} {y g : GV} (e1 : ev σ x' = some (.ref k p)) (e2 : ev σ v' = some (.g y)) (hg : look σ.pv k = some (.box g))
    (hs : GV.same y (g.getT p)) (hz : y.sz = i.size) (hK : K ({ σ with pv := updL σ.pv k (.box (g.setT p y)) }.put o.dst .no)) : o.wp C.P a w (liftK C K) Q := by
  obtain ⟨g', b, c, y0, hg', hl, hy0, he⟩ := hF.ev rfl e1
  obtain ⟨hyok, hev⟩ := hF.ev rfl e2
  rw [hg] at hg'
  obtain rfl : g = g' := by simpa using hg'
  rw [GV.getT_of g p y0 hy0] at hs
  have hh := GV.setT_of g p y y0 hy0
  generalize hgh : g.setT p y = h at hh hK
  obtain ⟨hgok, b', c', e, hl', hb⟩ := hH.pvs k _ hg
  rw [hl] at hl'
  obtain ⟨rfl, rfl⟩ : b = b' ∧ c = c' := by simpa using hl'
  obtain ⟨h1, h2, h3, h4⟩ := sub_cells hgok hyok hy0 hs hh
  have hlt : b < w.heap.size := (Array.getElem?_eq_some_iff.1 hb).1
  have hrun : (execOp a.eval o).run C.P w = .ok .skip (w.setBlk b (.cells (GV.flat h).toArray e)) := by
    simp only [execOp, ho, cOpd_eval hx a, cOpd_eval hv a, he, hev, Instr.storeAt, Instr.sureAddr, Sem.run_bind, Sem.run_pure, Result.andThen_ok]
    rw [run_storeVar' hi hyok hz hb (by simp only [List.size_toArray]; omega), h1]
    rfl
  unfold Oper.wp
  rw [hrun, Oper.upon_skip]
  have hH' := hH.write hg rfl hl hlt (y' := .box h) (ob := .cells (GV.flat h).toArray e) ⟨h3, b, c, e, hl, setBlk_same hlt⟩ rfl
  obtain ⟨q1, q2, q3⟩ := ({ σ with pv := updL σ.pv k (.box h) } : SS).put_pv o.dst .no
  refine ⟨_, hK, loc, ?_, ?_⟩
  · rw [q1, q2]
    have hF' : FR loc C.N σ.fr (updL σ.pv k (.box h)) σ.ph a := ⟨hF.defers, hF.size, fun t x hx => by
      obtain ⟨u, hu, hr⟩ := hF.slots t x hx
      exact ⟨u, hu, hr.upd_box hg h4⟩⟩
    exact hF'.put (σ := { σ with pv := updL σ.pv k (.box h) }) hd (x := .no) (v := undef) rfl rfl
  · rw [q1, q2, q3]; exact hH'

theorem Els.set {z : Nat} {xs : List GV} (h : Els z xs) {i : Nat} {x : GV} (hx : x.ok) (hz : x.sz = z) : Els z (xs.set i x) := by
  intro y hy
  rcases List.mem_or_eq_of_mem_set hy with h1 | rfl
  · exact h y h1
  · exact ⟨hx, hz⟩

theorem flats_set {z : Nat} : ∀ {xs : List GV} {i : Nat} {x h : GV}, Els z xs → xs[i]? = some x → h.sz = z → h.ok → ∀ j v, (flats (xs.set i h))[j]? = some v → if i * z ≤ j ∧ j < i * z + z then (GV.flat h)[j - i * z]? = some v else (flats xs)[j]? = some v
  | [], i, x, h, _, hx, _, _, _, _, _ => by simp at hx
  | y :: xs, 0, x, h, he, hx, hz, hok, j, v, hv => by
    have h1 := he y (by simp)
    have hl : (GV.flat y).length = z := by rw [GV.flat_len y h1.1, h1.2]
    have hl' : (GV.flat h).length = z := by rw [GV.flat_len h hok, hz]
    simp only [List.set_cons_zero, flats, List.flatMap_cons] at hv ⊢
    by_cases hj : j < z
    · rw [if_pos (by omega)]
      rw [List.getElem?_append_left (by omega)] at hv
      simpa using hv
    · rw [if_neg (by omega)]
      rw [List.getElem?_append_right (by omega)] at hv ⊢
      rw [hl]; rw [hl'] at hv; exact hv
  | y :: xs, i + 1, x, h, he, hx, hz, hok, j, v, hv => by
    have h1 := he y (by simp)
    have hl : (GV.flat y).length = z := by rw [GV.flat_len y h1.1, h1.2]
    simp only [List.set_cons_succ, flats, List.flatMap_cons] at hv ⊢
    rw [Nat.succ_mul]
    by_cases hj : j < z
    · rw [List.getElem?_append_left (by omega)] at hv
      rw [if_neg (by omega), List.getElem?_append_left (by omega)]
      exact hv
    · rw [List.getElem?_append_right (by omega), hl] at hv
      have ih := flats_set (xs := xs) (i := i) (fun y hy => he y (by simp [hy])) (by simpa using hx) hz hok (j - z) v hv
      by_cases hb : i * z + z ≤ j ∧ j < i * z + z + z
      · rw [if_pos (by omega)] at ih
        rw [if_pos hb, show j - (i * z + z) = j - z - i * z by omega]
        exact ih
      · rw [if_neg (by omega)] at ih
        rw [if_neg hb, List.getElem?_append_right (by omega), hl]
        exact ih

theorem wp_st_row {t : TypeId} {i : TypeInfo} {x v : Operand} {x' v' : Opd} (ho : o.op = .store t x v) (hi : C.P.info? t = some i) (hx : cOpd x = some x') (hv : cOpd v = some v') (hd : ∀ t, o.dst = some t → t < C.N)
    (hF : FR loc C.N σ.fr σ.pv σ.ph a) (hH : HR C loc σ.pv σ.ph σ.m w) {k l : Nat} {p : List Nat} {y : GV} {e : TypeId} {z : Nat} {df : GV} {xs : List GV} (e1 : ev σ x' = some (.rref k l p)) (e2 : ev σ v' = some (.g y)) (hg : look σ.pv k = some (.row e z df xs))
    (hs : GV.same y ((xs.getD l df).getT p)) (hz : y.sz = i.size) (hK : K ({ σ with pv := updL σ.pv k (.row e z df (xs.set l ((xs.getD l df).setT p y))) }.put o.dst .no)) : o.wp C.P a w (liftK C K) Q := by
  have hrow : rowE σ.pv k = some (z, xs) := by simp [rowE, hg]
  obtain ⟨z', xs', x0, y0, b, o', c, hg', hx0, hy0, hl, he⟩ := hF.ev rfl e1
  obtain ⟨hyok, hev⟩ := hF.ev rfl e2
  rw [hrow] at hg'
  obtain ⟨rfl, rfl⟩ : z = z' ∧ xs = xs' := by simpa using hg'
  have hxd : xs.getD l df = x0 := by simp [hx0]
  rw [hxd, GV.getT_of x0 p y0 hy0] at hs
  rw [hxd] at hK
  have hh := GV.setT_of x0 p y y0 hy0
  generalize hgh : x0.setT p y = h at hh hK
  obtain ⟨hels, hp⟩ := hH.pvs k _ hg
  rw [hl] at hp
  obtain ⟨cs, hb, hlen, hsz, hat⟩ := hp
  have hx0ok := hels x0 (List.mem_of_getElem? hx0)
  obtain ⟨h1, h2, h3, h4⟩ := sub_cells hx0ok.1 hyok hy0 hs hh
  have hlt : b < w.heap.size := (Array.getElem?_eq_some_iff.1 hb).1
  have hll : l < xs.length := by
    rcases Nat.lt_or_ge l xs.length with h' | h'
    · exact h'
    · simp [List.getElem?_eq_none h'] at hx0
  have hfx : (GV.flat x0).length = z := by rw [GV.flat_len x0 hx0ok.1, hx0ok.2]
  have hmul : l * z + z ≤ c * z := by rw [← Nat.succ_mul]; exact Nat.mul_le_mul_right z (by omega)
  have hrun : (execOp a.eval o).run C.P w = .ok .skip (w.setBlk b (.cells (writeAt cs (o' + l * z + x0.offs p) (GV.flat y)) e)) := by
    simp only [execOp, ho, cOpd_eval hx a, cOpd_eval hv a, he, hev, Instr.storeAt, Instr.sureAddr, Sem.run_bind, Sem.run_pure, Result.andThen_ok]
    rw [run_storeVar' hi hyok hz hb (by omega)]
    rfl
  unfold Oper.wp
  rw [hrun, Oper.upon_skip]
  have hysz : (GV.flat y).length = y.sz := GV.flat_len y hyok
  have hH' := hH.write hg rfl hl hlt (y' := .row e z df (xs.set l h)) (ob := .cells (writeAt cs (o' + l * z + x0.offs p) (GV.flat y)) e) ⟨hels.set h3 (by rw [GV.same_sz h x0 h4]; exact hx0ok.2), by
    rw [hl]
    refine ⟨_, setBlk_same hlt, by simpa using hlen, by rw [writeAt_size]; exact hsz, fun j v hj => ?_⟩
    have := flats_set hels hx0 (by rw [GV.same_sz h x0 h4]; exact hx0ok.2) h3 j v hj
    rw [writeAt_get _ _ _ _ (by omega)]
    by_cases hin : l * z ≤ j ∧ j < l * z + z
    · rw [if_pos hin] at this
      have h1' : (writeAt (GV.flat x0).toArray (x0.offs p) (GV.flat y))[j - l * z]? = some v := by rw [h1]; simpa using this
      rw [writeAt_get _ _ _ _ (by simp only [List.size_toArray]; omega)] at h1'
      by_cases hy2 : o' + l * z + x0.offs p ≤ o' + j ∧ o' + j < o' + l * z + x0.offs p + (GV.flat y).length
      · rw [if_pos hy2]
        rw [if_pos (by omega)] at h1'
        rw [show o' + j - (o' + l * z + x0.offs p) = j - l * z - x0.offs p by omega]
        exact h1'
      · rw [if_neg hy2]
        rw [if_neg (by omega)] at h1'
        have h5 := flats_at hels hx0 (j - l * z) v (by simpa using h1')
        rw [show l * z + (j - l * z) = j by omega] at h5
        exact hat j v h5
    · rw [if_neg hin] at this
      rw [if_neg (by omega)]
      exact hat j v this⟩ rfl
  obtain ⟨q1, q2, q3⟩ := ({ σ with pv := updL σ.pv k (.row e z df (xs.set l h)) } : SS).put_pv o.dst .no
  refine ⟨_, hK, loc, ?_, ?_⟩
  · rw [q1, q2]
    have hF' : FR loc C.N σ.fr (updL σ.pv k (.row e z df (xs.set l h))) σ.ph a := ⟨hF.defers, hF.size, fun t x hx => by
      obtain ⟨u, hu, hr⟩ := hF.slots t x hx
      exact ⟨u, hu, hr.upd_row hg hx0 h4⟩⟩
    exact hF'.put (σ := { σ with pv := updL σ.pv k (.row e z df (xs.set l h)) }) hd (x := .no) (v := undef) rfl rfl
  · rw [q1, q2, q3]; exact hH'

end

end Go.Proofs.YtmjiojflncffeaaGreat.Vc

/- Soundness: rows of the call's own come to be, and grow. -/
set_option linter.unusedVariables false
set_option linter.unusedSimpArgs false
namespace Go.Proofs.YtmjiojflncffeaaGreat.Vc
open Go

theorem szAll_els {z : Nat} : ∀ {xs : List GV}, szAll z xs → (∀ x ∈ xs, x.ok) → Els z xs
  | [], _, _ => fun x hx => by cases hx
  | y :: xs, h, hok => fun x hx => by
    rcases List.mem_cons.1 hx with rfl | hx
    · exact ⟨hok _ (by simp), h.1⟩
    · exact szAll_els h.2 (fun q hq => hok q (by simp [hq])) x hx

theorem flats_append (xs ys : List GV) : flats (xs ++ ys) = flats xs ++ flats ys := by simp [flats]

theorem Els.append {z : Nat} {xs ys : List GV} (h : Els z xs) (k : Els z ys) : Els z (xs ++ ys) := fun x hx => by
  rcases List.mem_append.1 hx with h1 | h1
  · exact h x h1
  · exact k x h1
theorem Els.part {z : Nat} {xs : List GV} (h : Els z xs) (a n : Nat) : Els z ((xs.drop a).take n) := fun x hx => h x (List.mem_of_mem_drop (List.mem_of_mem_take hx))

/-- Elements a to a + n of a row, as cells. -/
theorem flats_part {z : Nat} {xs : List GV} (h : Els z xs) {a n : Nat} (hn : a + n ≤ xs.length) : ∀ j v, (flats ((xs.drop a).take n))[j]? = some v → (flats xs)[a * z + j]? = some v := by
  intro j v hj
  have e : xs = xs.take a ++ ((xs.drop a).take n ++ (xs.drop a).drop n) := by rw [List.take_append_drop, List.take_append_drop]
  have hl : (flats (xs.take a)).length = a * z := by
    rw [flats_len (fun x hx => h x (List.mem_of_mem_take hx))]
    simp [show min a xs.length = a by omega]
  have hlt : j < (flats ((xs.drop a).take n)).length := by
    rcases Nat.lt_or_ge j (flats ((xs.drop a).take n)).length with h' | h'
    · exact h'
    · simp [List.getElem?_eq_none h'] at hj
  rw [e, flats_append, flats_append, List.getElem?_append_right (by omega), hl, Nat.add_sub_cancel_left, List.getElem?_append_left hlt]
  exact hj

theorem run_typeInfo {P : Program} {t : TypeId} {i : TypeInfo} (h : P.info? t = some i) (w : World) : (typeInfo t).run P w = .ok i w := by
  simp [typeInfo, Sem.run_bind, h]

section
variable {C : Ctx} {loc : Loc} {σ : SS} {a : Act} {o : Oper} {w : World} {K : KT} {Q : Exit → Act → World → Prop}

/-- What is appended, read. -/
theorem HR.cells (hH : HR C loc σ.pv σ.ph σ.m w) {k z s n : Nat} {xs : List GV} {v : Value} (hr : rowE σ.pv k = some (z, xs)) (hn : s + n ≤ xs.length) (hv : SlcV (loc k) z s n v) :
    (Builtin.lenOf v).run C.P w = .ok n w ∧ (Builtin.firstCells z n v).run C.P w = .ok (flats ((xs.drop s).take n)).toArray w := by
  obtain ⟨hels, hrow⟩ := hH.row hr
  cases hl : loc k with
  | none =>
    rw [hl] at hrow hv
    simp only at hrow
    subst hrow
    simp at hn
    obtain ⟨rfl, rfl⟩ := hn
    obtain ⟨base, hv⟩ : ∃ base, v = .slice base 0 0 := hv
    subst hv
    exact ⟨by simp [Builtin.lenOf], by cases base <;> simp [Builtin.firstCells, flats, loadCells, loadCellsFrom]⟩
  | some L =>
    obtain ⟨b, f, c⟩ := L
    rw [hl] at hrow hv
    simp only [SlcV] at hv
    obtain ⟨ad, rfl, had⟩ := hv
    refine ⟨by simp [Builtin.lenOf], ?_⟩
    have hlen : (flats ((xs.drop s).take n)).length = n * z := by
      rw [flats_len (hels.part s n)]
      simp [show min n (xs.length - s) = n by omega]
    have := run_loadCells_list (P := C.P) w ad (flats ((xs.drop s).take n)) (fun j v hj => by
      have hjl : j < n * z := by
        rcases Nat.lt_or_ge j (n * z) with h' | h'
        · exact h'
        · rw [← hlen] at h'; simp [List.getElem?_eq_none h'] at hj
      have hn0 : 0 < n := by
        rcases Nat.eq_zero_or_pos n with h0 | h0
        · subst h0; simp at hjl
        · exact h0
      rw [had (by omega), addr_add, Nat.add_assoc]
      exact hrow.2 _ _ (flats_part hels hn j v hj))
    rw [hlen] at this
    simp only [Builtin.firstCells]
    exact this

/-- A row of the call's own comes to be, in slot k. -/
theorem wp_newrow {k c : Nat} {e : TypeId} {z : Nat} {df : GV} {xs : List GV} {cs : Array Value} {w' : World} (hdst : o.dst = some k) (hd : ∀ t, o.dst = some t → t < C.N)
    (hrun : (execOp a.eval o).run C.P w = .ok (.value (.slice (some ⟨w'.heap.size, 0, none⟩) xs.length c)) (w'.alloc (.cells cs e)))
    (hw' : HR C loc σ.pv σ.ph σ.m w') (hels : Els z xs) (hlen : xs.length ≤ c) (hcs : c * z ≤ cs.size) (hat : RowAt cs 0 (flats xs))
    (hF : FR loc C.N σ.fr σ.pv σ.ph a) (hk : look σ.pv k = none) (hK : K { σ with fr := (k, .row k 0 xs.length) :: σ.fr, pv := updL σ.pv k (.row e z df xs) }) : o.wp C.P a w (liftK C K) Q := by
  unfold Oper.wp
  rw [hrun, Oper.upon_value]
  refine ⟨_, hK, fun j => if j = k then some (w'.heap.size, 0, c) else loc j, ?_, hw'.alloc (c := c) (y := .row e z df xs) rfl ⟨hels, by simp only [if_true]; exact ⟨cs, alloc_new, hlen, by omega, hat⟩⟩⟩
  have hkN := hd k hdst
  rw [hdst]
  refine ⟨hF.defers, by simp [Act.put, hF.size], fun t x hx => ?_⟩
  simp only [look] at hx
  by_cases ht : t = k
  · simp only [ht, if_true, Option.some.injEq] at hx
    subst hx; subst ht
    refine ⟨_, by simp [Act.put, hF.size, hkN]; rfl, z, xs, by rw [rowE_upd, if_pos rfl], by simp, ?_⟩
    simp [SlcV]
  · simp only [ht, if_false] at hx
    obtain ⟨v, hv, hr⟩ := hF.slots t x hx
    refine ⟨v, by simp only [Act.put]; rw [Array.getElem?_setIfInBounds_ne (fun e => ht e.symm)]; exact hv, hr.weaken fun j hj => ?_⟩
    have hjk : j ≠ k := fun e => hr.there j hj (e ▸ hk)
    exact ⟨by simp [hjk], by simp [look_upd, hjk]⟩

theorem fill_slice (z : Nat) : ∀ (gs : List GV) (k : Nat) (cs : Array Value), szAll z gs → (∀ g ∈ gs, g.ok) → (k + gs.length) * z ≤ cs.size →
    Instr.fill (fun i => some (i * z, z)) cs ((List.range' k gs.length).zip (gs.map GV.val)) = some (writeAt cs (k * z) (flats gs))
  | [], k, cs, _, _, _ => by simp [Instr.fill, flats, writeAt]
  | g :: gs, k, cs, hz, hok, hsz => by
    have hgok := hok g (by simp)
    have hcells : g.val.cells = (GV.flat g).toArray := GV.cells_val g hgok
    have hlen : (GV.flat g).length = z := by rw [GV.flat_len g hgok]; exact hz.1
    have hmul : k * z + z ≤ cs.size := by
      rw [← Nat.succ_mul]
      exact Nat.le_trans (Nat.mul_le_mul_right z (by simp)) hsz
    simp only [List.length_cons, List.range'_succ, List.map_cons, List.zip_cons_cons, Instr.fill]
    rw [if_neg (by simp [hcells, hlen]; omega), zipIdx_writeAt, hcells]
    simp only
    rw [fill_slice z gs (k + 1) _ hz.2 (fun x hx => hok x (by simp [hx])) (by rw [writeAt_size]; simpa [Nat.add_assoc, Nat.add_comm 1] using hsz)]
    congr 1
    have app : ∀ (l1 l2 : List Value) (cs : Array Value) (j : Nat), writeAt cs j (l1 ++ l2) = writeAt (writeAt cs j l1) (j + l1.length) l2 := by
      intro l1
      induction l1 with
      | nil => intro l2 cs j; simp [writeAt]
      | cons v l1 ih => intro l2 cs j; simp only [List.cons_append, writeAt, ih, List.length_cons]; rw [show j + 1 + l1.length = j + (l1.length + 1) by omega]
    show writeAt (writeAt cs (k * z) (GV.flat g)) ((k + 1) * z) (flats gs) = writeAt cs (k * z) (flats (g :: gs))
    rw [show flats (g :: gs) = GV.flat g ++ flats gs from rfl, app, hlen, Nat.succ_mul]

theorem writeAt_all {cs : Array Value} {l : List Value} (h : cs.size = l.length) : RowAt (writeAt cs 0 l) 0 l := by
  intro j v hj
  have hlt : j < l.length := by
    rcases Nat.lt_or_ge j l.length with h' | h'
    · exact h'
    · simp [List.getElem?_eq_none h'] at hj
  rw [Nat.zero_add, writeAt_get _ _ _ _ (by omega), if_pos (by omega)]
  simpa using hj

theorem wp_bldS {t e : TypeId} {parts : Array (Nat × Operand)} {l : List Opd} {i : TypeInfo} {zv : Value} {df : GV} (ho : o.op = .buildSlice t parts.size parts) (ht : C.P.underlying t = some (.slice e)) (hi : C.P.info? e = some i) (hzv : i.zero = some zv)
    (hsmall : parts.size * i.size ≤ 2 ^ 24) (hpl : parts.toList.mapM (fun x => (cOpd x.2).map fun y => (x.1, y)) = some ((List.range l.length).zip l))
    {k : Nat} (hdst : o.dst = some k) (hd : ∀ t, o.dst = some t → t < C.N) (hF : FR loc C.N σ.fr σ.pv σ.ph a) (hH : HR C loc σ.pv σ.ph σ.m w) {xs : List SV} {gs : List GV} (h1 : evL σ l = some xs) (h2 : gvL xs = some gs)
    (hz : szAll i.size gs) (hk : look σ.pv k = none) (hK : K { σ with fr := (k, .row k 0 gs.length) :: σ.fr, pv := updL σ.pv k (.row e i.size df gs) }) : o.wp C.P a w (liftK C K) Q := by
  obtain ⟨e1, e2⟩ := evL_gvs hF h1 h2
  have hlen : l.length = gs.length := by have := congrArg List.length e1; simpa using this
  have hsize : parts.size = gs.length := by
    have := congrArg List.length (parts_map hpl a)
    simp at this
    omega
  have hparts : (parts.map fun (i, x) => (i, a.eval x)).toList = (List.range' 0 gs.length).zip (gs.map GV.val) := by
    have := parts_map hpl a
    rw [Array.toList_map, this, ← List.range_eq_range']
    have q1 : ((List.range l.length).zip l).map (·.1) = List.range l.length := List.map_fst_zip (by simp)
    have q2 : ((List.range l.length).zip l).map (·.2) = l := List.map_snd_zip (by simp)
    rw [q1, q2, e1, hlen]
  have hels := szAll_els hz e2
  refine wp_newrow (w' := w) (cs := writeAt ((Array.range (gs.length * i.size)).map ((if gs.length * i.size = 0 then (#[] : Array Value) else zv.cells)[· % (if gs.length * i.size = 0 then (#[] : Array Value) else zv.cells).size]!)) 0 (flats gs)) (c := gs.length) hdst hd ?_ hH hels (Nat.le_refl _) (by rw [writeAt_size]; simp) (writeAt_all (by simp [flats_len hels])) hF hk hK
  have hfill := fill_slice i.size gs 0 ((Array.range (gs.length * i.size)).map ((if gs.length * i.size = 0 then (#[] : Array Value) else zv.cells)[· % (if gs.length * i.size = 0 then (#[] : Array Value) else zv.cells).size]!)) hz e2 (by simp)
  rw [Nat.zero_mul] at hfill
  have hex : execOp a.eval o = (do pure (.value (← Instr.buildSlice t parts.size (parts.map fun (i, x) => (i, a.eval x))))) := by simp only [execOp, ho]
  rw [hex]
  suffices hb : (Instr.buildSlice t parts.size (parts.map fun (i, x) => (i, a.eval x))).run C.P w = .ok (.slice (some ⟨w.heap.size, 0, none⟩) gs.length gs.length) (w.alloc (.cells (writeAt ((Array.range (gs.length * i.size)).map ((if gs.length * i.size = 0 then (#[] : Array Value) else zv.cells)[· % (if gs.length * i.size = 0 then (#[] : Array Value) else zv.cells).size]!)) 0 (flats gs)) e)) by
    rw [Sem.run_bind, hb]; rfl
  simp only [Instr.buildSlice, Sem.run_bind, run_underlying' ht, Result.andThen_ok, run_sizeOf' hi]
  rw [hsize] at hsmall ⊢
  rw [if_neg (by omega)]
  by_cases h0 : gs.length * i.size = 0
  · simp only [h0, if_true] at hfill ⊢
    simp only [Sem.run_pure, Result.andThen_ok, hparts, hfill, newRow, Sem.run_bind, run_newObj]
    rfl
  · simp only [h0, if_false] at hfill ⊢
    have hzr : (zeroValue e).run C.P w = .ok zv w := by simp [zeroValue, Sem.run_bind, run_typeInfo hi, hzv]
    simp only [Sem.run_bind, hzr, Sem.run_pure, Result.andThen_ok, hparts, hfill, newRow, run_newObj]
    rfl

/-! ### append -/
theorem zeroCells_size (zero : Array Value) (n : Nat) : (Builtin.zeroCells zero n).size = n * zero.size := by simp [Builtin.zeroCells]

theorem append_exec {t t2 e : TypeId} {d2 : TypeDesc} {i : TypeInfo} {c : Call} {x y : Operand} {x' y' : Opd} (ho : o.op = .call c) (hc : c.callee = .builtin .append) (ha : c.args.toList = [x, y]) (hx : cOpd x = some x') (hy : cOpd y = some y') :
    execOp a.eval o = (do pure (.value (← Builtin.append_ c.argTypes o.type #[evO a x', evO a y']))) := by
  rw [exec_builtin ho hc, args_two ha]
  simp only [List.map_toArray, List.map_cons, List.map_nil, cOpd_eval hx a, cOpd_eval hy a]
  rfl

/-- There is room: what is appended is written behind. -/
theorem run_append_in {P : Program} {ats : Array TypeId} {ty t t2 e : TypeId} {d2 : TypeDesc} {i : TypeInfo} (h0 : ats[0]? = some t) (h1 : ats[1]? = some t2) (ht : P.underlying t = some (.slice e)) (ht2 : P.underlying t2 = some d2) (hd2 : ∀ k, d2 ≠ .int k) (hi : P.info? e = some i)
    {b f n cp n' : Nat} {yv : Value} {new : List Value} {cs : Array Value} {e' : TypeId} {w : World} (hlen : (Builtin.lenOf yv).run P w = .ok n' w) (hnew : (Builtin.firstCells i.size n' yv).run P w = .ok new.toArray w) (hroom : n + n' ≤ cp)
    (hb : w.heap[b]? = some (.cells cs e' (0, 0))) (hsz : f + n * i.size + new.length ≤ cs.size) (h1c : ∀ v ∈ new, v.oneCell' = true) :
    (Builtin.append_ ats ty #[.slice (some ⟨b, f, none⟩) n cp, yv]).run P w = .ok (.slice (some ⟨b, f, none⟩) (n + n') cp) (w.setBlk b (.cells (writeAt cs (f + n * i.size) new) e' (0, 0))) := by
  have hz : (underlying t2).run P w = .ok d2 w := run_underlying' ht2 w
  have hne : (d2 matches .int _) = false := by cases d2 <;> first | rfl | exact absurd rfl (hd2 _)
  have hst := run_storeCells' (P := P) (b := b) (o := f + n * i.size) (e := e') new 0 cs w hb (by omega) h1c
  simp only [Nat.add_zero] at hst
  unfold Builtin.append_
  simp only [List.getElem?_toArray, List.getElem?_cons_zero, List.getElem?_cons_succ, h0, h1, Sem.run_bind, run_underlying' ht, Result.andThen_ok, run_sizeOf' hi, hz]
  simp only [Sem.run_pure, Result.andThen_ok]
  cases d2 <;> first
    | exact absurd rfl (hd2 _)
    | (simp only [Bool.false_eq_true, if_false, hlen, Result.andThen_ok, hroom, if_true, Bool.not_false, hnew, addr_add, Sem.run_bind, hst, Sem.run_pure])

theorem run_append_nil0 {P : Program} {ats : Array TypeId} {ty t t2 e : TypeId} {d2 : TypeDesc} {i : TypeInfo} (h0 : ats[0]? = some t) (h1 : ats[1]? = some t2) (ht : P.underlying t = some (.slice e)) (ht2 : P.underlying t2 = some d2) (hd2 : ∀ k, d2 ≠ .int k) (hi : P.info? e = some i)
    {yv : Value} {w : World} {base : Option Addr} (hlen : (Builtin.lenOf yv).run P w = .ok 0 w) (hnew : (Builtin.firstCells i.size 0 yv).run P w = .ok #[] w) :
    (Builtin.append_ ats ty #[.slice base 0 0, yv]).run P w = .ok (.slice base 0 0) w := by
  have hz : (underlying t2).run P w = .ok d2 w := run_underlying' ht2 w
  unfold Builtin.append_
  simp only [List.getElem?_toArray, List.getElem?_cons_zero, List.getElem?_cons_succ, h0, h1, Sem.run_bind, run_underlying' ht, Result.andThen_ok, run_sizeOf' hi, hz]
  simp only [Sem.run_pure, Result.andThen_ok]
  cases d2 <;> first
    | exact absurd rfl (hd2 _)
    | (simp only [Bool.false_eq_true, if_false, hlen, Result.andThen_ok, Nat.le_refl, Nat.add_zero, if_true, Bool.not_false, hnew, Sem.run_bind, Sem.run_pure]
       cases base <;> simp [storeCells, Sem.run_bind])

/-- No room: a new array. -/
theorem run_append_out {P : Program} {ats : Array TypeId} {ty t t2 e : TypeId} {d2 : TypeDesc} {i : TypeInfo} {zv : Value} (h0 : ats[0]? = some t) (h1 : ats[1]? = some t2) (ht : P.underlying t = some (.slice e)) (ht2 : P.underlying t2 = some d2) (hd2 : ∀ k, d2 ≠ .int k) (hi : P.info? e = some i)
    (hzv : i.zero = some zv) (hzs : zv.cells.size = i.size) (hby : i.bytes ≠ 0) {sv yv : Value} {base : Option Addr} {n cp n' : Nat} {old new : List Value} {w : World} (hsv : sv = .slice base n cp) (hlen : (Builtin.lenOf yv).run P w = .ok n' w)
    (hold : (Builtin.firstCells i.size n sv).run P w.drew = .ok old.toArray w.drew) (hnew : (Builtin.firstCells i.size n' yv).run P w.drew = .ok new.toArray w.drew)
    (hroom : ¬ n + n' ≤ cp) (hsize : (n + n') * i.bytes ≤ 140737488355328) :
    ∃ c' rest, n + n' ≤ c' ∧ rest.size = (c' - (n + n')) * i.size ∧ (Builtin.append_ ats ty #[sv, yv]).run P w = .ok (.slice (some ⟨w.heap.size, 0, none⟩) (n + n') c') (w.drew.alloc (.cells (old.toArray ++ new.toArray ++ rest) e)) := by
  subst hsv
  have hz : (underlying t2).run P w = .ok d2 w := run_underlying' ht2 w
  have hfit : ¬ (Builtin.nextslicecap (n + n') cp * i.bytes > 2 ^ 48) := by
    have h := Nat.mul_le_mul_right i.bytes (nextslicecap_le (need := n + n') (old := cp) (by omega))
    rw [Nat.mul_assoc] at h
    omega
  have hq : (Question.appendCap (n + n') cp e).forced = false := rfl
  refine ⟨(Question.appendCap (n + n') cp e).cut (w.tape w.drawn (.appendCap (n + n') cp e)), Builtin.zeroCells zv.cells ((Question.appendCap (n + n') cp e).cut (w.tape w.drawn (.appendCap (n + n') cp e)) - (n + n')), by simp [Question.cut], by rw [zeroCells_size, hzs], ?_⟩
  have hzr : (zeroValue e).run P w.drew = .ok zv w.drew := by simp [zeroValue, Sem.run_bind, run_typeInfo hi, hzv]
  unfold Builtin.append_
  simp only [List.getElem?_toArray, List.getElem?_cons_zero, List.getElem?_cons_succ, h0, h1, Sem.run_bind, run_underlying' ht, Result.andThen_ok, run_sizeOf' hi, hz]
  simp only [Sem.run_pure, Result.andThen_ok]
  cases d2 <;> first
    | exact absurd rfl (hd2 _)
    | (simp only [Bool.false_eq_true, if_false, hlen, Result.andThen_ok, hroom, Sem.run_bind, run_typeInfo hi, hby, false_or, and_false, hfit, run_choose, hq, World.drew_eq, run_askRoom, hold, hnew, Bool.not_false, if_true, hzr, newRow, run_newObj, Sem.run_pure]
       rfl)

theorem kill_look {k : Nat} : ∀ {fr : List (Nat × SV)} {t : Nat} {x : SV}, look (kill k fr) t = some x → x = .any ∨ (look fr t = some x ∧ x.mentions k = false)
  | [], t, x, h => by simp [kill, look] at h
  | (u, y) :: fr, t, x, h => by
    simp only [kill] at h
    cases hm : y.mentions k with
    | true =>
      simp only [hm, cond_true, look] at h
      by_cases ht : t = u
      · simp [ht] at h; exact .inl h.symm
      · simp only [ht, if_false] at h
        rcases kill_look h with h1 | h1
        · exact .inl h1
        · exact .inr (by simpa [look, ht] using h1)
    | false =>
      simp only [hm, cond_false, look] at h
      by_cases ht : t = u
      · simp [ht] at h; subst h; exact .inr ⟨by simp [look, ht], hm⟩
      · simp only [ht, if_false] at h
        rcases kill_look h with h1 | h1
        · exact .inl h1
        · exact .inr (by simpa [look, ht] using h1)

theorem kill_dom {k : Nat} : ∀ {fr : List (Nat × SV)} {t : Nat} {x : SV}, look (kill k fr) t = some x → ∃ y, look fr t = some y
  | [], t, x, h => by simp [kill, look] at h
  | (u, y) :: fr, t, x, h => by
    by_cases ht : t = u
    · exact ⟨y, by simp [look, ht]⟩
    · have : look (kill k fr) t = some x := by
        simp only [kill] at h
        cases hm : y.mentions k <;> simpa [hm, look, ht] using h
      obtain ⟨q, hq⟩ := kill_dom this
      exact ⟨q, by simpa [look, ht] using hq⟩

/-- Row k has turned, and stands in o's slot: what spoke of it elsewhere is let go. -/
theorem FR.regrow {N : Nat} {fr : List (Nat × SV)} {pv : List (Nat × PV)} {ph : List PH} (hF : FR loc N fr pv ph a) {d : Option Nat} (hd : ∀ t, d = some t → t < N) {k : Nat} {y : PV} {loc' : Loc} (hl : ∀ j, j ≠ k → loc' j = loc j) {n : Nat} {v : Value}
    (hv : SVr loc' (updL pv k y) (.row k 0 n) v) {σ : SS} (hs : σ.fr = kill k fr) : FR loc' N (σ.put d (.row k 0 n)).fr (updL pv k y) ph (a.put d v) := by
  have h1 : FR loc' N (kill k fr) (updL pv k y) ph a := ⟨hF.defers, hF.size, fun t x hx => by
    rcases kill_look hx with rfl | ⟨h1, h2⟩
    · have : ∃ x, look fr t = some x := kill_dom hx
      obtain ⟨x, hx⟩ := this
      obtain ⟨u, hu, _⟩ := hF.slots t x hx
      exact ⟨u, hu, trivial⟩
    · obtain ⟨u, hu, hr⟩ := hF.slots t x h1
      refine ⟨u, hu, hr.weaken fun j hj => ?_⟩
      have hjk : j ≠ k := fun e => by subst e; rw [h2] at hj; cases hj
      exact ⟨hl j hjk, by simp [look_upd, hjk]⟩⟩
  exact h1.put hd hs hv

theorem HR.drew' {pv : List (Nat × PV)} {ph : List PH} {m : PH} (h : HR C loc pv ph m w) : HR C loc pv ph m w.drew :=
  ⟨h.kept, h.pvs, h.apart, h.priv, h.mle, h.mmine, h.phs⟩

theorem HR.samerow {pv : List (Nat × PV)} {ph : List PH} {m : PH} (hH : HR C loc pv ph m w) {k : Nat} {y y' : PV} (hk : look pv k = some y) (h : y' = y) : HR C loc (updL pv k y') ph m w := by
  subst h
  have hl : ∀ q, look (updL pv k y') q = look pv q := fun q => by
    rw [look_upd]
    by_cases e : q = k
    · rw [if_pos e, e, hk]
    · rw [if_neg e]
  exact ⟨hH.kept, fun q y1 hq => hH.pvs q y1 (by rw [← hl]; exact hq), fun q q' y1 y2 b o1 c1 o2 c2 r1 r2 r3 r4 r5 r6 => hH.apart q q' y1 y2 b o1 c1 o2 c2 (by rw [← hl]; exact r1) r2 r3 (by rw [← hl]; exact r4) r5 r6,
    fun q y1 b o1 c1 r1 r2 r3 => hH.priv q y1 b o1 c1 (by rw [← hl]; exact r1) r2 r3, hH.mle, hH.mmine, hH.phs⟩

structure AppOk (P : Program) (ats : Array TypeId) (e : TypeId) (i : TypeInfo) (zv : Value) : Prop where
  ex : ∃ t t2 d2, ats[0]? = some t ∧ ats[1]? = some t2 ∧ P.underlying t = some (.slice e) ∧ P.underlying t2 = some d2 ∧ ∀ k, d2 ≠ .int k
  hi : P.info? e = some i
  hzv : i.zero = some zv
  hzs : zv.cells.size = i.size
  hby : i.bytes ≠ 0

theorem RowAt.app {cs : Array Value} {f : Nat} {l new : List Value} (h : RowAt cs f l) (hsz : f + l.length + new.length ≤ cs.size) : RowAt (writeAt cs (f + l.length) new) f (l ++ new) := by
  intro j v hj
  rw [writeAt_get _ _ _ _ (by omega)]
  by_cases hlt : j < l.length
  · rw [List.getElem?_append_left hlt] at hj
    rw [if_neg (by omega)]
    exact h j v hj
  · rw [List.getElem?_append_right (by omega)] at hj
    have : j - l.length < new.length := by
      rcases Nat.lt_or_ge (j - l.length) new.length with h' | h'
      · exact h'
      · simp [List.getElem?_eq_none h'] at hj
    rw [if_pos (by omega), show f + j - (f + l.length) = j - l.length by omega]
    exact hj

theorem wp_app_row {c : Call} {x y : Operand} {x' y' : Opd} {e : TypeId} {i : TypeInfo} {zv : Value} (ho : o.op = .call c) (hc : c.callee = .builtin .append) (ha : c.args.toList = [x, y]) (hx : cOpd x = some x') (hy : cOpd y = some y') (hok : AppOk C.P c.argTypes e i zv)
    (hd : ∀ t, o.dst = some t → t < C.N) (hF : FR loc C.N σ.fr σ.pv σ.ph a) (hH : HR C loc σ.pv σ.ph σ.m w) {k j s n' : Nat} {df : GV} {xs ys : List GV} (e1 : ev σ x' = some (.row k 0 xs.length)) (e2 : ev σ y' = some (.row j s n')) (hkj : k ≠ j)
    (hk : look σ.pv k = some (.row e i.size df xs)) (hj : rowE σ.pv j = some (i.size, ys)) (hsz : (xs.length + n') * i.bytes ≤ 140737488355328)
    (hK : K ({ σ with fr := kill k σ.fr, pv := updL σ.pv k (.row e i.size df (xs ++ (ys.drop s).take n')) }.put o.dst (.row k 0 (xs.length + n')))) : o.wp C.P a w (liftK C K) Q := by
  obtain ⟨t, t2, d2, h0, h1, ht, ht2, hd2⟩ := hok.ex
  have hrk : rowE σ.pv k = some (i.size, xs) := by simp [rowE, hk]
  obtain ⟨z1, xs1, q1, q2, hxv⟩ := hF.ev rfl e1
  rw [hrk] at q1
  obtain ⟨rfl, rfl⟩ : i.size = z1 ∧ xs = xs1 := by simpa using q1
  obtain ⟨z2, ys2, q3, q4, hyv⟩ := hF.ev rfl e2
  rw [hj] at q3
  obtain ⟨h2, rfl⟩ : i.size = z2 ∧ ys = ys2 := by simpa using q3
  rw [← h2] at hyv
  obtain ⟨hyels, _⟩ := hH.row hj
  obtain ⟨hxels, hkrow⟩ := hH.pvs k _ hk
  have hnewels := hyels.part s n'
  have hlen' : ((ys.drop s).take n').length = n' := by simp; omega
  have hnewlen : (flats ((ys.drop s).take n')).length = n' * i.size := by rw [flats_len hnewels, hlen']
  have hxlen : (flats xs).length = xs.length * i.size := flats_len hxels
  have honec : ∀ v ∈ flats ((ys.drop s).take n'), v.oneCell' = true := fun v hv => by
    simp only [flats, List.mem_flatMap] at hv
    obtain ⟨g, hg, hv⟩ := hv
    exact GV.flat_one g (hnewels g hg).1 v hv
  have hallels := hxels.append hnewels
  have hall : (xs ++ (ys.drop s).take n').length = xs.length + n' := by rw [List.length_append, hlen']
  obtain ⟨hl1, hf1⟩ := hH.cells hj q4 hyv
  obtain ⟨q5, q6, q7⟩ := ({ σ with fr := kill k σ.fr, pv := updL σ.pv k (.row e i.size df (xs ++ (ys.drop s).take n')) } : SS).put_pv o.dst (.row k 0 (xs.length + n'))
  have hex := append_exec (o := o) (a := a) (t := t) (t2 := t2) (e := e) (d2 := d2) (i := i) ho hc ha hx hy
  have grow : ∀ (w2 : World), HR C loc σ.pv σ.ph σ.m w2 → ∀ sv old c0, evO a x' = sv → (∃ base, sv = .slice base xs.length c0) → (Builtin.firstCells i.size xs.length sv).run C.P w.drew = .ok (List.toArray old) w.drew → old = flats xs → ¬ xs.length + n' ≤ c0 → o.wp C.P a w (liftK C K) Q := by
    intro w2 _ sv old c0 hsv hb hold hof hroom
    obtain ⟨base, hb⟩ := hb
    subst hof
    obtain ⟨_, hf2⟩ := hH.drew'.cells hj q4 hyv
    obtain ⟨c', rest, g1, g2, g3⟩ := run_append_out (ty := o.type) h0 h1 ht ht2 hd2 hok.hi hok.hzv hok.hzs hok.hby hb hl1 hold hf2 hroom hsz
    have hr : (execOp a.eval o).run C.P w = .ok (.value (.slice (some ⟨w.heap.size, 0, none⟩) (xs.length + n') c')) (w.drew.alloc (.cells ((flats xs).toArray ++ (flats ((ys.drop s).take n')).toArray ++ rest) e)) := by
      rw [hex, Sem.run_bind, hsv, g3]; rfl
    unfold Oper.wp
    rw [hr, Oper.upon_value]
    have hmul : (c' - (xs.length + n')) * i.size + (xs.length + n') * i.size = c' * i.size := by rw [← Nat.add_mul]; congr 1; omega
    refine ⟨_, hK, fun q => if q = k then some (w.drew.heap.size, 0, c') else loc q, ?_, ?_⟩
    · rw [q5, q6]
      refine hF.regrow hd (fun q hq => by simp [hq]) ?_ rfl
      refine ⟨i.size, _, by rw [rowE_upd, if_pos rfl], by rw [hall]; simp, ?_⟩
      simp [SlcV]
    · rw [q5, q6, q7]
      refine hH.drew'.alloc (c := c') (y := .row e i.size df (xs ++ (ys.drop s).take n')) rfl ⟨hallels, ?_⟩
      simp only [if_true]
      refine ⟨_, alloc_new, by rw [hall]; exact g1, ?_, ?_⟩
      · simp only [Array.size_append, List.size_toArray, hxlen, hnewlen, g2]
        rw [Nat.add_mul] at hmul; omega
      · intro q v hq
        have hq' : q < (flats xs).length + (flats ((ys.drop s).take n')).length := by
          rw [← List.length_append, ← flats_append]
          rcases Nat.lt_or_ge q (flats (xs ++ (ys.drop s).take n')).length with h' | h'
          · exact h'
          · simp [List.getElem?_eq_none h'] at hq
        rw [Nat.zero_add, Array.getElem?_append_left (by simpa using hq')]
        rw [flats_append] at hq
        simpa using hq
  cases hlk : loc k with
  | none =>
    rw [hlk] at hkrow hxv
    simp only at hkrow
    subst hkrow
    obtain ⟨base, hxv⟩ := hxv
    by_cases hn0 : n' = 0
    · subst hn0
      have hr : (execOp a.eval o).run C.P w = .ok (.value (.slice base 0 0)) w := by
        rw [hex, Sem.run_bind, hxv, run_append_nil0 (ty := o.type) h0 h1 ht ht2 hd2 hok.hi hl1 (by simpa [flats] using hf1)]; rfl
      unfold Oper.wp
      rw [hr, Oper.upon_value]
      refine ⟨_, hK, loc, ?_, ?_⟩
      · rw [q5, q6]
        refine hF.regrow hd (fun _ _ => rfl) ?_ rfl
        exact ⟨i.size, _, by rw [rowE_upd, if_pos rfl], by simp, by rw [hlk]; exact ⟨base, rfl⟩⟩
      · rw [q5, q6, q7]; exact hH.samerow hk (by simp)
    · exact grow w hH _ _ 0 rfl ⟨base, by rw [hxv]; rfl⟩ (by rw [hxv]; cases base <;> simp [Builtin.firstCells, loadCells, loadCellsFrom] <;> rfl) (by simp [flats]) (by simp; omega)
  | some L =>
    obtain ⟨b, f, c0⟩ := L
    rw [hlk] at hkrow hxv
    simp only [SlcV] at hxv
    obtain ⟨cs, hb, hlen, hcs, hat⟩ := hkrow
    obtain ⟨ad, hxv, had⟩ := hxv
    simp only [Nat.sub_zero, Nat.zero_mul, Nat.add_zero] at hxv had
    by_cases hroom : xs.length + n' ≤ c0
    · by_cases hc0 : 0 < c0
      · have hadf := had hc0
        subst hadf
        have hmul : xs.length * i.size + n' * i.size ≤ c0 * i.size := by rw [← Nat.add_mul]; exact Nat.mul_le_mul_right _ hroom
        have hr : (execOp a.eval o).run C.P w = .ok (.value (.slice (some ⟨b, f, none⟩) (xs.length + n') c0)) (w.setBlk b (.cells (writeAt cs (f + xs.length * i.size) (flats ((ys.drop s).take n'))) e (0, 0))) := by
          rw [hex, Sem.run_bind, hxv, run_append_in (ty := o.type) h0 h1 ht ht2 hd2 hok.hi hl1 hf1 hroom hb (by rw [hnewlen]; omega) honec]; rfl
        unfold Oper.wp
        rw [hr, Oper.upon_value]
        have hlt : b < w.heap.size := (Array.getElem?_eq_some_iff.1 hb).1
        refine ⟨_, hK, loc, ?_, ?_⟩
        · rw [q5, q6]
          refine hF.regrow hd (fun _ _ => rfl) ?_ rfl
          exact ⟨i.size, _, by rw [rowE_upd, if_pos rfl], by rw [hall]; simp, by rw [hlk]; exact ⟨⟨b, f, none⟩, by simp, fun _ => by simp⟩⟩
        · rw [q5, q6, q7]
          refine hH.write hk rfl hlk hlt (y' := .row e i.size df (xs ++ (ys.drop s).take n')) ⟨hallels, ?_⟩ rfl
          rw [hlk]
          refine ⟨_, setBlk_same hlt, by rw [hall]; exact hroom, by rw [writeAt_size]; exact hcs, ?_⟩
          rw [flats_append, ← hxlen]
          exact RowAt.app hat (by rw [hxlen, hnewlen]; omega)
      · obtain ⟨hz0, hz1, hz2⟩ : xs.length = 0 ∧ n' = 0 ∧ c0 = 0 := by omega
        subst hz1; subst hz2
        have hxs : xs = [] := List.length_eq_zero_iff.mp hz0
        subst hxs
        have hr : (execOp a.eval o).run C.P w = .ok (.value (.slice (some ad) 0 0)) w := by
          rw [hex, Sem.run_bind, hxv]
          simp only [List.length_nil]
          rw [run_append_nil0 (ty := o.type) h0 h1 ht ht2 hd2 hok.hi hl1 (by simpa [flats] using hf1)]; rfl
        unfold Oper.wp
        rw [hr, Oper.upon_value]
        refine ⟨_, hK, loc, ?_, ?_⟩
        · rw [q5, q6]
          refine hF.regrow hd (fun _ _ => rfl) ?_ rfl
          exact ⟨i.size, _, by rw [rowE_upd, if_pos rfl], by simp, by rw [hlk]; exact ⟨ad, by simp, fun h => by omega⟩⟩
        · rw [q5, q6, q7]; exact hH.samerow hk (by simp)
    · refine grow w hH _ (flats xs) c0 rfl ⟨some ad, hxv⟩ ?_ rfl hroom
      rw [hxv]
      have hrow := hH.drew'.cells (s := 0) (n := xs.length) (v := .slice (some ad) xs.length c0) hrk (by simp) (by rw [hlk]; exact ⟨ad, by simp, fun h => by simpa using had h⟩)
      simpa using hrow.2

theorem wp_app_nil {c : Call} {x y : Operand} {x' y' : Opd} {e : TypeId} {i : TypeInfo} {zv : Value} {df : GV} (ho : o.op = .call c) (hc : c.callee = .builtin .append) (ha : c.args.toList = [x, y]) (hx : cOpd x = some x') (hy : cOpd y = some y') (hok : AppOk C.P c.argTypes e i zv)
    (hd : ∀ t, o.dst = some t → t < C.N) (hF : FR loc C.N σ.fr σ.pv σ.ph a) (hH : HR C loc σ.pv σ.ph σ.m w) {k j s n' : Nat} {ys : List GV} (hdst : o.dst = some k) (e1 : ev σ x' = some (.g (.s (.slice none 0 0)))) (e2 : ev σ y' = some (.row j s n'))
    (hk : look σ.pv k = none) (hj : rowE σ.pv j = some (i.size, ys)) (hsz : n' * i.bytes ≤ 140737488355328)
    (hK : K { σ with fr := (k, .row k 0 n') :: σ.fr, pv := updL σ.pv k (.row e i.size df ((ys.drop s).take n')) }) : o.wp C.P a w (liftK C K) Q := by
  obtain ⟨t, t2, d2, h0, h1, ht, ht2, hd2⟩ := hok.ex
  have hxv : evO a x' = .slice none 0 0 := (hF.ev rfl e1).s
  obtain ⟨z2, ys2, q3, q4, hyv⟩ := hF.ev rfl e2
  rw [hj] at q3
  obtain ⟨h2, rfl⟩ : i.size = z2 ∧ ys = ys2 := by simpa using q3
  rw [← h2] at hyv
  obtain ⟨hyels, _⟩ := hH.row hj
  have hnewels := hyels.part s n'
  have hlen' : ((ys.drop s).take n').length = n' := by simp; omega
  have hnewlen : (flats ((ys.drop s).take n')).length = n' * i.size := by rw [flats_len hnewels, hlen']
  obtain ⟨hl1, hf1⟩ := hH.cells hj q4 hyv
  have hex := append_exec (o := o) (a := a) (t := t) (t2 := t2) (e := e) (d2 := d2) (i := i) ho hc ha hx hy
  by_cases hn0 : n' = 0
  · subst hn0
    have hr : (execOp a.eval o).run C.P w = .ok (.value (.slice none 0 0)) w := by
      rw [hex, Sem.run_bind, hxv, run_append_nil0 (ty := o.type) h0 h1 ht ht2 hd2 hok.hi hl1 (by simpa [flats] using hf1)]; rfl
    unfold Oper.wp
    rw [hr, Oper.upon_value]
    have hkN := hd k hdst
    refine ⟨_, hK, fun j => if j = k then none else loc j, ?_, ?_⟩
    · rw [hdst]
      refine ⟨hF.defers, by simp [Act.put, hF.size], fun t x hx => ?_⟩
      simp only [look] at hx
      by_cases ht : t = k
      · simp only [ht, if_true, Option.some.injEq] at hx
        subst hx; subst ht
        exact ⟨.slice none 0 0, by simp [Act.put, hF.size, hkN], i.size, _, by rw [rowE_upd, if_pos rfl], by simp, by simp [SlcV]⟩
      · simp only [ht, if_false] at hx
        obtain ⟨v, hv, hr⟩ := hF.slots t x hx
        refine ⟨v, by simp only [Act.put]; rw [Array.getElem?_setIfInBounds_ne (fun e => ht e.symm)]; exact hv, hr.weaken fun j hj => ?_⟩
        have hjk : j ≠ k := fun e => hr.there j hj (e ▸ hk)
        exact ⟨by simp [hjk], by simp [look_upd, hjk]⟩
    · refine ⟨hH.kept, fun q y1 hq => ?_, fun q q' y1 y2 b o1 c1 o2 c2 r1 r2 r3 r4 r5 r6 => ?_, fun q y1 b o1 c1 r1 r2 r3 => ?_, hH.mle, hH.mmine, hH.phs⟩
      · rw [look_upd] at hq
        by_cases e3 : q = k
        · simp only [e3, if_true, Option.some.injEq] at hq
          subst hq; subst e3
          exact ⟨hnewels, by simp⟩
        · simp only [e3, if_false] at hq
          have := hH.pvs q y1 hq
          cases y1 <;> simpa only [PVr, e3, if_false] using this
      · rw [look_upd] at r1 r4
        have n1 : q ≠ k := fun e3 => by subst e3; simp at r3
        have n2 : q' ≠ k := fun e3 => by subst e3; simp at r6
        simp only [n1, if_false] at r1 r3
        simp only [n2, if_false] at r4 r6
        exact hH.apart q q' y1 y2 b o1 c1 o2 c2 r1 r2 r3 r4 r5 r6
      · rw [look_upd] at r1
        have n1 : q ≠ k := fun e3 => by subst e3; simp at r3
        simp only [n1, if_false] at r1 r3
        exact hH.priv q y1 b o1 c1 r1 r2 r3
  · obtain ⟨_, hf2⟩ := hH.drew'.cells hj q4 hyv
    obtain ⟨c', rest, g1, g2, g3⟩ := run_append_out (ty := o.type) (sv := .slice none 0 0) (base := none) (n := 0) (cp := 0) (old := []) h0 h1 ht ht2 hd2 hok.hi hok.hzv hok.hzs hok.hby rfl hl1 (by simp [Builtin.firstCells]) hf2 (by omega) (by simpa using hsz)
    simp only [Nat.zero_add] at g1 g2 g3
    have hmul : (c' - n') * i.size + n' * i.size = c' * i.size := by rw [← Nat.add_mul]; congr 1; omega
    refine wp_newrow (w' := w.drew) (c := c') (cs := List.toArray [] ++ (flats ((ys.drop s).take n')).toArray ++ rest) (xs := (ys.drop s).take n') hdst hd ?_ hH.drew' hnewels (by omega) ?_ ?_ hF hk (by rw [hlen']; exact hK)
    · rw [hex, Sem.run_bind, hxv, g3, hlen']; rfl
    · simp only [Array.size_append, List.size_toArray, hnewlen, g2, List.length_nil]; omega
    · intro q v hq
      have hq' : q < (flats ((ys.drop s).take n')).length := by
        rcases Nat.lt_or_ge q (flats ((ys.drop s).take n')).length with h' | h'
        · exact h'
        · simp [List.getElem?_eq_none h'] at hq
      rw [Nat.zero_add, Array.getElem?_append_left (by simpa using hq')]
      simpa using hq

end

/-! ### Stores into memory -/
section
variable {C : Ctx} {loc : Loc} {σ : SS} {a : Act} {o : Oper} {w : World} {K : KT} {Q : Exit → Act → World → Prop}

theorem HR.memw {pv : List (Nat × PV)} {ph : List PH} {m : PH} (hH : HR C loc pv ph m w) {b : Nat} {ob ob' : Obj} (hb : m b = some ob) : HR C loc pv ph (m.upd b ob') (w.setBlk b ob') := by
  have hlt : b < w.heap.size := (Array.getElem?_eq_some_iff.1 (hH.mle b ob hb)).1
  have hmine := hH.mmine b (by simp [hb])
  have hph : ∀ u ∈ ph, u b = none := fun u hu => by
    cases h : u b with
    | none => rfl
    | some x => have := ((hH.phs u hu).2 b (by simp [h])).2; rw [hb] at this; cases this
  have hown : ∀ k y b' o c, look pv k = some y → y.own = true → loc k = some (b', o, c) → b' ≠ b := fun k y b' o c h1 h2 h3 e => by
    have := (hH.priv k y b' o c h1 h2 h3).2.1
    rw [e, hb] at this; cases this
  have hle : ∀ (u : PH), u b = none → u.le w → u.le (w.setBlk b ob') := fun u hn hu j o hj => by
    rw [setBlk_other (fun e => by subst e; rw [hn] at hj; cases hj)]
    exact hu j o hj
  refine ⟨?_, ?_, hH.apart, ?_, ?_, ?_, fun u hu => ⟨hle u (hph u hu) (hH.phs u hu).1, fun k hk => ⟨((hH.phs u hu).2 k hk).1, ?_⟩⟩⟩
  · obtain ⟨h1, h2, h3, h4, h5⟩ := hH.kept
    refine ⟨h1, h2, h3, by rw [setBlk_size]; exact h4, fun j hj hm => ?_⟩
    rw [setBlk_other (fun e => by subst e; rcases hmine with h | h <;> first | omega | exact h hm)]
    exact h5 j hj hm
  · intro k y hk
    have hp := hH.pvs k y hk
    cases y with
    | box g =>
      obtain ⟨h0, b', c, e, hl, h2⟩ := hp
      exact ⟨h0, b', c, e, hl, by rw [setBlk_other (hown k _ b' 0 c hk rfl hl)]; exact h2⟩
    | row e z df xs =>
      refine ⟨hp.1, ?_⟩
      have hp2 := hp.2
      cases hl : loc k with
      | none => rw [hl] at hp2; exact hp2
      | some l =>
        obtain ⟨b', o', c⟩ := l
        rw [hl] at hp2
        obtain ⟨cs, h2, h3⟩ := hp2
        exact ⟨cs, by rw [setBlk_other (hown k _ b' o' c hk rfl hl)]; exact h2, h3⟩
    | ro z df xs => exact hp
  · intro k y b' o c h1 h2 h3
    obtain ⟨e1, e2, e3⟩ := hH.priv k y b' o c h1 h2 h3
    exact ⟨e1, by simp [PH.upd, hown k y b' o c h1 h2 h3, e2], e3⟩
  · intro k o hk
    simp only [PH.upd] at hk
    split at hk
    · rename_i e; subst e
      simp at hk; subst hk
      exact setBlk_same hlt
    · rename_i e
      rw [setBlk_other e]; exact hH.mle k o hk
  · intro k hk
    simp only [PH.upd] at hk
    split at hk
    · rename_i e; subst e; exact hmine
    · exact hH.mmine k hk
  · have hkb : k ≠ b := fun e => by subst e; exact hk (hph u hu)
    simp only [PH.upd, if_neg hkb]
    exact ((hH.phs u hu).2 k hk).2

theorem wp_st_mem {t : TypeId} {i : TypeInfo} {x v : Operand} {x' v' : Opd} (ho : o.op = .store t x v) (hi : C.P.info? t = some i) (hx : cOpd x = some x') (hv : cOpd v = some v') (hd : ∀ t, o.dst = some t → t < C.N)
    (hF : FR loc C.N σ.fr σ.pv σ.ph a) (hH : HR C loc σ.pv σ.ph σ.m w) {b q : Nat} {y : GV} {cs : Array Value} {e : TypeId} (e1 : ev σ x' = some (.g (.s (.pointer (some ⟨b, q, none⟩))))) (e2 : ev σ v' = some (.g y)) (hm : σ.m b = some (.cells cs e (0, 0)))
    (hz : y.sz = i.size) (hl : q + i.size ≤ cs.size) (hK : K ({ σ with m := σ.m.upd b (.cells (writeAt cs q y.flat) e (0, 0)) }.put o.dst .no)) : o.wp C.P a w (liftK C K) Q := by
  have he := (hF.ev rfl e1).s
  obtain ⟨hyok, hev⟩ := hF.ev rfl e2
  have hb := hH.mle b _ hm
  have hrun : (execOp a.eval o).run C.P w = .ok .skip (w.setBlk b (.cells (writeAt cs q (GV.flat y)) e (0, 0))) := by
    simp only [execOp, ho, cOpd_eval hx a, cOpd_eval hv a, he, hev, Instr.storeAt, Instr.sureAddr, Sem.run_bind, Sem.run_pure, Result.andThen_ok]
    rw [run_storeVar' hi hyok hz hb hl]
    rfl
  unfold Oper.wp
  rw [hrun, Oper.upon_skip]
  have hH' := hH.memw (ob' := .cells (writeAt cs q (GV.flat y)) e (0, 0)) hm
  obtain ⟨q1, q2, q3⟩ := ({ σ with m := σ.m.upd b (.cells (writeAt cs q y.flat) e (0, 0)) } : SS).put_pv o.dst .no
  refine ⟨_, hK, loc, ?_, ?_⟩
  · rw [q1, q2]
    exact hF.put (σ := { σ with m := σ.m.upd b (.cells (writeAt cs q y.flat) e (0, 0)) }) hd (x := .no) (v := undef) rfl rfl
  · rw [q1, q2, q3]; exact hH'

end

end Go.Proofs.YtmjiojflncffeaaGreat.Vc

/- Rows handed out and taken in; an element put behind a slice of one's own memory. -/
set_option linter.unusedVariables false
set_option linter.unusedSimpArgs false
namespace Go.Proofs.YtmjiojflncffeaaGreat.Vc
open Go

theorem uni_no (m : PH) : uni PH.no m = m := by funext k; simp [uni, PH.no]
theorem dis_no (m : PH) : dis PH.no m := fun k => .inl rfl

theorem Oper.wp_put {P : Program} {o : Oper} {a : Act} {w : World} {K : Act → World → Prop} {Q : Exit → Act → World → Prop} (h : o.wp P a w K Q) :
    o.wp P a w (fun a' w' => K a' w' ∧ ∀ t, o.dst ≠ some t → a'.tmps[t]? = a.tmps[t]?) Q := by
  have put : ∀ (b : Act) v t, b.tmps = a.tmps → o.dst ≠ some t → (b.put o.dst v).tmps[t]? = a.tmps[t]? := fun b v t hb ht => by
    rw [← hb]
    cases hd : o.dst with
    | none => rfl
    | some d => simp only [Act.put]; rw [Array.getElem?_setIfInBounds_ne (fun e => ht (by rw [hd, e]))]
  unfold Oper.wp at *
  generalize (execOp a.eval o).run P w = r at *
  cases r with
  | ok n w' =>
    cases n <;> simp only [Oper.upon] at h ⊢
    case value v => exact ⟨h, fun t ht => put a _ t rfl ht⟩
    case skip => exact ⟨h, fun t ht => put a _ t rfl ht⟩
    case defer d => exact ⟨h, fun t ht => put { a with defers := d :: a.defers } _ t rfl ht⟩
    case enter f args =>
      refine Calls.mono h fun e w'' he => ?_
      cases e with
      | returned u => exact ⟨he, fun t ht => put a _ t rfl ht⟩
      | panicked c => exact he
      | outgrown => exact he
    case row row args => exact Rows.mono h fun u w'' he => ⟨he, fun t ht => put a _ t rfl ht⟩
  | halt x w' => cases x <;> simp only [Oper.upon] at h ⊢ <;> exact h

/-! ### Rows handed out and taken in -/
def dropK (k : Nat) : List (Nat × PV) → List (Nat × PV)
  | [] => []
  | (j, x) :: l => if j = k then dropK k l else (j, x) :: dropK k l

theorem look_dropK {k : Nat} : ∀ (l : List (Nat × PV)) (t : Nat), look (dropK k l) t = if t = k then none else look l t
  | [], t => by simp [dropK, look]
  | (j, x) :: l, t => by
    simp only [dropK]
    by_cases h : j = k
    · subst h
      simp only [if_true, look, look_dropK l t]
      split <;> rfl
    · simp only [h, if_false, look, look_dropK l t]
      by_cases ht : t = j
      · subst ht; simp [h]
      · simp [ht]

theorem look_kill {k : Nat} : ∀ (l : List (Nat × SV)) (t : Nat) (x : SV), look (kill k l) t = some x → x = .any ∨ (look l t = some x ∧ x.mentions k = false)
  | [], t, x, h => by cases h
  | (j, y) :: l, t, x, h => by
    simp only [kill] at h
    cases hm : y.mentions k with
    | true =>
      simp only [hm, cond_true, look] at h
      simp only [look]
      split at h
      · rename_i e; simp at h; exact .inl h.symm
      · rename_i e; rw [if_neg e]; exact look_kill l t x h
    | false =>
      simp only [hm, cond_false, look] at h
      simp only [look]
      split at h
      · rename_i e; simp at h; subst h; rw [if_pos e]; exact .inr ⟨rfl, hm⟩
      · rename_i e; rw [if_neg e]; exact look_kill l t x h

section
variable {C : Ctx} {σ : SS} {a : Act} {w : World}


/-- An own row becomes memory at one's disposal. -/
theorem Rel.pub (h : Rel C σ a w) {t k n : Nat} {e : TypeId} {z : Nat} {df : GV} {xs : List GV} (ht : look σ.fr t = some (.row k 0 n)) (hk : look σ.pv k = some (.row e z df xs)) (hn : n = xs.length) :
    ∃ v u, v.oneCell' = true ∧ SlO u v e z xs ∧ dis u σ.m ∧ Rel C ⟨(t, .g (.s v)) :: kill k σ.fr, dropK k σ.pv, σ.ph, uni u σ.m⟩ a w := by
  obtain ⟨loc, hF, hH⟩ := h
  obtain ⟨v, hv, z', xs', hr, hle, hs⟩ := hF.slots t _ ht
  have hr' : rowE σ.pv k = some (z, xs) := by simp [rowE, hk]
  rw [hr'] at hr
  obtain ⟨rfl, rfl⟩ : z = z' ∧ xs = xs' := by simpa using hr
  subst hn
  have hp := hH.pvs k _ hk
  obtain ⟨hels, hp⟩ := hp
  have frs : ∀ v', v' = v → v'.oneCell' = true → FR loc C.N ((t, .g (.s v')) :: kill k σ.fr) (dropK k σ.pv) σ.ph a := fun v' e hv1 => by
    subst e
    refine ⟨hF.defers, hF.size, fun u x hx => ?_⟩
    simp only [look] at hx
    split at hx
    · rename_i e; subst e
      simp at hx; subst hx
      exact ⟨v', hv, hv1, rfl⟩
    · rcases look_kill _ _ _ hx with rfl | ⟨h1, h2⟩
      · exact ⟨a.tmps.getD u undef, by
          cases hc : look σ.fr u with
          | none =>
            have : ∀ (l : List (Nat × SV)), look l u = none → look (kill k l) u = none := by
              intro l
              induction l with
              | nil => intro _; rfl
              | cons y l ih =>
                obtain ⟨j, y⟩ := y
                intro hl
                simp only [look] at hl
                split at hl
                · cases hl
                · rename_i e
                  simp only [kill]
                  cases y.mentions k <;> simp only [cond_true, cond_false, look, if_neg e] <;> exact ih hl
            rw [this _ hc] at hx; cases hx
          | some y =>
            obtain ⟨v2, hv2, _⟩ := hF.slots u y hc
            simp [hv2], trivial⟩
      · obtain ⟨v2, hv2, hr2⟩ := hF.slots u x h1
        exact ⟨v2, hv2, hr2.weaken fun j hj => ⟨rfl, by rw [look_dropK, if_neg (fun e => by subst e; rw [hj] at h2; cases h2)]⟩⟩
  cases hl : loc k with
  | none =>
    rw [hl] at hp hs
    simp only at hp
    subst hp
    obtain ⟨base, hs'⟩ : ∃ base, v = .slice base 0 0 := hs
    subst hs'
    refine ⟨_, PH.no, rfl, ⟨hels, ?_⟩, dis_no _, loc, frs _ rfl rfl, ?_⟩
    · cases base with
      | none => exact .inl ⟨rfl, rfl⟩
      | some ad => exact .inr ⟨ad, 0, rfl, Nat.le_refl _, fun h => absurd h (by omega)⟩
    rw [show (⟨(t, .g (.s (.slice base 0 0))) :: kill k σ.fr, dropK k σ.pv, σ.ph, uni PH.no σ.m⟩ : SS).m = σ.m from uni_no _]
    refine ⟨hH.kept, fun j y hj => ?_, fun j j' y y' b o c o' c' h1 h2 h3 h4 => ?_, fun j y b o c h1 h2 h3 => ?_, hH.mle, hH.mmine, hH.phs⟩
    · rw [look_dropK] at hj; split at hj
      · cases hj
      · exact hH.pvs j y hj
    · rw [look_dropK] at h1 h4
      split at h1
      · cases h1
      · split at h4
        · cases h4
        · exact hH.apart j j' y y' b o c o' c' h1 h2 h3 h4
    · rw [look_dropK] at h1
      split at h1
      · cases h1
      · exact hH.priv j y b o c h1 h2 h3
  | some L =>
    obtain ⟨b, o, c⟩ := L
    rw [hl] at hp hs
    obtain ⟨cs, hb, h1, h2, h3⟩ := hp
    obtain ⟨ad, hs, hsad⟩ := hs
    subst hs
    obtain ⟨q1, q2, q3⟩ := hH.priv k _ b o c hk rfl hl
    have hru : SlO (one b (.cells cs e (0, 0))) (.slice (some ad) xs.length (c - 0)) e z xs := by
      refine ⟨hels, .inr ⟨ad, c, by simp, h1, fun hc => ?_⟩⟩
      rw [hsad hc]
      exact ⟨cs, rfl, by simpa using h2, by simp [one], by simpa using h3⟩
    have hdis : dis (one b (.cells cs e (0, 0))) σ.m := fun j => by
      by_cases hj : j = b
      · subst hj; exact .inr q2
      · exact .inl (by simp [one, hj])
    have hun : ∀ j o', uni (one b (.cells cs e (0, 0))) σ.m j = some o' → (j = b ∧ o' = .cells cs e (0, 0)) ∨ (j ≠ b ∧ σ.m j = some o') := fun j o' hj => by
      by_cases hjb : j = b
      · subst hjb; simp [uni, one] at hj; exact .inl ⟨rfl, hj.symm⟩
      · simp [uni, one, hjb] at hj; exact .inr ⟨hjb, hj⟩
    have hnb : ∀ j, j ≠ b → uni (one b (.cells cs e (0, 0))) σ.m j = σ.m j := fun j hj => by simp [uni, one, hj]
    refine ⟨_, one b (.cells cs e (0, 0)), rfl, hru, hdis, loc, frs _ rfl rfl, ⟨hH.kept, fun j y hj => ?_, fun j j' y y' b o c o' c' h1 h2 h3 h4 => ?_, fun j y b' o' c' h1 h2 h3 => ?_, fun j o' hj => ?_, fun j hj => ?_, fun u hu => ⟨(hH.phs u hu).1, fun j hj => ?_⟩⟩⟩
    · rw [look_dropK] at hj; split at hj
      · cases hj
      · exact hH.pvs j y hj
    · rw [look_dropK] at h1 h4
      split at h1
      · cases h1
      · split at h4
        · cases h4
        · exact hH.apart j j' y y' b o c o' c' h1 h2 h3 h4
    · rw [look_dropK] at h1
      split at h1
      · cases h1
      · rename_i hjk
        obtain ⟨e1, e2, e3⟩ := hH.priv j y b' o' c' h1 h2 h3
        have hbb : b' ≠ b := fun e => hjk (hH.apart j k y _ b' o' c' o c h1 h2 h3 hk rfl (e ▸ hl))
        exact ⟨e1, by show uni _ _ _ = _; rw [hnb _ hbb]; exact e2, e3⟩
    · rcases hun j o' hj with ⟨rfl, rfl⟩ | ⟨_, h5⟩
      · exact hb
      · exact hH.mle j o' h5
    · by_cases hjb : j = b
      · subst hjb; exact q1
      · rw [show (⟨(t, .g (.s (.slice (some ad) xs.length (c - 0)))) :: kill k σ.fr, dropK k σ.pv, σ.ph, uni (one b (.cells cs e (0, 0))) σ.m⟩ : SS).m j = σ.m j from hnb j hjb] at hj
        exact hH.mmine j hj
    · have hjb : j ≠ b := fun e => by subst e; exact hj (q3 u hu)
      obtain ⟨e1, e2⟩ := (hH.phs u hu).2 j hj
      exact ⟨e1, by show uni _ _ _ = _; rw [hnb _ hjb]; exact e2⟩

/-- A slice in memory at one's disposal becomes an own row. -/
theorem Rel.own (h : Rel C σ a w) {t : Nat} (k : Nat) {v : Value} {e : TypeId} {z : Nat} (df : GV) {xs : List GV} {u m' : PH} (ht : look σ.fr t = some (.g (.s v))) (hk : look σ.pv k = none) (hs : SlO u v e z xs) (hm : σ.m = uni u m') (hd : dis u m') :
    Rel C ⟨(t, .row k 0 xs.length) :: σ.fr, (k, .row e z df xs) :: σ.pv, σ.ph, m'⟩ a w := by
  obtain ⟨loc, hF, hH⟩ := h
  obtain ⟨v', hv, hvs⟩ := hF.slots t _ ht
  have hvv : v' = v := hvs.2
  subst hvv
  have hmle : ∀ j, σ.m j = none → m' j = none := fun j hj => by
    rw [hm] at hj
    cases h1 : m' j with
    | none => rfl
    | some o => simp [uni, h1] at hj
  have hm'le : ∀ j o, m' j = some o → σ.m j = some o := fun j o hj => by
    rw [hm]; exact sub_uni_r hd j o hj
  obtain ⟨hels, hs⟩ := hs
  -- the new place
  have key : ∀ (L : Option (Nat × Nat × Nat)), SlcV L z 0 xs.length v' → (match L with
      | none => xs = []
      | some (b, o, c) => ∃ cs, w.heap[b]? = some (.cells cs e (0, 0)) ∧ xs.length ≤ c ∧ o + c * z ≤ cs.size ∧ RowAt cs o (flats xs)) → (∀ b o c, L = some (b, o, c) → u b ≠ none) →
      Rel C ⟨(t, .row k 0 xs.length) :: σ.fr, (k, .row e z df xs) :: σ.pv, σ.ph, m'⟩ a w := by
    intro L h1 h2 h3
    refine ⟨fun j => if j = k then L else loc j, ⟨hF.defers, hF.size, fun s x hx => ?_⟩, ⟨hH.kept, fun j y hj => ?_, fun j j' y y' b o c o' c' g1 g2 g3 g4 g5 g6 => ?_, fun j y b o c g1 g2 g3 => ?_, fun j o hj => hH.mle j o (hm'le j o hj), fun j hj => hH.mmine j (fun e => hj (hmle j e)), fun u' hu => ⟨(hH.phs u' hu).1, fun j hj => ⟨((hH.phs u' hu).2 j hj).1, hmle j ((hH.phs u' hu).2 j hj).2⟩⟩⟩⟩
    · simp only [look] at hx
      split at hx
      · rename_i e; subst e
        simp at hx; subst hx
        exact ⟨v', hv, z, xs, by simp [rowE, look], by simp, by simpa using h1⟩
      · obtain ⟨v2, hv2, hr2⟩ := hF.slots s x hx
        refine ⟨v2, hv2, hr2.weaken fun j hj => ?_⟩
        have hjk : j ≠ k := fun e => hr2.there j hj (e ▸ hk)
        exact ⟨by simp [hjk], by simp [look, hjk]⟩
    · simp only [look] at hj
      split at hj
      · rename_i e; subst e
        simp at hj; subst hj
        refine ⟨hels, ?_⟩
        simp only [if_true]
        cases L with
        | none => exact h2
        | some l => exact h2
      · rename_i hjk
        have hp := hH.pvs j y hj
        cases y with
        | box g => simpa [PVr, hjk] using hp
        | row e' z' df' xs' => simpa [PVr, hjk] using hp
        | ro z' df' xs' => simpa [PVr, hjk] using hp
    · simp only [look] at g1 g4
      by_cases hj : j = k
      · by_cases hj' : j' = k
        · rw [hj, hj']
        · simp only [hj, if_true] at g3
          simp only [hj', if_false] at g4 g6
          have e2 := (hH.priv j' y' b o' c' g4 g5 g6).2.1
          have := h3 b o c g3
          rw [hm] at e2
          cases hub : u b with
          | none => exact absurd hub this
          | some x => simp [uni, hub] at e2
      · simp only [hj, if_false] at g1 g3
        by_cases hj' : j' = k
        · simp only [hj', if_true] at g6
          have e2 := (hH.priv j y b o c g1 g2 g3).2.1
          have := h3 b o' c' g6
          rw [hm] at e2
          cases hub : u b with
          | none => exact absurd hub this
          | some x => simp [uni, hub] at e2
        · simp only [hj', if_false] at g4 g6
          exact hH.apart j j' y y' b o c o' c' g1 g2 g3 g4 g5 g6
    · simp only [look] at g1
      by_cases hj : j = k
      · simp only [hj, if_true] at g3
        have hub := h3 b o c g3
        have hmb : σ.m b ≠ none := fun e => by
          rw [hm] at e
          cases hu : u b with
          | none => exact hub hu
          | some x => simp [uni, hu] at e
        refine ⟨hH.mmine b hmb, (hd b).resolve_left hub, fun u' hu => ?_⟩
        cases hub' : u' b with
        | none => rfl
        | some x => exact absurd ((hH.phs u' hu).2 b (by simp [hub'])).2 hmb
      · simp only [hj, if_false] at g1 g3
        obtain ⟨e1, e2, e3⟩ := hH.priv j y b o c g1 g2 g3
        exact ⟨e1, hmle b e2, e3⟩
  rcases hs with ⟨rfl, rfl⟩ | ⟨ad, c, rfl, h1, h2⟩
  · exact key none ⟨none, rfl⟩ rfl (fun _ _ _ e => by cases e)
  · rcases Nat.eq_zero_or_pos c with hc0 | hc0
    · subst hc0
      have : xs = [] := List.length_eq_zero_iff.mp (by omega)
      subst this
      exact key none ⟨some ad, rfl⟩ rfl (fun _ _ _ e => by cases e)
    · obtain ⟨cs, g1, g2, g3, g4⟩ := h2 hc0
      obtain ⟨b, o, sp⟩ := ad
      simp only at g1 g2 g3 g4
      subst g1
      have hb : w.heap[b]? = some (.cells cs e (0, 0)) := hH.mle b _ (by rw [hm]; simp [uni, g3])
      exact key (some (b, o, c)) ⟨⟨b, o, none⟩, by simp, fun _ => by simp⟩ ⟨cs, hb, h1, g2, g4⟩ (fun _ _ _ e => by simp at e; rw [← e.1, g3]; simp)

end

/-! ### Bytes as a string -/
section
variable {C : Ctx} {loc : Loc} {σ : SS} {a : Act} {o : Oper} {w : World} {K : KT} {Q : Exit → Act → World → Prop}

theorem flats_gb : ∀ (bs : List UInt8), flats (bs.map gb) = bs.map fun b => .int .u8 b.toNat
  | [] => rfl
  | b :: bs => by
    have := flats_gb bs
    simp only [flats, List.map_cons, List.flatMap_cons] at this ⊢
    rw [this]; rfl

theorem push_bytes : ∀ (bs : List UInt8) (s : ByteArray), (bs.map fun b => (b.toNat : Int)).foldl (fun r n => r.push (UInt8.ofNat n.toNat)) s = ⟨s.data ++ bs.toArray⟩
  | [], s => by simp
  | b :: bs, s => by
    simp only [List.map_cons, List.foldl_cons, push_bytes bs]
    simp [ByteArray.push]

theorem run_b2s {P : Program} {ad : Addr} {n c : Nat} {bs : List UInt8} {w : World} (hn : bs.length = n) (h : ∀ j v, (flats (bs.map gb))[j]? = some v → w.cell? (ad.add j) = some v) : (Conv.bytesToString (.slice (some ad) n c)).run P w = .ok (.string ⟨bs.toArray⟩) w := by
  have hl := run_loadCells_list (P := P) w ad (flats (bs.map gb)) h
  rw [flats_gb, List.length_map, hn] at hl
  have := run_bytesToString (P := P) w ad n c (bs.map fun b => (b.toNat : Int)) (by rw [hl, List.map_map]; rfl)
  rw [this, push_bytes]
  simp [ByteArray.empty, ByteArray.emptyWithCapacity]
  rfl

theorem rd_b2s {s t e : TypeId} {x : Operand} {y : Opd} (ho : o.op = .convert s t x) (hs : C.P.underlying s = some (.slice e)) (ht : C.P.underlying t = some .string) (he : C.P.underlying e = some (.int .u8)) (hx : cOpd x = some y) (hF : FR loc C.N σ.fr σ.pv σ.ph a) {v : SV}
    (hv : ev σ y = some v) {bs : List UInt8} (hb : BytesAt C σ v bs) : Reads C loc σ o a (.g (.s (.string ⟨bs.toArray⟩))) := by
  have hev := hF.ev rfl hv
  refine rd_valL (isPure_b2s ho hs) (s := convert s t (evO a y)) (v := .string ⟨bs.toArray⟩) ⟨rfl, rfl⟩ (by simp only [execOp, ho, cOpd_eval hx a]) fun w hw => ?_
  have key : ∀ (ad : Option Addr) (n c : Nat), evO a y = .slice ad n c → (Conv.bytesToString (.slice ad n c)).run C.P w = .ok (.string ⟨bs.toArray⟩) w → (convert s t (evO a y)).run C.P w = .ok (.string ⟨bs.toArray⟩) w := by
    intro ad n c h1 h2
    rw [h1]
    cases ad <;> simp [convert, Sem.run_bind, run_underlying' hs, run_underlying' ht, run_underlying' he, h2]
  match v, hev, hb with
  | .row k s0 n, hev, hb =>
    obtain ⟨z, xs, h1, h2, h3⟩ := hev
    obtain ⟨xs', h4, h5⟩ := hb
    rw [h1] at h4
    obtain ⟨rfl, rfl⟩ : z = 1 ∧ xs = xs' := by simpa using h4
    have hlen : bs.length = n := by
      have := congrArg List.length h5
      simp at this; omega
    obtain ⟨hels, hrow⟩ := hw.row h1
    cases hl : loc k with
    | none =>
      rw [hl] at h3 hrow
      obtain ⟨base, h3⟩ := h3
      simp only at hrow
      subst hrow
      have : bs = [] := by simpa using h5.symm
      subst this
      cases base with
      | none => exact key none 0 0 h3 (by simp [Conv.bytesToString]; rfl)
      | some ad => exact key (some ad) 0 0 h3 (run_b2s rfl (fun j v hj => by simp [flats] at hj))
    | some L =>
      obtain ⟨b, f, c⟩ := L
      rw [hl] at h3 hrow
      obtain ⟨ad, h3, had⟩ := h3
      refine key (some ad) n (c - s0) h3 (run_b2s hlen fun j v hj => ?_)
      rw [← h5] at hj
      have hn0 : 0 < n := by
        rcases Nat.eq_zero_or_pos n with e | e
        · subst e; simp [flats] at hj
        · exact e
      have := hrow.1
      rw [had (by omega), addr_add, Nat.add_assoc]
      exact hrow.2 _ _ (flats_part hels h2 j v hj)
  | .g (.s v), hev, hb =>
    obtain ⟨u, hu, hels, hs'⟩ := hb
    have hle : u.le w := by
      rcases hu with rfl | hu | rfl
      · exact hw.u0le
      · exact (hw.phs u hu).1
      · exact hw.mle
    have hval : evO a y = v := hev.2
    rcases hs' with ⟨rfl, h2⟩ | ⟨ad, c, rfl, h2, h3⟩
    · have : bs = [] := by simpa using h2
      subst this
      exact key none 0 0 hval (by simp [Conv.bytesToString]; rfl)
    · refine key (some ad) _ c hval (run_b2s (by simp) fun j v hj => ?_)
      have hc : 0 < c := by
        have : 0 < bs.length := by
          rcases Nat.eq_zero_or_pos bs.length with e | e
          · rw [List.length_eq_zero_iff.mp e] at hj; simp [flats] at hj
          · exact e
        simp at h2; omega
      obtain ⟨cs, e', fz, g1, g2, g3⟩ := h3 hc
      obtain ⟨b, off, sp⟩ := ad
      simp only at g1 g2 g3
      subst g1
      rw [addr_add, cell_of (hle b _ g2)]
      exact g3 j v hj

theorem rd_cap {c : Call} {x : Operand} {y : Opd} {t e : TypeId} (ho : o.op = .call c) (hc : c.callee = .builtin .cap) (ha : c.args.toList = [x]) (h0 : c.argTypes[0]? = some t) (ht : C.P.underlying t = some (.slice e)) (hx : cOpd x = some y) (hF : FR loc C.N σ.fr σ.pv σ.ph a)
    {ad : Option Addr} {n m : Nat} (hv : ev σ y = some (.g (.s (.slice ad n m)))) : Reads C loc σ o a (.g (.s (.int .i64 m))) := by
  have he := (hF.ev rfl hv).s
  have hargs : c.args = #[x] := by
    apply Array.toList_inj.mp; simpa using ha
  refine rd_val (s := Builtin.cap_ c.argTypes o.type #[evO a y]) (v := .int .i64 m) ⟨rfl, rfl⟩ ?_ fun w => ?_
  · obtain ⟨dst, op, type, pos, after, guard⟩ := o
    obtain ⟨callee, cargs, argTypes⟩ := c
    simp only at ho hc hargs
    subst ho; subst hc; subst hargs
    simp [execOp, resolve, invoke, builtin, cOpd_eval hx a]
  · rw [he]
    simp [Builtin.cap_, h0, Sem.run_bind, run_underlying' ht, goInt]

theorem rd_slNil {t e : TypeId} {z : TypeInfo} {x : Operand} {lo hi : Option Operand} {y : Opd} {lo' hi' : Option Opd} (ho : o.op = .slice t x lo hi none) (ht : C.P.underlying t = some (.slice e)) (hz : C.P.info? e = some z) (hx : cOpd x = some y)
    (hlo : cOpdO lo = some lo') (hhi : cOpdO hi = some hi')
    (hF : FR loc C.N σ.fr σ.pv σ.ph a) (hv : ev σ y = some (.g (.s (.slice none 0 0)))) (hl : bndN σ lo' 0 = some 0) (hh : bndN σ hi' 0 = some 0) : Reads C loc σ o a (.g (.s (.slice none 0 0))) := by
  have he := (hF.ev rfl hv).s
  refine rd_val (v := .slice none 0 0) ⟨rfl, rfl⟩ (by simp only [execOp, ho, cOpd_eval hx a, he]; rfl) fun w => ?_
  have r1 := bnd_run (P := C.P) (y := 0) (code := .sliceAcap) hhi hF hh (by omega) (by omega) (by omega) w
  have r2 := bnd_run (P := C.P) (y := 0) (code := .sliceB) hlo hF hl (by omega) (by omega) (by omega) w
  simp only [Instr.sliceAt, Instr.slice, Instr.sliceBounds, Sem.run_bind, run_underlying' ht, Result.andThen_ok, Option.map_none, Sem.run_pure, if_true, Option.isSome_none]
  cases hi with
  | none =>
    cases lo with
    | none => simp [run_sizeOf' hz]
    | some u => simp only [Option.map_some] at r2; simp [r2, run_sizeOf' hz, Sem.run_bind]
  | some v =>
    simp only [Option.map_some] at r1
    cases lo with
    | none => simp [r1, run_sizeOf' hz, Sem.run_bind]
    | some u => simp only [Option.map_some] at r2; simp [r1, r2, run_sizeOf' hz, Sem.run_bind]

theorem rd_slSp {t e : TypeId} {z : TypeInfo} {x : Operand} {lo hi : Option Operand} {y : Opd} {lo' hi' : Option Opd} (ho : o.op = .slice t x lo hi none) (ht : C.P.underlying t = some (.slice e)) (hz : C.P.info? e = some z) (hx : cOpd x = some y)
    (hlo : cOpdO lo = some lo') (hhi : cOpdO hi = some hi')
    (hF : FR loc C.N σ.fr σ.pv σ.ph a) {b q sp : Nat} (hv : ev σ y = some (.g (.s (.slice (some ⟨b, q, some sp⟩) 0 0)))) (hl : bndN σ lo' 0 = some 0) (hh : bndN σ hi' 0 = some 0) : Reads C loc σ o a (.g (.s (.slice (some ⟨b, q, some sp⟩) 0 0))) := by
  have he := (hF.ev rfl hv).s
  refine rd_val (v := .slice (some ⟨b, q, some sp⟩) 0 0) ⟨rfl, rfl⟩ (by simp only [execOp, ho, cOpd_eval hx a, he]; rfl) fun w => ?_
  have r1 := bnd_run (P := C.P) (y := 0) (code := .sliceAcap) hhi hF hh (by omega) (by omega) (by omega) w
  have r2 := bnd_run (P := C.P) (y := 0) (code := .sliceB) hlo hF hl (by omega) (by omega) (by omega) w
  simp only [Instr.sliceAt, Instr.slice, Instr.sliceBounds, Sem.run_bind, run_underlying' ht, Result.andThen_ok, Option.map_none, Sem.run_pure, if_true, Option.isSome_none]
  cases hi with
  | none =>
    cases lo with
    | none => simp [run_sizeOf' hz]
    | some u => simp only [Option.map_some] at r2; simp [r2, run_sizeOf' hz, Sem.run_bind]
  | some v =>
    simp only [Option.map_some] at r1
    cases lo with
    | none => simp [r1, run_sizeOf' hz, Sem.run_bind]
    | some u => simp only [Option.map_some] at r2; simp [r1, r2, run_sizeOf' hz, Sem.run_bind]

/-! ### Rows of zeros -/
theorem wrapc {x : Int} (h1 : 0 ≤ x) (h2 : x ≤ 9223372036854775807) : IntKind.i64.wrap x = x := by
  simp only [IntKind.wrap, IntKind.bits, IntKind.signed]
  have : (2 : Int) ^ 64 = 18446744073709551616 := by decide
  have : (2 : Int) ^ 63 = 9223372036854775808 := by decide
  have h3 : x % 18446744073709551616 = x := Int.emod_eq_of_lt h1 (by omega)
  simp_all
  try omega

theorem rep_get {df : GV} {z : Nat} (hz : df.flat.length = z) (h0 : 0 < z) : ∀ (k j : Nat) (v : Value), (flats (List.replicate k df))[j]? = some v → j < k * z ∧ df.flat[j % z]? = some v
  | 0, j, v, h => by simp [flats] at h
  | k + 1, j, v, h => by
    have e : flats (List.replicate (k + 1) df) = df.flat ++ flats (List.replicate k df) := by simp [List.replicate_succ, flats]
    rw [e] at h
    rcases Nat.lt_or_ge j df.flat.length with hj | hj
    · rw [List.getElem?_append_left hj] at h
      rw [hz] at hj
      exact ⟨by rw [Nat.add_mul]; omega, by rw [Nat.mod_eq_of_lt hj]; exact h⟩
    · rw [List.getElem?_append_right hj] at h
      obtain ⟨h1, h2⟩ := rep_get hz h0 k _ v h
      rw [hz] at h1 h2 hj
      refine ⟨by rw [Nat.add_mul]; omega, ?_⟩
      rw [← h2]
      congr 1
      conv => lhs; rw [show j = (j - z) + z by omega]
      rw [Nat.add_mod_right]

theorem zero_row {df : GV} {z : Nat} {zv : Array Value} (hf : zv = df.flat.toArray) (hz : df.flat.length = z) (h0 : 0 < z) {cs : Array Value} {k : Nat} (hc : ∀ j, j < k * z → cs[j]? = some (zv[j % z]!)) : RowAt cs 0 (flats (List.replicate k df)) := by
  intro j v hj
  obtain ⟨h1, h2⟩ := rep_get hz h0 k j v hj
  rw [Nat.zero_add, hc j h1, hf]
  rw [show (df.flat.toArray[j % z]!) = v by
    have : df.flat.toArray[j % z]? = some v := by simpa using h2
    rw [getElem!_def, this]]

theorem els_rep {df : GV} {z : Nat} (hok : df.ok) (hz : df.sz = z) (k : Nat) : Els z (List.replicate k df) := by
  intro x hx
  obtain rfl := (List.mem_replicate.1 hx).2
  exact ⟨hok, hz⟩

theorem wp_mks {t e : TypeId} {n c : Operand} {n' c' : Opd} {i : TypeInfo} {zv : Value} {df : GV} (ho : o.op = .makeSlice t n c) (ht : C.P.underlying t = some (.slice e)) (hn : cOpd n = some n') (hc : cOpd c = some c') (hi : C.P.info? e = some i) (hzv : i.zero = some zv)
    (hok : df.ok) (hfl : df.flat = zv.cells.toList) (hsz : df.sz = i.size) (hby : i.bytes ≠ 0)
    (hd : ∀ t, o.dst = some t → t < C.N) (hF : FR loc C.N σ.fr σ.pv σ.ph a) (hH : HR C loc σ.pv σ.ph σ.m w) {k : Nat} (hdst : o.dst = some k) {kd kd' : IntKind} {m : Int} (e1 : ev σ n' = some (.g (.s (.int kd m)))) (e2 : ev σ c' = some (.g (.s (.int kd' m))))
    (hk : look σ.pv k = none) (h0 : 0 ≤ m) (hb : m * i.bytes ≤ 140737488355328)
    (hK : K { σ with fr := (k, .row k 0 m.toNat) :: σ.fr, pv := updL σ.pv k (.row e i.size df (List.replicate m.toNat df)) }) : o.wp C.P a w (liftK C K) Q := by
  have v1 := (hF.ev rfl e1).s
  have v2 := (hF.ev rfl e2).s
  have hlen : df.flat.length = i.size := by rw [← hsz]; exact GV.flat_len df hok
  have hm : m ≤ 140737488355328 := by
    have : m * 1 ≤ m * i.bytes := Int.mul_le_mul_of_nonneg_left (by omega) h0
    omega
  have hw := wrapc h0 (by omega : m ≤ 9223372036854775807)
  have hzr : (zeroValue e).run C.P w = .ok zv w := by simp [zeroValue, Sem.run_bind, run_typeInfo hi, hzv]
  have hzs : zv.cells.size = i.size := by rw [← hlen, hfl]; simp
  obtain ⟨cs, hrun, hcs, hcg⟩ : ∃ cs : Array Value, (Instr.makeSlice t (evO a n') (evO a c')).run C.P w = .ok (.slice (some ⟨w.heap.size, 0, none⟩) m.toNat m.toNat) (w.alloc (.cells cs e)) ∧ cs.size = m.toNat * i.size ∧ ∀ j, j < m.toNat * i.size → cs[j]? = some (zv.cells[j % i.size]!) := by
    rw [v1, v2]
    unfold Instr.makeSlice
    have hge : ¬ (m < 0) := by omega
    have hge2 : ¬ (281474976710656 < (i.bytes : Int) * m) := by rw [Int.mul_comm]; omega
    simp [Sem.run_bind, run_underlying' ht, asInt, asIntOf, run_typeInfo hi, hw, hge, hge2, run_askRoom, run_sizeOf' hi]
    by_cases h0 : m.toNat * i.size = 0
    · simp only [h0, if_true, newRow, run_newObj]
      exact ⟨_, rfl, by simp, fun j hj => by omega⟩
    · simp only [h0, if_false, hzr, Result.andThen_ok, newRow, run_newObj]
      refine ⟨_, rfl, by simp, fun j hj => ?_⟩
      rw [hzs]
      simp [hj]
  have hex : (execOp a.eval o).run C.P w = .ok (.value (.slice (some ⟨w.heap.size, 0, none⟩) (List.replicate m.toNat df).length m.toNat)) (w.alloc (.cells cs e)) := by
    simp only [execOp, ho, cOpd_eval hn a, cOpd_eval hc a, List.length_replicate]
    simp [Sem.run_bind, hrun]
  refine wp_newrow (w' := w) hdst hd hex hH (els_rep hok hsz _) (by simp) (by rw [hcs]; exact Nat.le_refl _) ?_ hF hk (by simpa using hK)
  rcases Nat.eq_zero_or_pos i.size with hz0 | hz0
  · intro j v hj
    have e0 : flats (List.replicate m.toNat df) = [] := List.length_eq_zero_iff.mp (by rw [flats_len (els_rep hok hsz _)]; simp [hz0])
    rw [e0] at hj
    simp at hj
  · exact zero_row (zv := zv.cells) (by rw [hfl]) hlen hz0 hcg

theorem run_append_zeros {P : Program} {ats : Array TypeId} {ty t t2 e : TypeId} {kd : IntKind} {i : TypeInfo} {zv : Value} (h0 : ats[0]? = some t) (h1 : ats[1]? = some t2) (ht : P.underlying t = some (.slice e)) (ht2 : P.underlying t2 = some (.int kd)) (hi : P.info? e = some i)
    (hzv : i.zero = some zv) (hzs : zv.cells.size = i.size) (hby : i.bytes ≠ 0) (hz0 : i.size ≠ 0) {kd' : IntKind} {m : Int} {w : World} (hm : 0 < m) (hsize : m * i.bytes ≤ 140737488355328) :
    ∃ c' rest, m.toNat ≤ c' ∧ rest.size = (c' - m.toNat) * i.size ∧ (Builtin.append_ ats ty #[.slice none 0 0, .int kd' m]).run P w = .ok (.slice (some ⟨w.heap.size, 0, none⟩) m.toNat c') (w.drew.alloc (.cells (Builtin.zeroCells zv.cells m.toNat ++ rest) e)) := by
  have hz : (underlying t2).run P w = .ok (.int kd) w := run_underlying' ht2 w
  have hmb : m ≤ 140737488355328 := by
    have : m * 1 ≤ m * i.bytes := Int.mul_le_mul_of_nonneg_left (by omega) (by omega)
    omega
  have hw := wrapc (by omega : 0 ≤ m) (by omega : m ≤ 9223372036854775807)
  have hge : ¬ (m < 0) := by omega
  have hge2 : ¬ (281474976710656 < m * (i.bytes : Int)) := by omega
  have hmn : (m.toNat : Int) = m := Int.toNat_of_nonneg (by omega)
  have hnb : (m.toNat : Int) * i.bytes = m * i.bytes := by rw [hmn]
  have hfit : ¬ (Builtin.nextslicecap m.toNat 0 * i.bytes > 2 ^ 48) := by
    have h := Nat.mul_le_mul_right i.bytes (nextslicecap_le (need := m.toNat) (old := 0) (by omega))
    rw [Nat.mul_assoc] at h
    omega
  have hfit' : ¬ (281474976710656 < Builtin.nextslicecap m.toNat 0 * i.bytes) := by simpa using hfit
  have hq : (Question.appendCap m.toNat 0 e).forced = false := rfl
  have hroom : ¬ m.toNat ≤ 0 := by omega
  have hnz : ¬ (m.toNat * i.size = 0) := by
    intro e
    rcases Nat.mul_eq_zero.1 e with e | e <;> omega
  have hbig : ¬ (9223372036854775807 < (m.toNat : Int)) := by omega
  refine ⟨(Question.appendCap m.toNat 0 e).cut (w.tape w.drawn (.appendCap m.toNat 0 e)), Builtin.zeroCells zv.cells ((Question.appendCap m.toNat 0 e).cut (w.tape w.drawn (.appendCap m.toNat 0 e)) - m.toNat), by simp [Question.cut], by rw [zeroCells_size, hzs], ?_⟩
  have hzr : (zeroValue e).run P w.drew = .ok zv w.drew := by simp [zeroValue, Sem.run_bind, run_typeInfo hi, hzv]
  have hzr0 : (zeroValue e).run P w = .ok zv w := by simp [zeroValue, Sem.run_bind, run_typeInfo hi, hzv]
  unfold Builtin.append_
  simp only [List.getElem?_toArray, List.getElem?_cons_zero, List.getElem?_cons_succ, h0, h1, Sem.run_bind, run_underlying' ht, Result.andThen_ok, run_sizeOf' hi, hz, Sem.run_pure, if_true]
  simp [asInt, asIntOf, Sem.run_bind, hw, hge, run_typeInfo hi, hge2, hroom, hnz, hby, hfit', hbig, IntKind.max, IntKind.signed, IntKind.bits, run_choose, hq, run_askRoom, Builtin.firstCells, hzr, newRow, run_newObj]
  rw [if_neg (by omega), if_neg (by omega)]

theorem wp_appZ {c : Call} {x y : Operand} {x' y' : Opd} {t t2 e : TypeId} {kd : IntKind} {i : TypeInfo} {zv : Value} {df : GV} (ho : o.op = .call c) (hc : c.callee = .builtin .append) (ha : c.args.toList = [x, y]) (hx : cOpd x = some x') (hy : cOpd y = some y')
    (h0 : c.argTypes[0]? = some t) (h1 : c.argTypes[1]? = some t2) (ht : C.P.underlying t = some (.slice e)) (ht2 : C.P.underlying t2 = some (.int kd)) (hi : C.P.info? e = some i) (hzv : i.zero = some zv) (hby : i.bytes ≠ 0) (hz0 : i.size ≠ 0)
    (hok : df.ok) (hfl : df.flat = zv.cells.toList) (hsz : df.sz = i.size)
    (hd : ∀ t, o.dst = some t → t < C.N) (hF : FR loc C.N σ.fr σ.pv σ.ph a) (hH : HR C loc σ.pv σ.ph σ.m w) {k : Nat} (hdst : o.dst = some k) {kd' : IntKind} {m : Int} (e1 : ev σ x' = some (.g (.s (.slice none 0 0)))) (e2 : ev σ y' = some (.g (.s (.int kd' m))))
    (hk : look σ.pv k = none) (hm : 0 < m) (hb : m * i.bytes ≤ 140737488355328)
    (hK : K { σ with fr := (k, .row k 0 m.toNat) :: σ.fr, pv := updL σ.pv k (.row e i.size df (List.replicate m.toNat df)) }) : o.wp C.P a w (liftK C K) Q := by
  have v1 := (hF.ev rfl e1).s
  have v2 := (hF.ev rfl e2).s
  have hlen : df.flat.length = i.size := by rw [← hsz]; exact GV.flat_len df hok
  have hzs : zv.cells.size = i.size := by rw [← hlen, hfl]; simp
  obtain ⟨c', rest, g1, g2, g3⟩ := run_append_zeros (ats := c.argTypes) (ty := o.type) (kd' := kd') (w := w) h0 h1 ht ht2 hi hzv hzs hby hz0 hm hb
  have hex : (execOp a.eval o).run C.P w = .ok (.value (.slice (some ⟨w.drew.heap.size, 0, none⟩) (List.replicate m.toNat df).length c')) (w.drew.alloc (.cells (Builtin.zeroCells zv.cells m.toNat ++ rest) e)) := by
    rw [append_exec (t := t) (t2 := t2) (e := e) (d2 := .int kd) (i := i) ho hc ha hx hy, v1, v2]
    simp only [List.length_replicate]
    simp [Sem.run_bind, g3]
  have hzc : (Builtin.zeroCells zv.cells m.toNat).size = m.toNat * i.size := by rw [zeroCells_size, hzs]
  refine wp_newrow (w' := w.drew) hdst hd hex hH.drew' (els_rep hok hsz _) (by simpa using g1) ?_ ?_ hF hk (by simpa using hK)
  · rw [Array.size_append, hzc, g2]
    have : (c' - m.toNat) * i.size + m.toNat * i.size = c' * i.size := by rw [← Nat.add_mul]; congr 1; omega
    omega
  · refine zero_row (zv := zv.cells) (by rw [hfl]) hlen (by omega) fun j hj => ?_
    rw [Array.getElem?_append_left (by rw [hzc]; exact hj)]
    unfold Builtin.zeroCells
    rw [hzs]
    simp [hj]

/-! ### An element put behind a slice of one's own memory -/
theorem fresh_key : ∀ (pv : List (Nat × PV)), ∃ k, ∀ j, k ≤ j → look pv j = none
  | [] => ⟨0, fun _ _ => rfl⟩
  | (k0, y) :: pv => by
    obtain ⟨k, h⟩ := fresh_key pv
    refine ⟨max k (k0 + 1), fun j hj => ?_⟩
    simp only [look]
    rw [if_neg (by omega)]
    exact h j (by omega)

theorem look_dropK_upd {k : Nat} {pv : List (Nat × PV)} {y y' : PV} (hk : look pv k = none) (t : Nat) : look (dropK k (updL ((k, y) :: pv) k y')) t = look pv t := by
  rw [look_dropK]
  by_cases h : t = k
  · rw [if_pos h, h, hk]
  · rw [if_neg h]
    simp [updL, look, h]

theorem HR.congr {C : Ctx} {loc : Loc} {pv pv' : List (Nat × PV)} {ph : List PH} {m : PH} {w : World} (h : HR C loc pv ph m w) (he : ∀ t, look pv' t = look pv t) : HR C loc pv' ph m w :=
  ⟨h.kept, fun k y hk => h.pvs k y (by rw [← he]; exact hk), fun k k' y y' b o c o' c' h1 h2 h3 h4 => h.apart k k' y y' b o c o' c' (by rw [← he]; exact h1) h2 h3 (by rw [← he]; exact h4),
    fun k y b o c h1 => h.priv k y b o c (by rw [← he]; exact h1), h.mle, h.mmine, h.phs⟩

theorem wp_appK {c : Call} {x y : Operand} {x' y' : Opd} {e : TypeId} {i : TypeInfo} {zv : Value} {df : GV} (ho : o.op = .call c) (hc : c.callee = .builtin .append) (ha : c.args.toList = [x, y]) (hx : cOpd x = some x') (hy : cOpd y = some y') (hok : AppOk C.P c.argTypes e i zv)
    (hd : ∀ t, o.dst = some t → t < C.N) (hF : FR loc C.N σ.fr σ.pv σ.ph a) (hH : HR C loc σ.pv σ.ph σ.m w) {v : Value} {j s n' : Nat} {ys : List GV} (e1 : ev σ x' = some (.g (.s v))) (e2 : ev σ y' = some (.row j s n')) (hj : rowE σ.pv j = some (i.size, ys))
    (h : appK x' e i.size i.bytes v ((ys.drop s).take n') o.dst K σ) : o.wp C.P a w (liftK C K) Q := by
  obtain ⟨⟨t, rfl⟩, u, m', xs, hs, hm, hdis, hb, hdn, hK⟩ := h
  obtain ⟨d, hdst⟩ := Option.ne_none_iff_exists'.1 hdn
  obtain ⟨k, hk⟩ := fresh_key σ.pv
  have hk0 := hk k (Nat.le_refl _)
  have ht : look σ.fr t = some (.g (.s v)) := e1
  obtain ⟨loc1, hF1, hH1⟩ := Rel.own (C := C) (σ := σ) (a := a) (w := w) ⟨loc, hF, hH⟩ k df ht hk0 hs hm hdis
  obtain ⟨z2, ys2, q3, q4, hyv⟩ := hF.ev rfl e2
  rw [hj] at q3
  obtain ⟨hz2, rfl⟩ : i.size = z2 ∧ ys = ys2 := by simpa using q3
  have hlen' : ((ys.drop s).take n').length = n' := by simp; omega
  rw [hlen'] at hb
  have hjk : j ≠ k := by
    rintro rfl
    simp [rowE, hk0] at hj
  have hty : y' ≠ .t t := by
    rintro rfl
    have : look σ.fr t = some (.row j s n') := e2
    rw [ht] at this; cases this
  have e2' : ev (⟨(t, .row k 0 xs.length) :: σ.fr, (k, .row e i.size df xs) :: σ.pv, σ.ph, m'⟩ : SS) y' = some (.row j s n') := by
    cases y' with
    | c v => simp only [ev] at e2; cases h : v.oneCell' <;> rw [h] at e2 <;> cases e2
    | t q =>
      have hq : q ≠ t := fun e => hty (by rw [e])
      simp only [ev, look, hq, if_false]
      exact e2
  have main := wp_app_row (σ := ⟨(t, .row k 0 xs.length) :: σ.fr, (k, .row e i.size df xs) :: σ.pv, σ.ph, m'⟩) (K := fun τ => τ = (({ fr := kill k ((t, .row k 0 xs.length) :: σ.fr), pv := updL ((k, .row e i.size df xs) :: σ.pv) k (.row e i.size df (xs ++ (ys.drop s).take n')), ph := σ.ph, m := m' } : SS).put o.dst (.row k 0 (xs.length + n'))))
    (Q := Q) (w := w) (k := k) (j := j) (s := s) (n' := n') (df := df) (xs := xs) (ys := ys) ho hc ha hx hy hok hd hF1 hH1 (by simp [ev, look]) e2' (Ne.symm hjk) (by simp [look]) (by simpa [rowE, look, hjk] using hj) hb rfl
  refine Oper.wp_mono ?_ (Oper.wp_put main)
  rintro a' w' ⟨⟨τ, rfl, hR⟩, htmps⟩
  rw [hdst] at hR htmps
  obtain ⟨v', u', ho', hs', hd', hR'⟩ := Rel.pub (t := d) (k := k) (n := xs.length + n') (e := e) (z := i.size) (df := df) (xs := xs ++ (ys.drop s).take n') hR (by simp [SS.put, look]) (by simp [SS.put, updL, look]) (by simp only [List.length_append, hlen'])
  obtain ⟨loc2, hF2, hH2⟩ := hR'
  refine ⟨_, hK v' u' ho' hs' hd', loc2, ?_, ?_⟩
  · rw [hdst]
    have hdl := hd d hdst
    refine ⟨hF2.defers, hF2.size, fun q z hz => ?_⟩
    simp only [SS.put, look] at hz
    by_cases hqd : q = d
    · rw [if_pos hqd] at hz
      obtain rfl : SV.g (.s v') = z := by simpa using hz
      obtain ⟨vv, h1, h2⟩ := hF2.slots d (.g (.s v')) (by simp [look])
      exact ⟨vv, by rw [hqd]; exact h1, h2⟩
    · rw [if_neg hqd] at hz
      obtain ⟨vv, h1, h2⟩ := hF.slots q z hz
      by_cases hqt : q = t
      · subst hqt
        rw [ht] at hz
        obtain rfl : SV.g (.s v) = z := by simpa using hz
        exact ⟨vv, by rw [htmps q (fun e => hqd (by simpa using e.symm))]; exact h1, h2⟩
      · have hzk : z.mentions k = false := by
          cases hzm : z.mentions k with
          | false => rfl
          | true => exact absurd hk0 (h2.there k hzm)
        have kl : ∀ (fr : List (Nat × SV)), look fr q = some z → look (kill k fr) q = some z := by
          intro fr
          induction fr with
          | nil => intro h; cases h
          | cons y fr ih =>
            obtain ⟨j, y⟩ := y
            intro h
            simp only [look] at h
            by_cases hqj : q = j
            · rw [if_pos hqj] at h
              obtain rfl : y = z := by simpa using h
              simp only [kill, hzk, cond_false, look, if_pos hqj]
            · rw [if_neg hqj] at h
              simp only [kill]
              cases y.mentions k <;> simp only [cond_true, cond_false, look, if_neg hqj] <;> exact ih h
        have e0 : look ((t, SV.row k 0 xs.length) :: σ.fr) q = some z := by simp only [look, if_neg hqt]; exact hz
        have e1 := kl _ e0
        have e2 : look ((d, SV.row k 0 (xs.length + n')) :: kill k ((t, SV.row k 0 xs.length) :: σ.fr)) q = some z := by rw [look, if_neg hqd]; exact e1
        obtain ⟨vv2, k1, k2⟩ := hF2.slots q z (by rw [look, if_neg hqd]; exact kl _ e2)
        exact ⟨vv2, k1, k2.weaken fun p hp => ⟨rfl, (look_dropK_upd hk0 p).symm⟩⟩
  · rw [hdst]
    show HR C loc2 σ.pv σ.ph (uni u' m') w'
    exact HR.congr (pv := dropK k (updL ((k, PV.row e i.size df xs) :: σ.pv) k (PV.row e i.size df (xs ++ List.take n' (List.drop s ys))))) hH2 fun q => (look_dropK_upd hk0 q).symm
end

end Go.Proofs.YtmjiojflncffeaaGreat.Vc

