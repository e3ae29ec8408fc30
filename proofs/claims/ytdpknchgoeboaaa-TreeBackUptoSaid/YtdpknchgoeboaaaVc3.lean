/- What is to be shown of resolved code, and how code is resolved. -/
import Derived.Test.YtdpknchgoeboaaaVc2
set_option linter.unusedVariables false
namespace Go.Proofs.Ytdpknchgoeboaaa.Vc
open Go

def writeAt (cs : Array Value) (j : Nat) : List Value → Array Value
  | [] => cs
  | v :: vs => writeAt (cs.setIfInBounds j v) (j + 1) vs

/-! ### The call's own frame of reference -/
structure Ctx where
  P : Program
  N : Nat
  w0 : World
  m0 : PH

def Ctx.mine (C : Ctx) (b : Nat) : Prop := C.w0.heap.size ≤ b ∨ C.m0 b ≠ none
def Ctx.u0 (C : Ctx) : PH := fun k => if (C.m0 k).isNone then C.w0.heap[k]? else none

/-- Where a variable or a row lies: block, first cell, capacity. -/
abbrev Loc := Nat → Option (Nat × Nat × Nat)

def PV.own : PV → Bool
  | .ro _ _ _ => false
  | _ => true

def rowE (pv : List (Nat × PV)) (k : Nat) : Option (Nat × List GV) :=
  match look pv k with
  | some (.row _ z _ xs) => some (z, xs)
  | some (.ro z _ xs) => some (z, xs)
  | _ => none

/-- What is read at element i. -/
def rowD (pv : List (Nat × PV)) (k i : Nat) : GV :=
  match look pv k with
  | some (.row _ _ df xs) => xs.getD i df
  | some (.ro _ df xs) => xs.getD i df
  | _ => .u

def flats (xs : List GV) : List Value := xs.flatMap GV.flat

/-- The slice value of n elements from o on. -/
def SlcV (l : Option (Nat × Nat × Nat)) (z o n : Nat) (v : Value) : Prop :=
  match l with
  | none => ∃ base, v = .slice base 0 0
  | some (b, f, c) => ∃ a : Addr, v = .slice (some a) n (c - o) ∧ (o < c → a = ⟨b, f + o * z, none⟩)

def SVr (loc : Loc) (pv : List (Nat × PV)) : SV → Value → Prop
  | .g x, v => x.ok ∧ v = x.val
  | .ref k p, v => ∃ g b c y, look pv k = some (.box g) ∧ loc k = some (b, 0, c) ∧ g.get p = some y ∧ v = .pointer (some ⟨b, g.offs p, none⟩)
  | .row k o n, v => ∃ z xs, rowE pv k = some (z, xs) ∧ o + n ≤ xs.length ∧ SlcV (loc k) z o n v
  | .rref k i p, v => ∃ z xs x y b o c, rowE pv k = some (z, xs) ∧ xs[i]? = some x ∧ x.get p = some y ∧ loc k = some (b, o, c) ∧ v = .pointer (some ⟨b, o + i * z + x.offs p, none⟩)
  | .tup xs, v => (∀ x ∈ xs, x.ok) ∧ v = .tuple (xs.map GV.val).toArray
  | .no, v => v = undef
  | .any, _ => True

def Els (z : Nat) (xs : List GV) : Prop := ∀ x ∈ xs, x.ok ∧ x.sz = z
def RowAt (cs : Array Value) (o : Nat) (l : List Value) : Prop := ∀ j v, l[j]? = some v → cs[o + j]? = some v

def PVr (C : Ctx) (loc : Loc) (ph : List PH) (w : World) (k : Nat) : PV → Prop
  | .box g => g.ok ∧ ∃ b c e, loc k = some (b, 0, c) ∧ w.heap[b]? = some (.cells g.flat.toArray e (0, 0))
  | .row e z _ xs => Els z xs ∧ match loc k with
    | none => xs = []
    | some (b, o, c) => ∃ cs, w.heap[b]? = some (.cells cs e (0, 0)) ∧ xs.length ≤ c ∧ o + c * z ≤ cs.size ∧ RowAt cs o (flats xs)
  | .ro z _ xs => Els z xs ∧ match loc k with
    | none => xs = []
    | some (b, o, c) => xs.length ≤ c ∧ (0 < c → ∃ u cs e fz, (u = C.u0 ∨ u ∈ ph) ∧ u b = some (.cells cs e fz) ∧ RowAt cs o (flats xs))

def Kept (m : PH) (w w' : World) : Prop :=
  w'.os = w.os ∧ w'.tape = w.tape ∧ w'.output = w.output ∧ w.heap.size ≤ w'.heap.size ∧ ∀ k, k < w.heap.size → m k = none → w'.heap[k]? = w.heap[k]?

structure HR (C : Ctx) (loc : Loc) (pv : List (Nat × PV)) (ph : List PH) (m : PH) (w : World) : Prop where
  kept : Kept C.m0 C.w0 w
  pvs : ∀ k y, look pv k = some y → PVr C loc ph w k y
  apart : ∀ k k' y y' b o c o' c', look pv k = some y → y.own = true → loc k = some (b, o, c) → look pv k' = some y' → y'.own = true → loc k' = some (b, o', c') → k = k'
  priv : ∀ k y b o c, look pv k = some y → y.own = true → loc k = some (b, o, c) → C.mine b ∧ m b = none ∧ ∀ u ∈ ph, u b = none
  mle : m.le w
  mmine : ∀ b, m b ≠ none → C.mine b
  phs : ∀ u ∈ ph, u.le w ∧ ∀ b, u b ≠ none → C.mine b ∧ m b = none

structure FR (loc : Loc) (N : Nat) (fr : List (Nat × SV)) (pv : List (Nat × PV)) (a : Act) : Prop where
  defers : a.defers = []
  size : a.tmps.size = N
  slots : ∀ t x, look fr t = some x → ∃ v, a.tmps[t]? = some v ∧ SVr loc pv x v

def Rel (C : Ctx) (σ : SS) (a : Act) (w : World) : Prop := ∃ loc, FR loc C.N σ.fr σ.pv a ∧ HR C loc σ.pv σ.ph σ.m w

abbrev KT := SS → Prop
abbrev QT := Exit → SS → Prop
def liftK (C : Ctx) (K : KT) (a : Act) (w : World) : Prop := ∃ σ, K σ ∧ Rel C σ a w
def liftQ (C : Ctx) (Q : QT) (e : Exit) (a : Act) (w : World) : Prop := ∃ σ, Q e σ ∧ Rel C σ a w

/-! ### Slices in memory -/
/-- A slice that reads as these elements. -/
def SlR (u : PH) (v : Value) (z : Nat) (xs : List GV) : Prop :=
  Els z xs ∧ ((v = .slice none 0 0 ∧ xs = []) ∨ ∃ (a : Addr) (c : Nat), v = .slice (some a) xs.length c ∧ xs.length ≤ c ∧ (0 < c → ∃ cs e fz, a.spot = none ∧ u a.block = some (.cells cs e fz) ∧ RowAt cs a.off (flats xs)))

/-- A slice that may be written and grown. -/
def SlO (u : PH) (v : Value) (e : TypeId) (z : Nat) (xs : List GV) : Prop :=
  Els z xs ∧ ((v = .slice none 0 0 ∧ xs = []) ∨ ∃ (a : Addr) (c : Nat), v = .slice (some a) xs.length c ∧ xs.length ≤ c ∧ (0 < c → ∃ cs, a.spot = none ∧ a.off + c * z ≤ cs.size ∧ u a.block = some (.cells cs e (0, 0)) ∧ RowAt cs a.off (flats xs)))

theorem SlO.toR {u : PH} {v : Value} {e : TypeId} {z : Nat} {xs : List GV} (h : SlO u v e z xs) : SlR u v z xs := by
  refine ⟨h.1, h.2.imp id ?_⟩
  rintro ⟨a, c, h1, h2, h3⟩
  refine ⟨a, c, h1, h2, fun hc => ?_⟩
  obtain ⟨cs, g1, g2, g3, g4⟩ := h3 hc
  exact ⟨cs, e, (0, 0), g1, g3, g4⟩

def PH.sub (u v : PH) : Prop := ∀ b o, u b = some o → v b = some o
theorem PH.le.sub {u : PH} {w : World} (h : u.le w) : PH.sub u w.ph := h

theorem SlR.up {u v : PH} {x : Value} {z : Nat} {xs : List GV} (h : SlR u x z xs) (hs : PH.sub u v) : SlR v x z xs := by
  refine ⟨h.1, h.2.imp id ?_⟩
  rintro ⟨a, c, h1, h2, h3⟩
  refine ⟨a, c, h1, h2, fun hc => ?_⟩
  obtain ⟨cs, e, fz, g1, g2, g3⟩ := h3 hc
  exact ⟨cs, e, fz, g1, hs _ _ g2, g3⟩
theorem SlO.up {u v : PH} {x : Value} {e : TypeId} {z : Nat} {xs : List GV} (h : SlO u x e z xs) (hs : PH.sub u v) : SlO v x e z xs := by
  refine ⟨h.1, h.2.imp id ?_⟩
  rintro ⟨a, c, h1, h2, h3⟩
  refine ⟨a, c, h1, h2, fun hc => ?_⟩
  obtain ⟨cs, g1, g2, g3, g4⟩ := h3 hc
  exact ⟨cs, g1, g2, hs _ _ g3, g4⟩

def uni (a b : PH) : PH := fun k => (a k).or (b k)
def dis (a b : PH) : Prop := ∀ k, a k = none ∨ b k = none
theorem sub_uni_l (a b : PH) : PH.sub a (uni a b) := fun k o h => by simp [uni, h]
theorem sub_uni_r {a b : PH} (hd : dis a b) : PH.sub b (uni a b) := fun k o h => by
  rcases hd k with h1 | h1
  · simp [uni, h1, h]
  · rw [h1] at h; cases h
theorem PH.sub_refl (a : PH) : PH.sub a a := fun _ _ h => h
theorem PH.sub_trans {a b c : PH} (h : PH.sub a b) (k : PH.sub b c) : PH.sub a c := fun x o e => k x o (h x o e)


/-! ### What is to be shown -/
def binV (op : BinOp) (a b : Value) : Option Value :=
  match op, a, b with
  | .add, .int k x, .int k' y => if k = k' then some (.int k (k.wrap (x + y))) else none
  | .sub, .int k x, .int k' y => if k = k' then some (.int k (k.wrap (x - y))) else none
  | .mul, .int k x, .int k' y => if k = k' then some (.int k (k.wrap (x * y))) else none
  | .quo, .int k x, .int k' y => if k = k' then some (.int k (k.wrap (x.tdiv y))) else none
  | .rem, .int k x, .int k' y => if k = k' then some (.int k (x.tmod y)) else none
  | .and, .int k x, .int k' y => if k = k' then some (.int k (k.wrap (BitVec.ofInt k.bits x &&& BitVec.ofInt k.bits y).toNat)) else none
  | .xor, .int k x, .int k' y => if k = k' then some (.int k (k.wrap (BitVec.ofInt k.bits x ^^^ BitVec.ofInt k.bits y).toNat)) else none
  | .shr, .int k x, .int _ y => some (.int k (x.fdiv (2 ^ (min y.toNat k.bits))))
  | .shl, .int k x, .int _ y => some (.int k (k.wrap (x * 2 ^ (min y.toNat k.bits))))
  | .eql, .int k x, .int k' y => if k = k' then some (.bool (x == y)) else none
  | .neq, .int k x, .int k' y => if k = k' then some (.bool (x != y)) else none
  | .lss, .int k x, .int k' y => if k = k' then some (.bool (decide (x < y))) else none
  | .leq, .int k x, .int k' y => if k = k' then some (.bool (decide (x ≤ y))) else none
  | .gtr, .int k x, .int k' y => if k = k' then some (.bool (decide (x > y))) else none
  | .geq, .int k x, .int k' y => if k = k' then some (.bool (decide (x ≥ y))) else none
  | .eql, .string x, .string y => some (.bool (decide (x = y)))
  | .neq, .string x, .string y => some (.bool (!decide (x = y)))
  | .lss, .string x, .string y => some (.bool (Op.bytesLess x.data.toList y.data.toList))
  | .gtr, .string x, .string y => some (.bool (!(Op.bytesLess x.data.toList y.data.toList || decide (x = y))))
  | .leq, .string x, .string y => some (.bool (Op.bytesLess x.data.toList y.data.toList || decide (x = y)))
  | .geq, .string x, .string y => some (.bool (!Op.bytesLess x.data.toList y.data.toList))
  | .add, .string x, .string y => some (.string (x ++ y))
  | _, _, _ => none

/-- What an operator asks of its operands. -/
def binC (op : BinOp) (a b : Value) : Prop :=
  match op, a, b with
  | .quo, _, .int _ y | .rem, _, .int _ y => y ≠ 0
  | .shl, _, .int _ y | .shr, _, .int _ y => 0 ≤ y
  | .add, .string x, .string y => ((x.size + y.size : Nat) : Int) ≤ 9223372036854775807
  | _, _, _ => True

def unV (op : UnOp) (a : Value) : Option Value :=
  match op, a with
  | .not, .bool b => some (.bool !b)
  | .neg, .int k n => some (.int k (k.wrap (0 - n)))
  | _, _ => none

def evO (a : Act) : Opd → Value
  | .t n => a.tmps.getD n undef
  | .c v => v

/-- A call: whoever is called, whatever it is told by. -/
structure vcCall (C : Ctx) (f : Nat) (args : List Opd) (d : Option Nat) (K : KT) (σ : SS) : Prop where
  h : ∀ a w, Rel C σ a w → Calls C.P f (args.map (evO a)).toArray w fun e w' => ∃ v, e = .returned v ∧ liftK C K (a.put d v) w'

def evL (σ : SS) : List Opd → Option (List SV)
  | [] => some []
  | x :: l => match ev σ x, evL σ l with
    | some y, some r => some (y :: r)
    | _, _ => none

def gvL : List SV → Option (List GV)
  | [] => some []
  | .g x :: l => (gvL l).map (x :: ·)
  | _ :: _ => none

def scL : List SV → Option (List Value)
  | [] => some []
  | .g (.s v) :: l => (scL l).map (v :: ·)
  | _ :: _ => none

def szAll (z : Nat) : List GV → Prop
  | [] => True
  | x :: l => x.sz = z ∧ szAll z l

/-- A bound of a slice expression. -/
def bndN (σ : SS) (x : Option Opd) (dflt : Nat) : Option Int :=
  match x with
  | none => some dflt
  | some x => match ev σ x with
    | some (.g (.s (.int _ j))) => some j
    | _ => none

/-- Are two values of a type the same? -/
def EqG (P : Program) (t : TypeId) (a b : GV) (r : Bool) : Prop :=
  ∀ x y w, ((do eqGuard .eql t x y a.val b.val; binOp .eql t a.val b.val) : Sem Value).run P w = .ok (.bool r) w ∧ ((do eqGuard .neq t x y a.val b.val; binOp .neq t a.val b.val) : Sem Value).run P w = .ok (.bool !r) w

/-- What is known of memory: y lies in block b, from cell o on. -/
def Seen (C : Ctx) (ph : List PH) (m : PH) (b o : Nat) (y : GV) : Prop :=
  y.ok ∧ ∃ cs e fz, (m b = some (.cells cs e fz) ∨ (∃ u ∈ ph, u b = some (.cells cs e fz)) ∨ C.u0 b = some (.cells cs e fz)) ∧ RowAt cs o y.flat

def PH.upd (m : PH) (b : Nat) (o : Obj) : PH := fun k => if k = b then some o else m k

/-- Seen another way. -/
structure ghC (C : Ctx) (K : KT) (σ : SS) : Prop where
  h : ∀ a w, Rel C σ a w → ∃ τ, Rel C τ a w ∧ K τ

/-- Two ways. -/
def brB (b want : Bool) (x y : Prop) : Prop := (b = want → x) ∧ (b = !want → y)

/-- A load from known memory. -/
def ldK (C : Ctx) (σ : SS) (b o z : Nat) (ag : Bool) (d : Option Nat) (K : KT) : Prop := ∃ y, Seen C σ.ph σ.m b o y ∧ y.fits z ag = true ∧ K (σ.put d (.g y))
/-- A store to memory of one's own. -/
def stK (σ : SS) (b o z : Nat) (y : GV) (d : Option Nat) (K : KT) : Prop := y.sz = z ∧ ∃ cs e, (σ.m b = some (.cells cs e (0, 0)) ∧ o + z ≤ cs.size) ∧ K ({ σ with m := σ.m.upd b (.cells (writeAt cs o y.flat) e (0, 0)) }.put d .no)
/-- Two values of a type, held together. -/
def eqK (C : Ctx) (t : TypeId) (a b : GV) (neg : Bool) (d : Option Nat) (K : KT) (σ : SS) : Prop := ∃ r, EqG C.P t a b r ∧ K (σ.put d (.g (.s (.bool (r != neg)))))
theorem ld_of {C : Ctx} {σ : SS} {b o z : Nat} {ag : Bool} {d : Option Nat} {K : KT} (y : GV) (h : Seen C σ.ph σ.m b o y) (hf : y.fits z ag = true) (hK : K (σ.put d (.g y))) : ldK C σ b o z ag d K := ⟨y, h, hf, hK⟩
theorem st_of {σ : SS} {b o z : Nat} {y : GV} {d : Option Nat} {K : KT} (hz : y.sz = z) (cs : Array Value) (e : TypeId) (h : σ.m b = some (.cells cs e (0, 0)) ∧ o + z ≤ cs.size) (hK : K ({ σ with m := σ.m.upd b (.cells (writeAt cs o y.flat) e (0, 0)) }.put d .no)) : stK σ b o z y d K := ⟨hz, cs, e, h, hK⟩
/-- A byte. -/
def gb (b : UInt8) : GV := .s (.int .u8 b.toNat)
/-- The bytes that a slice reads as. -/
def BytesAt (C : Ctx) (σ : SS) : SV → List UInt8 → Prop
  | .row k o n, bs => ∃ xs, rowE σ.pv k = some (1, xs) ∧ (xs.drop o).take n = bs.map gb
  | .g (.s v), bs => ∃ u, (u = C.u0 ∨ u ∈ σ.ph ∨ u = σ.m) ∧ SlR u v 1 (bs.map gb)
  | _, _ => False
/-- A string out of bytes. -/
def b2sK (C : Ctx) (x : SV) (d : Option Nat) (K : KT) (σ : SS) : Prop := ∃ bs, BytesAt C σ x bs ∧ K (σ.put d (.g (.s (.string ⟨bs.toArray⟩))))
theorem b2s_of {C : Ctx} {x : SV} {d : Option Nat} {K : KT} {σ : SS} (bs : List UInt8) (h : BytesAt C σ x bs) (hK : K (σ.put d (.g (.s (.string ⟨bs.toArray⟩))))) : b2sK C x d K σ := ⟨bs, h, hK⟩
/-- Elements put behind a slice of one's own memory. -/
def appK (x : Opd) (e : TypeId) (z by_ : Nat) (v : Value) (ys : List GV) (d : Option Nat) (K : KT) (σ : SS) : Prop :=
  (∃ t, x = .t t) ∧ ∃ u m' xs, SlO u v e z xs ∧ σ.m = uni u m' ∧ dis u m' ∧ (xs.length + ys.length) * by_ ≤ 140737488355328 ∧ d ≠ none ∧
    ∀ v' u', v'.oneCell' = true → SlO u' v' e z (xs ++ ys) → dis u' m' → K ({ σ with m := uni u' m' }.put d (.g (.s v')))
/-- Elements put behind a slice: nil, or one's own. -/
def appG (x : Opd) (e : TypeId) (z by_ : Nat) (df : GV) (v : Value) (n' : Nat) (ys : List GV) (d : Option Nat) (K : KT) (σ : SS) : Prop :=
  (v = .slice none 0 0 ∧ ∃ k, d = some k ∧ look σ.pv k = none ∧ n' * by_ ≤ 140737488355328 ∧ K { σ with fr := (k, .row k 0 n') :: σ.fr, pv := updL σ.pv k (.row e z df ys) }) ∨ appK x e z by_ v ys d K σ
theorem app_nil {x : Opd} {e : TypeId} {z by_ n' k : Nat} {df : GV} {ys : List GV} {d : Option Nat} {K : KT} {σ : SS} (hd : d = some k) (hk : look σ.pv k = none) (hb : n' * by_ ≤ 140737488355328) (hK : K { σ with fr := (k, .row k 0 n') :: σ.fr, pv := updL σ.pv k (.row e z df ys) }) : appG x e z by_ df (.slice none 0 0) n' ys d K σ :=
  .inl ⟨rfl, k, hd, hk, hb, hK⟩
theorem app_of {x : Opd} {e : TypeId} {z by_ : Nat} {v : Value} {ys : List GV} {d : Option Nat} {K : KT} {σ : SS} {df : GV} {n' t s : Nat} (hx : x = .t t) (hd : d = some s) (u m' : PH) (xs : List GV) (h : SlO u v e z xs) (hm : σ.m = uni u m') (hdis : dis u m')
    (hb : (xs.length + ys.length) * by_ ≤ 140737488355328) (hK : ∀ v' u', v'.oneCell' = true → SlO u' v' e z (xs ++ ys) → dis u' m' → K ({ σ with m := uni u' m' }.put d (.g (.s v')))) : appG x e z by_ df v n' ys d K σ :=
  .inr ⟨⟨t, hx⟩, u, m', xs, h, hm, hdis, hb, by rw [hd]; simp, hK⟩
theorem eq_of {C : Ctx} {t : TypeId} {a b : GV} {neg : Bool} {d : Option Nat} {K : KT} {σ : SS} {r : Bool} (h : EqG C.P t a b r) (hK : K (σ.put d (.g (.s (.bool (r != neg)))))) : eqK C t a b neg d K σ := ⟨r, h, hK⟩

/-! ### Maps -/
def one (b : Nat) (o : Obj) : PH := fun k => if k = b then some o else none
def keq : Value → Value → Bool
  | .int k a, .int k' b => k == k' && a == b
  | .string a, .string b => decide (a = b)
  | _, _ => false
def mget : List (Value × Value) → Value → Option Value
  | [], _ => none
  | (k, v) :: l, x => bif keq k x then some v else mget l x
def mput : List (Value × Value) → Value → Value → List (Value × Value)
  | [], x, v => [(x, v)]
  | (k, u) :: l, x, v => bif keq k x then (x, v) :: l else (k, u) :: mput l x v
def mdel : List (Value × Value) → Value → List (Value × Value)
  | [], _ => []
  | (k, u) :: l, x => bif keq k x then l else (k, u) :: mdel l x
def mkD : Option IntKind → TypeDesc
  | some k => .int k
  | none => .string
def kv (e : MapEntry) : Value × Value := (e.key, e.val)
/-- A map that holds these, each key once. -/
def MapI (kd : Option IntKind) (o : Obj) (l : List (Value × Value)) : Prop :=
  ∃ es cl, o = .map es cl ∧ es.toList.map kv = l ∧ MapKept.Stamped es cl ∧ ∀ e ∈ es.toList, MapKept.IsKey (mkD kd) e.key ∧ e.val.oneCell' = true
/-- What goes through the map mo in block b, and has come by s. -/
def IterM (it mo : Obj) (b : Nat) (s : List (Value × Value)) : Prop :=
  ∃ (es : Array MapEntry) (cl : Nat) (vs : List MapEntry), mo = .map es cl ∧ it = .mapIter (some b) cl (vs.map (·.born)).toArray cl ∧ (∀ e ∈ vs, e ∈ es.toList) ∧ (vs.map (·.born)).Nodup ∧ s = vs.map kv
/-- An object that is known. -/
def SeenO (C : Ctx) (ph : List PH) (m : PH) (b : Nat) (o : Obj) : Prop := m b = some o ∨ (∃ u ∈ ph, u b = some o) ∨ C.u0 b = some o
def lkS (l : List (Value × Value)) (k z : Value) (ok : Bool) : SV :=
  bif ok then .tup [.s ((mget l k).getD z), .s (.bool (mget l k).isSome)] else .g (.s ((mget l k).getD z))
def mkmK (d : Option Nat) (K : KT) (σ : SS) : Prop := ∀ b o, (∀ kd, MapI kd o []) → dis (one b o) σ.m → K ({ σ with m := uni (one b o) σ.m }.put d (.g (.s (.map (some b)))))
def mlkK (C : Ctx) (kd : Option IntKind) (b : Nat) (k z : Value) (ok : Bool) (d : Option Nat) (K : KT) (σ : SS) : Prop :=
  ∃ o l, SeenO C σ.ph σ.m b o ∧ MapI kd o l ∧ MapKept.IsKey (mkD kd) k ∧ K (σ.put d (lkS l k z ok))
def mupK (kd : Option IntKind) (b : Nat) (k y : Value) (d : Option Nat) (K : KT) (σ : SS) : Prop :=
  ∃ o l, σ.m b = some o ∧ MapI kd o l ∧ MapKept.IsKey (mkD kd) k ∧ ∀ o', MapI kd o' (mput l k y) → K ({ σ with m := σ.m.upd b o' }.put d .no)
def mdlK (kd : Option IntKind) (b : Nat) (k : Value) (d : Option Nat) (K : KT) (σ : SS) : Prop :=
  ∃ o l, σ.m b = some o ∧ MapI kd o l ∧ MapKept.IsKey (mkD kd) k ∧ ∀ o', MapI kd o' (mdel l k) → K ({ σ with m := σ.m.upd b o' }.put d (.tup []))
def mlnK (C : Ctx) (kd : Option IntKind) (b : Nat) (d : Option Nat) (K : KT) (σ : SS) : Prop :=
  ∃ o l, SeenO C σ.ph σ.m b o ∧ MapI kd o l ∧ K (σ.put d (.g (.s (.int .i64 l.length))))
def rngK (C : Ctx) (kd : Option IntKind) (b : Nat) (d : Option Nat) (K : KT) (σ : SS) : Prop :=
  ∃ o l, SeenO C σ.ph σ.m b o ∧ MapI kd o l ∧ ∀ r it, IterM it o b [] → dis (one r it) σ.m → K ({ σ with m := uni (one r it) σ.m }.put d (.g (.s (.pointer (some ⟨r, 0, none⟩)))))
def nxtK (C : Ctx) (r : Nat) (d : Option Nat) (K : KT) (σ : SS) : Prop :=
  ∃ it b o kd l s, σ.m r = some it ∧ SeenO C σ.ph σ.m b o ∧ MapI kd o l ∧ IterM it o b s ∧ (s.Perm l → K (σ.put d (.tup [.s (.bool false)]))) ∧
    ∀ p it', p ∈ l → p ∉ s → IterM it' o b (s ++ [p]) → K ({ σ with m := σ.m.upd r it' }.put d (.tup [.s (.bool true), .s p.1, .s p.2]))
def entK (C : Ctx) (r : Nat) (d : Option Nat) (K : KT) (σ : SS) : Prop :=
  ∃ it b o kd l s p, SeenO C σ.ph σ.m r it ∧ SeenO C σ.ph σ.m b o ∧ MapI kd o l ∧ IterM it o b (s ++ [p]) ∧ K (σ.put d (.tup [.s p.1, .s p.2]))

def vcOp (C : Ctx) (d : Option Nat) (K : KT) (σ : SS) : RO → Prop
  | .mv x => match ev σ x with
    | some v => K (σ.put d v)
    | none => False
  | .pick c a b => match ev σ c, ev σ a, ev σ b with
    | some (.g (.s (.bool t))), some x, some y => brB t true (K (σ.put d x)) (K (σ.put d y))
    | _, _, _ => False
  | .fldA x i off => match ev σ x with
    | some (.ref k p) => match look σ.pv k with
      | some (.box g) => (g.getT p).fld i off = true ∧ K (σ.put d (.ref k (p ++ [i])))
      | _ => False
    | some (.rref k j p) => ((rowD σ.pv k j).getT p).fld i off = true ∧ K (σ.put d (.rref k j (p ++ [i])))
    | some (.g (.s (.pointer (some ⟨b, o, none⟩)))) => K (σ.put d (.g (.s (.pointer (some ⟨b, o + off, none⟩)))))
    | _ => False
  | .idxA x i n z => match ev σ x, ev σ i with
    | some (.ref k p), some (.g (.s (.int _ j))) => match look σ.pv k with
      | some (.box g) => (g.getT p).arr n z = true ∧ (0 ≤ j ∧ j < n) ∧ K (σ.put d (.ref k (p ++ [j.toNat])))
      | _ => False
    | some (.rref k l p), some (.g (.s (.int _ j))) => ((rowD σ.pv k l).getT p).arr n z = true ∧ (0 ≤ j ∧ j < n) ∧ K (σ.put d (.rref k l (p ++ [j.toNat])))
    | some (.g (.s (.pointer (some ⟨b, o, none⟩)))), some (.g (.s (.int _ j))) => (0 ≤ j ∧ j < n) ∧ K (σ.put d (.g (.s (.pointer (some ⟨b, o + j.toNat * z, none⟩)))))
    | _, _ => False
  | .idxS x i z => match ev σ x, ev σ i with
    | some (.row k o n), some (.g (.s (.int _ j))) => match rowE σ.pv k with
      | some (z', _) => z' = z ∧ (0 ≤ j ∧ j < n) ∧ K (σ.put d (.rref k (o + j.toNat) []))
      | _ => False
    | some (.g (.s (.slice (some ⟨b, o, none⟩) n _))), some (.g (.s (.int _ j))) => (0 ≤ j ∧ j < n) ∧ K (σ.put d (.g (.s (.pointer (some ⟨b, o + j.toNat * z, none⟩)))))
    | _, _ => False
  | .ld x z ag => match ev σ x with
    | some (.ref k p) => match look σ.pv k with
      | some (.box g) => (g.getT p).fits z ag = true ∧ K (σ.put d (.g (g.getT p)))
      | _ => False
    | some (.rref k i p) => ((rowD σ.pv k i).getT p).fits z ag = true ∧ K (σ.put d (.g ((rowD σ.pv k i).getT p)))
    | some (.g (.s (.pointer (some ⟨b, o, none⟩)))) => ldK C σ b o z ag d K
    | _ => False
  | .bin op x y => match ev σ x, ev σ y with
    | some (.g (.s a)), some (.g (.s b)) => match binV op a b with
      | some v => binC op a b ∧ K (σ.put d (.g (.s v)))
      | none => False
    | _, _ => False
  | .un op x => match ev σ x with
    | some (.g (.s a)) => match unV op a with
      | some v => K (σ.put d (.g (.s v)))
      | none => False
    | _ => False
  | .len x => match ev σ x with
    | some (.row _ _ n) => K (σ.put d (.g (.s (.int .i64 n))))
    | some (.g (.s (.slice _ n _))) => K (σ.put d (.g (.s (.int .i64 n))))
    | _ => False
  | .lenS x => match ev σ x with
    | some (.g (.s (.string b))) => K (σ.put d (.g (.s (.int .i64 b.size))))
    | _ => False
  | .mnx b x y => match ev σ x, ev σ y with
    | some (.g (.s (.int k i))), some (.g (.s (.int _ j))) => K (σ.put d (.g (.s (.int k (bif b then max i j else min i j)))))
    | _, _ => False
  | .ext x i => match ev σ x with
    | some (.tup xs) => match xs[i]? with
      | some y => K (σ.put d (.g y))
      | none => False
    | _ => False
  | .fldV x i off z ag => match ev σ x with
    | some (.g g) => g.fld i off = true ∧ (g.getT [i]).fits z ag = true ∧ K (σ.put d (.g (g.getT [i])))
    | _ => False
  | .idxV x i n z ag => match ev σ x, ev σ i with
    | some (.g g), some (.g (.s (.int _ j))) => g.arr n z = true ∧ (0 ≤ j ∧ j < n) ∧ (g.getT [j.toNat]).fits z ag = true ∧ K (σ.put d (.g (g.getT [j.toNat])))
    | _, _ => False
  | .sl z x lo hi => match ev σ x with
    | some (.row k o n) => match bndN σ lo 0, bndN σ hi n, rowE σ.pv k with
      | some l, some h, some (z', _) => (z' = z ∧ 0 ≤ l ∧ l ≤ h ∧ h ≤ n) ∧ K (σ.put d (.row k (o + l.toNat) (h.toNat - l.toNat)))
      | _, _, _ => False
    | some (.g (.s (.slice none 0 0))) => match bndN σ lo 0, bndN σ hi 0 with
      | some l, some h => (l = 0 ∧ h = 0) ∧ K (σ.put d (.g (.s (.slice none 0 0))))
      | _, _ => False
    | some (.g (.s (.slice (some ⟨b, o, none⟩) n c))) => match bndN σ lo 0, bndN σ hi n with
      | some l, some h => (n ≤ c ∧ 0 ≤ l ∧ l ≤ h ∧ h ≤ c) ∧ K (σ.put d (.g (.s (.slice (some ⟨b, if c = l.toNat then o else o + l.toNat * z, none⟩) (h.toNat - l.toNat) (c - l.toNat)))))
      | _, _ => False
    | _ => False
  | .slS x lo hi => match ev σ x with
    | some (.g (.s (.string b))) => match bndN σ lo 0, bndN σ hi b.size with
      | some l, some h => (0 ≤ l ∧ l ≤ h ∧ h ≤ b.size) ∧ K (σ.put d (.g (.s (.string (b.extract l.toNat h.toNat)))))
      | _, _ => False
    | _ => False
  | .strI x i => match ev σ x, ev σ i with
    | some (.g (.s (.string b))), some (.g (.s (.int _ j))) => (0 ≤ j ∧ j < b.size) ∧ K (σ.put d (.g (.s (.int .u8 (b.data.getD j.toNat 0).toNat))))
    | _, _ => False
  | .cvI k x => match ev σ x with
    | some (.g (.s (.int _ j))) => K (σ.put d (.g (.s (.int k (k.wrap j)))))
    | _ => False
  | .nilc x => match ev σ x with
    | some (.ref k p) => K (σ.put d (.ref k p))
    | some (.rref k i p) => K (σ.put d (.rref k i p))
    | some (.g (.s (.pointer (some a)))) => K (σ.put d (.g (.s (.pointer (some a)))))
    | some (.g (.s (.func (.func f) p q))) => K (σ.put d (.g (.s (.func (.func f) p q))))
    | _ => False
  | .mkf f l => match evL σ l with
    | some xs => match scL xs with
      | some vs => K (σ.put d (.g (.s (.func (.func f) #[] vs.toArray))))
      | none => False
    | none => False
  | .callV x args => match ev σ x with
    | some (.g (.s (.func (.func f) p q))) => (∃ fn, C.P.funcs[f]? = some fn ∧ (fn.body.isSome && fn.name != "runtime.NumGoroutine") = true) ∧ vcCall C f (p.toList.map .c ++ args ++ q.toList.map .c) d K σ
    | _ => False
  | .bld z parts => match evL σ (parts.map (·.2)) with
    | some xs => match gvL xs with
      | some gs => GV.bldC z (parts.map (·.1)) gs ∧ K (σ.put d (.g (GV.bldT z (parts.map (·.1)) gs)))
      | none => False
    | none => False
  | .eqA neg t x y => match ev σ x, ev σ y with
    | some (.g a), some (.g b) => eqK C t a b neg d K σ
    | some (.ref _ _), some (.g (.s (.pointer none))) => (∃ e, C.P.underlying t = some (.pointer e)) ∧ K (σ.put d (.g (.s (.bool neg))))
    | some (.rref _ _ _), some (.g (.s (.pointer none))) => (∃ e, C.P.underlying t = some (.pointer e)) ∧ K (σ.put d (.g (.s (.bool neg))))
    | some (.row _ _ n), some (.g (.s (.slice none 0 0))) => (∃ e, C.P.underlying t = some (.slice e)) ∧ ∀ r : Bool, (0 < n → r = false) → K (σ.put d (.g (.s (.bool (r != neg)))))
    | _, _ => False
  | .box _ x => match d, ev σ x with
    | some k, some (.g g) => look σ.pv k = none ∧ K { σ with fr := (k, .ref k []) :: σ.fr, pv := updL σ.pv k (.box g) }
    | _, _ => False
  | .new _ z => match d with
    | some k => look σ.pv k = none ∧ K { σ with fr := (k, .ref k []) :: σ.fr, pv := updL σ.pv k (.box z) }
    | _ => False
  | .st x v z => match ev σ x, ev σ v with
    | some (.ref k p), some (.g y) => match look σ.pv k with
      | some (.box g) => (y.same (g.getT p) ∧ y.sz = z) ∧ K ({ σ with pv := updL σ.pv k (.box (g.setT p y)) }.put d .no)
      | _ => False
    | some (.rref k i p), some (.g y) => match look σ.pv k with
      | some (.row e z' df xs) => (y.same ((xs.getD i df).getT p) ∧ y.sz = z) ∧ K ({ σ with pv := updL σ.pv k (.row e z' df (xs.set i ((xs.getD i df).setT p y))) }.put d .no)
      | _ => False
    | some (.g (.s (.pointer (some ⟨b, o, none⟩)))), some (.g y) => stK σ b o z y d K
    | _, _ => False
  | .bldS e z df parts => match d, evL σ parts with
    | some k, some xs => match gvL xs with
      | some gs => (szAll z gs ∧ look σ.pv k = none) ∧ K { σ with fr := (k, .row k 0 gs.length) :: σ.fr, pv := updL σ.pv k (.row e z df gs) }
      | none => False
    | _, _ => False
  | .app e z by_ df x y => match ev σ x, ev σ y with
    | some (.row k o n), some (.row j o' n') => match look σ.pv k, rowE σ.pv j with
      | some (.row e' z' df' xs), some (z2, ys) => (k ≠ j ∧ e' = e ∧ z' = z ∧ z2 = z ∧ o = 0 ∧ n = xs.length) ∧ (n + n') * by_ ≤ 140737488355328 ∧
          K ({ σ with fr := kill k σ.fr, pv := updL σ.pv k (.row e z df' (xs ++ (ys.drop o').take n')) }.put d (.row k 0 (n + n')))
      | _, _ => False
    | some (.g (.s v)), some (.row j o' n') => match rowE σ.pv j with
      | some (z2, ys) => z2 = z ∧ appG x e z by_ df v n' ((ys.drop o').take n') d K σ
      | _ => False
    | _, _ => False
  | .b2s x => match ev σ x with
    | some y => b2sK C y d K σ
    | none => False
  | .capS x => match ev σ x with
    | some (.g (.s (.slice _ _ c))) => K (σ.put d (.g (.s (.int .i64 c))))
    | _ => False
  | .mks e z by_ df n c => match ev σ n, ev σ c with
    | some (.g (.s (.int _ i))), some (.g (.s (.int _ j))) => match d with
      | some k => (look σ.pv k = none ∧ i = j ∧ 0 ≤ i) ∧ i * by_ ≤ 140737488355328 ∧ K { σ with fr := (k, .row k 0 i.toNat) :: σ.fr, pv := updL σ.pv k (.row e z df (List.replicate i.toNat df)) }
      | none => False
    | _, _ => False
  | .appZ e z by_ df x n => match ev σ x, ev σ n with
    | some (.g (.s (.slice none 0 0))), some (.g (.s (.int _ i))) => match d with
      | some k => (look σ.pv k = none ∧ 0 < i) ∧ i * by_ ≤ 140737488355328 ∧ K { σ with fr := (k, .row k 0 i.toNat) :: σ.fr, pv := updL σ.pv k (.row e z df (List.replicate i.toNat df)) }
      | none => False
    | _, _ => False
  | .mkm => mkmK d K σ
  | .mlk kd x i z ok => match ev σ x, ev σ i with
    | some (.g (.s (.map (some b)))), some (.g (.s k)) => mlkK C kd b k z ok d K σ
    | _, _ => False
  | .mup kd x i v => match ev σ x, ev σ i, ev σ v with
    | some (.g (.s (.map (some b)))), some (.g (.s k)), some (.g (.s y)) => mupK kd b k y d K σ
    | _, _, _ => False
  | .mdl kd x i => match ev σ x, ev σ i with
    | some (.g (.s (.map (some b)))), some (.g (.s k)) => mdlK kd b k d K σ
    | _, _ => False
  | .mln kd x => match ev σ x with
    | some (.g (.s (.map (some b)))) => mlnK C kd b d K σ
    | some (.g (.s (.map none))) => K (σ.put d (.g (.s (.int .i64 0))))
    | _ => False
  | .rng kd x => match ev σ x with
    | some (.g (.s (.map (some b)))) => rngK C kd b d K σ
    | _ => False
  | .nxt x => match ev σ x with
    | some (.g (.s (.pointer (some ⟨r, 0, none⟩)))) => nxtK C r d K σ
    | _ => False
  | .ent x => match ev σ x with
    | some (.g (.s (.pointer (some ⟨r, 0, none⟩)))) => entK C r d K σ
    | _ => False
  | .s2b _ x => match d, ev σ x with
    | some k, some (.g (.s (.string b))) => look σ.pv k = none ∧ ∀ u, K { σ with fr := (k, .row k 0 b.size) :: σ.fr, pv := updL σ.pv k (.ro 1 (gb 0) (b.data.toList.map gb)), ph := u :: σ.ph }
    | _, _ => False
  | .call f args => vcCall C f args d K σ
  | .gh => ghC C K σ
  | .bot => False

/-- What only looks. -/
def isRd : RO → Bool
  | .mv _ | .pick .. | .fldA .. | .idxA .. | .idxS .. | .ld .. | .bin .. | .un .. | .len _ | .lenS _ | .mnx .. | .ext .. | .fldV .. | .idxV .. | .sl .. | .slS .. | .strI .. | .cvI .. | .nilc _ | .mkf .. | .bld .. | .eqA .. | .b2s _ | .capS _ | .mlk .. | .mln .. | .ent _ => true
  | _ => false

/-- A call that leaves what is known as it is, and whose result hangs on its arguments alone. -/
def vcCallQ (C : Ctx) (f : Nat) (args : List Opd) (d : Option Nat) (K : KT) (σ : SS) : Prop :=
  ∃ y : GV, y.ok ∧ (∀ loc a w, FR loc C.N σ.fr σ.pv a → HR C loc σ.pv σ.ph σ.m w → Calls C.P f (args.map (evO a)).toArray w fun e w' => e = .returned y.val ∧ HR C loc σ.pv σ.ph σ.m w') ∧ K (σ.put d (.g y))

def vcqOp (C : Ctx) (d : Option Nat) (K : KT) (σ : SS) (o : RO) : Prop :=
  match o with
  | .call f args => vcCallQ C f args d K σ
  | .callV x args => match ev σ x with
    | some (.g (.s (.func (.func f) p q))) => (∃ fn, C.P.funcs[f]? = some fn ∧ (fn.body.isSome && fn.name != "runtime.NumGoroutine") = true) ∧ vcCallQ C f (p.toList.map .c ++ args ++ q.toList.map .c) d K σ
    | _ => False
  | o => isRd o = true ∧ vcOp C d K σ o

def vcqSegOps (C : Ctx) : List (Option Nat × RO) → KT → KT
  | [], K, σ => K σ
  | (d, o) :: r, K, σ => vcqOp C d (vcqSegOps C r K) σ o

def vcSegOps (C : Ctx) : List (Option Nat × RO) → KT → KT
  | [], K, σ => K σ
  | (d, o) :: r, K, σ => vcOp C d (vcSegOps C r K) σ o

def RO.isGh : RO → Bool
  | .gh => true
  | _ => false

def skipAll : List (Option Nat × RO) → SS → SS
  | [], σ => σ
  | (d, o) :: r, σ => bif o.isGh then skipAll r σ else skipAll r (σ.put d .no)

def vcSegs (C : Ctx) : List Seg → KT → KT
  | [], K, σ => K σ
  | ⟨none, ops⟩ :: r, K, σ => vcSegOps C ops (vcSegs C r K) σ
  | ⟨some (t, want), ops⟩ :: r, K, σ =>
    match look σ.fr t with
    | some (.g (.s (.bool b))) =>
      brB b want (vcSegOps C ops (vcSegs C r K) (σ.put (some t) (.g (.s (.bool want))))) (vcSegs C r K (skipAll ops (σ.put (some t) (.g (.s (.bool !want))))))
    | some .no => vcSegs C r K (skipAll ops σ)
    | _ => False

def vcqSegs (C : Ctx) : List Seg → KT → KT
  | [], K, σ => K σ
  | ⟨none, ops⟩ :: r, K, σ => vcqSegOps C ops (vcqSegs C r K) σ
  | ⟨some (t, want), ops⟩ :: r, K, σ =>
    match look σ.fr t with
    | some (.g (.s (.bool b))) =>
      brB b want (vcqSegOps C ops (vcqSegs C r K) (σ.put (some t) (.g (.s (.bool want))))) (vcqSegs C r K (skipAll ops (σ.put (some t) (.g (.s (.bool !want))))))
    | some .no => vcqSegs C r K (skipAll ops σ)
    | _ => False

/-- The variables that some slots speak of. -/
def heldK (fr : List (Nat × SV)) : List Nat → List Nat
  | [] => []
  | t :: ts => match look fr t with
    | some (.ref k []) => k :: heldK fr ts
    | _ => heldK fr ts
/-- They stand as they stood. -/
def heldOk (σ0 σ : SS) : List Nat → Prop
  | [] => True
  | t :: ts => (match look σ0.fr t with
    | some (.ref k []) => look σ.fr t = some (.ref k []) ∧ look σ.pv k = look σ0.pv k
    | _ => True) ∧ heldOk σ0 σ ts
/-- What was known of memory is known still. -/
structure HeldM (m : PH) (ph : List PH) (m' : PH) (ph' : List PH) : Prop where
  m : ∀ b o, m b = some o → m' b = some o
  ph : ∀ u, u ∈ ph → u ∈ ph'
theorem HeldM.self (m : PH) (ph : List PH) : HeldM m ph m ph := ⟨fun _ _ h => h, fun _ h => h⟩
theorem heldM_self (m : PH) (ph : List PH) : HeldM m ph m ph = True := eq_true (HeldM.self m ph)
theorem heldM_one (m : PH) (ph : List PH) (u : PH) : HeldM m ph m (u :: ph) = True := eq_true ⟨fun _ _ h => h, fun _ h => List.mem_cons_of_mem _ h⟩
theorem heldM_two (m : PH) (ph : List PH) (u v : PH) : HeldM m ph m (u :: v :: ph) = True := eq_true ⟨fun _ _ h => h, fun _ h => List.mem_cons_of_mem _ (List.mem_cons_of_mem _ h)⟩
theorem heldM_three (m : PH) (ph : List PH) (u v x : PH) : HeldM m ph m (u :: v :: x :: ph) = True := eq_true ⟨fun _ _ h => h, fun _ h => List.mem_cons_of_mem _ (List.mem_cons_of_mem _ (List.mem_cons_of_mem _ h))⟩

/-- A load of what stands throughout. -/
def ldH (C : Ctx) (σ0 : SS) (ts : List Nat) (x : Opd) (z : Nat) (ag : Bool) (d : Option Nat) (K : KT) (σ : SS) : Prop :=
  match ev σ x with
  | some (.ref k p) => (heldK σ0.fr ts).contains k = true ∧ match look σ0.pv k with
    | some (.box g) => (g.getT p).fits z ag = true ∧ K (σ.put d (.g (g.getT p)))
    | _ => False
  | some (.g (.s (.pointer (some ⟨b, o, none⟩)))) => ∃ y, Seen C σ0.ph σ0.m b o y ∧ y.fits z ag = true ∧ K (σ.put d (.g y))
  | _ => False

def vcFirst (C : Ctx) (σ0 : SS) (ts : List Nat) (s : Seg) (K : KT) (σ : SS) : Prop :=
  match s.ops with
  | [(d, .ld x z ag)] => match s.guard with
    | none => ldH C σ0 ts x z ag d K σ
    | some (t, want) => match look σ.fr t with
      | some (.g (.s (.bool b))) => brB b want (ldH C σ0 ts x z ag d K (σ.put (some t) (.g (.s (.bool want))))) (K ((σ.put (some t) (.g (.s (.bool !want)))).put d .no))
      | some .no => K (σ.put d .no)
      | _ => False
  | _ => False

def vcOTH (C : Ctx) (K : KT) (ts : List Nat) (σ0 : SS) : OT → KT
  | .done, σ => K σ
  | .bad, _ => False
  | .op s t, σ => vcSegs C [s] (fun σ' => HeldM σ0.m σ0.ph σ'.m σ'.ph ∧ heldOk σ0 σ' ts ∧ vcOTH C K ts σ0 t σ') σ
  | .first s t, σ => vcFirst C σ0 ts s (fun σ' => heldOk σ0 σ' ts ∧ vcOTH C K ts σ0 t σ') σ
  | .or a b, σ => vcOTH C K ts σ0 a σ ∧ vcOTH C K ts σ0 b σ
  | .held _ _, _ => False

def vcOT (C : Ctx) (K : KT) : OT → KT
  | .done, σ => K σ
  | .bad, _ => False
  | .op s t, σ => vcSegs C [s] (vcOT C K t) σ
  | .or a b, σ => vcOT C K a σ ∧ vcOT C K b σ
  | .first _ _, _ => False
  | .held ts t, σ => heldOk σ σ ts ∧ vcOTH C K ts σ t σ

def kKeep (keep : List Nat) (Q : QT) : KT := fun σ => Q .normal (σ.keep keep)
def thenQ (K : KT) (Q : QT) : QT
  | .normal, σ => K σ
  | e, σ => Q e σ
def blockQ (id : Nat) (Q : QT) : QT
  | .exit j, σ => if j = id then Q .normal σ else Q (.exit j) σ
  | e, σ => Q e σ

/-- σ says all that τ says. -/
structure Ge (σ τ : SS) : Prop where
  fr : ∀ t x, look τ.fr t = some x → look σ.fr t = some x
  pv : ∀ k y, look τ.pv k = some y → look σ.pv k = some y
  wf : ∀ t x, look τ.fr t = some x → ∀ k, x.mentions k = true → (look τ.pv k).isSome = true
  ph : ∀ u, u ∈ τ.ph → u ∈ σ.ph
  ros : ∀ k z df xs, look τ.pv k = some (.ro z df xs) → ∀ u, u ∈ σ.ph → u ∈ τ.ph
  m : τ.m = σ.m

def scopeQ (Q : QT) : QT
  | .goto _, _ => False
  | e, σ => Q e σ

def loopQ {ι : Type} (st : ι → SS) (inv : ι → Prop) (ms : ι → Nat) (i : ι) (Q : QT) : QT
  | .normal, σ => ∃ j, inv j ∧ ms j < ms i ∧ Ge σ (st j)
  | e, σ => Q e σ

def vc (C : Ctx) : Cd → QT → KT
  | .skip, Q, σ => Q .normal σ
  | .ret, Q, σ => Q .ret σ
  | .exit id, Q, σ => Q (.exit id) σ
  | .seq a b, Q, σ => vc C a (thenQ (vc C b Q) Q) σ
  | .ite c a b, Q, σ => match ev σ c with
    | some (.g (.s (.bool t))) => brB t true (vc C a Q σ) (vc C b Q σ)
    | _ => False
  | .block id a, Q, σ => vc C a (blockQ id Q) σ
  | .loop a, Q, σ => ∃ (ι : Type) (st : ι → SS) (inv : ι → Prop) (ms : ι → Nat) (i : ι), inv i ∧ Ge σ (st i) ∧ ∀ i, inv i → vc C a (loopQ st inv ms i Q) (st i)
  | .scope a, Q, σ => vc C a (scopeQ Q) σ
  | .rg segs keep, Q, σ => vcSegs C segs (kKeep keep Q) σ
  | .rgq hd tl keep, Q, σ => vcqSegs C hd (vcSegs C tl (kKeep keep Q)) σ
  | .rga t keep, Q, σ => vcOT C (kKeep keep Q) t σ
  | .gh a, Q, σ => ∀ act w, Rel C σ act w → ∃ τ, Rel C τ act w ∧ vc C a Q τ
  | .raw c, Q, σ => ∀ act w, Rel C σ act w → c.wp C.P (liftQ C Q) act w

/-! ### How code is resolved -/
def agD : TypeDesc → Bool
  | .struct _ | .array _ _ => true
  | _ => false

def cOpd : Operand → Option Opd
  | .tmp t => some (.t t)
  | .const v => if v.oneCell' then some (.c v) else none
  | .global g => some (.c (.pointer (some ⟨g, 0, none⟩)))
  | .func f => some (.c (.func (.func f) #[] #[]))

def cOpdO : Option Operand → Option (Option Opd)
  | none => some none
  | some u => (cOpd u).map some

def zOk (v : Value) : Bool :=
  match v with
  | .int _ 0 | .bool false | .pointer none | .slice none 0 0 | .map none | .nilFunc | .nilIface => true
  | .string s => s.size == 0
  | _ => false

/-- The tree of a type's zero value. -/
def zeroT (P : Program) : Nat → TypeId → Option GV
  | 0, _ => none
  | n + 1, t => match P.underlying t with
    | some (.struct fs) => fs.toList.foldr (fun f acc => match zeroT P n f.type, acc with | some x, some y => some (.c x y) | _, _ => none) (some .u)
    | some (.array k e) => match zeroT P n e, (P.info? e).map (·.size) with
      | some x, some z => some (.ar k z fun _ => x)
      | _, _ => none
    | some _ => match (P.info? t).bind (·.zero) with
      | some v => if v.oneCell' then some (.s v) else none
      | none => none
    | none => none

def scEq : Value → Value → Bool
  | .int k a, .int k' b => k == k' && a == b
  | .bool a, .bool b => a == b
  | .string a, .string b => a.data.toList == b.data.toList
  | .pointer none, .pointer none | .slice none 0 0, .slice none 0 0 | .map none, .map none | .nilFunc, .nilFunc | .nilIface, .nilIface => true
  | _, _ => false

def scEqL : List Value → List Value → Bool
  | [], [] => true
  | a :: x, b :: y => scEq a b && scEqL x y
  | _, _ => false

def okB : GV → Bool
  | .s v => v.oneCell'
  | .u => true
  | .c h t => okB h && okB t
  | .ar n e f => (List.range n).all fun j => okB (f j) && GV.sz (f j) == e

/-- The parts' places, as the type tells them, are the tree's. -/
def bldOk (P : Program) (t : TypeId) (z : GV) (is : List Nat) : Bool :=
  match P.underlying t with
  | some (.struct fs) => match fs.toList.mapM (fun f => (P.info? f.type).map fun i => (f.offset, i.size)) with
    | some places => is.all fun i => (z.get [i]).isSome && places.toArray[i]? == some (z.offs [i], (z.getT [i]).sz)
    | none => false
  | some (.array _ e) => match P.info? e with
    | some i => is.all fun j => (z.get [j]).isSome && (j * i.size, i.size) == (z.offs [j], (z.getT [j]).sz)
    | none => false
  | _ => false

/-- A map's key, and what is read where there is none. -/
def mapT (P : Program) (t : TypeId) : Option (Option IntKind × Option Value) :=
  match P.underlying t with
  | some (.map k e) => match P.underlying k with
    | some (.int kd) => some (some kd, match (P.info? e).bind (·.zero) with | some z => if z.oneCell' then some z else none | none => none)
    | some .string => some (none, match (P.info? e).bind (·.zero) with | some z => if z.oneCell' then some z else none | none => none)
    | _ => none
  | _ => none

def cOp? (P : Program) (o : Oper) : Option RO :=
  match o.op with
  | .move x | .assign x => (cOpd x).map .mv
  | .pick c a b => match cOpd c, cOpd a, cOpd b with
    | some c, some a, some b => some (.pick c a b)
    | _, _, _ => none
  | .box e x => (cOpd x).map (.box e)
  | .alloc e => match zeroT P 8 e, (P.info? e).bind (·.zero) with
    | some z, some v => if okB z && scEqL z.flat v.cells.toList then some (.new e z) else none
    | _, _ => none
  | .fieldAddr s x f => match P.underlying s, cOpd x with
    | some (.struct fs), some x => match fs[f]? with
      | some fd => match P.info? fd.type with
        | some i => if i.size = 0 then none else some (.fldA x f fd.offset)
        | none => none
      | none => none
    | _, _ => none
  | .indexAddr t x i => match P.underlying t, cOpd x, cOpd i with
    | some (.array n e), some x, some i => (P.info? e).map fun z => .idxA x i n z.size
    | some (.slice e), some x, some i => (P.info? e).map fun z => .idxS x i z.size
    | _, _, _ => none
  | .load t x => match P.underlying t, P.info? t, cOpd x with
    | some d, some i, some x => some (.ld x i.size (agD d))
    | _, _, _ => none
  | .store t x v => match P.info? t, cOpd x, cOpd v with
    | some i, some x, some v => some (.st x v i.size)
    | _, _, _ => none
  | .binOp op t x y _ => match P.underlying t, cOpd x, cOpd y with
    | some (.int _), some x, some y => some (.bin op x y)
    | some .string, some x, some y => some (.bin op x y)
    | some _, some x, some y => match op with
      | .eql => some (.eqA false t x y)
      | .neq => some (.eqA true t x y)
      | _ => none
    | _, _, _ => none
  | .unOp op _ x => (cOpd x).map (.un op)
  | .field t x f => match P.underlying t, cOpd x with
    | some (.struct fs), some x => match fs[f]? with
      | some fd => match P.underlying fd.type, P.info? fd.type with
        | some d, some i => some (.fldV x f fd.offset i.size (agD d))
        | _, _ => none
      | none => none
    | _, _ => none
  | .index t x i => match P.underlying t, cOpd x, cOpd i with
    | some (.array n e), some x, some i => match P.underlying e, P.info? e with
      | some d, some z => some (.idxV x i n z.size (agD d))
      | _, _ => none
    | some .string, some x, some i => some (.strI x i)
    | _, _, _ => none
  | .slice t x lo hi mx => match P.underlying t, cOpd x, cOpdO lo, cOpdO hi, mx with
    | some .string, some x, some lo, some hi, none => some (.slS x lo hi)
    | some (.slice e), some x, some lo, some hi, none => (P.info? e).map fun z => .sl z.size x lo hi
    | _, _, _, _, _ => none
  | .convert s t x => match P.underlying s, P.underlying t, cOpd x with
    | some (.int _), some (.int k), some x => some (.cvI k x)
    | some (.slice e), some .string, some x => match P.underlying e with
      | some (.int .u8) => some (.b2s x)
      | _ => none
    | some .string, some (.slice e), some x => match P.underlying e with
      | some (.int .u8) => some (.s2b e x)
      | _ => none
    | _, _, _ => none
  | .nilCheck x => (cOpd x).map .nilc
  | .makeFunc fn first caps => match fn, first.toList with
    | .func f, [] => (caps.toList.mapM cOpd).map (.mkf f)
    | _, _ => none
  | .build t parts => match zeroT P 8 t, (P.info? t).bind (·.zero), parts.toList.mapM (fun x => (cOpd x.2).map fun y => (x.1, y)) with
    | some z, some zv, some l => if !z.isS && okB z && scEqL z.flat zv.cells.toList && bldOk P t z (l.map (·.1)) then some (.bld z l) else none
    | _, _, _ => none
  | .buildSlice t n parts => match P.underlying t, (parts.toList.mapM fun x => cOpd x.2) with
    | some (.slice e), some l => match P.info? e, zeroT P 8 e with
      | some i, some df => if n == parts.size && i.zero.isSome && decide (parts.size * i.size ≤ 2 ^ 24) && (parts.toList.map (·.1) == List.range parts.size) then some (.bldS e i.size df l) else none
      | _, _ => none
    | _, _ => none
  | .extract x i => (cOpd x).map (.ext · i)
  | .call c => match c.callee with
    | .value (.tmp v) => (c.args.toList.mapM cOpd).map (.callV (.t v))
    | .value (.func f) => match P.funcs[f]? with
      | some fn => if fn.body.isSome && fn.name != "runtime.NumGoroutine" then (c.args.toList.mapM cOpd).map (.call f) else none
      | none => none
    | .builtin .len => match c.args.toList, c.argTypes[0]? with
      | [x], some t => match P.underlying t with
        | some (.slice _) => (cOpd x).map .len
        | some .string => (cOpd x).map .lenS
        | some (.map _ _) => match mapT P t, cOpd x with
          | some (kd, _), some x => some (.mln kd x)
          | _, _ => none
        | _ => none
      | _, _ => none
    | .builtin .append => match c.args.toList, c.argTypes[0]?, c.argTypes[1]? with
      | [x, y], some t, some t2 => match P.underlying t, P.underlying t2, cOpd x, cOpd y with
        | some (.slice e), some (.slice _), some x, some y => match P.info? e, zeroT P 8 e with
          | some i, some df => match i.zero with
            | some zv => if zv.cells.size == i.size && i.bytes != 0 then some (.app e i.size i.bytes df x y) else none
            | none => none
          | _, _ => none
        | some (.slice e), some (.int _), some x, some y => match P.info? e, zeroT P 8 e with
          | some i, some df => match i.zero with
            | some zv => if (okB df && scEqL df.flat zv.cells.toList && df.sz == i.size) && zv.cells.size == i.size && i.bytes != 0 && i.size != 0 then some (.appZ e i.size i.bytes df x y) else none
            | none => none
          | _, _ => none
        | _, _, _, _ => none
      | _, _, _ => none
    | .builtin .min => match c.args.toList with
      | [x, y] => match cOpd x, cOpd y with
        | some x, some y => some (.mnx false x y)
        | _, _ => none
      | _ => none
    | .builtin .max => match c.args.toList with
      | [x, y] => match cOpd x, cOpd y with
        | some x, some y => some (.mnx true x y)
        | _, _ => none
      | _ => none
    | .builtin .cap => match c.args.toList, c.argTypes[0]? with
      | [x], some t => match P.underlying t with
        | some (.slice _) => (cOpd x).map .capS
        | _ => none
      | _, _ => none
    | .builtin .delete => match c.args.toList, c.argTypes[0]? with
      | [x, i], some t => match mapT P t, cOpd x, cOpd i with
        | some (kd, _), some x, some i => some (.mdl kd x i)
        | _, _, _ => none
      | _, _ => none
    | _ => none
  | .makeSlice t n c => match P.underlying t, cOpd n, cOpd c with
    | some (.slice e), some n, some c => match P.info? e, zeroT P 8 e with
      | some i, some df => match i.zero with
        | some zv => if (okB df && scEqL df.flat zv.cells.toList && df.sz == i.size) && zv.cells.size == i.size && i.bytes != 0 then some (.mks e i.size i.bytes df n c) else none
        | none => none
      | _, _ => none
    | _, _, _ => none
  | .makeMap _ r => match r with
    | none => some .mkm
    | some _ => none
  | .lookup t x i ok => match mapT P t, cOpd x, cOpd i with
    | some (kd, some z), some x, some i => some (.mlk kd x i z ok)
    | _, _, _ => none
  | .mapUpdate t x i v | .insert t x i v => match mapT P t, cOpd x, cOpd i, cOpd v with
    | some (kd, _), some x, some i, some v => some (.mup kd x i v)
    | _, _, _, _ => none
  | .range t x => match mapT P t, cOpd x with
    | some (kd, _), some x => some (.rng kd x)
    | _, _ => none
  | .next x false => (cOpd x).map .nxt
  | .entry x => (cOpd x).map .ent
  | _ => none

def cOp (P : Program) (o : Oper) : RO := (cOp? P o).getD .bot

def gOf (ops : Array Oper) (o : Oper) : Option (Nat × Bool) := o.guard.map fun x => (((ops[x.1]?).bind (·.dst)).getD 0, x.2)

/-- Operations with one guard together. -/
def grp (ops : Array Oper) : List Oper → List (Option (Nat × Bool) × List Oper)
  | [] => []
  | o :: r => match grp ops r with
    | (h, l) :: s => if h = gOf ops o then (gOf ops o, o :: l) :: s else (gOf ops o, [o]) :: (h, l) :: s
    | [] => [(gOf ops o, [o])]

def cSeg (P : Program) (x : Option (Nat × Bool) × List Oper) : Seg := ⟨x.1, x.2.map fun o => (o.dst, cOp P o)⟩
def cSegs (P : Program) (ops : Array Oper) (l : List Oper) : List Seg := (grp ops l).map (cSeg P)

def dstOk (N : Nat) (o : Oper) : Bool := match o.dst with
  | some d => decide (d < N)
  | none => true

def guardOk (ops : Array Oper) (o : Oper) : Bool := match o.guard with
  | some (j, _) => match (ops[j]?).bind (·.dst) with
    | some t => o.dst != some t
    | none => false
  | none => true

def isQ (P : Program) (o : Oper) : Bool := match cOp P o with
  | .call .. | .callV .. => true
  | r => isRd r

/-- What looks at its slots alone. -/
def isPure : RO → Bool
  | .ld .. | .b2s _ | .mlk .. | .mln .. | .ent _ => false
  | r => isRd r

def segOf (P : Program) (ops : Array Oper) (i : Nat) : Seg := match ops[i]? with
  | some o => ⟨gOf ops o, [(o.dst, cOp P o)]⟩
  | none => ⟨none, []⟩

def orL : List OT → OT
  | [] => .bad
  | [x] => x
  | x :: r => .or x (orL r)

/-- The orders in which operations may come up; what is pure, ahead. -/
def otOf (P : Program) (ops : Array Oper) : Nat → Array Bool → OT
  | 0, listed => bif (Region.ready .any ops listed).isEmpty then .done else .bad
  | f + 1, listed =>
    bif (Region.ready .any ops listed).isEmpty then .done else
    match (Region.ready .any ops listed).find? (fun i => (match ops[i]? with | some o => isPure (cOp P o) | none => false) && Region.free .any ops listed i) with
    | some i => .op (segOf P ops i) (otOf P ops f (listed.setIfInBounds i true))
    | none => orL ((Region.ready .any ops listed).map fun i => .op (segOf P ops i) (otOf P ops f (listed.setIfInBounds i true)))

def isLd : RO → Bool
  | .ld .. => true
  | _ => false

/-- The same; loads, where they may, ahead. -/
def otOfH (P : Program) (ops : Array Oper) : Nat → Array Bool → OT
  | 0, listed => bif (Region.ready .any ops listed).isEmpty then .done else .bad
  | f + 1, listed =>
    bif (Region.ready .any ops listed).isEmpty then .done else
    match (Region.ready .any ops listed).find? (fun i => (match ops[i]? with | some o => isPure (cOp P o) | none => false) && Region.free .any ops listed i) with
    | some i => .op (segOf P ops i) (otOfH P ops f (listed.setIfInBounds i true))
    | none => match (Region.ready .any ops listed).find? (fun i => (match ops[i]? with | some o => isLd (cOp P o) | none => false) && Region.free .any ops listed i) with
      | some i => .first (segOf P ops i) (otOfH P ops f (listed.setIfInBounds i true))
      | none => orL ((Region.ready .any ops listed).map fun i => .op (segOf P ops i) (otOfH P ops f (listed.setIfInBounds i true)))

/-- The slots from which loads go out, and that no operation fills. -/
def heldTs (P : Program) (ops : Array Oper) : List Nat :=
  (ops.toList.filterMap fun o => match cOp P o with
    | .fldA (.t x) _ _ => if ops.all (fun o => o.dst != some x) then some x else none
    | .ld (.t x) _ _ => if ops.all (fun o => o.dst != some x) then some x else none
    | _ => none).eraseDups

/-- ns: of each region whose order is open, how many of its operations only look. -/
def compR (P : Program) (N : Nat) (ns : List (Nat × Nat)) (id : Nat) (ops : Array Oper) (draw : Bool) : Cd :=
  bif ops.all (dstOk N) && ops.all (guardOk ops) then
    bif draw then
      match look ns id with
      | some n =>
        bif n == 999999 then (bif P.follows .mixedOrders && Region.noSelect ops then .rga (otOf P ops ops.size (Array.replicate ops.size false)) [] else .raw (.region id ops draw)) else
        bif n == 999998 then (bif (P.follows .mixedOrders && Region.noSelect ops) && ops.all (fun o => (heldTs P ops).all fun t => o.dst != some t) then .rga (.held (heldTs P ops) (otOfH P ops ops.size (Array.replicate ops.size false))) [] else .raw (.region id ops draw)) else
        bif P.follows .mixedOrders && (bif n == ops.size then Region.lexB .any ops else Region.lexTailB .any ops n) then .rgq (cSegs P ops (ops.toList.take n)) (cSegs P ops (ops.toList.drop n)) [] else .raw (.region id ops draw)
      | none => .raw (.region id ops draw)
    else .rg (cSegs P ops ops.toList) []
  else .raw (.region id ops draw)

theorem compR_cases (P : Program) (N : Nat) (ns : List (Nat × Nat)) (id : Nat) (ops : Array Oper) (draw : Bool) :
    (draw = false ∧ ops.all (dstOk N) = true ∧ ops.all (guardOk ops) = true ∧ compR P N ns id ops draw = .rg (cSegs P ops ops.toList) []) ∨
    (∃ n, draw = true ∧ ops.all (dstOk N) = true ∧ ops.all (guardOk ops) = true ∧ P.follows .mixedOrders = true ∧ ((n = ops.size ∧ Region.lexB .any ops = true) ∨ (n ≠ ops.size ∧ Region.lexTailB .any ops n = true)) ∧
      compR P N ns id ops draw = .rgq (cSegs P ops (ops.toList.take n)) (cSegs P ops (ops.toList.drop n)) []) ∨
    (draw = true ∧ ops.all (dstOk N) = true ∧ ops.all (guardOk ops) = true ∧ P.follows .mixedOrders = true ∧ Region.noSelect ops = true ∧
      compR P N ns id ops draw = .rga (otOf P ops ops.size (Array.replicate ops.size false)) []) ∨
    (draw = true ∧ ops.all (dstOk N) = true ∧ ops.all (guardOk ops) = true ∧ P.follows .mixedOrders = true ∧ Region.noSelect ops = true ∧ ops.all (fun o => (heldTs P ops).all fun t => o.dst != some t) = true ∧
      compR P N ns id ops draw = .rga (.held (heldTs P ops) (otOfH P ops ops.size (Array.replicate ops.size false))) []) ∨
    compR P N ns id ops draw = .raw (.region id ops draw) := by
  unfold compR
  cases h1 : ops.all (dstOk N) && ops.all (guardOk ops) with
  | false => exact .inr (.inr (.inr (.inr rfl)))
  | true =>
    simp only [Bool.and_eq_true] at h1
    cases draw with
    | false => exact .inl ⟨by first | rfl | trivial, h1.1, h1.2, by first | rfl | trivial⟩
    | true =>
      simp only [cond_true]
      cases look ns id with
      | none => exact .inr (.inr (.inr (.inr rfl)))
      | some n =>
        simp only
        cases h3 : n == 999999 with
        | true =>
          simp only [cond_true]
          cases h2 : P.follows .mixedOrders && Region.noSelect ops with
          | false => exact .inr (.inr (.inr (.inr rfl)))
          | true =>
            simp only [Bool.and_eq_true] at h2
            exact .inr (.inr (.inl ⟨by first | rfl | trivial, h1.1, h1.2, h2.1, h2.2, rfl⟩))
        | false =>
          simp only [cond_false]
          cases h4 : n == 999998 with
          | true =>
            simp only [cond_true]
            cases h2 : (P.follows .mixedOrders && Region.noSelect ops) && ops.all (fun o => (heldTs P ops).all fun t => o.dst != some t) with
            | false => exact .inr (.inr (.inr (.inr rfl)))
            | true =>
              rw [Bool.and_eq_true, Bool.and_eq_true] at h2
              exact .inr (.inr (.inr (.inl ⟨by first | rfl | trivial, h1.1, h1.2, h2.1.1, h2.1.2, h2.2, rfl⟩)))
          | false =>
          simp only [cond_false]
          cases h2 : P.follows .mixedOrders && (bif n == ops.size then Region.lexB .any ops else Region.lexTailB .any ops n) with
          | false => exact .inr (.inr (.inr (.inr rfl)))
          | true =>
            simp only [Bool.and_eq_true] at h2
            refine .inr (.inl ⟨n, by first | rfl | trivial, h1.1, h1.2, h2.1, ?_, rfl⟩)
            by_cases hn : n = ops.size
            · simp [hn] at h2; exact .inl ⟨hn, h2.2⟩
            · have hb : (n == ops.size) = false := by simpa using hn
              simp only [hb, cond_false] at h2
              exact .inr ⟨hn, h2.2⟩

def comp (P : Program) (N : Nat) (ns : List (Nat × Nat)) : Code → Cd
  | .skip => .skip
  | .ret => .ret
  | .exit id => .exit id
  | .seq a b => .seq (comp P N ns a) (comp P N ns b)
  | .cond c a b => match cOpd c with
    | some c' => .ite c' (comp P N ns a) (comp P N ns b)
    | none => .raw (.cond c a b)
  | .block id a => .block id (comp P N ns a)
  | .loop a => .loop (comp P N ns a)
  | .scope a => .scope (comp P N ns a)
  | .label _ => .skip
  | .region id ops draw => compR P N ns id ops draw
  | c => .raw c

def erSeg (s : Seg) : Seg := ⟨s.guard, s.ops.filter fun x => !x.2.isGh⟩

/-- Without the slots' lists and the marks for the eye. -/
def er : Cd → Cd
  | .seq a b => .seq (er a) (er b)
  | .ite c a b => .ite c (er a) (er b)
  | .block id a => .block id (er a)
  | .loop a => .loop (er a)
  | .scope a => .scope (er a)
  | .rg s _ => .rg (s.map erSeg) []
  | .rgq h t _ => .rgq h (t.map erSeg) []
  | .rga t _ => .rga t []
  | .gh a => er a
  | c => c

end Go.Proofs.Ytdpknchgoeboaaa.Vc
