/- Parts: what they are, plain and in memory. -/
import Derived.Test.YtgkdipfmhjlbhaaVsb
import Derived.Test.YtgkdipfmhjlbhaaVc11
set_option linter.unusedVariables false
set_option linter.unusedSimpArgs false
namespace Go.Proofs.Ytgkdipfmhjlbhaa.Vc
open Go

/-- A part, plain. -/
structure AP where
  snap : Int
  index : Int
  many : Int
  data : List UInt8
def zAP : AP := ⟨0, 0, 0, []⟩

/-- A part that reads so. -/
def PartR (u : PH) (p : Part) (a : AP) : Prop := p.snap = a.snap ∧ p.index = a.index ∧ p.many = a.many ∧ SlR u p.data 1 (a.data.map gb)
def PartsR' (u : PH) : List Part → List AP → Prop
  | [], [] => True
  | p :: ps, a :: al => PartR u p a ∧ PartsR' u ps al
  | _, _ => False
/-- Parts that read so. -/
def PartsR (u : PH) (v : Value) (al : List AP) : Prop := ∃ ps, SlR u v 4 (ps.map gPart) ∧ PartsR' u ps al

theorem PartR.up {u v : PH} {p : Part} {a : AP} (h : PartR u p a) (hs : PH.sub u v) : PartR v p a := ⟨h.1, h.2.1, h.2.2.1, h.2.2.2.up hs⟩
theorem PartsR'.up {u v : PH} (hs : PH.sub u v) : ∀ {ps : List Part} {al : List AP}, PartsR' u ps al → PartsR' v ps al
  | [], [], _ => trivial
  | p :: ps, a :: al, h => ⟨h.1.up hs, PartsR'.up hs h.2⟩
  | [], _ :: _, h => h.elim
  | _ :: _, [], h => h.elim
theorem PartsR.up {u v : PH} {x : Value} {al : List AP} (h : PartsR u x al) (hs : PH.sub u v) : PartsR v x al := by
  obtain ⟨ps, h1, h2⟩ := h
  exact ⟨ps, h1.up hs, h2.up hs⟩
theorem PartsR'.len {u : PH} : ∀ {ps : List Part} {al : List AP}, PartsR' u ps al → ps.length = al.length
  | [], [], _ => rfl
  | p :: ps, a :: al, h => by simp [PartsR'.len h.2]
  | [], _ :: _, h => h.elim
  | _ :: _, [], h => h.elim
theorem PartsR'.at {u : PH} : ∀ {ps : List Part} {al : List AP}, PartsR' u ps al → ∀ i, i < al.length → PartR u (ps.getD i zPart) (al.getD i zAP)
  | [], [], _, i, hi => by simp at hi
  | p :: ps, a :: al, h, 0, _ => by simpa using h.1
  | p :: ps, a :: al, h, i + 1, hi => by
    have := PartsR'.at h.2 i (by simpa using hi)
    simpa using this
  | [], _ :: _, h, _, _ => h.elim
  | _ :: _, [], h, _, _ => h.elim
theorem PartsR'.app {u : PH} : ∀ {ps qs : List Part} {al bs : List AP}, PartsR' u ps al → PartsR' u qs bs → PartsR' u (ps ++ qs) (al ++ bs)
  | [], _, [], _, _, h => h
  | p :: ps, _, a :: al, _, h, h' => ⟨h.1, PartsR'.app h.2 h'⟩
  | [], _, _ :: _, _, h, _ => h.elim
  | _ :: _, _, [], _, h, _ => h.elim
theorem PartsR'.take {u : PH} : ∀ {ps : List Part} {al : List AP} (n : Nat), PartsR' u ps al → PartsR' u (ps.take n) (al.take n)
  | _, _, 0, _ => by simp [PartsR']
  | [], [], n + 1, _ => trivial
  | p :: ps, a :: al, n + 1, h => ⟨h.1, PartsR'.take n h.2⟩
  | [], _ :: _, _ + 1, h => h.elim
  | _ :: _, [], _ + 1, h => h.elim
theorem PartsR'.drop {u : PH} : ∀ {ps : List Part} {al : List AP} (n : Nat), PartsR' u ps al → PartsR' u (ps.drop n) (al.drop n)
  | _, _, 0, h => h
  | [], [], n + 1, _ => trivial
  | p :: ps, a :: al, n + 1, h => PartsR'.drop n h.2
  | [], _ :: _, _ + 1, h => h.elim
  | _ :: _, [], _ + 1, h => h.elim

/-- How long a slice is. -/
def slen : Value → Nat
  | .slice _ n _ => n
  | _ => 0
theorem PartR.sl {u : PH} {p : Part} {a : AP} (h : PartR u p a) : ∃ ad c, p.data = .slice ad a.data.length c := by
  obtain ⟨ad, c, e⟩ := slr_len h.2.2.2
  exact ⟨ad, c, by rw [e]; simp⟩
theorem PartR.ok {u : PH} {p : Part} {a : AP} (h : PartR u p a) : (gPart p).ok := by
  obtain ⟨ad, c, e⟩ := h.sl
  exact gPart_ok p (by rw [e]; rfl)

/-- May a part be? -/
def checkA (a : AP) : Bool := decide (1 ≤ a.snap ∧ a.snap ≤ 1099511627776 ∧ 1 ≤ a.many ∧ a.many ≤ 2048 ∧ 0 ≤ a.index ∧ a.index < a.many) && (if a.index = a.many - 1 then decide (1 ≤ a.data.length ∧ a.data.length ≤ 512) else decide (a.data.length = 512))
def goesAt (al : List AP) (i : Nat) : Bool := checkA (al.getD i zAP) && decide ((al.getD i zAP).snap = (al.getD 0 zAP).snap) && decide ((al.getD i zAP).many = (al.getD 0 zAP).many) && decide ((al.getD i zAP).index = i)
/-- Do parts go on? -/
def goesA (al : List AP) : Bool := (List.range al.length).all (goesAt al)
def addA (al : List AP) (p : AP) : List AP × Bool :=
  bif !checkA p || !goesA al then (al, false)
  else bif (p.index == 0) && (((al.length : Int) == 0) || decide ((al.getD 0 zAP).snap < p.snap)) then ([p], true)
  else bif decide ((al.length : Int) > 0) && (p.snap == (al.getD 0 zAP).snap) && (p.many == (al.getD 0 zAP).many) && (p.index == (al.length : Int)) then (al ++ [p], true)
  else (al, false)
theorem addA_bad {al : List AP} {a : AP} (h : checkA a = false ∨ goesA al = false) : addA al a = (al, false) := by
  rcases h with h | h <;> simp [addA, h]
theorem addA_no {al : List AP} {a : AP} (h : goesA al = true) (h1 : ¬ (a.index = 0 ∧ ((al.length : Int) = 0 ∨ (al.getD 0 zAP).snap < a.snap))) (h2 : ¬ ((al.length : Int) > 0 ∧ a.snap = (al.getD 0 zAP).snap ∧ a.many = (al.getD 0 zAP).many ∧ a.index = (al.length : Int))) : addA al a = (al, false) := by
  unfold addA
  generalize al.getD 0 zAP = z at *
  cases hc : checkA a with
  | false => simp
  | true =>
    have e1 : ((a.index == 0) && (((al.length : Int) == 0) || decide (z.snap < a.snap))) = false := by
      rw [Bool.eq_false_iff]; intro e; apply h1
      simpa only [Bool.and_eq_true, Bool.or_eq_true, beq_iff_eq, decide_eq_true_eq] using e
    have e2 : (decide ((al.length : Int) > 0) && (a.snap == z.snap) && (a.many == z.many) && (a.index == (al.length : Int))) = false := by
      rw [Bool.eq_false_iff]; intro e; apply h2
      simpa only [Bool.and_eq_true, beq_iff_eq, decide_eq_true_eq, and_assoc] using e
    rw [h, e1, e2]; rfl
theorem addA_one {al : List AP} {a : AP} (hc : checkA a = true) (h : goesA al = true) (h1 : a.index = 0 ∧ ((al.length : Int) = 0 ∨ (al.getD 0 zAP).snap < a.snap)) : addA al a = ([a], true) := by
  unfold addA
  have e1 : ((a.index == 0) && (((al.length : Int) == 0) || decide ((al.getD 0 zAP).snap < a.snap))) = true := by
    simpa only [Bool.and_eq_true, Bool.or_eq_true, beq_iff_eq, decide_eq_true_eq] using h1
  rw [hc, h, e1]; rfl
theorem addA_app {al : List AP} {a : AP} (hc : checkA a = true) (h : goesA al = true) (h1 : ¬ (a.index = 0 ∧ ((al.length : Int) = 0 ∨ (al.getD 0 zAP).snap < a.snap))) (h2 : (al.length : Int) > 0 ∧ a.snap = (al.getD 0 zAP).snap ∧ a.many = (al.getD 0 zAP).many ∧ a.index = (al.length : Int)) : addA al a = (al ++ [a], true) := by
  unfold addA
  have e1 : ((a.index == 0) && (((al.length : Int) == 0) || decide ((al.getD 0 zAP).snap < a.snap))) = false := by
    rw [Bool.eq_false_iff]; intro e; apply h1
    simpa only [Bool.and_eq_true, Bool.or_eq_true, beq_iff_eq, decide_eq_true_eq] using e
  have e2 : (decide ((al.length : Int) > 0) && (a.snap == (al.getD 0 zAP).snap) && (a.many == (al.getD 0 zAP).many) && (a.index == (al.length : Int))) = true := by
    simpa only [Bool.and_eq_true, beq_iff_eq, decide_eq_true_eq, and_assoc] using h2
  rw [hc, h, e1, e2]; rfl
def wantA (al : List AP) : Int × Int := if al = [] ∨ goesA al = false then (0, 0) else ((al.getD 0 zAP).snap, al.length)
def wholeA (al : List AP) : Option (List UInt8) := if al = [] ∨ goesA al = false ∨ (al.length : Int) ≠ (al.getD 0 zAP).many then none else some (al.flatMap (·.data))

theorem goes_all {al : List AP} : goesA al = true ↔ ∀ i, i < al.length → goesAt al i = true := by simp [goesA]
theorem goes_no {al : List AP} {i : Nat} (hi : i < al.length) (h : goesAt al i = false) : goesA al = false := by
  cases hg : goesA al with
  | false => rfl
  | true => rw [goes_all.1 hg i hi] at h; cases h
theorem goes_len {al : List AP} (h : goesA al = true) : al.length ≤ 2048 := by
  rcases Nat.eq_zero_or_pos al.length with h0 | h0
  · omega
  · have h1 := goes_all.1 h (al.length - 1) (by omega)
    simp only [goesAt, checkA, Bool.and_eq_true, decide_eq_true_eq] at h1
    obtain ⟨⟨⟨⟨h2, _⟩, _⟩, _⟩, h3⟩ := h1
    omega
end Go.Proofs.Ytgkdipfmhjlbhaa.Vc
