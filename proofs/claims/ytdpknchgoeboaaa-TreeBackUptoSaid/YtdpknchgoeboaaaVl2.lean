/- What a law's arguments are: plain values, cell by cell. -/
import Derived.Test.YtdpknchgoeboaaaVl1
set_option linter.unusedVariables false
set_option linter.unusedSimpArgs false
namespace Go.Proofs.Ytdpknchgoeboaaa.Vc
open Go

/-- A plain cell's kind. -/
inductive K1 where
  | i (k : IntKind)
  | s
  | b
  | sl (t : TypeId)

def kOf (P : Program) (u : TypeId) : Option K1 := match P.underlying u with
  | some (.int k) => some (.i k)
  | some .string => some .s
  | some .bool => some .b
  | _ => none

def K1.is : K1 → Value → Prop
  | .i k, v => ∃ n, v = .int k n ∧ k.has n
  | .s, v => ∃ s, v = .string s ∧ (s.size : Int) ≤ IntKind.i64.max
  | .b, v => ∃ b, v = .bool b
  | .sl _, v => ∃ a n c, v = .slice a n c

/-- A plain value's content. -/
structure Raw where
  x : Nat → Int
  y : Nat → ByteArray
  z : Nat → Bool
  v : Nat → Value

def Raw.at (r : Raw) (i : Nat) : K1 → Value
  | .i k => .int k (r.x i)
  | .s => .string (r.y i)
  | .b => .bool (r.z i)
  | .sl _ => r.v i

def Raw.cells (r : Raw) : List K1 → Nat → List Value
  | [], _ => []
  | k :: l, i => r.at i k :: r.cells l (i + 1)

/-- Its numbers are numbers of their kind. -/
def Raw.fine (r : Raw) : List K1 → Nat → Prop
  | [], _ => True
  | k :: l, i => (match k with | .i k => k.has (r.x i) | .s => ((r.y i).size : Int) ≤ IntKind.i64.max | .b => True | .sl _ => ∃ a n c, r.v i = .slice a n c) ∧ r.fine l (i + 1)

theorem raw_of : ∀ (ks : List K1) (i : Nat) (cs : List Value), cs.length = ks.length → (∀ (j : Nat) (v : Value) (k : K1), cs[j]? = some v → ks[j]? = some k → k.is v) → ∃ r : Raw, cs = r.cells ks i ∧ r.fine ks i
  | [], i, cs, hl, _ => by
    have : cs = [] := by simpa using hl
    subst this
    exact ⟨⟨fun _ => 0, fun _ => ⟨#[]⟩, fun _ => false, fun _ => undef⟩, rfl, trivial⟩
  | k :: ks, i, cs, hl, h => by
    cases cs with
    | nil => simp at hl
    | cons v cs =>
      obtain ⟨r, hr, hf⟩ := raw_of ks (i + 1) cs (by simpa using hl) (fun j v k hj hk => h (j + 1) v k (by simpa using hj) (by simpa using hk))
      have h0 := h 0 v k rfl rfl
      have key : ∀ (r' : Raw), (∀ j, i < j → r'.x j = r.x j ∧ r'.y j = r.y j ∧ r'.z j = r.z j ∧ r'.v j = r.v j) → (∀ l m, i < m → r'.cells l m = r.cells l m) ∧ (∀ l m, i < m → (r'.fine l m ↔ r.fine l m)) := by
        intro r' hs
        constructor
        · intro l
          induction l with
          | nil => intro m _; rfl
          | cons q l ih =>
            intro m hm
            obtain ⟨e1, e2, e3, e4⟩ := hs m hm
            simp only [Raw.cells, ih (m + 1) (by omega)]
            congr 1
            cases q <;> simp [Raw.at, e1, e2, e3, e4]
        · intro l
          induction l with
          | nil => intro m _; exact Iff.rfl
          | cons q l ih =>
            intro m hm
            obtain ⟨e1, e2, e3, e4⟩ := hs m hm
            simp only [Raw.fine, ih (m + 1) (by omega), e1, e2, e4]
      cases k with
      | i k =>
        obtain ⟨n, rfl, hn⟩ := h0
        refine ⟨⟨fun j => if j = i then n else r.x j, r.y, r.z, r.v⟩, ?_, ?_⟩
        · obtain ⟨g1, g2⟩ := key ⟨fun j => if j = i then n else r.x j, r.y, r.z, r.v⟩ (fun j hj => ⟨by simp; omega, rfl, rfl, rfl⟩)
          simp only [Raw.cells, g1 ks (i + 1) (by omega), ← hr, Raw.at, if_true]
        · obtain ⟨g1, g2⟩ := key ⟨fun j => if j = i then n else r.x j, r.y, r.z, r.v⟩ (fun j hj => ⟨by simp; omega, rfl, rfl, rfl⟩)
          exact ⟨by simpa using hn, (g2 ks (i + 1) (by omega)).2 hf⟩
      | s =>
        obtain ⟨n, rfl, hn⟩ := h0
        refine ⟨⟨r.x, fun j => if j = i then n else r.y j, r.z, r.v⟩, ?_, ?_⟩
        · obtain ⟨g1, g2⟩ := key ⟨r.x, fun j => if j = i then n else r.y j, r.z, r.v⟩ (fun j hj => ⟨rfl, by simp; omega, rfl, rfl⟩)
          simp only [Raw.cells, g1 ks (i + 1) (by omega), ← hr, Raw.at, if_true]
        · obtain ⟨g1, g2⟩ := key ⟨r.x, fun j => if j = i then n else r.y j, r.z, r.v⟩ (fun j hj => ⟨rfl, by simp; omega, rfl, rfl⟩)
          exact ⟨by simpa using hn, (g2 ks (i + 1) (by omega)).2 hf⟩
      | b =>
        obtain ⟨n, rfl⟩ := h0
        refine ⟨⟨r.x, r.y, fun j => if j = i then n else r.z j, r.v⟩, ?_, ?_⟩
        · obtain ⟨g1, g2⟩ := key ⟨r.x, r.y, fun j => if j = i then n else r.z j, r.v⟩ (fun j hj => ⟨rfl, rfl, by simp; omega, rfl⟩)
          simp only [Raw.cells, g1 ks (i + 1) (by omega), ← hr, Raw.at, if_true]
        · obtain ⟨g1, g2⟩ := key ⟨r.x, r.y, fun j => if j = i then n else r.z j, r.v⟩ (fun j hj => ⟨rfl, rfl, by simp; omega, rfl⟩)
          exact ⟨trivial, (g2 ks (i + 1) (by omega)).2 hf⟩
      | sl t =>
        obtain ⟨a, n, c, rfl⟩ := h0
        refine ⟨⟨r.x, r.y, r.z, fun j => if j = i then .slice a n c else r.v j⟩, ?_, ?_⟩
        · obtain ⟨g1, g2⟩ := key ⟨r.x, r.y, r.z, fun j => if j = i then .slice a n c else r.v j⟩ (fun j hj => ⟨rfl, rfl, rfl, by simp; omega⟩)
          simp only [Raw.cells, g1 ks (i + 1) (by omega), ← hr, Raw.at, if_true]
        · obtain ⟨g1, g2⟩ := key ⟨r.x, r.y, r.z, fun j => if j = i then .slice a n c else r.v j⟩ (fun j hj => ⟨rfl, rfl, rfl, by simp; omega⟩)
          exact ⟨⟨a, n, c, by simp⟩, (g2 ks (i + 1) (by omega)).2 hf⟩

section
variable {P : Program} {W : World} {r : Reach} {base : Nat} {t : TypeId} {v : Value}

theorem cell_kind {u : TypeId} {k : K1} (hk : kOf P u = some k) (h : Cell.okWide P W r base u v) : k.is v := by
  unfold kOf at hk
  unfold Cell.okWide Cell.ok at h
  cases hu : P.underlying u with
  | none => simp [hu] at hk
  | some d =>
    rw [hu] at hk h
    cases d <;> simp only [Option.some.injEq, reduceCtorEq] at hk <;> subst hk <;> cases v <;> simp only at h <;> first | exact h.elim | skip
    · exact ⟨_, rfl⟩
    · obtain ⟨rfl, h⟩ := h; exact ⟨_, rfl, h⟩
    · exact ⟨_, rfl, h⟩

theorem row_raw {cs : Array Value} {ts : List TypeId} {ks : List K1} (hts : P.cellTypes P.depth t = some ts) (hks : ts.mapM (kOf P) = some ks) (hsz : cs.size = ts.length) (h : Row.okWide P W r base t cs) : ∃ q : Raw, cs = (q.cells ks 0).toArray ∧ q.fine ks 0 := by
  obtain ⟨ts', e, _, h⟩ := h
  rw [hts] at e
  obtain rfl : ts = ts' := by simpa using e
  have hlen : ∀ {l : List TypeId} {m : List K1}, l.mapM (kOf P) = some m → m.length = l.length ∧ ∀ (j : Nat) (u : TypeId) (k : K1), l[j]? = some u → m[j]? = some k → kOf P u = some k := by
    intro l
    induction l with
    | nil => intro m hm; simp at hm; subst hm; exact ⟨rfl, fun j u k h1 => by simp at h1⟩
    | cons a l ih =>
      intro m hm
      simp only [List.mapM_cons, Option.bind_eq_bind, Option.bind_eq_some_iff, Option.pure_def, Option.some.injEq] at hm
      obtain ⟨k0, h1, m', h2, rfl⟩ := hm
      obtain ⟨g1, g2⟩ := ih h2
      refine ⟨by simp [g1], fun j u k h3 h4 => ?_⟩
      cases j with
      | zero => simp at h3 h4; subst h3; subst h4; exact h1
      | succ j => exact g2 j u k (by simpa using h3) (by simpa using h4)
  obtain ⟨g1, g2⟩ := hlen hks
  obtain ⟨q, hq, hf⟩ := raw_of ks 0 cs.toList (by simp [hsz, g1]) (fun j v k hj hk => by
    have hj' : cs[j]? = some v := by simpa using hj
    have hjlt : j < ts.length := by rw [← hsz]; exact (Array.getElem?_eq_some_iff.1 hj').1
    obtain ⟨u, hu, hc⟩ := h j v hj'
    rw [Nat.mod_eq_of_lt hjlt] at hu
    exact cell_kind (g2 j u k hu hk) hc)
  exact ⟨q, by rw [← hq], hf⟩

def agDo : Option TypeDesc → Bool
  | some (.struct _) | some (.array _ _) => true
  | _ => false

/-- An argument of a struct's or an array's type. -/
theorem open_agg {ts : List TypeId} {ks : List K1} (hu : agDo (P.underlying t) = true) (hts : P.cellTypes P.depth t = some ts) (hks : ts.mapM (kOf P) = some ks) (hsz : P.cellsOf t = ts.length) (h : Value.okWide P W r base t v) :
    ∃ q : Raw, v = .agg (q.cells ks 0).toArray ∧ q.fine ks 0 := by
  unfold Value.okWide at h
  have key : (∃ cs, v = .agg cs ∧ cs.size = P.cellsOf t ∧ Row.okWide P W r base t cs) → ∃ q : Raw, v = .agg (q.cells ks 0).toArray ∧ q.fine ks 0 := by
    rintro ⟨cs, rfl, h1, h2⟩
    obtain ⟨q, rfl, hf⟩ := row_raw hts hks (by rw [h1, hsz]) h2
    exact ⟨q, rfl, hf⟩
  cases hd : P.underlying t with
  | none => rw [hd] at hu; cases hu
  | some d =>
    rw [hd] at h hu
    cases d <;> first | (cases hu; done) | exact key h

theorem open_sc {k : K1} (hk : kOf P t = some k) (h : Value.okWide P W r base t v) : k.is v := by
  refine cell_kind (W := W) (r := r) (base := base) hk ?_
  unfold Value.okWide at h
  unfold kOf at hk
  cases hd : P.underlying t with
  | none => rw [hd] at hk; cases hk
  | some d =>
    rw [hd] at h hk
    cases d <;> first | (cases hk; done) | exact h
end


theorem cells_append (q : Raw) : ∀ (a b : List K1) (o : Nat), q.cells (a ++ b) o = q.cells a o ++ q.cells b (o + a.length)
  | [], b, o => by simp [Raw.cells]
  | k :: a, b, o => by
    simp only [List.cons_append, Raw.cells, cells_append q a b (o + 1), List.length_cons]
    rw [show o + 1 + a.length = o + (a.length + 1) by omega]

def kVec : List K1 := List.replicate 8 (.i .i64)
theorem kVec_len : kVec.length = 8 := rfl
theorem gVec_flat (q : Raw) (o : Nat) : GV.flat (gVec fun j => q.x (o + j)) = q.cells kVec o := by
  simp [gVec, GV.flat, kVec, Raw.cells, Raw.at, List.replicate, List.range, List.range.loop]
def kVec2 : List K1 := kVec ++ kVec ++ kVec ++ kVec ++ kVec ++ kVec ++ kVec ++ kVec
theorem kVec2_len : kVec2.length = 64 := rfl
theorem gVec2_flat (q : Raw) (o : Nat) : GV.flat (gVec2 fun i j => q.x (o + i * 8 + j)) = q.cells kVec2 o := by
  have h : ∀ i, GV.flat (gVec fun j => q.x (o + i * 8 + j)) = q.cells kVec (o + i * 8) := fun i => gVec_flat q (o + i * 8)
  simp only [gVec2, GV.flat, List.range, List.range.loop, List.flatMap_cons, List.flatMap_nil, h, kVec2, cells_append, List.length_append, kVec_len]
  simp [Nat.add_assoc]

end Go.Proofs.Ytdpknchgoeboaaa.Vc
