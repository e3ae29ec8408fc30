/- What a law's arguments are: cells of structs, slices, slices in structs; and how large. -/
import Derived.Test.YtdpknchgoeboaaaVl2
import Derived.OpenShut
import Derived.Deep.Slices
import Derived.SizedLaws
set_option linter.unusedVariables false
set_option linter.unusedSimpArgs false
namespace Go.Proofs.Ytdpknchgoeboaaa.Vc
open Go Go.ChangeShapes Go.WideShapes Go.ChangeAt

def kFields (g : TypeId → Option (List K1)) (P : Program) : List Field → Nat → Option (List K1)
  | [], _ => some []
  | f :: fs, o => if f.offset = o then (g f.type).bind fun l => if l.length = P.cellsOf f.type then (kFields g P fs (o + l.length)).map (l ++ ·) else none else none

/-- The kinds of a type's cells. -/
def kAll (P : Program) : Nat → TypeId → Option (List K1)
  | 0, _ => none
  | n + 1, t => match P.underlying t with
    | some .bool => some [.b]
    | some (.int k) => some [.i k]
    | some .string => some [.s]
    | some (.slice _) => some [.sl t]
    | some (.struct fs) => (kFields (kAll P n) P fs.toList 0).bind fun l => if l.length = P.cellsOf t then some l else none
    | some (.array m e) => (kAll P n e).bind fun l => if l.length = P.cellsOf e ∧ m * P.cellsOf e = P.cellsOf t then some ((List.range m).flatMap fun _ => l) else none
    | _ => none

section
variable {H : Type} (enc : TypeId × Value → H) (P : Program) (W : World)

/-- A cell that reads, and is not too large. -/
def RdT (t : TypeId) (v : Value) : Prop := ∃ fuel x, DataW.trod enc P W 0 (fun _ => true) true fuel t [v] = some x ∧ (x.1.weights P t).all (· ≤ reachBytes) = true

def KOk (k : K1) (v : Value) : Prop := k.is v ∧ (∀ s, v = .string s → s.size ≤ reachBytes) ∧ ∀ t, k = .sl t → RdT enc P W t v
end

section
variable {H : Type} {enc : TypeId × Value → H} {P : Program} {W : World}

theorem wf_has {k : IntKind} {n : Int} (h : (Lit.int k n).wf = true) : k.has n := by
  simpa [Lit.wf, IntKind.has] using h

theorem all_sub {a b : List Nat} (h : b.all (· ≤ reachBytes) = true) (hs : ∀ x ∈ a, x ∈ b) : a.all (· ≤ reachBytes) = true := by
  rw [List.all_eq_true] at h ⊢
  exact fun x hx => h x (hs x hx)

theorem weightsEach_mem : ∀ {ts : List TypeId} {ds : List (DataW H)} {i : Nat} {t : TypeId} {d : DataW H}, ts[i]? = some t → ds[i]? = some d → ∀ x ∈ d.weights P t, x ∈ DataW.weightsEach P ts ds
  | [], _, i, _, _, h, _ => by simp at h
  | t :: ts, [], i, _, _, _, h => by simp at h
  | t :: ts, d :: ds, 0, _, _, h1, h2 => by
    simp at h1 h2; subst h1; subst h2
    intro x hx; simp [DataW.weightsEach, hx]
  | t :: ts, d :: ds, i + 1, _, _, h1, h2 => by
    intro x hx
    have := weightsEach_mem (ts := ts) (ds := ds) (i := i) (by simpa using h1) (by simpa using h2) x hx
    simp [DataW.weightsEach, this]
theorem weightsAll_mem {e : TypeId} : ∀ {ds : List (DataW H)} {d : DataW H}, d ∈ ds → ∀ x ∈ d.weights P e, x ∈ DataW.weightsAll P e ds
  | [], _, h => by simp at h
  | d :: ds, d', h => by
    intro x hx
    rcases List.mem_cons.1 h with rfl | h
    · simp [DataW.weightsAll, hx]
    · simp [DataW.weightsAll, weightsAll_mem h x hx]

def Kinds (ks : List K1) (cs : List Value) : Prop := cs.length = ks.length ∧ ∀ (j : Nat) (v : Value) (k : K1), cs[j]? = some v → ks[j]? = some k → KOk enc P W k v

theorem Kinds.app {a b : List K1} {cs : List Value} (h1 : Kinds (enc := enc) (P := P) (W := W) a (cs.take a.length)) (h2 : Kinds (enc := enc) (P := P) (W := W) b (cs.drop a.length)) : Kinds (enc := enc) (P := P) (W := W) (a ++ b) cs := by
  obtain ⟨l1, h1⟩ := h1
  obtain ⟨l2, h2⟩ := h2
  simp only [List.length_take, List.length_drop] at l1 l2
  refine ⟨by simp; omega, fun j v k hj hk => ?_⟩
  rcases Nat.lt_or_ge j a.length with hl | hl
  · rw [List.getElem?_append_left hl] at hk
    exact h1 j v k (by rw [List.getElem?_take_of_lt hl]; exact hj) hk
  · rw [List.getElem?_append_right hl] at hk
    exact h2 (j - a.length) v k (by rw [List.getElem?_drop, show a.length + (j - a.length) = j by omega]; exact hj) hk

theorem trod_kinds : ∀ (n : Nat) (fuel : Nat) (t : TypeId) (ks : List K1) (cs : List Value) (x : DataW H × List MemPlace), kAll P n t = some ks → DataW.trod enc P W 0 (fun _ => true) true fuel t cs = some x →
    (x.1.weights P t).all (· ≤ reachBytes) = true → Kinds (enc := enc) (P := P) (W := W) ks cs := by
  intro n
  induction n with
  | zero => intro fuel t ks cs x hk; cases hk
  | succ n ih =>
    intro fuel t ks cs x hk h hw
    unfold kAll at hk
    have single : ∀ (k : K1) (v : Value), KOk enc P W k v → Kinds (enc := enc) (P := P) (W := W) [k] [v] := fun k v hkv => by
      refine ⟨rfl, fun j v' k' hj hk' => ?_⟩
      cases j with
      | zero => simp at hj hk'; subst hj; subst hk'; exact hkv
      | succ j => simp at hj
    cases hu : P.underlying t with
    | none => rw [hu] at hk; cases hk
    | some d =>
      rw [hu] at hk
      cases d with
      | bool =>
        obtain ⟨b, rfl, rfl⟩ := DataW.trod_bool hu h
        simp at hk; subst hk
        exact single _ _ ⟨⟨b, rfl⟩, (fun s hs => by cases hs), fun t e => by cases e⟩
      | int k =>
        obtain ⟨m, rfl, rfl, hwf⟩ := DataW.trod_int hu h
        simp at hk; subst hk
        exact single _ _ ⟨⟨m, rfl, wf_has hwf⟩, (fun s hs => by cases hs), fun t e => by cases e⟩
      | string =>
        obtain ⟨s, rfl, rfl, hl⟩ := DataW.trod_string hu h
        simp at hk; subst hk
        have : s.size ≤ reachBytes := by simpa [DataW.weights] using hw
        exact single _ _ ⟨⟨s, rfl, by unfold reachBytes at this; show (s.size : Int) ≤ 9223372036854775807; omega⟩, (fun s' hs => by cases hs; exact this), fun t e => by cases e⟩
      | slice e =>
        have hcs : ∃ a n c, cs = [.slice a n c] := by
          rcases DataW.trod_slice hu h with ⟨rfl, _⟩ | ⟨a, len, cap, _, _, _, _, rfl, _⟩
          · exact ⟨_, _, _, rfl⟩
          · exact ⟨_, _, _, rfl⟩
        obtain ⟨a, m, c, rfl⟩ := hcs
        simp at hk; subst hk
        refine single _ _ ⟨⟨a, m, c, rfl⟩, (fun s hs => by cases hs), fun t' e' => ?_⟩
        cases e'
        exact ⟨fuel, x, h, hw⟩
      | struct fs =>
        simp only [Option.bind_eq_some_iff] at hk
        obtain ⟨l, hl, hk⟩ := hk
        split at hk
        · rename_i hlen
          simp at hk; subst hk
          obtain ⟨xs, m, _, rfl, hcl, hxl, hf⟩ := DataW.trod_struct hu h
          simp only [DataW.weights, hu] at hw
          have key : ∀ (gs : List Field) (i o : Nat) (l' : List K1), (∀ k f, gs[k]? = some f → fs[i + k]? = some f) → i + gs.length = fs.size → kFields (kAll P n) P gs o = some l' → (cs.drop o).length = l'.length → Kinds (enc := enc) (P := P) (W := W) l' (cs.drop o) := by
            intro gs
            induction gs with
            | nil =>
              intro i o l' _ _ hl' hlen'
              simp [kFields] at hl'; subst hl'
              have : cs.drop o = [] := List.length_eq_zero_iff.mp (by simpa using hlen')
              rw [this]
              exact ⟨rfl, fun j v k hj => by simp at hj⟩
            | cons f gs ihg =>
              intro i o l' hgs hi hl' hlen'
              simp only [kFields] at hl'
              split at hl'
              · rename_i hoff
                simp only [Option.bind_eq_some_iff] at hl'
                obtain ⟨a, ha, hl'⟩ := hl'
                split at hl'
                · rename_i hal
                  simp only [Option.map_eq_some_iff] at hl'
                  obtain ⟨b, hb, rfl⟩ := hl'
                  have hfi := hgs 0 f rfl
                  rw [Nat.add_zero] at hfi
                  have hlt : i < fs.size := by simp at hi; omega
                  have ht := hf i f hfi
                  rw [List.getElem?_eq_getElem (by omega : i < xs.length)] at ht
                  have hk1 := ih m f.type a _ _ ha ht (all_sub hw (fun y hy => weightsEach_mem (i := i) (t := f.type) (d := xs[i].1) (by simp [hfi]) (by simp [List.getElem?_eq_getElem (by omega : i < xs.length)]) y hy))
                  rw [hoff, ← hal] at hk1
                  refine Kinds.app hk1 ?_
                  rw [List.drop_drop]
                  simp only [List.length_append] at hlen'
                  refine ihg (i + 1) (o + a.length) b (fun k f' hk' => ?_) (by simp at hi; omega) hb (by simp only [List.length_drop] at hlen' ⊢; omega)
                  have := hgs (k + 1) f' (by simpa using hk')
                  rw [show i + (k + 1) = i + 1 + k by omega] at this
                  exact this
                · cases hl'
              · cases hl'
          have := key fs.toList 0 0 l (fun k f hk => by simpa using hk) (by simp) hl (by simp [hcl, hlen])
          simpa using this
        · cases hk
      | array m e =>
        simp only [Option.bind_eq_some_iff] at hk
        obtain ⟨l, hl, hk⟩ := hk
        split at hk
        · rename_i hlen
          simp at hk; subst hk
          obtain ⟨xs, q, _, rfl, hcl, hxl, hf⟩ := DataW.trod_array hu h
          simp only [DataW.weights, hu] at hw
          have key : ∀ (r i : Nat), i + r = m → Kinds (enc := enc) (P := P) (W := W) ((List.range r).flatMap fun _ => l) (cs.drop (i * P.cellsOf e)) := by
            intro r
            induction r with
            | zero =>
              intro i hi
              have : cs.drop (i * P.cellsOf e) = [] := List.drop_eq_nil_of_le (by rw [hcl, ← hlen.2, show i = m by omega]; exact Nat.le_refl _)
              rw [this]
              exact ⟨rfl, fun j v k hj => by simp at hj⟩
            | succ r ihr =>
              intro i hi
              have hlt : i < xs.length := by omega
              have ht := hf i (by omega)
              rw [List.getElem?_eq_getElem hlt] at ht
              have hk1 := ih q e l _ _ hl ht (all_sub hw (fun y hy => weightsAll_mem (d := xs[i].1) (List.mem_map.2 ⟨xs[i], List.getElem_mem hlt, rfl⟩) y hy))
              have hr : (List.range (r + 1)).flatMap (fun _ => l) = l ++ (List.range r).flatMap (fun _ => l) := by
                rw [List.range_succ_eq_map, List.flatMap_cons, List.flatMap_map]
              rw [hr]
              rw [← hlen.1] at hk1
              refine Kinds.app (by rw [← hlen.1]; exact hk1) ?_
              rw [List.drop_drop, ← hlen.1]
              have := ihr (i + 1) (by omega)
              rw [← hlen.1, Nat.add_mul, Nat.one_mul] at this
              exact this
          have := key m 0 (by omega)
          simpa using this
        · cases hk
      | _ => cases hk

theorem cells_get (q : Raw) : ∀ (ks : List K1) (i j : Nat) (k : K1), ks[j]? = some k → (q.cells ks i)[j]? = some (q.at (i + j) k)
  | [], i, j, k, h => by simp at h
  | k0 :: ks, i, 0, k, h => by simp at h; subst h; rfl
  | k0 :: ks, i, j + 1, k, h => by
    have := cells_get q ks (i + 1) j k (by simpa using h)
    simp only [Raw.cells, List.getElem?_cons_succ, this]
    rw [show i + 1 + j = i + (j + 1) by omega]

/-- All about a plain struct's cells. -/
def Fine (enc : TypeId × Value → H) (P : Program) (W : World) (ks : List K1) (q : Raw) : Prop := ∀ (j : Nat) (k : K1), ks[j]? = some k → KOk enc P W k (q.at j k)

theorem kinds_raw {ks : List K1} {cs : List Value} (h : Kinds (enc := enc) (P := P) (W := W) ks cs) : ∃ q : Raw, cs = q.cells ks 0 ∧ Fine enc P W ks q := by
  obtain ⟨q, hq, _⟩ := raw_of ks 0 cs h.1 fun j v k hj hk => (h.2 j v k hj hk).1
  refine ⟨q, hq, fun j k hk => ?_⟩
  have := cells_get q ks 0 j k hk
  rw [Nat.zero_add] at this
  exact h.2 j _ k (by rw [hq]; exact this) hk

theorem Fine.int {ks : List K1} {q : Raw} (h : Fine enc P W ks q) {j : Nat} {k : IntKind} (hk : ks[j]? = some (.i k)) : k.has (q.x j) := by
  obtain ⟨n, h1, h2⟩ := (h j _ hk).1
  simp only [Raw.at, Value.int.injEq, true_and] at h1
  rw [h1]; exact h2
theorem Fine.str {ks : List K1} {q : Raw} (h : Fine enc P W ks q) {j : Nat} (hk : ks[j]? = some .s) : (q.y j).size ≤ reachBytes := (h j _ hk).2.1 _ rfl
theorem Fine.rd {ks : List K1} {q : Raw} (h : Fine enc P W ks q) {j : Nat} {t : TypeId} (hk : ks[j]? = some (.sl t)) : RdT enc P W t (q.v j) := (h j _ hk).2.2 t rfl
theorem Fine.slv {ks : List K1} {q : Raw} (h : Fine enc P W ks q) {j : Nat} {t : TypeId} (hk : ks[j]? = some (.sl t)) : (q.v j).oneCell' = true := by
  obtain ⟨a, n, c, e⟩ := (h j _ hk).1
  simp only [Raw.at] at e
  rw [e]; rfl

theorem choose_le {α : Type} {p : Nat → α → Prop} (d : α) : ∀ n, (∀ i, i < n → ∃ x, p i x) → ∃ f : Nat → α, ∀ i, i < n → p i (f i)
  | 0, _ => ⟨fun _ => d, fun i h => by omega⟩
  | n + 1, h => by
    obtain ⟨f, hf⟩ := choose_le d n fun i hi => h i (by omega)
    obtain ⟨x, hx⟩ := h n (by omega)
    refine ⟨fun i => if i = n then x else f i, fun i hi => ?_⟩
    by_cases e : i = n
    · subst e; simpa using hx
    · simp only [e, if_false]; exact hf i (by omega)

theorem flats_get {z : Nat} {n : Nat} {g : Nat → GV} (hz : ∀ i, i < n → (GV.flat (g i)).length = z) {j : Nat} {v : Value} (h : (flats ((List.range n).map g))[j]? = some v) : ∃ i k, i < n ∧ j = i * z + k ∧ k < z ∧ (GV.flat (g i))[k]? = some v := by
  have key : ∀ (r b j : Nat), b + r = n → (flats ((List.range' b r).map g))[j]? = some v → ∃ i k, i < n ∧ j + b * z = i * z + k ∧ k < z ∧ (GV.flat (g i))[k]? = some v := by
    intro r
    induction r with
    | zero => intro b j _ h; simp [flats] at h
    | succ r ih =>
      intro b j hb h
      have e : flats ((List.range' b (r + 1)).map g) = GV.flat (g b) ++ flats ((List.range' (b + 1) r).map g) := by simp [List.range'_succ, flats]
      rw [e] at h
      have hl := hz b (by omega)
      rcases Nat.lt_or_ge j (GV.flat (g b)).length with hj | hj
      · rw [List.getElem?_append_left hj] at h
        exact ⟨b, j, by omega, by omega, by omega, h⟩
      · rw [List.getElem?_append_right hj] at h
        obtain ⟨i, k, h1, h2, h3, h4⟩ := ih (b + 1) _ (by omega) h
        refine ⟨i, k, h1, ?_, h3, h4⟩
        rw [Nat.add_mul, Nat.one_mul] at h2
        omega
  rw [List.range_eq_range'] at h
  obtain ⟨i, k, h1, h2, h3, h4⟩ := key n 0 j (by omega) h
  exact ⟨i, k, h1, by omega, h3, h4⟩

/-- A slice of plain structs. -/
theorem rd_slice {t e : TypeId} {n0 : Nat} {ks : List K1} {v : Value} {g : Raw → GV} (ht : P.underlying t = some (.slice e)) (hk : kAll P n0 e = some ks) (hn : ks.length = P.cellsOf e) (h0 : 0 < P.cellsOf e) (hflat : ∀ q, (g q).flat = q.cells ks 0)
    (hok : ∀ q, (∀ j t', ks[j]? = some (.sl t') → (q.v j).oneCell' = true) → (g q).ok) (hsz : ∀ q, (g q).sz = P.cellsOf e) (h : RdT enc P W t v) :
    ∃ l : List Raw, SlR W.ph v (P.cellsOf e) (l.map g) ∧ l.length * P.bytesOf e ≤ reachBytes ∧ ∀ q ∈ l, Fine enc P W ks q := by
  obtain ⟨fuel, x, hx, hw⟩ := h
  rcases Go.Deep.open_slice ht hx with ⟨hv, rfl⟩ | ⟨a, len, cap, m, n, D, Pl, hv, _, hlc, _, hm, rfl, hel⟩
  · simp at hv; subst hv
    exact ⟨[], ⟨fun x hx => by simp at hx, .inl ⟨rfl, rfl⟩⟩, by simp, fun q hq => by simp at hq⟩
  · simp at hv; subst hv
    simp only [if_true] at hm
    subst hm
    simp only [DataW.weights, ht, List.all_cons, Bool.and_eq_true, decide_eq_true_eq, List.length_map, List.length_range] at hw
    obtain ⟨q, hq⟩ := choose_le (p := fun i q => W.cells? 0 (a.add (i * P.cellsOf e)) (P.cellsOf e) = some (Raw.cells q ks 0) ∧ Fine enc P W ks q) ⟨fun _ => 0, fun _ => ⟨#[]⟩, fun _ => false, fun _ => undef⟩ len fun i hi => by
      obtain ⟨cs', h1, h2⟩ := hel i (by omega)
      have hw' : ((D i).weights P e).all (· ≤ reachBytes) = true := all_sub hw.2 fun y hy => by
        refine List.mem_append_left _ (weightsAll_mem (d := D i) ?_ y hy)
        exact List.mem_map.2 ⟨i, List.mem_range.2 hi, rfl⟩
      obtain ⟨q, hq, hf⟩ := kinds_raw (trod_kinds n0 n e ks cs' _ hk h2 hw')
      exact ⟨q, by rw [← hq]; exact h1, hf⟩
    refine ⟨(List.range len).map q, ⟨fun y hy => ?_, ?_⟩, ?_, fun y hy => ?_⟩
    · rw [List.map_map] at hy
      obtain ⟨i, hi, rfl⟩ := List.mem_map.1 hy
      exact ⟨hok _ fun j t' hj => (hq i (List.mem_range.1 hi)).2.slv hj, hsz _⟩
    · refine .inr ⟨a, m, by simp, by simpa using hlc, fun hc => ?_⟩
      obtain ⟨cs0, h1, _⟩ := hel 0 hc
      obtain ⟨_, hl0, hc0⟩ := World.cells?_some h1
      have hblk : ∃ cs e' fz, a.spot = none ∧ W.heap[a.block]? = some (.cells cs e' fz) := by
        have h2 := hc0 0 h0
        rw [List.getElem?_eq_getElem (by omega)] at h2
        have hab : (a.add (0 * P.cellsOf e)).add 0 = a := by simp [Addr.add]
        rw [hab] at h2
        unfold World.cell? at h2
        split at h2
        · rename_i c ty fz hb
          split at h2
          · cases h2
          · rename_i hs
            exact ⟨c, ty, fz, by simpa using hs, hb⟩
        · cases h2
      obtain ⟨cs, e', fz, hsp, hb⟩ := hblk
      refine ⟨cs, e', fz, hsp, hb, fun j v hj => ?_⟩
      rw [List.map_map] at hj
      obtain ⟨i, k, hi, rfl, hkz, hv⟩ := flats_get (z := P.cellsOf e) (g := g ∘ q) (fun i hi => by
        simp only [Function.comp, hflat]
        have := (hq i hi).1
        obtain ⟨_, hl, _⟩ := World.cells?_some this
        exact hl) hj
      obtain ⟨h1, _⟩ := hq i hi
      obtain ⟨_, hl, hc⟩ := World.cells?_some h1
      have h2 := hc k hkz
      simp only [Function.comp, hflat] at hv
      rw [hv] at h2
      unfold World.cell? at h2
      obtain ⟨b, o, sp⟩ := a
      simp only at hsp hb
      subst hsp
      rw [addr_add, addr_add] at h2
      simp only [hb] at h2
      simpa [Nat.add_assoc] using h2
    · simp only [List.length_map, List.length_range]
      have := hw.1
      have : len * P.bytesOf e ≤ (len + (m - len)) * P.bytesOf e := Nat.mul_le_mul_right _ (by omega)
      omega
    · obtain ⟨i, hi, rfl⟩ := List.mem_map.1 hy
      exact (hq i (List.mem_range.1 hi)).2

/-! ### A law's arguments -/
/-- An argument that reads. -/
def RdV (enc : TypeId × Value → H) (P : Program) (W : World) (t : TypeId) (v : Value) : Prop := ∃ fuel x, DataW.trod enc P W 0 (fun _ => true) true fuel t v.cells.toList = some x ∧ (x.1.weights P t).all (· ≤ reachBytes) = true

def RdVs (enc : TypeId × Value → H) (P : Program) (W : World) (base : Nat) : List TypeId → List Value → Prop
  | [], [] => True
  | t :: ts, v :: vs => (RdV enc P W t v ∧ Value.okWide P W .any base t v) ∧ RdVs enc P W base ts vs
  | _, _ => False

theorem args_rd {base : Nat} : ∀ {ts : List TypeId} {vs : List Value} {ds : List (DataW H)} {ps : List MemPlace}, (∀ (j : Nat) t v, ts[j]? = some t → vs[j]? = some v → Value.okWide P W .any base t v) →
    DataW.TrodAll enc P W 0 (fun _ => true) true ts vs ds ps → (DataW.weightsEach P ts ds).all (· ≤ reachBytes) = true → RdVs enc P W base ts vs
  | [], vs, ds, ps, _, h, _ => by
    match vs, ds, h with
    | [], [], _ => trivial
  | t :: ts, vs, ds, ps, hv, h, hw => by
    obtain ⟨v, vs', d, ds', p, q, rfl, rfl, rfl, ⟨fuel, h3⟩, h4⟩ := trodAll_cons h
    simp only [DataW.weightsEach, List.all_append, Bool.and_eq_true] at hw
    exact ⟨⟨⟨fuel, _, h3, hw.1⟩, hv 0 t v rfl rfl⟩, args_rd (fun j t v h1 h2 => hv (j + 1) t v (by simpa using h1) (by simpa using h2)) h4 hw.2⟩

theorem rdvs_cons {base : Nat} {t : TypeId} {ts : List TypeId} {vs : List Value} (h : RdVs enc P W base (t :: ts) vs) : ∃ v vs', vs = v :: vs' ∧ RdV enc P W t v ∧ Value.okWide P W .any base t v ∧ RdVs enc P W base ts vs' := by
  cases vs with
  | nil => exact h.elim
  | cons v vs => exact ⟨v, vs, rfl, h.1.1, h.1.2, h.2⟩
theorem rdvs_nil {base : Nat} {vs : List Value} (h : RdVs enc P W base [] vs) : vs = [] := by
  cases vs with
  | nil => rfl
  | cons v vs => exact h.elim

/-- A struct. -/
theorem rdv_agg {base : Nat} {t : TypeId} {v : Value} {n0 : Nat} {ks : List K1} {g : Raw → GV} (hu : agDo (P.underlying t) = true) (hk : kAll P n0 t = some ks) (hflat : ∀ q, (g q).flat = q.cells ks 0) (hs : ∀ q v, g q ≠ .s v)
    (h : RdV enc P W t v) (hv : Value.okWide P W .any base t v) : ∃ q : Raw, v = (g q).val ∧ Fine enc P W ks q := by
  obtain ⟨fuel, x, hx, hw⟩ := h
  obtain ⟨q, hq, hf⟩ := kinds_raw (trod_kinds n0 fuel t ks _ _ hk hx hw)
  refine ⟨q, ?_, hf⟩
  have : ∃ cs, v = .agg cs := by
    unfold Value.okWide at hv
    cases hd : P.underlying t with
    | none => rw [hd] at hu; cases hu
    | some d =>
      rw [hd] at hv hu
      cases d <;> first | (cases hu; done) | (obtain ⟨cs, rfl, _⟩ := hv; exact ⟨cs, rfl⟩)
  obtain ⟨cs, rfl⟩ := this
  simp only [Value.cells] at hq
  rw [show (g q).val = .agg ((g q).flat).toArray by
    have := hs q
    cases hg : g q with
    | s v => exact absurd hg (this v)
    | u => rfl
    | c a b => rfl
    | ar a b c => rfl]
  rw [hflat, ← hq]

theorem cells_one {v w : Value} (h : v.cells.toList = [w]) (hv : ∀ cs, v ≠ .agg cs) : v = w := by
  cases v <;> first | (simpa [Value.cells] using h) | exact absurd rfl (hv _)

theorem ok_noagg {base : Nat} {t : TypeId} {v : Value} {d : TypeDesc} (hu : P.underlying t = some d) (hd : agDo (some d) = false) (hv : Value.okWide P W .any base t v) : ∀ cs, v ≠ .agg cs := by
  intro cs e
  subst e
  unfold Value.okWide at hv
  rw [hu] at hv
  cases d <;> first | (cases hd; done) | (simp only [Cell.okWide, Cell.ok, hu] at hv)

/-- A number, a string, a bool. -/
theorem rdv_sc {base : Nat} {t : TypeId} {v : Value} {k : K1} (hk : kAll P 1 t = some [k]) (ha : agDo (P.underlying t) = false) (h : RdV enc P W t v) (hv : Value.okWide P W .any base t v) : KOk enc P W k v := by
  obtain ⟨fuel, x, hx, hw⟩ := h
  have hK := trod_kinds 1 fuel t [k] _ _ hk hx hw
  have hl := hK.1
  match hc : v.cells.toList, hl with
  | [w], _ =>
    have hu : ∃ d, P.underlying t = some d := by
      cases hd : P.underlying t with
      | none => simp [kAll, hd] at hk
      | some d => exact ⟨d, rfl⟩
    obtain ⟨d, hu⟩ := hu
    rw [hu] at ha
    have := cells_one hc (ok_noagg hu ha hv)
    subst this
    exact hK.2 0 v k (by rw [hc]; rfl) rfl

/-- A slice as an argument. -/
theorem rdv_slice {base : Nat} {t e : TypeId} {v : Value} (ht : P.underlying t = some (.slice e)) (h : RdV enc P W t v) (hv : Value.okWide P W .any base t v) : RdT enc P W t v := by
  obtain ⟨fuel, x, hx, hw⟩ := h
  have hcs : ∃ w, v.cells.toList = [w] := by
    rcases DataW.trod_slice ht hx with ⟨h1, _⟩ | ⟨a, len, cap, _, _, _, _, h1, _⟩
    · exact ⟨_, h1⟩
    · exact ⟨_, h1⟩
  obtain ⟨w, hc⟩ := hcs
  have := cells_one hc (ok_noagg ht rfl hv)
  subst this
  exact ⟨fuel, x, by rw [← hc]; exact hx, hw⟩
end
end Go.Proofs.Ytdpknchgoeboaaa.Vc
