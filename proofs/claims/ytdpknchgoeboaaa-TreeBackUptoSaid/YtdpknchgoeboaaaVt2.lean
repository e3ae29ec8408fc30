/- When two plain values of a type are the same. -/
import Derived.Test.YtdpknchgoeboaaaVt1
import Derived.ChangeKeysEq
import Derived.Laws.StructEq
set_option linter.unusedVariables false
set_option linter.unusedSimpArgs false
namespace Go.Proofs.Ytdpknchgoeboaaa.Vc
open Go

def eqScB : Value → Value → Bool
  | .int _ a, .int _ b => a == b
  | .bool a, .bool b => a == b
  | .string a, .string b => decide (a = b)
  | _, _ => false

/-- Are two trees of one form the same? -/
def eqGV : GV → GV → Bool
  | .s a, .s b => eqScB a b
  | .u, .u => true
  | .c h t, .c h' t' => eqGV h h' && eqGV t t'
  | .ar n _ f, .ar _ _ g => (List.range n).all fun j => eqGV (f j) (g j)
  | _, _ => false

def kinV : Value → Value → Prop
  | .int k _, .int k' _ => k = k'
  | .bool _, .bool _ => True
  | .string _, .string _ => True
  | _, _ => False
/-- Of one form, and of the same kinds. -/
def kin : GV → GV → Prop
  | .s a, .s b => kinV a b
  | .u, .u => True
  | .c h t, .c h' t' => kin h h' ∧ kin t t'
  | .ar n e f, .ar n' e' g => n = n' ∧ e = e' ∧ ∀ j, j < n → kin (f j) (g j)
  | _, _ => False

theorem kin_same : ∀ (x y : GV), kin x y → GV.same x y
  | .s _, .s _, _ => trivial
  | .u, .u, _ => trivial
  | .c h t, .c h' t', k => ⟨kin_same h h' k.1, kin_same t t' k.2⟩
  | .ar _ _ f, .ar _ _ g, k => ⟨k.1, k.2.1, fun j hj => kin_same (f j) (g j) (k.2.2 j hj)⟩
  | .s _, .u, k | .s _, .c _ _, k | .s _, .ar _ _ _, k | .u, .s _, k | .u, .c _ _, k | .u, .ar _ _ _, k | .c _ _, .s _, k | .c _ _, .u, k | .c _ _, .ar _ _ _, k | .ar _ _ _, .s _, k | .ar _ _ _, .u, k | .ar _ _ _, .c _ _, k => k.elim

def chainB : Nat → GV → Bool
  | 0, .u => true
  | n + 1, .c _ t => chainB n t
  | _, _ => false

/-- Does a type's own tree stand so? -/
def eqShape (P : Program) : Nat → TypeId → GV → Bool
  | 0, _, _ => false
  | d + 1, t, z => match P.underlying t, z with
    | some (.int _), .s (.int _ _) => true
    | some .bool, .s (.bool _) => true
    | some .string, .s (.string _) => true
    | some (.array n e), .ar n' k f => n == n' && (match P.underlying e, P.info? e with
        | some dd, some i => k == i.size && (List.range n).all fun j => (f j).fits i.size (agD dd) && eqShape P d e (f j)
        | _, _ => false)
    | some (.struct fs), z => chainB fs.size z && !P.stoodInHeld t && (List.range fs.size).all fun i => match fs[i]? with
        | some f => f.name != "_" && (match P.underlying f.type, P.info? f.type with
          | some dd, some j => (z.get [i]).isSome && z.offs [i] == f.offset && (z.getT [i]).fits j.size (agD dd) && eqShape P d f.type (z.getT [i])
          | _, _ => false)
        | none => false
    | _, _ => false

theorem kin_get : ∀ (x z : GV) (p : List Nat), kin x z → ∀ y, z.get p = some y → ∃ uu, x.get p = some uu ∧ kin uu y ∧ x.offs p = z.offs p := by
  intro x z p hk y hy
  obtain ⟨e1, uu, e2, e3⟩ := GV.same_get z x p y (GV.same_symm _ _ (kin_same _ _ hk)) hy
  refine ⟨uu, e2, ?_, e1.symm⟩
  clear e1 e3
  induction p generalizing x z with
  | nil =>
    have h1 : x.get [] = some x := by cases x <;> rfl
    have h2 : z.get [] = some z := by cases z <;> rfl
    rw [h1] at e2; rw [h2] at hy
    simp at e2 hy; subst e2; subst hy
    exact hk
  | cons i p ih =>
    induction z generalizing x i with
    | s v => simp [GV.get] at hy
    | u => simp [GV.get] at hy
    | c h t ihh iht =>
      cases x with
      | c h' t' =>
        cases i with
        | zero => exact ih h' h hk.1 (by simpa [GV.get] using hy) (by simpa [GV.get] using e2)
        | succ i => exact iht (x := t') (i := i) hk.2 (by simpa [GV.get] using hy) (by simpa [GV.get] using e2)
      | _ => exact hk.elim
    | ar n e f ihf =>
      cases x with
      | ar n' e' g =>
        simp only [GV.get] at hy e2
        split at hy
        · rename_i hi
          split at e2
          · exact ih (g i) (f i) (hk.2.2 i (by rw [hk.1]; exact hi)) hy e2
          · cases e2
        · cases hy
      | _ => exact hk.elim

theorem kin_fits {x z : GV} (h : kin x z) (n : Nat) (b : Bool) (hf : z.fits n b = true) : x.fits n b = true := by
  have hs := GV.same_sz _ _ (kin_same _ _ h)
  cases x <;> cases z <;> first | exact h.elim | skip
  · exact hf
  · simpa [GV.fits, GV.sz] using hf
  · simp only [GV.fits] at hf ⊢; rw [hs]; exact hf
  · simp only [GV.fits] at hf ⊢; rw [hs]; exact hf

theorem eqGV_chain : ∀ (n : Nat) (x y z : GV), chainB n z = true → kin x z → kin y z → eqGV x y = (List.range n).all fun i => eqGV (x.getT [i]) (y.getT [i])
  | 0, x, y, .u, _, hx, hy => by
    cases x <;> first | exact hx.elim | skip
    cases y <;> first | exact hy.elim | skip
    rfl
  | n + 1, x, y, .c hz tz, hc, hx, hy => by
    cases x <;> first | exact hx.elim | skip
    cases y <;> first | exact hy.elim | skip
    rename_i h t h' t'
    have ih := eqGV_chain n t t' tz hc hx.2 hy.2
    simp only [eqGV, List.range_succ_eq_map, List.all_cons, List.all_map, ih, GV.getT, getT_nil]
    rfl
  | 0, _, _, .s _, hc, _, _ | 0, _, _, .c _ _, hc, _, _ | 0, _, _, .ar _ _ _, hc, _, _ | _ + 1, _, _, .s _, hc, _, _ | _ + 1, _, _, .u, hc, _, _ | _ + 1, _, _, .ar _ _ _, hc, _, _ => by cases hc

theorem chain_ns : ∀ (n : Nat) (z : GV), chainB n z = true → ∀ x, kin x z → ∀ v, x ≠ .s v
  | 0, .u, _, x, hk, v, e => by subst e; exact hk.elim
  | n + 1, .c _ _, _, x, hk, v, e => by subst e; exact hk.elim
  | 0, .s _, hc, _, _, _, _ | 0, .c _ _, hc, _, _, _, _ | 0, .ar _ _ _, hc, _, _, _, _ | _ + 1, .s _, hc, _, _, _, _ | _ + 1, .u, hc, _, _, _, _ | _ + 1, .ar _ _ _, hc, _, _, _, _ => by cases hc

theorem eqR_deep {P : Program} (e : Nat) : ∀ (d : Nat) (t : TypeId) (z x y : GV), eqShape P d t z = true → kin x z → kin y z → x.ok → y.ok → ∀ w, (Op.equalIn (e + d) t x.val y.val).run P w = .ok (eqGV x y) w := by
  intro d
  induction d with
  | zero => intro t z x y h; simp [eqShape] at h
  | succ d ih =>
    intro t z x y h hx hy okx oky w
    unfold eqShape at h
    rw [← Nat.add_assoc]
    split at h
    · rename_i q k m hu
      cases x <;> first | exact hx.elim | skip
      cases y <;> first | exact hy.elim | skip
      rename_i a b
      cases a <;> simp only [kin, kinV] at hx <;> first | exact hx.elim | skip
      cases b <;> simp only [kin, kinV] at hy <;> first | exact hy.elim | skip
      subst hx; subst hy
      exact run_equalIn_int w (e + d) t _ _ _ _ hu
    · rename_i q hu
      cases x <;> first | exact hx.elim | skip
      cases y <;> first | exact hy.elim | skip
      rename_i a b
      cases a <;> simp only [kin, kinV] at hx <;> first | exact hx.elim | skip
      cases b <;> simp only [kin, kinV] at hy <;> first | exact hy.elim | skip
      exact run_equalIn_bool' w (e + d) t _ _ hu
    · rename_i q hu
      cases x <;> first | exact hx.elim | skip
      cases y <;> first | exact hy.elim | skip
      rename_i a b
      cases a <;> simp only [kin, kinV] at hx <;> first | exact hx.elim | skip
      cases b <;> simp only [kin, kinV] at hy <;> first | exact hy.elim | skip
      rename_i s1 s2
      have := run_equalIn_string (P := P) w (e + d) t s1 s2 hu
      simp only [GV.val, eqGV, eqScB]
      rw [this, toList_eq']
    · rename_i n et n' k f hu
      simp only [Bool.and_eq_true, beq_iff_eq] at h
      obtain ⟨rfl, h⟩ := h
      split at h
      · rename_i dd i hdd hi
        simp only [Bool.and_eq_true, beq_iff_eq, List.all_eq_true, List.mem_range] at h
        obtain ⟨rfl, h⟩ := h
        cases x <;> first | exact hx.elim | skip
        cases y <;> first | exact hy.elim | skip
        rename_i n1 k1 f1 n2 k2 f2
        obtain ⟨rfl, rfl, hx⟩ := hx
        obtain ⟨rfl, rfl, hy⟩ := hy
        have hc : P.cellsOf et = i.size := by simp [Program.cellsOf, hi]
        simp only [GV.val]
        rw [run_equalIn_array w (e + d) _ _ hu hi, hc]
        have key : ∀ (is : List Nat), (∀ j ∈ is, j < n2) → (Op.eqItems (e + d) et i.size (GV.flat (.ar n2 i.size f1)).toArray (GV.flat (.ar n2 i.size f2)).toArray is).run P w = .ok (is.all fun j => eqGV (f1 j) (f2 j)) w := by
          intro is
          induction is with
          | nil => intro _; simp [Op.eqItems]
          | cons j is ihl =>
            intro hj
            have hjn := hj j (by simp)
            obtain ⟨g1, g2⟩ := GV.get_ar n2 i.size f1 j hjn
            obtain ⟨g3, g4⟩ := GV.get_ar n2 i.size f2 j hjn
            have hf := (h j hjn).1
            have p1 := run_part (P := P) hdd hi okx g1 (kin_fits (hx j hjn) _ _ hf) w
            have p2 := run_part (P := P) hdd hi oky g3 (kin_fits (hy j hjn) _ _ hf) w
            rw [g2] at p1; rw [g4] at p2
            have p3 := ih et (f j) (f1 j) (f2 j) (h j hjn).2 (hx j hjn) (hy j hjn) (okx j hjn).1 (oky j hjn).1 w
            simp only [Op.eqItems, Sem.run_bind, p1, p2, p3, Result.andThen_ok, List.all_cons]
            cases hr : eqGV (f1 j) (f2 j)
            · simp
            · simpa using ihl (fun j hj' => hj j (by simp [hj']))
        exact key _ (fun j hj => List.mem_range.1 hj)
      · cases h
    · rename_i zz _ _ fs hu
      simp only [Bool.and_eq_true, Bool.not_eq_true', List.all_eq_true, List.mem_range] at h
      obtain ⟨⟨hch, hst⟩, h⟩ := h
      have hfs : P.fieldsOf t = fs := by simp [Program.fieldsOf, hu]
      rw [val_agg (chain_ns _ _ hch x hx), val_agg (chain_ns _ _ hch y hy), run_equalIn_struct w (e + d) t _ _ (by rw [hfs]; exact hu) hst, hfs, eqGV_chain _ _ _ _ hch hx hy]
      have key : ∀ (l : List Field) (k : Nat), (∀ j, l[j]? = fs[k + j]?) → (Op.eqFields (e + d) (GV.flat x).toArray (GV.flat y).toArray l).run P w = .ok ((List.range' k l.length).all fun i => eqGV (x.getT [i]) (y.getT [i])) w := by
        intro l
        induction l with
        | nil => intro k _; simp [Op.eqFields]
        | cons f l ihl =>
          intro k hl
          have h0 : fs[k]? = some f := by simpa using (hl 0).symm
          have hk : k < fs.size := (Array.getElem?_eq_some_iff.1 h0).1
          have h1 := h k hk
          rw [h0] at h1
          simp only [Bool.and_eq_true, bne_iff_ne, ne_eq] at h1
          obtain ⟨hn, h1⟩ := h1
          split at h1
          · rename_i dd i hdd hi
            simp only [Bool.and_eq_true, beq_iff_eq] at h1
            obtain ⟨⟨⟨hs, ho⟩, hfit⟩, hsh⟩ := h1
            obtain ⟨uu, hu'⟩ := Option.isSome_iff_exists.mp hs
            obtain ⟨u1, a1, a2, a3⟩ := kin_get x zz [k] hx uu hu'
            obtain ⟨u2, b1, b2, b3⟩ := kin_get y zz [k] hy uu hu'
            rw [GV.getT_of zz [k] uu hu'] at hfit hsh
            have p1 := run_part (P := P) hdd hi okx a1 (kin_fits a2 _ _ hfit) w
            have p2 := run_part (P := P) hdd hi oky b1 (kin_fits b2 _ _ hfit) w
            rw [a3, ho] at p1; rw [b3, ho] at p2
            have p3 := ih f.type uu u1 u2 hsh a2 b2 (GV.get_at x [k] u1 okx a1).1 (GV.get_at y [k] u2 oky b1).1 w
            have ihl' := ihl (k + 1) (fun j => by have := hl (j + 1); simpa [Nat.add_assoc, Nat.add_comm 1 j] using this)
            simp only [Op.eqFields, hn, ne_eq, not_false_eq_true, if_true, Sem.run_bind, p1, p2, p3, Result.andThen_ok, List.length_cons, List.range'_succ, List.all_cons, GV.getT_of x [k] u1 a1, GV.getT_of y [k] u2 b1]
            cases hr : eqGV u1 u2
            · simp
            · simpa using ihl'
          · cases h1
      have := key fs.toList 0 (by simp)
      rw [this]
      simp [List.range_eq_range']
    · cases h

theorem eqG_of {P : Program} {t : TypeId} {z x y : GV} (h1 : eqShape P 20 t z = true) (h2 : P.eqGuardType P.depth t = false) (hn : z.isS = false) (hx : kin x z) (hy : kin y z) (okx : x.ok) (oky : y.ok) : EqG P t x y (eqGV x y) := by
  have key : ∀ uu, kin uu z → uu.val = .agg (GV.flat uu).toArray := fun uu hu => val_agg (fun v e => by
    subst e
    cases z <;> first | exact hu.elim | skip
    cases hn)
  have h := fun w => eqR_deep (P := P) 9980 20 t z x y h1 hx hy okx oky w
  intro a b w
  have hw := h w
  rw [key x hx, key y hy] at hw ⊢
  constructor
  · rw [Sem.run_bind, run_eqGuard_agg w _ _ _ _ _ _ h2, Result.andThen_ok, run_eql_struct w, hw]; rfl
  · rw [Sem.run_bind, run_eqGuard_agg w _ _ _ _ _ _ h2, Result.andThen_ok, run_neq_struct w, hw]; rfl

theorem eqG_bool {P : Program} {t : TypeId} (hu : P.underlying t = some .bool) (a b : Bool) : EqG P t (.s (.bool a)) (.s (.bool b)) (a == b) := by
  intro x y w
  have h : (Op.equal t (.bool a) (.bool b)).run P w = .ok (a == b) w := run_equalIn_bool' w 9999 t a b hu
  constructor <;> simp [eqGuard, binOp, GV.val, Sem.run_bind, h]

end Go.Proofs.Ytdpknchgoeboaaa.Vc
