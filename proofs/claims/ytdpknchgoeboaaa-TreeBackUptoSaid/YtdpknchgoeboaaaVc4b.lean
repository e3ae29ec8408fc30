/- Soundness, one operation at a time: more of those that only read. -/
import Derived.Test.YtdpknchgoeboaaaVc4
set_option linter.unusedVariables false
set_option linter.unusedSimpArgs false
namespace Go.Proofs.Ytdpknchgoeboaaa.Vc
open Go

theorem run_part {P : Program} {t : TypeId} {d : TypeDesc} {i : TypeInfo} (ht : P.underlying t = some d) (hi : P.info? t = some i) {g y : GV} {p : List Nat} (hg : g.ok) (hy : g.get p = some y) (hf : y.fits i.size (agD d) = true) (w : World) :
    (part t (GV.flat g).toArray (g.offs p)).run P w = .ok y.val w := by
  obtain ⟨hyok, pre, post, h2, h3⟩ := GV.get_at g p y hg hy
  cases hd : agD d with
  | false =>
    rw [hd] at hf
    obtain ⟨v, rfl⟩ := GV.fits_no hf
    have hag : (isAgg t).run P w = .ok false w := by
      unfold isAgg
      rw [Sem.run_bind, run_underlying' ht]
      cases d <;> simp_all [agD]
    have hc := GV.get_s hg hy
    simp [part, Sem.run_bind, hag, hc, GV.val]
  | true =>
    rw [hd] at hf
    obtain ⟨hv, hl⟩ := GV.fits_agg hyok hf
    have hag : (isAgg t).run P w = .ok true w := by
      unfold isAgg
      rw [Sem.run_bind, run_underlying' ht]
      cases d <;> simp_all [agD]
    have hex : (GV.flat g).toArray.extract (g.offs p) (g.offs p + i.size) = (GV.flat y).toArray := by
      apply Array.toList_inj.mp
      simp only [Array.toList_extract, List.extract_eq_take_drop]
      rw [h2, ← h3, ← hl]
      simp
    simp [part, Sem.run_bind, hag, run_sizeOf' hi, hv]
    simpa using hex

theorem val_agg {g : GV} (h : ∀ v, g ≠ .s v) : g.val = .agg (GV.flat g).toArray := by
  cases g with
  | s v => exact absurd rfl (h v)
  | _ => rfl

section
variable {C : Ctx} {loc : Loc} {σ : SS} {a : Act} {o : Oper}

theorem rd_fldV {t : TypeId} {x : Operand} {f : Nat} {fs : Array Field} {fd : Field} {d : TypeDesc} {i : TypeInfo} {y : Opd} (ho : o.op = .field t x f) (hs : C.P.underlying t = some (.struct fs)) (hf : fs[f]? = some fd)
    (hd : C.P.underlying fd.type = some d) (hi : C.P.info? fd.type = some i) (hx : cOpd x = some y) (hF : FR loc C.N σ.fr σ.pv a) {g : GV} (hv : ev σ y = some (.g g))
    (h : g.fld f fd.offset = true) (hfit : (g.getT [f]).fits i.size (agD d) = true) : Reads C loc σ o a (.g (g.getT [f])) := by
  obtain ⟨hok, he⟩ := hF.ev rfl hv
  obtain ⟨⟨y3, hy3⟩, hoff⟩ := GV.fld_at _ _ _ h
  rw [GV.getT_of g [f] y3 hy3] at hfit ⊢
  have hag : g.val = .agg (GV.flat g).toArray := val_agg (fun v e => by subst e; simp [GV.fld] at h)
  refine rd_val (v := y3.val) ⟨(GV.get_at g [f] y3 hok hy3).1, rfl⟩ (by simp only [execOp, ho, cOpd_eval hx a, he, hag]; rfl) fun w => ?_
  have := run_part (P := C.P) hd hi hok hy3 hfit w
  rw [hoff] at this
  simp [Instr.field, Sem.run_bind, run_underlying' hs, hf, asAgg, this]

theorem rd_idxV {t e : TypeId} {n : Nat} {d : TypeDesc} {z : TypeInfo} {x i : Operand} {y i' : Opd} (ho : o.op = .index t x i) (ht : C.P.underlying t = some (.array n e)) (hd : C.P.underlying e = some d) (hz : C.P.info? e = some z) (hx : cOpd x = some y) (hi : cOpd i = some i')
    (hF : FR loc C.N σ.fr σ.pv a) {g : GV} {kd : IntKind} {j : Int} (hv : ev σ y = some (.g g)) (hj : ev σ i' = some (.g (.s (.int kd j))))
    (h : g.arr n z.size = true) (hb : 0 ≤ j ∧ j < n) (hfit : (g.getT [j.toNat]).fits z.size (agD d) = true) : Reads C loc σ o a (.g (g.getT [j.toNat])) := by
  obtain ⟨hok, he⟩ := hF.ev rfl hv
  have hej := (hF.ev rfl hj).s
  obtain ⟨f, rfl⟩ := GV.arr_at h
  obtain ⟨h3, h4⟩ := GV.get_ar n z.size f j.toNat (by omega)
  rw [GV.getT_of _ _ _ h3] at hfit ⊢
  refine rd_val (v := (f j.toNat).val) ⟨(GV.get_at _ _ _ hok h3).1, rfl⟩ (by simp only [execOp, ho, cOpd_eval hx a, cOpd_eval hi a, he, hej]; rfl) fun w => ?_
  have := run_part (P := C.P) hd hz hok h3 hfit w
  rw [h4] at this
  simp [Instr.index, Sem.run_bind, asIntOf, run_underlying' ht, GV.val, hb, run_sizeOf' hz, this]

/-- A bound, as it is asked. -/
theorem bnd_run {P : Program} {x : Option Operand} {x' : Option Opd} (hx : cOpdO x = some x') (hF : FR loc C.N σ.fr σ.pv a) {dflt : Nat} {j : Int} (h : bndN σ x' dflt = some j) {y : Nat} {code : BoundsCode}
    (h0 : 0 ≤ j) (h1 : j ≤ y) (hd : dflt ≤ y) (w : World) : (match x.map a.eval with | some v => Instr.sliceBound v y code | none => pure dflt : Sem Nat).run P w = .ok j.toNat w := by
  cases x with
  | none =>
    simp [cOpdO] at hx; subst hx
    simp [bndN] at h; subst h; simp
  | some u =>
    simp only [cOpdO, Option.map_eq_some_iff] at hx
    obtain ⟨u', hu, rfl⟩ := hx
    simp only [bndN] at h
    split at h
    · rename_i k j' hv
      simp at h; subst h
      have he := (hF.ev rfl hv).s
      simp only [Option.map_some, cOpd_eval hu a, he]
      simp [Instr.sliceBound, asIntOf, Sem.run_bind, h0, h1]
    · cases h

theorem rd_sl {t e : TypeId} {z : TypeInfo} {x : Operand} {lo hi : Option Operand} {y : Opd} {lo' hi' : Option Opd} (ho : o.op = .slice t x lo hi none) (ht : C.P.underlying t = some (.slice e)) (hz : C.P.info? e = some z) (hx : cOpd x = some y)
    (hlo : cOpdO lo = some lo') (hhi : cOpdO hi = some hi')
    (hF : FR loc C.N σ.fr σ.pv a) (hH : ∃ w, HR C loc σ.pv σ.ph σ.m w) {k s n : Nat} (hv : ev σ y = some (.row k s n)) {l h : Int} (hl : bndN σ lo' 0 = some l) (hh : bndN σ hi' n = some h) (hb : 0 ≤ l ∧ l ≤ h ∧ h ≤ n)
    (hsz : ∀ z' xs, rowE σ.pv k = some (z', xs) → z' = z.size) : Reads C loc σ o a (.row k (s + l.toNat) (h.toNat - l.toNat)) := by
  obtain ⟨z', xs, hg, hn, he⟩ := hF.ev rfl hv
  obtain rfl := hsz z' xs hg
  obtain ⟨w0, hw0⟩ := hH
  have hrow := (hw0.row hg).2
  cases hlk : loc k with
  | none =>
    rw [hlk] at hrow he
    simp only at hrow
    subst hrow
    simp at hn
    obtain ⟨rfl, rfl⟩ := hn
    obtain ⟨base, he⟩ := he
    have hl0 : l = 0 := by omega
    have hh0 : h = 0 := by omega
    subst hl0; subst hh0
    refine rd_val (v := .slice base 0 0) ⟨z.size, [], hg, by simp, by rw [hlk]; exact ⟨base, rfl⟩⟩ (by simp only [execOp, ho, cOpd_eval hx a, he]; rfl) fun w => ?_
    have r1 := bnd_run (P := C.P) (y := 0) (code := .sliceAcap) hhi hF hh (by omega) (by omega) (by omega) w
    have r2 := bnd_run (P := C.P) (y := 0) (code := .sliceB) hlo hF hl (by omega) (by omega) (by omega) w
    simp only [Instr.sliceAt, Instr.slice, Instr.sliceBounds, Sem.run_bind, run_underlying' ht, Result.andThen_ok, Option.map_none, Sem.run_pure, if_true, Option.isSome_none]
    cases hi with
    | none =>
      cases lo with
      | none => simp [run_sizeOf' hz]
      | some u => simp only [Option.map_some] at r2; simp [r2, run_sizeOf' hz, Sem.run_bind]
    | some v =>
      simp only [Option.map_some] at r1
      cases lo with
      | none => simp [r1, run_sizeOf' hz, Sem.run_bind]
      | some u => simp only [Option.map_some] at r2; simp [r1, r2, run_sizeOf' hz, Sem.run_bind]
  | some L =>
    obtain ⟨b, f, c⟩ := L
    rw [hlk] at hrow he
    simp only [SlcV] at he
    obtain ⟨ad, he, had⟩ := he
    have hc := hrow.1
    refine rd_val (v := .slice (some (if c - s = l.toNat then ad else ad.add (l.toNat * z.size))) (h.toNat - l.toNat) (c - s - l.toNat)) ⟨z.size, xs, hg, by omega, ?_⟩ (by simp only [execOp, ho, cOpd_eval hx a, he]; rfl) fun w => ?_
    · rw [hlk]
      refine ⟨_, by rw [Nat.sub_sub], fun hlt => ?_⟩
      rw [if_neg (by omega), had (by omega), addr_add, Nat.add_mul, Nat.add_assoc]
    · have r1 := bnd_run (P := C.P) (y := c - s) (code := .sliceAcap) hhi hF hh (by omega) (by omega) (by omega) w
      have r2 := bnd_run (P := C.P) (y := h.toNat) (code := .sliceB) hlo hF hl (by omega) (by omega) (by omega) w
      have key : ∀ (P' : Sem Nat) , True := fun _ => trivial
      simp only [Instr.sliceAt, Instr.slice, Instr.sliceBounds, Sem.run_bind, run_underlying' ht, Result.andThen_ok, Option.map_none, Sem.run_pure, if_true, Option.isSome_none]
      have fin : ∀ L H : Nat, L = l.toNat → H = h.toNat → (Result.ok (Value.slice (if c - s = L then some ad else Option.map (fun x : Addr => x.add (L * z.size)) (some ad)) (H - L) (c - s - L)) w : Result Value) =
          .ok (.slice (some (if c - s = l.toNat then ad else ad.add (l.toNat * z.size))) (h.toNat - l.toNat) (c - s - l.toNat)) w := by
        intro L H e1 e2
        subst e1; subst e2
        split <;> simp [addr_add]
      cases hi with
      | none =>
        simp only [Option.map_none, Sem.run_pure] at r1
        have hn' : n = h.toNat := by
          have := r1; simp at this; exact this
        cases lo with
        | none =>
          simp only [Option.map_none, Sem.run_pure] at r2
          have hl' : 0 = l.toNat := by have := r2; simp at this; omega
          simp only [Sem.run_pure, Result.andThen_ok, Option.map_none, run_sizeOf' hz]
          exact fin _ _ hl' hn'
        | some u =>
          simp only [Option.map_some] at r2
          rw [← hn'] at r2
          simp only [Sem.run_pure, Result.andThen_ok, Option.map_some, Option.map_none, Sem.run_bind, r2, run_sizeOf' hz, Bool.false_eq_true, if_false]
          exact fin _ _ rfl hn'
      | some v =>
        simp only [Option.map_some] at r1
        cases lo with
        | none =>
          simp only [Option.map_none, Sem.run_pure] at r2
          have hl' : 0 = l.toNat := by have := r2; simp at this; omega
          simp only [Sem.run_pure, Result.andThen_ok, Option.map_some, Option.map_none, Sem.run_bind, r1, run_sizeOf' hz]
          exact fin _ _ hl' rfl
        | some u =>
          simp only [Option.map_some] at r2
          simp only [Sem.run_pure, Result.andThen_ok, Option.map_some, Sem.run_bind, r1, r2, run_sizeOf' hz, Bool.false_eq_true, if_false]
          exact fin _ _ rfl rfl

theorem rd_slS {t : TypeId} {x : Operand} {lo hi : Option Operand} {y : Opd} {lo' hi' : Option Opd} (ho : o.op = .slice t x lo hi none) (ht : C.P.underlying t = some .string) (hx : cOpd x = some y)
    (hlo : cOpdO lo = some lo') (hhi : cOpdO hi = some hi')
    (hF : FR loc C.N σ.fr σ.pv a) {s : ByteArray} (hv : ev σ y = some (.g (.s (.string s)))) {l h : Int} (hl : bndN σ lo' 0 = some l) (hh : bndN σ hi' s.size = some h) (hb : 0 ≤ l ∧ l ≤ h ∧ h ≤ s.size) : Reads C loc σ o a (.g (.s (.string (s.extract l.toNat h.toNat)))) := by
  have he := (hF.ev rfl hv).s
  refine rd_val (v := .string (s.extract l.toNat h.toNat)) ⟨rfl, rfl⟩ (by simp only [execOp, ho, cOpd_eval hx a, he]; rfl) fun w => ?_
  have r1 := bnd_run (P := C.P) (y := s.size) (code := .sliceAlen) hhi hF hh (by omega) (by omega) (by omega) w
  have r2 := bnd_run (P := C.P) (y := h.toNat) (code := .sliceB) hlo hF hl (by omega) (by omega) (by omega) w
  simp only [Instr.sliceAt, Instr.slice, Instr.sliceBounds, Sem.run_bind, run_underlying' ht, Result.andThen_ok, Option.map_none, Sem.run_pure, if_true, Option.isSome_none]
  cases hi with
  | none =>
    simp only [Option.map_none, Sem.run_pure] at r1
    have hn' : s.size = h.toNat := by have := r1; simp at this; exact this
    cases lo with
    | none =>
      simp only [Option.map_none, Sem.run_pure] at r2
      have hl' : 0 = l.toNat := by have := r2; simp at this; omega
      simp [← hn', ← hl']
    | some u =>
      simp only [Option.map_some] at r2
      rw [← hn'] at r2
      simp [r2, Sem.run_bind, ← hn']
  | some v =>
    simp only [Option.map_some] at r1
    cases lo with
    | none =>
      simp only [Option.map_none, Sem.run_pure] at r2
      have hl' : 0 = l.toNat := by have := r2; simp at this; omega
      simp [r1, Sem.run_bind, ← hl']
    | some u =>
      simp only [Option.map_some] at r2
      simp [r1, r2, Sem.run_bind]

theorem rd_strI {t : TypeId} {x i : Operand} {y i' : Opd} (ho : o.op = .index t x i) (ht : C.P.underlying t = some .string) (hx : cOpd x = some y) (hi : cOpd i = some i') (hF : FR loc C.N σ.fr σ.pv a) {s : ByteArray} {kd : IntKind} {j : Int}
    (hv : ev σ y = some (.g (.s (.string s)))) (hj : ev σ i' = some (.g (.s (.int kd j)))) (hb : 0 ≤ j ∧ j < s.size) : Reads C loc σ o a (.g (.s (.int .u8 (s.data.getD j.toNat 0).toNat))) := by
  have he := (hF.ev rfl hv).s
  have hej := (hF.ev rfl hj).s
  refine rd_val (v := .int .u8 (s.data.getD j.toNat 0).toNat) ⟨rfl, rfl⟩ (by simp only [execOp, ho, cOpd_eval hx a, cOpd_eval hi a, he, hej]; rfl) fun w => ?_
  have hlt : j.toNat < s.size := by omega
  have h1 : s[j.toNat]? = some (s.data.getD j.toNat 0) := by
    rw [getElem?_pos s j.toNat hlt]
    congr 1
    have hd : j.toNat < s.data.size := hlt
    have e : s[j.toNat] = s.data[j.toNat] := rfl
    rw [e, show s.data.getD j.toNat 0 = s.data[j.toNat]?.getD 0 by simp, Array.getElem?_eq_getElem hd]
    rfl
  simp [Instr.index, Sem.run_bind, asIntOf, run_underlying' ht, hb.1, h1]

theorem rd_cvI {s t : TypeId} {k : IntKind} {x : Operand} {y : Opd} (ho : o.op = .convert s t x) {ds : TypeDesc} (hs : C.P.underlying s = some ds) (ht : C.P.underlying t = some (.int k)) (hx : cOpd x = some y) (hF : FR loc C.N σ.fr σ.pv a) {kd : IntKind} {j : Int}
    (hv : ev σ y = some (.g (.s (.int kd j)))) : Reads C loc σ o a (.g (.s (.int k (k.wrap j)))) := by
  have he := (hF.ev rfl hv).s
  refine rd_val (s := convert s t (evO a y)) (v := .int k (k.wrap j)) ⟨rfl, rfl⟩ (by simp only [execOp, ho, cOpd_eval hx a]) fun w => ?_
  rw [he]
  simp [convert, Sem.run_bind, run_underlying' hs, run_underlying' ht, Conv.intToInt]

theorem rd_nilc {x : Operand} {y : Opd} (ho : o.op = .nilCheck x) (hx : cOpd x = some y) (hF : FR loc C.N σ.fr σ.pv a) {v : SV} (hv : ev σ y = some v)
    (h : (∃ k p, v = .ref k p) ∨ (∃ k i p, v = .rref k i p) ∨ (∃ ad, v = .g (.s (.pointer (some ad)))) ∨ (∃ f p q, v = .g (.s (.func (.func f) p q)))) : Reads C loc σ o a v := by
  have he := hF.ev rfl hv
  refine Reads.of he fun w => ?_
  rcases h with ⟨k, p, rfl⟩ | ⟨k, i, p, rfl⟩ | ⟨ad, rfl⟩ | ⟨f, p, q, rfl⟩
  · obtain ⟨g, b, c, y1, _, _, _, h4⟩ := he
    simp [execOp, ho, cOpd_eval hx a, h4]
  · obtain ⟨z, xs, x1, y1, b, o', c, _, _, _, _, h4⟩ := he
    simp [execOp, ho, cOpd_eval hx a, h4]
  · have h4 := he.2
    simp only [GV.val] at h4
    simp [execOp, ho, cOpd_eval hx a, h4]
  · have h4 := he.2
    simp only [GV.val] at h4
    simp [execOp, ho, cOpd_eval hx a, h4]

theorem evL_vals (hF : FR loc C.N σ.fr σ.pv a) : ∀ {l : List Opd} {xs : List SV} {vs : List Value}, evL σ l = some xs → scL xs = some vs → l.map (evO a) = vs
  | [], xs, vs, h, h2 => by simp [evL] at h; subst h; simp [scL] at h2; subst h2; rfl
  | x :: l, xs, vs, h, h2 => by
    simp only [evL] at h
    split at h
    · rename_i y r hy hr
      simp at h; subst h
      unfold scL at h2
      split at h2
      · rename_i e; cases e
      · rename_i v l' e
        simp only [List.cons.injEq] at e
        obtain ⟨rfl, rfl⟩ := e
        simp only [Option.map_eq_some_iff] at h2
        obtain ⟨vs', h3, rfl⟩ := h2
        simp [evL_vals hF hr h3, (hF.ev rfl hy).s]
      · cases h2
    · cases h

theorem evL_gvs (hF : FR loc C.N σ.fr σ.pv a) : ∀ {l : List Opd} {xs : List SV} {gs : List GV}, evL σ l = some xs → gvL xs = some gs → l.map (evO a) = gs.map GV.val ∧ ∀ g ∈ gs, g.ok
  | [], xs, vs, h, h2 => by simp [evL] at h; subst h; simp [gvL] at h2; subst h2; simp
  | x :: l, xs, vs, h, h2 => by
    simp only [evL] at h
    split at h
    · rename_i y r hy hr
      simp at h; subst h
      unfold gvL at h2
      split at h2
      · rename_i e; cases e
      · rename_i v l' e
        simp only [List.cons.injEq] at e
        obtain ⟨rfl, rfl⟩ := e
        simp only [Option.map_eq_some_iff] at h2
        obtain ⟨vs', h3, rfl⟩ := h2
        obtain ⟨e1, e2⟩ := evL_gvs hF hr h3
        obtain ⟨e3, e4⟩ := hF.ev rfl hy
        exact ⟨by simp [e1, e4], by simpa using ⟨e3, e2⟩⟩
      · cases h2
    · cases h

theorem rd_mkf {f : Nat} {caps : Array Operand} {l : List Opd} {xs : List SV} {vs : List Value} (ho : o.op = .makeFunc (.func f) #[] caps) (hl : caps.toList.mapM cOpd = some l) (hF : FR loc C.N σ.fr σ.pv a) (hm : caps.map a.eval = (l.map (evO a)).toArray)
    (h1 : evL σ l = some xs) (h2 : scL xs = some vs) : Reads C loc σ o a (.g (.s (.func (.func f) #[] vs.toArray))) := by
  refine rd_val (s := Instr.makeFunc (.func f) #[] (caps.map a.eval)) (v := .func (.func f) #[] vs.toArray) ⟨rfl, rfl⟩ (by simp only [execOp, ho]; simp) fun w => ?_
  rw [hm, evL_vals hF h1 h2]
  simp [Instr.makeFunc]

end

/-! ### Literals -/
theorem writeAt_size : ∀ (vs : List Value) (cs : Array Value) (j : Nat), (writeAt cs j vs).size = cs.size
  | [], _, _ => rfl
  | v :: vs, cs, j => by simp [writeAt, writeAt_size vs]

theorem writeAt_get : ∀ (vs : List Value) (cs : Array Value) (j k : Nat), j + vs.length ≤ cs.size → (writeAt cs j vs)[k]? = if j ≤ k ∧ k < j + vs.length then vs[k - j]? else cs[k]?
  | [], cs, j, k, _ => by simp [writeAt]; intro h1 h2; omega
  | v :: vs, cs, j, k, h => by
    simp at h
    rw [writeAt, writeAt_get vs _ (j + 1) k (by simp; omega)]
    by_cases h1 : k = j
    · subst h1
      rw [if_neg (by omega), if_pos (by simp)]
      simp [show k < cs.size by omega]
    · by_cases h2 : j + 1 ≤ k ∧ k < j + 1 + vs.length
      · rw [if_pos h2, if_pos (by simp; omega), show k - j = (k - (j + 1)) + 1 by omega]
        simp
      · rw [if_neg h2, if_neg (by simp; omega), Array.getElem?_setIfInBounds_ne (fun e => h1 e.symm)]

theorem sub_cells {g y : GV} {p : List Nat} {x h : GV} (hg : g.ok) (hx : x.ok) (hy : g.get p = some y) (hs : GV.same x y) (hh : g.set p x = some h) :
    writeAt (GV.flat g).toArray (g.offs p) (GV.flat x) = (GV.flat h).toArray ∧ g.offs p + x.sz ≤ (GV.flat g).length ∧ h.ok ∧ GV.same h g := by
  obtain ⟨h1, h2, pre, post, h3, h4, h5⟩ := GV.set_at g p x y h hg hx hy hs hh
  have hl : (GV.flat x).length = (GV.flat y).length := by
    rw [GV.flat_len x hx, GV.flat_len y (GV.get_at g p y hg hy).1, GV.same_sz x y hs]
  have hsz : x.sz = (GV.flat x).length := (GV.flat_len x hx).symm
  refine ⟨?_, by rw [h3, hsz]; simp; omega, h1, h2⟩
  apply Array.ext_getElem?
  intro k
  rw [writeAt_get _ _ _ _ (by rw [h3]; simp; omega)]
  simp only [List.getElem?_toArray]
  rw [h3, h4]
  by_cases hk : g.offs p ≤ k ∧ k < g.offs p + (GV.flat x).length
  · rw [if_pos hk, List.getElem?_append_right (by omega), List.getElem?_append_left (by omega), h5]
  · rw [if_neg hk]
    by_cases hk2 : k < pre.length
    · rw [List.getElem?_append_left hk2, List.getElem?_append_left hk2]
    · rw [List.getElem?_append_right (by omega), List.getElem?_append_right (by omega), List.getElem?_append_right (by omega), List.getElem?_append_right (by omega), hl]

theorem foldl_writeAt (off : Nat) : ∀ (l : List Value) (j : Nat) (cs : Array Value), (l.zipIdx j).foldl (fun (cs : Array Value) (x : Value × Nat) => cs.setIfInBounds (off + x.2) x.1) cs = writeAt cs (off + j) l
  | [], _, _ => rfl
  | v :: l, j, cs => by simp only [List.zipIdx_cons, List.foldl_cons, writeAt]; rw [foldl_writeAt off l (j + 1)]; rfl

theorem zipIdx_writeAt (cells : Array Value) (off : Nat) (cs : Array Value) : cells.zipIdx.foldl (fun (cs : Array Value) (x : Value × Nat) => cs.setIfInBounds (off + x.2) x.1) cs = writeAt cs off cells.toList := by
  rw [← Array.foldl_toList, Array.toList_zipIdx, foldl_writeAt]
  rfl

/-- Where the parts go, as the literal's type tells it, is where the tree has them. -/
def PlaceOk (z : GV) (place : Nat → Option (Nat × Nat)) (i : Nat) : Prop :=
  (z.get [i]).isSome = true ∧ place i = some (z.offs [i], (z.getT [i]).sz)

theorem fill_run (z : GV) (place : Nat → Option (Nat × Nat)) : ∀ (is : List Nat) (gs : List GV) (g : GV), g.ok → GV.same g z → (∀ x ∈ gs, x.ok) → (∀ i ∈ is, PlaceOk z place i) → GV.bldC g is gs →
    Instr.fill place (GV.flat g).toArray (is.zip (gs.map GV.val)) = some (GV.flat (GV.bldT g is gs)).toArray ∧ (GV.bldT g is gs).ok ∧ GV.same (GV.bldT g is gs) z
  | [], [], g, hg, hs, _, _, _ => ⟨by simp [Instr.fill, GV.bldT], by simpa [GV.bldT] using hg, by simpa [GV.bldT] using hs⟩
  | [], x :: gs, g, _, _, _, _, h => by simp [GV.bldC] at h
  | i :: is, [], g, _, _, _, _, h => by simp [GV.bldC] at h
  | i :: is, x :: gs, g, hg, hs, hx, hp, h => by
    simp only [GV.bldC] at h
    obtain ⟨h1, h2, h3⟩ := h
    obtain ⟨y, hy⟩ := Option.isSome_iff_exists.mp h1
    have hyT := GV.getT_of g [i] y hy
    rw [hyT] at h2
    have hxok := hx x (by simp)
    have hset := GV.setT_of g [i] x y hy
    obtain ⟨e1, e2, e3, e4⟩ := sub_cells hg hxok hy h2 hset
    obtain ⟨hp1, hp2⟩ := hp i (by simp)
    obtain ⟨e5, y', hy', hyy⟩ := GV.same_get g z [i] y hs hy
    have hsz : x.sz = (z.getT [i]).sz := by rw [GV.getT_of z [i] y' hy', GV.same_sz x y h2, GV.same_sz y y' hyy]
    have hcells : x.val.cells = (GV.flat x).toArray := GV.cells_val x hxok
    have hlen : x.val.cells.size = x.sz := by rw [hcells]; simp [GV.flat_len x hxok]
    have ih := fill_run z place is gs (g.setT [i] x) e3 (GV.same_trans _ _ _ e4 hs) (fun q hq => hx q (by simp [hq])) (fun j hj => hp j (by simp [hj])) h3
    refine ⟨?_, by simpa [GV.bldT] using ih.2.1, by simpa [GV.bldT] using ih.2.2⟩
    simp only [List.map_cons, List.zip_cons_cons, Instr.fill, hp2]
    rw [if_neg (by simp only [hlen, hsz, List.size_toArray]; simp; rw [← hsz, ← e5]; omega)]
    rw [zipIdx_writeAt, hcells]
    simp only [← e5]
    rw [e1]
    exact ih.1

section
variable {C : Ctx} {loc : Loc} {σ : SS} {a : Act} {o : Oper}

theorem parts_map : ∀ {l : List (Nat × Operand)} {l' : List (Nat × Opd)}, l.mapM (fun x => (cOpd x.2).map fun y => (x.1, y)) = some l' → ∀ a : Act, l.map (fun x => (x.1, a.eval x.2)) = (l'.map (·.1)).zip ((l'.map (·.2)).map (evO a))
  | [], l', h, a => by simp at h; subst h; rfl
  | x :: l, l', h, a => by
    simp only [List.mapM_cons, Option.bind_eq_bind, Option.bind_eq_some_iff, Option.pure_def, Option.some.injEq, Option.map_eq_some_iff] at h
    obtain ⟨y, ⟨y', hy, rfl⟩, l2, hl2, rfl⟩ := h
    simp [cOpd_eval hy a, parts_map hl2 a]

theorem rd_bld {t : TypeId} {parts : Array (Nat × Operand)} {l : List (Nat × Opd)} {z : GV} {zv : Value} {place : Nat → Option (Nat × Nat)} (ho : o.op = .build t parts)
    (hz : z.ok) (hzf : z.flat = zv.cells.toList) (hs : ∀ v, z ≠ .s v) (hpl : ∀ l', C.P.built t l' = Instr.fill place zv.cells l')
    (hp : ∀ i ∈ l.map (·.1), PlaceOk z place i) (hl : parts.toList.mapM (fun x => (cOpd x.2).map fun y => (x.1, y)) = some l) (hF : FR loc C.N σ.fr σ.pv a)
    {xs : List SV} {gs : List GV} (h1 : evL σ (l.map (·.2)) = some xs) (h2 : gvL xs = some gs) (hc : GV.bldC z (l.map (·.1)) gs) : Reads C loc σ o a (.g (GV.bldT z (l.map (·.1)) gs)) := by
  obtain ⟨e1, e2⟩ := evL_gvs hF h1 h2
  obtain ⟨f1, f2, f3⟩ := fill_run z place (l.map (·.1)) gs z hz (GV.same_refl z) e2 hp hc
  have hns : ∀ v, GV.bldT z (l.map (·.1)) gs ≠ .s v := fun v e => by
    rw [e] at f3
    cases z with
    | s u => exact hs u rfl
    | _ => exact f3.elim
  refine rd_val (s := Instr.build t (parts.map fun (i, x) => (i, a.eval x))) (v := .agg (GV.flat (GV.bldT z (l.map (·.1)) gs)).toArray) ⟨f2, (val_agg hns).symm⟩ (by simp only [execOp, ho]) fun w => ?_
  have hparts : (parts.map fun (i, x) => (i, a.eval x)).toList = (l.map (·.1)).zip (gs.map GV.val) := by
    rw [← e1, ← parts_map hl a]
    simp
  refine run_build w t _ _ ?_
  rw [hparts, hpl, show zv.cells = (GV.flat z).toArray by rw [hzf]]
  exact f1

end

section
variable {C : Ctx} {loc : Loc} {σ : SS} {a : Act} {o : Oper}

theorem rd_fldP {s : TypeId} {x : Operand} {f : Nat} {fs : Array Field} {fd : Field} {i : TypeInfo} {y : Opd} (ho : o.op = .fieldAddr s x f) (hs : C.P.underlying s = some (.struct fs)) (hf : fs[f]? = some fd)
    (hi : C.P.info? fd.type = some i) (hz : i.size ≠ 0) (hx : cOpd x = some y) (hF : FR loc C.N σ.fr σ.pv a) {b q : Nat} (hv : ev σ y = some (.g (.s (.pointer (some ⟨b, q, none⟩))))) :
    Reads C loc σ o a (.g (.s (.pointer (some ⟨b, q + fd.offset, none⟩)))) := by
  have he := (hF.ev rfl hv).s
  refine rd_val (v := .pointer (some ⟨b, q + fd.offset, none⟩)) ⟨rfl, rfl⟩ (by simp only [execOp, ho, cOpd_eval hx a, he]; rfl) fun w => ?_
  rw [run_fieldAt' hs hf hi hz]

theorem rd_idxP {t e : TypeId} {n : Nat} {z : TypeInfo} {x i : Operand} {y i' : Opd} (ho : o.op = .indexAddr t x i) (ht : C.P.underlying t = some (.array n e)) (hz : C.P.info? e = some z) (hx : cOpd x = some y) (hi : cOpd i = some i')
    (hF : FR loc C.N σ.fr σ.pv a) {b q : Nat} {kd : IntKind} {j : Int} (hv : ev σ y = some (.g (.s (.pointer (some ⟨b, q, none⟩))))) (hj : ev σ i' = some (.g (.s (.int kd j)))) (hb : 0 ≤ j ∧ j < n) :
    Reads C loc σ o a (.g (.s (.pointer (some ⟨b, q + j.toNat * z.size, none⟩)))) := by
  have he := (hF.ev rfl hv).s
  have hej := (hF.ev rfl hj).s
  refine rd_val (v := .pointer (some ⟨b, q + j.toNat * z.size, none⟩)) ⟨rfl, rfl⟩ (by simp only [execOp, ho, cOpd_eval hx a, cOpd_eval hi a, he, hej]; rfl) fun w => ?_
  rw [run_indexArr ht hz _ _ _ _ hb.1 hb.2]

theorem rd_idxSP {t e : TypeId} {z : TypeInfo} {x i : Operand} {y i' : Opd} (ho : o.op = .indexAddr t x i) (ht : C.P.underlying t = some (.slice e)) (hz : C.P.info? e = some z) (hx : cOpd x = some y) (hi : cOpd i = some i')
    (hF : FR loc C.N σ.fr σ.pv a) {b q n c : Nat} {kd : IntKind} {j : Int} (hv : ev σ y = some (.g (.s (.slice (some ⟨b, q, none⟩) n c)))) (hj : ev σ i' = some (.g (.s (.int kd j)))) (hb : 0 ≤ j ∧ j < n) :
    Reads C loc σ o a (.g (.s (.pointer (some ⟨b, q + j.toNat * z.size, none⟩)))) := by
  have he := (hF.ev rfl hv).s
  have hej := (hF.ev rfl hj).s
  refine rd_val (v := .pointer (some ⟨b, q + j.toNat * z.size, none⟩)) ⟨rfl, rfl⟩ (by simp only [execOp, ho, cOpd_eval hx a, cOpd_eval hi a, he, hej]; rfl) fun w => ?_
  rw [run_indexSlc ht hz _ _ _ _ _ _ hb.1 hb.2]

theorem rd_ldP {t : TypeId} {d : TypeDesc} {i : TypeInfo} {x : Operand} {y : Opd} (ho : o.op = .load t x) (ht : C.P.underlying t = some d) (hi : C.P.info? t = some i) (hx : cOpd x = some y)
    (hF : FR loc C.N σ.fr σ.pv a) {b q : Nat} {g : GV} (hv : ev σ y = some (.g (.s (.pointer (some ⟨b, q, none⟩))))) (hs : Seen C σ.ph σ.m b q g) (hfit : g.fits i.size (agD d) = true) : Reads C loc σ o a (.g g) := by
  have he := (hF.ev rfl hv).s
  obtain ⟨hok, cs, e, fz, hm, hat⟩ := hs
  refine rd_valL (isPure_load ho) (v := g.val) ⟨hok, rfl⟩ (by simp only [execOp, ho, cOpd_eval hx a, he]; rfl) fun w hw => ?_
  simp only [Instr.loadAt, Instr.sureAddr, Sem.run_bind, Sem.run_pure, Result.andThen_ok]
  have hb : w.heap[b]? = some (.cells cs e fz) := by
    rcases hm with hm | ⟨u, hu, hm⟩ | hm
    · exact hw.mle b _ hm
    · exact (hw.phs u hu).1 b _ hm
    · exact hw.u0le b _ hm
  refine run_loadVar' ht hi hok hfit b _ w fun j v hj => ?_
  rw [cell_of hb]
  exact hat j v hj

theorem rd_slP {t e : TypeId} {z : TypeInfo} {x : Operand} {lo hi : Option Operand} {y : Opd} {lo' hi' : Option Opd} (ho : o.op = .slice t x lo hi none) (ht : C.P.underlying t = some (.slice e)) (hz : C.P.info? e = some z) (hx : cOpd x = some y)
    (hlo : cOpdO lo = some lo') (hhi : cOpdO hi = some hi') (hF : FR loc C.N σ.fr σ.pv a) {b q n c : Nat} (hv : ev σ y = some (.g (.s (.slice (some ⟨b, q, none⟩) n c)))) {l h : Int} (hl : bndN σ lo' 0 = some l) (hh : bndN σ hi' n = some h) (hb : n ≤ c ∧ 0 ≤ l ∧ l ≤ h ∧ h ≤ c) :
    Reads C loc σ o a (.g (.s (.slice (some ⟨b, if c = l.toNat then q else q + l.toNat * z.size, none⟩) (h.toNat - l.toNat) (c - l.toNat)))) := by
  have he := (hF.ev rfl hv).s
  obtain ⟨hnc, hb⟩ := hb
  refine rd_val (v := .slice (some ⟨b, if c = l.toNat then q else q + l.toNat * z.size, none⟩) (h.toNat - l.toNat) (c - l.toNat)) ⟨rfl, rfl⟩ (by simp only [execOp, ho, cOpd_eval hx a, he]; rfl) fun w => ?_
  have r1 := bnd_run (P := C.P) (y := c) (code := .sliceAcap) hhi hF hh (by omega) (by omega) hnc w
  have r2 := bnd_run (P := C.P) (y := h.toNat) (code := .sliceB) hlo hF hl (by omega) (by omega) (by omega) w
  simp only [Instr.sliceAt, Instr.slice, Instr.sliceBounds, Sem.run_bind, run_underlying' ht, Result.andThen_ok, Option.map_none, Sem.run_pure, if_true, Option.isSome_none]
  have fin : ∀ L H : Nat, L = l.toNat → H = h.toNat → (Result.ok (Value.slice (if c = L then some (⟨b, q, none⟩ : Addr) else Option.map (fun x : Addr => x.add (L * z.size)) (some (⟨b, q, none⟩ : Addr))) (H - L) (c - L)) w : Result Value) =
      .ok (.slice (some ⟨b, if c = l.toNat then q else q + l.toNat * z.size, none⟩) (h.toNat - l.toNat) (c - l.toNat)) w := by
    intro L H e1 e2
    subst e1; subst e2
    split <;> simp [addr_add]
  cases hi with
  | none =>
    simp only [Option.map_none, Sem.run_pure] at r1
    have hn' : n = h.toNat := by
      have := r1; simp at this; exact this
    cases lo with
    | none =>
      simp only [Option.map_none, Sem.run_pure] at r2
      have hl' : 0 = l.toNat := by have := r2; simp at this; omega
      simp only [Sem.run_pure, Result.andThen_ok, Option.map_none, run_sizeOf' hz]
      exact fin _ _ hl' hn'
    | some u =>
      simp only [Option.map_some] at r2
      rw [← hn'] at r2
      simp only [Sem.run_pure, Result.andThen_ok, Option.map_some, Option.map_none, Sem.run_bind, r2, run_sizeOf' hz, Bool.false_eq_true, if_false]
      exact fin _ _ rfl hn'
  | some v =>
    simp only [Option.map_some] at r1
    cases lo with
    | none =>
      simp only [Option.map_none, Sem.run_pure] at r2
      have hl' : 0 = l.toNat := by have := r2; simp at this; omega
      simp only [Sem.run_pure, Result.andThen_ok, Option.map_some, Option.map_none, Sem.run_bind, r1, run_sizeOf' hz]
      exact fin _ _ hl' rfl
    | some u =>
      simp only [Option.map_some] at r2
      simp only [Sem.run_pure, Result.andThen_ok, Option.map_some, Sem.run_bind, r1, r2, run_sizeOf' hz, Bool.false_eq_true, if_false]
      exact fin _ _ rfl rfl

theorem rd_eqA {op : BinOp} {neg : Bool} {t u : TypeId} {x y : Operand} {x' y' : Opd} (ho : o.op = .binOp op t x y u) (hop : op = .eql ∧ neg = false ∨ op = .neq ∧ neg = true) (hx : cOpd x = some x') (hy : cOpd y = some y') (hF : FR loc C.N σ.fr σ.pv a) {p q : GV} {r : Bool}
    (hp : ev σ x' = some (.g p)) (hq : ev σ y' = some (.g q)) (h : EqG C.P t p q r) : Reads C loc σ o a (.g (.s (.bool (r != neg)))) := by
  have e1 := (hF.ev rfl hp).2
  have e2 := (hF.ev rfl hq).2
  exact rd_val (s := do eqGuard op t x y p.val q.val; binOp op t p.val q.val) (v := .bool (r != neg)) ⟨rfl, rfl⟩ (by simp only [execOp, ho, cOpd_eval hx a, cOpd_eval hy a, e1, e2]) fun w => by
    rcases hop with ⟨rfl, rfl⟩ | ⟨rfl, rfl⟩
    · rw [(h x y w).1]; simp
    · rw [(h x y w).2]; simp

theorem run_eqIn_ptr {P : Program} {t e : TypeId} (d : Nat) (ht : P.underlying t = some (.pointer e)) (ad : Addr) (w : World) : (Op.equalIn (d + 1) t (.pointer (some ad)) (.pointer none)).run P w = .ok false w := by
  simp [Op.equalIn, Sem.run_bind, run_underlying' ht]
theorem run_eq_ptr {P : Program} {t e : TypeId} (ht : P.underlying t = some (.pointer e)) (ad : Addr) (w : World) : (Op.equal t (.pointer (some ad)) (.pointer none)).run P w = .ok false w := run_eqIn_ptr 9999 ht ad w
theorem run_eqIn_slc {P : Program} {t e : TypeId} (d : Nat) (ht : P.underlying t = some (.slice e)) (ad : Option Addr) (n c : Nat) (w : World) : (Op.equalIn (d + 1) t (.slice ad n c) (.slice none 0 0)).run P w = .ok ad.isNone w := by
  cases ad <;> simp [Op.equalIn, Sem.run_bind, run_underlying' ht]
theorem run_eq_slc {P : Program} {t e : TypeId} (ht : P.underlying t = some (.slice e)) (ad : Option Addr) (n c : Nat) (w : World) : (Op.equal t (.slice ad n c) (.slice none 0 0)).run P w = .ok ad.isNone w := run_eqIn_slc 9999 ht ad n c w

theorem rd_eqNilP {op : BinOp} {neg : Bool} {t u e : TypeId} {x y : Operand} {x' y' : Opd} (ho : o.op = .binOp op t x y u) (hop : op = .eql ∧ neg = false ∨ op = .neq ∧ neg = true) (hx : cOpd x = some x') (hy : cOpd y = some y') (hF : FR loc C.N σ.fr σ.pv a)
    (ht : C.P.underlying t = some (.pointer e)) {ad : Addr} (hp : evO a x' = .pointer (some ad)) (hq : ev σ y' = some (.g (.s (.pointer none)))) : Reads C loc σ o a (.g (.s (.bool neg))) := by
  have e2 := (hF.ev rfl hq).s
  exact rd_val (s := do eqGuard op t x y (.pointer (some ad)) (.pointer none); binOp op t (.pointer (some ad)) (.pointer none)) (v := .bool neg) ⟨rfl, rfl⟩ (by simp only [execOp, ho, cOpd_eval hx a, cOpd_eval hy a, hp, e2]) fun w => by
    rcases hop with ⟨rfl, rfl⟩ | ⟨rfl, rfl⟩ 
    · simp [eqGuard, binOp, Sem.run_bind, run_eq_ptr ht]
    · simp [eqGuard, binOp, Sem.run_bind, run_eq_ptr ht]

theorem rd_eqNilS {op : BinOp} {neg : Bool} {t u e : TypeId} {x y : Operand} {x' y' : Opd} (ho : o.op = .binOp op t x y u) (hop : op = .eql ∧ neg = false ∨ op = .neq ∧ neg = true) (hx : cOpd x = some x') (hy : cOpd y = some y') (hF : FR loc C.N σ.fr σ.pv a)
    (ht : C.P.underlying t = some (.slice e)) {ad : Option Addr} {n c : Nat} (hp : evO a x' = .slice ad n c) (hq : ev σ y' = some (.g (.s (.slice none 0 0)))) : Reads C loc σ o a (.g (.s (.bool (ad.isNone != neg)))) := by
  have e2 := (hF.ev rfl hq).s
  exact rd_val (s := do eqGuard op t x y (.slice ad n c) (.slice none 0 0); binOp op t (.slice ad n c) (.slice none 0 0)) (v := .bool (ad.isNone != neg)) ⟨rfl, rfl⟩ (by simp only [execOp, ho, cOpd_eval hx a, cOpd_eval hy a, hp, e2]) fun w => by
    rcases hop with ⟨rfl, rfl⟩ | ⟨rfl, rfl⟩
    · simp [eqGuard, binOp, Sem.run_bind, run_eq_slc ht]
    · simp [eqGuard, binOp, Sem.run_bind, run_eq_slc ht]

end

end Go.Proofs.Ytdpknchgoeboaaa.Vc
