/- Soundness, one operation at a time: those that only read. -/
import Derived.Test.YtdpknchgoeboaaaVc3
set_option linter.unusedVariables false
set_option linter.unusedSimpArgs false
namespace Go.Proofs.Ytdpknchgoeboaaa.Vc
open Go

theorem look_upd {α : Type} : ∀ (l : List (Nat × α)) (t : Nat) (y : α) (k : Nat), look (updL l t y) k = if k = t then some y else look l k
  | [], t, y, k => by simp [updL, look]
  | (j, x) :: l, t, y, k => by
    simp only [updL]
    by_cases h : t = j
    · subst h; simp only [if_true, look]; split <;> rfl
    · simp only [h, if_false, look, look_upd l t y k]
      by_cases hk : k = j
      · subst hk; simp [show ¬ k = t from fun e => h e.symm]
      · simp [hk]

theorem look_put (σ : SS) (d : Nat) (x : SV) (t : Nat) : look (σ.put (some d) x).fr t = if t = d then some x else look σ.fr t := rfl

section
variable {loc : Loc} {N : Nat} {fr : List (Nat × SV)} {pv : List (Nat × PV)} {a : Act}

theorem FR.put (h : FR loc N fr pv a) {d : Option Nat} (hd : ∀ t, d = some t → t < N) {σ : SS} (hf : σ.fr = fr) {x : SV} {v : Value} (hx : SVr loc pv x v) :
    FR loc N (σ.put d x).fr pv (a.put d v) := by
  cases d with
  | none => subst hf; exact h
  | some d =>
    have hlt := hd d rfl
    refine ⟨h.defers, by simp [Act.put, h.size], fun t y hy => ?_⟩
    rw [look_put] at hy
    by_cases htd : t = d
    · subst htd
      simp only [if_true, Option.some.injEq] at hy
      subst hy
      exact ⟨v, by simp [Act.put, h.size, hlt], hx⟩
    · simp only [htd, if_false] at hy
      obtain ⟨u, hu, hr⟩ := h.slots t y (hf ▸ hy)
      exact ⟨u, by simp only [Act.put]; rw [Array.getElem?_setIfInBounds_ne (fun e => htd e.symm)]; exact hu, hr⟩

theorem FR.ev (h : FR loc N fr pv a) {σ : SS} (hf : σ.fr = fr) {x : Opd} {y : SV} (hy : ev σ x = some y) : SVr loc pv y (evO a x) := by
  cases x with
  | t n =>
    obtain ⟨v, hv, hr⟩ := h.slots n y (by simpa [Go.Proofs.Ytdpknchgoeboaaa.Vc.ev, hf] using hy)
    simpa [evO, hv] using hr
  | c v =>
    simp only [Go.Proofs.Ytdpknchgoeboaaa.Vc.ev] at hy
    cases hv : v.oneCell' <;> simp [hv] at hy
    subst hy
    exact ⟨hv, rfl⟩

theorem cOpd_eval {x : Operand} {y : Opd} (h : cOpd x = some y) (a : Act) : a.eval x = evO a y := by
  cases x with
  | tmp t => simp [cOpd] at h; subst h; rfl
  | const v => simp only [cOpd] at h; split at h <;> simp at h; subst h; rfl
  | global g => simp [cOpd] at h; subst h; rfl
  | func f => simp [cOpd] at h; subst h; rfl

/-- The value of a tree that is one value. -/
theorem SVr.s {v u : Value} (h : SVr loc pv (.g (.s v)) u) : u = v := h.2

end

/-- An operation that only reads gives this value in whatever world stands so. -/
def Reads (C : Ctx) (loc : Loc) (σ : SS) (o : Oper) (a : Act) (x : SV) : Prop :=
  ∃ v, SVr loc σ.pv x v ∧ (∀ w, HR C loc σ.pv σ.ph σ.m w → (execOp a.eval o).run C.P w = .ok (.value v) w) ∧ (isPure (cOp C.P o) = true → ∀ w, (execOp a.eval o).run C.P w = .ok (.value v) w)

theorem Reads.of {C : Ctx} {loc : Loc} {σ : SS} {o : Oper} {a : Act} {x : SV} {v : Value} (hv : SVr loc σ.pv x v) (h : ∀ w, (execOp a.eval o).run C.P w = .ok (.value v) w) : Reads C loc σ o a x := ⟨v, hv, fun w _ => h w, fun _ => h⟩

theorem run_andThen_value {P : Program} {s : Sem Value} {w : World} {v : Value} (h : s.run P w = .ok v w) : (do pure (.value (← s)) : Sem Next).run P w = .ok (.value v) w := by
  simp [Sem.run_bind, h]

theorem SVr.val {loc : Loc} {pv : List (Nat × PV)} {g : GV} {v : Value} (h : SVr loc pv (.g g) v) : g.ok ∧ v = g.val := h

theorem rd_mv {C : Ctx} {loc : Loc} {σ : SS} {a : Act} {o : Oper} {x : Operand} {y : Opd} (ho : o.op = .move x ∨ o.op = .assign x) (hx : cOpd x = some y) (hF : FR loc C.N σ.fr σ.pv a)
    {v : SV} (hv : ev σ y = some v) : Reads C loc σ o a v := by
  refine Reads.of (hF.ev rfl hv) fun w => ?_
  rcases ho with ho | ho <;> simp [execOp, ho, cOpd_eval hx a]

theorem rd_pick {C : Ctx} {loc : Loc} {σ : SS} {a : Act} {o : Oper} {c x y : Operand} {c' x' y' : Opd} (ho : o.op = .pick c x y) (hc : cOpd c = some c') (hx : cOpd x = some x') (hy : cOpd y = some y')
    (hF : FR loc C.N σ.fr σ.pv a) {t : Bool} (ht : ev σ c' = some (.g (.s (.bool t)))) {v : SV} (hv : ev σ (if t then x' else y') = some v) : Reads C loc σ o a v := by
  refine Reads.of (hF.ev rfl hv) fun w => ?_
  have h1 := (hF.ev rfl ht).s
  simp [execOp, ho, cOpd_eval hc a, cOpd_eval hx a, cOpd_eval hy a, h1, asBool]
  cases t <;> simp

theorem run_underlying' {P : Program} {t : TypeId} {d : TypeDesc} (h : P.underlying t = some d) (w : World) : (underlying t).run P w = .ok d w := by
  simp [underlying, Sem.run_bind, h]

theorem run_sizeOf' {P : Program} {t : TypeId} {i : TypeInfo} (h : P.info? t = some i) (w : World) : (Go.sizeOf t).run P w = .ok i.size w := by
  simp [Go.sizeOf, typeInfo, Sem.run_bind, h]

theorem addr_add (b o n : Nat) : (⟨b, o, none⟩ : Addr).add n = ⟨b, o + n, none⟩ := by
  unfold Addr.add
  split <;> simp_all

theorem run_fieldAt' {P : Program} {s : TypeId} {fs : Array Field} {f : Nat} {fd : Field} {i : TypeInfo} (hs : P.underlying s = some (.struct fs)) (hf : fs[f]? = some fd) (hi : P.info? fd.type = some i) (hz : i.size ≠ 0)
    (b o : Nat) (w : World) : (Instr.fieldAt s (.pointer (some ⟨b, o, none⟩)) f).run P w = .ok (.pointer (some ⟨b, o + fd.offset, none⟩)) w := by
  simp [Instr.fieldAt, Sem.run_bind, run_underlying' hs, hf, Instr.sureAddr, fieldPlace, run_sizeOf' hi, hz, addr_add]

theorem run_indexArr {P : Program} {t e : TypeId} {n : Nat} {z : TypeInfo} (ht : P.underlying t = some (.array n e)) (hz : P.info? e = some z) (b o : Nat) (k : IntKind) (j : Int) (h0 : 0 ≤ j) (h1 : j < n) (w : World) :
    (Instr.indexAt t (.pointer (some ⟨b, o, none⟩)) (.int k j)).run P w = .ok (.pointer (some ⟨b, o + j.toNat * z.size, none⟩)) w := by
  simp [Instr.indexAt, Sem.run_bind, asIntOf, run_underlying' ht, Instr.sureAddr, run_sizeOf' hz, h0, h1, addr_add]

theorem run_indexSlc {P : Program} {t e : TypeId} {z : TypeInfo} (ht : P.underlying t = some (.slice e)) (hz : P.info? e = some z) (b o n c : Nat) (k : IntKind) (j : Int) (h0 : 0 ≤ j) (h1 : j < n) (w : World) :
    (Instr.indexAt t (.slice (some ⟨b, o, none⟩) n c) (.int k j)).run P w = .ok (.pointer (some ⟨b, o + j.toNat * z.size, none⟩)) w := by
  simp [Instr.indexAt, Sem.run_bind, asIntOf, run_underlying' ht, run_sizeOf' hz, h0, h1, addr_add]

theorem run_loadVar' {P : Program} {t : TypeId} {d : TypeDesc} {i : TypeInfo} (ht : P.underlying t = some d) (hi : P.info? t = some i) {y : GV} (hy : y.ok) (hf : y.fits i.size (agD d) = true) (b o : Nat) (w : World)
    (hc : ∀ j v, (GV.flat y)[j]? = some v → w.cell? ⟨b, o + j, none⟩ = some v) : (loadVar t ⟨b, o, none⟩).run P w = .ok y.val w := by
  cases hd : agD d with
  | false =>
    rw [hd] at hf
    obtain ⟨v, rfl⟩ := GV.fits_no hf
    have hcell := hc 0 v rfl
    have hag : (isAgg t).run P w = .ok false w := by
      unfold isAgg
      rw [Sem.run_bind, run_underlying' ht]
      cases d <;> simp_all [agD]
    simp only [Nat.add_zero] at hcell
    simp [loadVar, Sem.run_bind, hag, hcell, GV.val]
  | true =>
    rw [hd] at hf
    obtain ⟨hv, hl⟩ := GV.fits_agg hy hf
    have hag : (isAgg t).run P w = .ok true w := by
      unfold isAgg
      rw [Sem.run_bind, run_underlying' ht]
      cases d <;> simp_all [agD]
    have hlc := run_loadCells_list (P := P) w ⟨b, o, none⟩ (GV.flat y) (fun j v hj => by rw [addr_add]; exact hc j v hj)
    rw [hl] at hlc
    simp [loadVar, Sem.run_bind, hag, run_sizeOf' hi, hlc, hv]

/-- Cells of a block that is known whole. -/
theorem cell_of {w : World} {b o : Nat} {cs : Array Value} {e : TypeId} {fz : Nat × Nat} (h : w.heap[b]? = some (.cells cs e fz)) : w.cell? ⟨b, o, none⟩ = cs[o]? := by
  simp [World.cell?, h]

theorem HR.u0le {C : Ctx} {loc : Loc} {pv : List (Nat × PV)} {ph : List PH} {m : PH} {w : World} (h : HR C loc pv ph m w) : C.u0.le w := by
  intro k o hk
  unfold Ctx.u0 at hk
  split at hk
  · rename_i hn
    have hlt : k < C.w0.heap.size := (Array.getElem?_eq_some_iff.1 hk).1
    rw [h.kept.2.2.2.2 k hlt (by simpa using hn)]
    exact hk
  · cases hk

/-- A row, whoever owns it: its elements' cells are there. -/
theorem HR.row {C : Ctx} {loc : Loc} {pv : List (Nat × PV)} {ph : List PH} {m : PH} {w : World} (h : HR C loc pv ph m w) {k z : Nat} {xs : List GV} (hr : rowE pv k = some (z, xs)) :
    Els z xs ∧ match loc k with
      | none => xs = []
      | some (b, o, c) => xs.length ≤ c ∧ ∀ j v, (flats xs)[j]? = some v → w.cell? ⟨b, o + j, none⟩ = some v := by
  unfold rowE at hr
  cases hl : look pv k with
  | none => simp [hl] at hr
  | some y =>
    cases y with
    | box g => simp [hl] at hr
    | row e z' df xs' =>
      simp [hl] at hr
      obtain ⟨rfl, rfl⟩ := hr
      have hp := h.pvs k _ hl
      simp only [PVr] at hp
      refine ⟨hp.1, ?_⟩
      cases hc : loc k with
      | none => simpa [hc] using hp.2
      | some l =>
        obtain ⟨b, o, c⟩ := l
        rw [hc] at hp
        obtain ⟨cs, h1, h2, h3, h4⟩ := hp.2
        exact ⟨h2, fun j v hj => by rw [cell_of h1]; exact h4 j v hj⟩
    | ro z' df xs' =>
      simp [hl] at hr
      obtain ⟨rfl, rfl⟩ := hr
      have hp := h.pvs k _ hl
      simp only [PVr] at hp
      refine ⟨hp.1, ?_⟩
      cases hc : loc k with
      | none => simpa [hc] using hp.2
      | some l =>
        obtain ⟨b, o, c⟩ := l
        rw [hc] at hp
        obtain ⟨h2, hp3⟩ := hp.2
        rcases Nat.eq_zero_or_pos c with hc0 | hc0
        · have : xs' = [] := List.length_eq_zero_iff.mp (by omega)
          subst this
          exact ⟨h2, fun j v hj => by simp [flats] at hj⟩
        obtain ⟨u, cs, e, fz, hu, hb, h4⟩ := hp3 hc0
        have hle : u.le w := by
          rcases hu with rfl | hu
          · exact h.u0le
          · exact (h.phs u hu).1
        exact ⟨h2, fun j v hj => by rw [cell_of (hle b _ hb)]; exact h4 j v hj⟩

theorem flats_len {z : Nat} : ∀ {xs : List GV}, Els z xs → (flats xs).length = xs.length * z
  | [], _ => by simp [flats]
  | x :: xs, h => by
    have h1 := h x (by simp)
    have := flats_len (xs := xs) (fun y hy => h y (by simp [hy]))
    simp only [flats, List.flatMap_cons, List.length_append, List.length_cons] at *
    rw [this, GV.flat_len x h1.1, h1.2, Nat.succ_mul, Nat.add_comm]

/-- Element i's cells among a row's. -/
theorem flats_at {z : Nat} : ∀ {xs : List GV} {i : Nat} {x : GV}, Els z xs → xs[i]? = some x → ∀ j v, (GV.flat x)[j]? = some v → (flats xs)[i * z + j]? = some v
  | [], i, x, _, hx, _, _, _ => by simp at hx
  | y :: xs, 0, x, h, hx, j, v, hv => by
    simp at hx
    subst hx
    have hj : j < (GV.flat y).length := by
      rcases Nat.lt_or_ge j (GV.flat y).length with h' | h'
      · exact h'
      · simp [List.getElem?_eq_none h'] at hv
    simp only [flats, List.flatMap_cons, Nat.zero_mul, Nat.zero_add]
    rw [List.getElem?_append_left hj]
    exact hv
  | y :: xs, i + 1, x, h, hx, j, v, hv => by
    have h1 := h y (by simp)
    have ih := flats_at (xs := xs) (i := i) (fun y hy => h y (by simp [hy])) (by simpa using hx) j v hv
    simp only [flats, List.flatMap_cons] at *
    have hl : (GV.flat y).length = z := by rw [GV.flat_len y h1.1, h1.2]
    rw [List.getElem?_append_right (by rw [hl, Nat.succ_mul]; omega), hl]
    rw [show (i + 1) * z + j - z = i * z + j by rw [Nat.succ_mul]; omega]
    exact ih

theorem toList_eq' (a b : ByteArray) : (a.toList == b.toList) = decide (a = b) := by
  rw [Bool.eq_iff_iff]
  simp only [beq_iff_eq, decide_eq_true_eq, ByteArray.toList_eq]
  exact ⟨fun h => ByteArray.ext (Array.toList_inj.mp h), fun h => by rw [h]⟩

theorem data_eq' (a b : ByteArray) : (a.data == b.data) = decide (a = b) := by
  rw [Bool.eq_iff_iff]
  simp only [beq_iff_eq, decide_eq_true_eq]
  exact ⟨fun h => ByteArray.ext h, fun h => by rw [h]⟩

theorem run_binV {P : Program} {op : BinOp} {t : TypeId} {x y : Operand} {a b v : Value} (h : binV op a b = some v) (hc : binC op a b) (w : World) :
    ((do eqGuard op t x y a b; binOp op t a b) : Sem Value).run P w = .ok v w := by
  unfold binV at h
  split at h <;> first | (cases h; done) | skip
  all_goals (try split at h) <;> first | (cases h; done) | skip
  all_goals simp only [Option.some.injEq] at h
  all_goals subst h
  all_goals simp only [binC] at hc
  all_goals simp_all [eqGuard, binOp, Op.intArith, Op.intDiv, Op.intBits, Op.intCmp, Op.stringOp, Op.shift, Sem.run_bind, toList_eq', ByteArray.toList_eq, IntKind.max]
  all_goals first | (simp [data_eq']; done) | (simp only [data_eq']; done) | (simpa [IntKind.signed, IntKind.bits] using ‹_›) | (intro hlt; omega)

theorem run_unV {P : Program} {op : UnOp} {a v : Value} (h : unV op a = some v) (w : World) : (Op.unary op a).run P w = .ok v w := by
  unfold unV at h
  split at h <;> first | (cases h; done) | skip
  all_goals simp only [Option.some.injEq] at h
  all_goals subst h
  all_goals simp [Op.unary, Op.intArith]

section
variable {C : Ctx} {loc : Loc} {σ : SS} {a : Act} {o : Oper}

theorem rd_val {s : Sem Value} {x : SV} {v : Value} (hv : SVr loc σ.pv x v) (he : execOp a.eval o = (do pure (.value (← s)))) (h : ∀ w, s.run C.P w = .ok v w) : Reads C loc σ o a x :=
  Reads.of hv fun w => by rw [he]; exact run_andThen_value (h w)

theorem isPure_load {P : Program} {o : Oper} {t : TypeId} {x : Operand} (ho : o.op = .load t x) : isPure (cOp P o) = false := by
  unfold cOp cOp?
  rw [ho]
  simp only
  split <;> rfl

theorem isPure_b2s {P : Program} {o : Oper} {s t e : TypeId} {x : Operand} (ho : o.op = .convert s t x) (hs : P.underlying s = some (.slice e)) : isPure (cOp P o) = false := by
  unfold cOp cOp?
  rw [ho]
  simp only
  split
  · rename_i h _ _; rw [hs] at h; cases h
  · split <;> rfl
  · rename_i h _ _; rw [hs] at h; cases h
  · rfl

theorem rd_valL {s : Sem Value} {x : SV} {v : Value} (ho : isPure (cOp C.P o) = false) (hv : SVr loc σ.pv x v) (he : execOp a.eval o = (do pure (.value (← s)))) (h : ∀ w, HR C loc σ.pv σ.ph σ.m w → s.run C.P w = .ok v w) : Reads C loc σ o a x :=
  ⟨v, hv, fun w hw => by rw [he]; exact run_andThen_value (h w hw), fun hn => by rw [ho] at hn; cases hn⟩

theorem rowD_of {pv : List (Nat × PV)} {k i z : Nat} {xs : List GV} {x : GV} (hr : rowE pv k = some (z, xs)) (hx : xs[i]? = some x) : rowD pv k i = x := by
  unfold rowE at hr
  unfold rowD
  cases hl : look pv k with
  | none => simp [hl] at hr
  | some y =>
    cases y with
    | box g => simp [hl] at hr
    | row e z' df xs' =>
      simp [hl] at hr
      obtain ⟨rfl, rfl⟩ := hr
      simp [hx]
    | ro z' df xs' =>
      simp [hl] at hr
      obtain ⟨rfl, rfl⟩ := hr
      simp [hx]

theorem rd_fldA {s : TypeId} {x : Operand} {f : Nat} {fs : Array Field} {fd : Field} {i : TypeInfo} {y : Opd} (ho : o.op = .fieldAddr s x f) (hs : C.P.underlying s = some (.struct fs)) (hf : fs[f]? = some fd)
    (hi : C.P.info? fd.type = some i) (hz : i.size ≠ 0) (hx : cOpd x = some y) (hF : FR loc C.N σ.fr σ.pv a) {k : Nat} {p : List Nat} {g : GV} (hv : ev σ y = some (.ref k p)) (hg : look σ.pv k = some (.box g))
    (h : (g.getT p).fld f fd.offset = true) : Reads C loc σ o a (.ref k (p ++ [f])) := by
  obtain ⟨g', b, c, y1, hg', hl, hy1, he⟩ := hF.ev rfl hv
  rw [hg] at hg'
  obtain rfl : g = g' := by simpa using hg'
  rw [GV.getT_of g p y1 hy1] at h
  obtain ⟨⟨y3, hy3⟩, hoff⟩ := GV.fld_at _ _ _ h
  refine rd_val (v := .pointer (some ⟨b, g.offs (p ++ [f]), none⟩)) ⟨g, b, c, y3, hg, hl, by rw [GV.get_append, hy1]; exact hy3, rfl⟩ (by simp only [execOp, ho, cOpd_eval hx a, he]; rfl) fun w => ?_
  rw [run_fieldAt' hs hf hi hz, GV.offs_append g p [f] y1 hy1, hoff]

theorem rd_fldA' {s : TypeId} {x : Operand} {f : Nat} {fs : Array Field} {fd : Field} {i : TypeInfo} {y : Opd} (ho : o.op = .fieldAddr s x f) (hs : C.P.underlying s = some (.struct fs)) (hf : fs[f]? = some fd)
    (hi : C.P.info? fd.type = some i) (hz : i.size ≠ 0) (hx : cOpd x = some y) (hF : FR loc C.N σ.fr σ.pv a) {k j : Nat} {p : List Nat} (hv : ev σ y = some (.rref k j p))
    (h : ((rowD σ.pv k j).getT p).fld f fd.offset = true) : Reads C loc σ o a (.rref k j (p ++ [f])) := by
  obtain ⟨z, xs, x2, y1, b, o', c, hg, hx2, hy1, hl, he⟩ := hF.ev rfl hv
  rw [rowD_of hg hx2, GV.getT_of x2 p y1 hy1] at h
  obtain ⟨⟨y3, hy3⟩, hoff⟩ := GV.fld_at _ _ _ h
  refine rd_val (v := .pointer (some ⟨b, o' + j * z + x2.offs (p ++ [f]), none⟩)) ⟨z, xs, x2, y3, b, o', c, hg, hx2, by rw [GV.get_append, hy1]; exact hy3, hl, rfl⟩ (by simp only [execOp, ho, cOpd_eval hx a, he]; rfl) fun w => ?_
  rw [run_fieldAt' hs hf hi hz, GV.offs_append x2 p [f] y1 hy1, hoff, Nat.add_assoc, Nat.add_assoc]

theorem rd_idxA {t e : TypeId} {n : Nat} {z : TypeInfo} {x i : Operand} {y i' : Opd} (ho : o.op = .indexAddr t x i) (ht : C.P.underlying t = some (.array n e)) (hz : C.P.info? e = some z) (hx : cOpd x = some y) (hi : cOpd i = some i')
    (hF : FR loc C.N σ.fr σ.pv a) {k : Nat} {p : List Nat} {g : GV} {kd : IntKind} {j : Int} (hv : ev σ y = some (.ref k p)) (hj : ev σ i' = some (.g (.s (.int kd j)))) (hg : look σ.pv k = some (.box g))
    (h : (g.getT p).arr n z.size = true) (hb : 0 ≤ j ∧ j < n) : Reads C loc σ o a (.ref k (p ++ [j.toNat])) := by
  obtain ⟨g', b, c, y1, hg', hl, hy1, he⟩ := hF.ev rfl hv
  have hej := (hF.ev rfl hj).s
  rw [hg] at hg'
  obtain rfl : g = g' := by simpa using hg'
  rw [GV.getT_of g p y1 hy1] at h
  obtain ⟨f, rfl⟩ := GV.arr_at h
  obtain ⟨h3, h4⟩ := GV.get_ar n z.size f j.toNat (by omega)
  refine rd_val (v := .pointer (some ⟨b, g.offs (p ++ [j.toNat]), none⟩)) ⟨g, b, c, _, hg, hl, by rw [GV.get_append, hy1]; exact h3, rfl⟩ (by simp only [execOp, ho, cOpd_eval hx a, cOpd_eval hi a, he, hej]; rfl) fun w => ?_
  rw [run_indexArr ht hz _ _ _ _ hb.1 hb.2, GV.offs_append g p _ _ hy1, h4]

theorem rd_idxA' {t e : TypeId} {n : Nat} {z : TypeInfo} {x i : Operand} {y i' : Opd} (ho : o.op = .indexAddr t x i) (ht : C.P.underlying t = some (.array n e)) (hz : C.P.info? e = some z) (hx : cOpd x = some y) (hi : cOpd i = some i')
    (hF : FR loc C.N σ.fr σ.pv a) {k l : Nat} {p : List Nat} {kd : IntKind} {j : Int} (hv : ev σ y = some (.rref k l p)) (hj : ev σ i' = some (.g (.s (.int kd j))))
    (h : ((rowD σ.pv k l).getT p).arr n z.size = true) (hb : 0 ≤ j ∧ j < n) : Reads C loc σ o a (.rref k l (p ++ [j.toNat])) := by
  obtain ⟨zz, xs, x2, y1, b, o', c, hg, hx2, hy1, hl, he⟩ := hF.ev rfl hv
  have hej := (hF.ev rfl hj).s
  rw [rowD_of hg hx2, GV.getT_of x2 p y1 hy1] at h
  obtain ⟨f, rfl⟩ := GV.arr_at h
  obtain ⟨h3, h4⟩ := GV.get_ar n z.size f j.toNat (by omega)
  refine rd_val (v := .pointer (some ⟨b, o' + l * zz + x2.offs (p ++ [j.toNat]), none⟩)) ⟨zz, xs, x2, _, b, o', c, hg, hx2, by rw [GV.get_append, hy1]; exact h3, hl, rfl⟩ (by simp only [execOp, ho, cOpd_eval hx a, cOpd_eval hi a, he, hej]; rfl) fun w => ?_
  rw [run_indexArr ht hz _ _ _ _ hb.1 hb.2, GV.offs_append x2 p _ _ hy1, h4, Nat.add_assoc, Nat.add_assoc]

theorem rd_idxS {t e : TypeId} {z : TypeInfo} {x i : Operand} {y i' : Opd} (ho : o.op = .indexAddr t x i) (ht : C.P.underlying t = some (.slice e)) (hz : C.P.info? e = some z) (hx : cOpd x = some y) (hi : cOpd i = some i')
    (hF : FR loc C.N σ.fr σ.pv a) (hH : ∃ w, HR C loc σ.pv σ.ph σ.m w) {k s n : Nat} {xs : List GV} {kd : IntKind} {j : Int} (hv : ev σ y = some (.row k s n)) (hj : ev σ i' = some (.g (.s (.int kd j)))) (hg : rowE σ.pv k = some (z.size, xs)) (hb : 0 ≤ j ∧ j < n) : Reads C loc σ o a (.rref k (s + j.toNat) []) := by
  obtain ⟨z', xs', hg', hn, he⟩ := hF.ev rfl hv
  have hej := (hF.ev rfl hj).s
  rw [hg] at hg'
  obtain ⟨h1, rfl⟩ : z.size = z' ∧ xs = xs' := by simpa using hg'
  obtain ⟨w0, hw0⟩ := hH
  have hrow := (hw0.row hg).2
  cases hl : loc k with
  | none =>
    rw [hl] at hrow
    simp only at hrow
    subst hrow
    simp at hn
    omega
  | some l =>
    obtain ⟨b, o', c⟩ := l
    rw [hl] at hrow
    simp only [SlcV, hl] at he
    obtain ⟨ad, he, had⟩ := he
    have hlt : s + j.toNat < xs.length := by omega
    have hsc : s < c := by have := hrow.1; omega
    refine rd_val (v := .pointer (some ⟨b, o' + (s + j.toNat) * z.size, none⟩)) ⟨z.size, xs, xs[s + j.toNat], xs[s + j.toNat], b, o', c, hg, by simp [hlt], by cases xs[s + j.toNat] <;> rfl, hl, ?_⟩ (by simp only [execOp, ho, cOpd_eval hx a, cOpd_eval hi a, he, hej]; rfl) fun w => ?_
    · cases xs[s + j.toNat] <;> simp [GV.offs]
    · rw [had hsc, run_indexSlc ht hz _ _ _ _ _ _ hb.1 hb.2 w, ← h1, Nat.add_mul, Nat.add_assoc]

theorem rd_ld {t : TypeId} {d : TypeDesc} {i : TypeInfo} {x : Operand} {y : Opd} (ho : o.op = .load t x) (ht : C.P.underlying t = some d) (hi : C.P.info? t = some i) (hx : cOpd x = some y)
    (hF : FR loc C.N σ.fr σ.pv a) {k : Nat} {p : List Nat} {g : GV} (hv : ev σ y = some (.ref k p)) (hg : look σ.pv k = some (.box g)) (hfit : (g.getT p).fits i.size (agD d) = true)
    (hH : ∃ w, HR C loc σ.pv σ.ph σ.m w) : Reads C loc σ o a (.g (g.getT p)) := by
  obtain ⟨g', b, c, r, hg', hl, hr, he⟩ := hF.ev rfl hv
  rw [hg] at hg'
  obtain rfl : g = g' := by simpa using hg'
  rw [GV.getT_of g p r hr] at hfit ⊢
  obtain ⟨w0, hw0⟩ := hH
  have hok := (hw0.pvs k _ hg).1
  refine rd_valL (isPure_load ho) (v := r.val) ⟨(GV.get_at g p r hok hr).1, rfl⟩ (by simp only [execOp, ho, cOpd_eval hx a, he]; rfl) fun w hw => ?_
  obtain ⟨_, b', c', e, hl', hb⟩ := hw.pvs k _ hg
  rw [hl] at hl'
  obtain ⟨rfl, rfl⟩ : b = b' ∧ c = c' := by simpa using hl'
  simp only [Instr.loadAt, Instr.sureAddr, Sem.run_bind, Sem.run_pure, Result.andThen_ok]
  refine run_loadVar' ht hi (GV.get_at g p r hok hr).1 hfit b _ w fun j v hj => ?_
  rw [cell_of hb]
  simpa using GV.get_cells hok hr j v hj

theorem rd_ld' {t : TypeId} {d : TypeDesc} {i : TypeInfo} {x : Operand} {y : Opd} (ho : o.op = .load t x) (ht : C.P.underlying t = some d) (hi : C.P.info? t = some i) (hx : cOpd x = some y)
    (hF : FR loc C.N σ.fr σ.pv a) {k l : Nat} {p : List Nat} (hv : ev σ y = some (.rref k l p)) (hfit : ((rowD σ.pv k l).getT p).fits i.size (agD d) = true)
    (hH : ∃ w, HR C loc σ.pv σ.ph σ.m w) : Reads C loc σ o a (.g ((rowD σ.pv k l).getT p)) := by
  obtain ⟨z, xs, x1, r, b, o', c, hg, hx1, hr, hl, he⟩ := hF.ev rfl hv
  rw [rowD_of hg hx1, GV.getT_of x1 p r hr] at hfit ⊢
  obtain ⟨w0, hw0⟩ := hH
  have hels := (hw0.row hg).1
  have hok := (hels x1 (List.mem_of_getElem? hx1)).1
  refine rd_valL (isPure_load ho) (v := r.val) ⟨(GV.get_at x1 p r hok hr).1, rfl⟩ (by simp only [execOp, ho, cOpd_eval hx a, he]; rfl) fun w hw => ?_
  have hrow := (hw.row hg).2
  rw [hl] at hrow
  simp only [Instr.loadAt, Instr.sureAddr, Sem.run_bind, Sem.run_pure, Result.andThen_ok]
  refine run_loadVar' ht hi (GV.get_at x1 p r hok hr).1 hfit b _ w fun j v hj => ?_
  have h1 := flats_at hels hx1 _ _ (GV.get_cells hok hr j v hj)
  have h2 := hrow.2 _ _ h1
  rw [show o' + l * z + GV.offs x1 p + j = o' + (l * z + (GV.offs x1 p + j)) by omega]
  exact h2

theorem rd_bin {op : BinOp} {t u : TypeId} {x y : Operand} {x' y' : Opd} (ho : o.op = .binOp op t x y u) (hx : cOpd x = some x') (hy : cOpd y = some y') (hF : FR loc C.N σ.fr σ.pv a) {p q v : Value}
    (hp : ev σ x' = some (.g (.s p))) (hq : ev σ y' = some (.g (.s q))) (h : binV op p q = some v) (hc : binC op p q) : Reads C loc σ o a (.g (.s v)) := by
  have e1 := (hF.ev rfl hp).s
  have e2 := (hF.ev rfl hq).s
  have hv : v.oneCell' = true := by
    unfold binV at h
    split at h <;> first | (cases h; done) | skip
    all_goals (try split at h) <;> first | (cases h; done) | skip
    all_goals simp only [Option.some.injEq] at h
    all_goals subst h
    all_goals rfl
  exact rd_val (s := do eqGuard op t x y p q; binOp op t p q) (v := v) ⟨hv, rfl⟩ (by simp only [execOp, ho, cOpd_eval hx a, cOpd_eval hy a, e1, e2]) fun w => run_binV h hc w

theorem rd_un {op : UnOp} {t : TypeId} {x : Operand} {x' : Opd} (ho : o.op = .unOp op t x) (hx : cOpd x = some x') (hF : FR loc C.N σ.fr σ.pv a) {p v : Value}
    (hp : ev σ x' = some (.g (.s p))) (h : unV op p = some v) : Reads C loc σ o a (.g (.s v)) := by
  have e1 := (hF.ev rfl hp).s
  have hv : v.oneCell' = true := by
    unfold unV at h
    split at h <;> first | (cases h; done) | skip
    all_goals simp only [Option.some.injEq] at h
    all_goals subst h
    all_goals rfl
  exact rd_val (v := v) ⟨hv, rfl⟩ (by simp only [execOp, ho, cOpd_eval hx a, e1]) fun w => run_unV h w

theorem exec_builtin {ρ : Operand → Value} {c : Call} {b : Builtin} (ho : o.op = .call c) (hc : c.callee = .builtin b) :
    execOp ρ o = builtin b c.argTypes o.type (c.args.map fun | .const _ => true | _ => false) (c.args.map ρ) := by
  obtain ⟨dst, op, type, pos, after, guard⟩ := o
  obtain ⟨callee, args, argTypes⟩ := c
  simp only at ho hc
  subst ho; subst hc
  rfl

theorem args_one {c : Call} {x : Operand} (h : c.args.toList = [x]) : c.args = #[x] := by
  rw [← Array.toArray_toList (xs := c.args), h]
theorem args_two {c : Call} {x y : Operand} (h : c.args.toList = [x, y]) : c.args = #[x, y] := by
  rw [← Array.toArray_toList (xs := c.args), h]

theorem rd_len {c : Call} {x : Operand} {y : Opd} {t : TypeId} {d : TypeDesc} (ho : o.op = .call c) (hc : c.callee = .builtin .len) (ha : c.args.toList = [x]) (ht : c.argTypes[0]? = some t) (hu : C.P.underlying t = some d)
    (hx : cOpd x = some y) {v : Value} {n : Int} (he : evO a y = v) (hd : (∃ e b k c, d = .slice e ∧ v = .slice b k c ∧ n = k) ∨ (∃ s, d = .string ∧ v = .string s ∧ n = s.size)) : Reads C loc σ o a (.g (.s (.int .i64 n))) := by
  refine rd_val (s := Builtin.len_ c.argTypes o.type (c.args.map a.eval)) (v := .int .i64 n) ⟨rfl, rfl⟩ (by rw [exec_builtin ho hc]; rfl) fun w => ?_
  rw [args_one ha]
  rcases hd with ⟨e, b, k, cp, rfl, rfl, rfl⟩ | ⟨s, rfl, rfl, rfl⟩
  · simp [Builtin.len_, ht, Sem.run_bind, run_underlying' hu, cOpd_eval hx a, he, goInt]
  · simp [Builtin.len_, ht, Sem.run_bind, run_underlying' hu, cOpd_eval hx a, he, goInt]

theorem rd_min {c : Call} {x y : Operand} {x' y' : Opd} (ho : o.op = .call c) (hc : c.callee = .builtin .min) (ha : c.args.toList = [x, y]) (hx : cOpd x = some x') (hy : cOpd y = some y')
    (hF : FR loc C.N σ.fr σ.pv a) {k k' : IntKind} {i j : Int} (hp : ev σ x' = some (.g (.s (.int k i)))) (hq : ev σ y' = some (.g (.s (.int k' j)))) : Reads C loc σ o a (.g (.s (.int k (min i j)))) := by
  have e1 := (hF.ev rfl hp).s
  have e2 := (hF.ev rfl hq).s
  refine rd_val (s := Builtin.min_ c.argTypes o.type (c.args.map a.eval)) (v := .int k (min i j)) ⟨rfl, rfl⟩ (by rw [exec_builtin ho hc]; rfl) fun w => ?_
  rw [args_two ha]
  simp [Builtin.min_, Builtin.min2, cOpd_eval hx a, cOpd_eval hy a, e1, e2]
  rw [Int.min_def]; split <;> split <;> omega

theorem rd_max {c : Call} {x y : Operand} {x' y' : Opd} (ho : o.op = .call c) (hc : c.callee = .builtin .max) (ha : c.args.toList = [x, y]) (hx : cOpd x = some x') (hy : cOpd y = some y')
    (hF : FR loc C.N σ.fr σ.pv a) {k k' : IntKind} {i j : Int} (hp : ev σ x' = some (.g (.s (.int k i)))) (hq : ev σ y' = some (.g (.s (.int k' j)))) : Reads C loc σ o a (.g (.s (.int k (max i j)))) := by
  have e1 := (hF.ev rfl hp).s
  have e2 := (hF.ev rfl hq).s
  refine rd_val (s := Builtin.max_ c.argTypes o.type (c.args.map a.eval)) (v := .int k (max i j)) ⟨rfl, rfl⟩ (by rw [exec_builtin ho hc]; rfl) fun w => ?_
  rw [args_two ha]
  simp [Builtin.max_, Builtin.max2, cOpd_eval hx a, cOpd_eval hy a, e1, e2]
  rw [Int.max_def]; split <;> split <;> omega

theorem rd_ext {x : Operand} {y : Opd} {i : Nat} (ho : o.op = .extract x i) (hx : cOpd x = some y) (hF : FR loc C.N σ.fr σ.pv a) {xs : List GV} {r : GV} (hp : ev σ y = some (.tup xs)) (hr : xs[i]? = some r) : Reads C loc σ o a (.g r) := by
  obtain ⟨h1, h2⟩ := hF.ev rfl hp
  refine rd_val (s := Instr.extract (a.eval x) i) (v := r.val) ⟨h1 r (List.mem_of_getElem? hr), rfl⟩ (by simp only [execOp, ho]) fun w => ?_
  rw [cOpd_eval hx a, h2]
  simp [Instr.extract, hr]

end

end Go.Proofs.Ytdpknchgoeboaaa.Vc
