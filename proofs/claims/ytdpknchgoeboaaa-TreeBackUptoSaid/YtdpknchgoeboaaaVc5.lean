/- Soundness, one operation at a time. -/
import Derived.Test.YtdpknchgoeboaaaVc4b
set_option linter.unusedVariables false
set_option linter.unusedSimpArgs false
namespace Go.Proofs.Ytdpknchgoeboaaa.Vc
open Go

theorem SS.put_pv (σ : SS) (d : Option Nat) (x : SV) : (σ.put d x).pv = σ.pv ∧ (σ.put d x).ph = σ.ph ∧ (σ.put d x).m = σ.m := by
  cases d <;> exact ⟨rfl, rfl, rfl⟩

section
variable {C : Ctx} {loc : Loc} {σ : SS} {a : Act} {o : Oper} {w : World} {K : KT} {Q : Exit → Act → World → Prop}

theorem wp_of_reads {x : SV} (hd : ∀ t, o.dst = some t → t < C.N) (hR : Reads C loc σ o a x) (hF : FR loc C.N σ.fr σ.pv a) (hH : HR C loc σ.pv σ.ph σ.m w) (hK : K (σ.put o.dst x)) : o.wp C.P a w (liftK C K) Q := by
  obtain ⟨v, hv, hrun, _⟩ := hR
  unfold Oper.wp
  rw [hrun w hH, Oper.upon_value]
  obtain ⟨e1, e2, e3⟩ := σ.put_pv o.dst x
  refine ⟨_, hK, loc, ?_, ?_⟩
  · rw [e1]; exact hF.put hd rfl hv
  · rw [e1, e2, e3]; exact hH

theorem alloc_old {w : World} {ob : Obj} {j : Nat} (hj : j < w.heap.size) : (w.alloc ob).heap[j]? = w.heap[j]? := by
  show (w.heap.push _)[j]? = _
  rw [Array.getElem?_push, if_neg (by omega)]
theorem alloc_new {w : World} {ob : Obj} : (w.alloc ob).heap[w.heap.size]? = some ob := by
  show (w.heap.push _)[w.heap.size]? = _
  simp

theorem HR.own_lt {pv : List (Nat × PV)} {ph : List PH} {m : PH} (hH : HR C loc pv ph m w) {k : Nat} {y : PV} {b o c : Nat} (hk : look pv k = some y) (hy : y.own = true) (hl : loc k = some (b, o, c)) : b < w.heap.size := by
  have hp := hH.pvs k y hk
  cases y with
  | box g =>
    obtain ⟨_, b', c', e', hl', hb⟩ := hp
    rw [hl] at hl'
    obtain ⟨rfl, _⟩ : b = b' ∧ _ := by simpa using hl'
    exact (Array.getElem?_eq_some_iff.1 hb).1
  | row e z df xs =>
    obtain ⟨_, hp⟩ := hp
    rw [hl] at hp
    obtain ⟨cs, hb, _⟩ := hp
    exact (Array.getElem?_eq_some_iff.1 hb).1
  | ro z df xs => cases hy

/-- A new block in a world that stands so: it is k's from now on. -/
theorem HR.alloc (hH : HR C loc σ.pv σ.ph σ.m w) {k c : Nat} {y : PV} {ob : Obj} (hy : y.own = true) (hnew : PVr C (fun j => if j = k then some (w.heap.size, 0, c) else loc j) σ.ph (w.alloc ob) k y) :
    HR C (fun j => if j = k then some (w.heap.size, 0, c) else loc j) (updL σ.pv k y) σ.ph σ.m (w.alloc ob) := by
  have hW := hH.kept.2.2.2.1
  have hle : ∀ (u : PH), u.le w → u.le (w.alloc ob) := fun u hu j o hj => by
    have := hu j o hj
    rw [alloc_old (Array.getElem?_eq_some_iff.1 this).1]; exact this
  have hne : ∀ (u : PH), u.le w → u w.heap.size = none := fun u hu => by
    cases hh : u w.heap.size with
    | none => rfl
    | some o => have := hu _ _ hh; simp at this
  refine ⟨?_, ?_, ?_, ?_, hle _ hH.mle, hH.mmine, fun u hu => ⟨hle _ (hH.phs u hu).1, (hH.phs u hu).2⟩⟩
  · obtain ⟨h1, h2, h3, h4, h5⟩ := hH.kept
    exact ⟨h1, h2, h3, by simp; omega, fun j hj hm => by rw [alloc_old (by omega)]; exact h5 j hj hm⟩
  · intro j y' hj
    rw [look_upd] at hj
    by_cases hjk : j = k
    · simp only [hjk, if_true, Option.some.injEq] at hj
      subst hj; subst hjk
      exact hnew
    · simp only [hjk, if_false] at hj
      have hp := hH.pvs j y' hj
      cases y' with
      | box g' =>
        obtain ⟨h0, b', c', e', hl', hb⟩ := hp
        exact ⟨h0, b', c', e', by simp [hjk, hl'], by rw [alloc_old (Array.getElem?_eq_some_iff.1 hb).1]; exact hb⟩
      | row e' z df xs =>
        refine ⟨hp.1, ?_⟩
        simp only [hjk, if_false]
        have hp2 := hp.2
        cases hl : loc j with
        | none => rw [hl] at hp2; exact hp2
        | some l =>
          obtain ⟨b, o, c⟩ := l
          rw [hl] at hp2
          obtain ⟨cs, hb, hr⟩ := hp2
          exact ⟨cs, by rw [alloc_old (Array.getElem?_eq_some_iff.1 hb).1]; exact hb, hr⟩
      | ro z df xs =>
        refine ⟨hp.1, ?_⟩
        simp only [hjk, if_false]
        exact hp.2
  · intro j j' y1 y' b o c o' c' h1 h2 h3 h4 h5 h6
    rw [look_upd] at h1 h4
    by_cases hj : j = k <;> by_cases hj' : j' = k
    · rw [hj, hj']
    · simp only [hj, if_true] at h3
      simp only [hj', if_false] at h4 h6
      have := hH.own_lt h4 h5 h6
      simp at h3; omega
    · simp only [hj', if_true] at h6
      simp only [hj, if_false] at h1 h3
      have := hH.own_lt h1 h2 h3
      simp at h6; omega
    · simp only [hj, if_false] at h1 h3
      simp only [hj', if_false] at h4 h6
      exact hH.apart j j' y1 y' b o c o' c' h1 h2 h3 h4 h5 h6
  · intro j y1 b o c h1 h2 h3
    rw [look_upd] at h1
    by_cases hj : j = k
    · simp only [hj, if_true] at h3
      simp at h3
      obtain ⟨rfl, _⟩ := h3
      exact ⟨.inl hW, hne _ hH.mle, fun u hu => hne u (hH.phs u hu).1⟩
    · simp only [hj, if_false] at h1 h3
      exact hH.priv j y1 b o c h1 h2 h3

theorem SVr.weaken {loc loc' : Loc} {pv pv' : List (Nat × PV)} {x : SV} {v : Value} (h : SVr loc pv x v) (hp : ∀ k, x.mentions k = true → loc' k = loc k ∧ look pv' k = look pv k) : SVr loc' pv' x v := by
  have row : ∀ k, (loc' k = loc k ∧ look pv' k = look pv k) → rowE pv' k = rowE pv k := fun k hk => by unfold rowE; rw [hk.2]
  cases x with
  | g x => exact h
  | ref k p =>
    obtain ⟨e1, e2⟩ := hp k (by simp [SV.mentions])
    simpa only [SVr, e1, e2] using h
  | row k s n =>
    have := hp k (by simp [SV.mentions])
    simpa only [SVr, row k this, this.1] using h
  | rref k i p =>
    have := hp k (by simp [SV.mentions])
    simpa only [SVr, row k this, this.1] using h
  | tup xs => exact h
  | no => exact h
  | any => trivial

theorem SVr.there {x : SV} {v : Value} {pv : List (Nat × PV)} (h : SVr loc pv x v) (k : Nat) (hk : x.mentions k = true) : look pv k ≠ none := by
  cases x with
  | ref j p =>
    simp [SV.mentions] at hk; subst hk
    obtain ⟨g, b, c, y, h1, _⟩ := h
    simp [h1]
  | row j s n =>
    simp [SV.mentions] at hk; subst hk
    obtain ⟨z, xs, h1, _⟩ := h
    intro e; simp [rowE, e] at h1
  | rref j i p =>
    simp [SV.mentions] at hk; subst hk
    obtain ⟨z, xs, x, y, b, o, c, h1, _⟩ := h
    intro e; simp [rowE, e] at h1
  | g x => simp [SV.mentions] at hk
  | tup xs => simp [SV.mentions] at hk
  | no => simp [SV.mentions] at hk
  | any => simp [SV.mentions] at hk

/-- A variable of the call's own comes to be, in slot k. -/
theorem wp_newbox {k : Nat} {g : GV} {e : TypeId} (hdst : o.dst = some k) (hd : ∀ t, o.dst = some t → t < C.N) (hrun : (execOp a.eval o).run C.P w = .ok (.value (.pointer (some ⟨w.heap.size, 0, none⟩))) (w.alloc (.cells g.flat.toArray e)))
    (hg : g.ok) (hF : FR loc C.N σ.fr σ.pv a) (hH : HR C loc σ.pv σ.ph σ.m w) (hk : look σ.pv k = none) (hK : K { σ with fr := (k, .ref k []) :: σ.fr, pv := updL σ.pv k (.box g) }) : o.wp C.P a w (liftK C K) Q := by
  unfold Oper.wp
  rw [hrun, Oper.upon_value]
  refine ⟨_, hK, fun j => if j = k then some (w.heap.size, 0, 0) else loc j, ?_, hH.alloc (y := .box g) rfl ⟨hg, w.heap.size, 0, e, by simp, alloc_new⟩⟩
  have hkN := hd k hdst
  rw [hdst]
  refine ⟨hF.defers, by simp [Act.put, hF.size], fun t x hx => ?_⟩
  simp only [look] at hx
  by_cases ht : t = k
  · simp only [ht, if_true, Option.some.injEq] at hx
    subst hx; subst ht
    refine ⟨.pointer (some ⟨w.heap.size, 0, none⟩), by simp [Act.put, hF.size, hkN], g, w.heap.size, 0, g, by simp [look_upd], by simp, by cases g <;> rfl, by cases g <;> simp [GV.offs]⟩
  · simp only [ht, if_false] at hx
    obtain ⟨v, hv, hr⟩ := hF.slots t x hx
    refine ⟨v, by simp only [Act.put]; rw [Array.getElem?_setIfInBounds_ne (fun e => ht e.symm)]; exact hv, hr.weaken fun j hj => ?_⟩
    have hjk : j ≠ k := fun e => hr.there j hj (e ▸ hk)
    exact ⟨by simp [hjk], by simp [look_upd, hjk]⟩

end

/-! ### Stores -/
def _root_.Go.World.setBlk (w : World) (b : Nat) (o : Obj) : World := { w with heap := w.heap.setIfInBounds b o }

theorem setBlk_same {w : World} {b : Nat} {o : Obj} (h : b < w.heap.size) : (w.setBlk b o).heap[b]? = some o := by
  simp [World.setBlk, h]
theorem setBlk_other {w : World} {b k : Nat} {o : Obj} (h : k ≠ b) : (w.setBlk b o).heap[k]? = w.heap[k]? := by
  simp only [World.setBlk]
  rw [Array.getElem?_setIfInBounds_ne (fun e => h e.symm)]
theorem setBlk_size {w : World} {b : Nat} {o : Obj} : (w.setBlk b o).heap.size = w.heap.size := by simp [World.setBlk]

theorem setCell_blk {w : World} {b j : Nat} {cs : Array Value} {e : TypeId} {fz : Nat × Nat} (h : w.heap[b]? = some (.cells cs e fz)) (v : Value) : w.setCell ⟨b, j, none⟩ v = w.setBlk b (.cells (cs.setIfInBounds j v) e fz) := by
  have hlt : b < w.heap.size := (Array.getElem?_eq_some_iff.1 h).1
  have hv : w.heap[b] = .cells cs e fz := (Array.getElem?_eq_some_iff.1 h).2
  unfold World.setCell World.setBlk
  congr 1
  apply Array.ext_getElem?
  intro k
  simp only [Array.getElem?_modify, Array.getElem?_setIfInBounds]
  by_cases hk : b = k
  · subst hk; simp [hlt, hv]
  · simp [hk]

theorem setBlk_twice {w : World} {b : Nat} {o o' : Obj} : (w.setBlk b o).setBlk b o' = w.setBlk b o' := by
  simp [World.setBlk]

theorem setBlk_self {w : World} {b : Nat} {o : Obj} (h : w.heap[b]? = some o) : w.setBlk b o = w := by
  have hlt : b < w.heap.size := (Array.getElem?_eq_some_iff.1 h).1
  have hv : w.heap[b] = o := (Array.getElem?_eq_some_iff.1 h).2
  unfold World.setBlk
  cases w with
  | mk heap tape drawn os output =>
    congr 1
    apply Array.ext_getElem?
    intro k
    simp only [Array.getElem?_setIfInBounds]
    by_cases hk : b = k
    · subst hk; simp at hlt hv; simp [hlt, hv]
    · simp [hk]

theorem run_storeCells' {P : Program} {b o : Nat} {e : TypeId} : ∀ (vs : List Value) (i : Nat) (cs : Array Value) (w : World), w.heap[b]? = some (.cells cs e (0, 0)) → o + i + vs.length ≤ cs.size → (∀ v ∈ vs, v.oneCell' = true) →
    (storeCells ⟨b, o, none⟩ vs i).run P w = .ok () (w.setBlk b (.cells (writeAt cs (o + i) vs) e (0, 0)))
  | [], i, cs, w, hb, _, _ => by simp only [storeCells, writeAt]; rw [setBlk_self hb]; rfl
  | v :: vs, i, cs, w, hb, hl, h1 => by
    simp at hl
    have hi : o + i < cs.size := by omega
    have hlt : b < w.heap.size := (Array.getElem?_eq_some_iff.1 hb).1
    have hcell : w.cell? ⟨b, o + i, none⟩ = some cs[o + i] := by simp [World.cell?, hb, hi]
    have hfro : w.frozen? ⟨b, o + i, none⟩ = false := by simp [World.frozen?, hb]
    have hst : (store ((⟨b, o, none⟩ : Addr).add i) v).run P w = .ok () (w.setBlk b (.cells (cs.setIfInBounds (o + i) v) e (0, 0))) := by
      rw [addr_add, run_store P w _ v _ (h1 v (by simp)), hcell]
      simp only [hfro, Bool.false_eq_true, if_false]
      rw [setCell_blk hb]
    have ih := run_storeCells' (P := P) (b := b) (o := o) (e := e) vs (i + 1) (cs.setIfInBounds (o + i) v) (w.setBlk b (.cells (cs.setIfInBounds (o + i) v) e (0, 0))) (setBlk_same hlt) (by simp only [Array.size_setIfInBounds]; omega) (fun x hx => h1 x (by simp [hx]))
    simp only [storeCells, Sem.run_bind, hst, Result.andThen_ok, ih, setBlk_twice, writeAt]
    rw [Nat.add_assoc]

theorem run_storeVar' {P : Program} {t : TypeId} {i : TypeInfo} (hi : P.info? t = some i) {y : GV} (hy : y.ok) (hz : y.sz = i.size) {b o : Nat} {cs : Array Value} {e : TypeId} {w : World} (hb : w.heap[b]? = some (.cells cs e (0, 0)))
    (hl : o + i.size ≤ cs.size) : (storeVar t ⟨b, o, none⟩ y.val).run P w = .ok () (w.setBlk b (.cells (writeAt cs o (GV.flat y)) e (0, 0))) := by
  have hc := GV.cells_val y hy
  have hlen := GV.flat_len y hy
  have := run_storeCells' (P := P) (b := b) (o := o) (e := e) (GV.flat y) 0 cs w hb (by omega) (GV.flat_one y hy)
  simp only [Nat.add_zero] at this
  simp [storeVar, Sem.run_bind, run_sizeOf' hi, hc, hlen, hz, this]

theorem SVr.upd_box {loc : Loc} {pv : List (Nat × PV)} {x : SV} {v : Value} (hx : SVr loc pv x v) {k : Nat} {g h : GV} (hg : look pv k = some (.box g)) (hs : GV.same h g) : SVr loc (updL pv k (.box h)) x v := by
  have hs' : GV.same g h := GV.same_symm _ _ hs
  cases x with
  | ref j p =>
    by_cases hj : j = k
    · subst hj
      obtain ⟨g', b, c, y, h1, h2, h3, h4⟩ := hx
      rw [hg] at h1
      obtain rfl : g = g' := by simpa using h1
      obtain ⟨e1, z, e2, e3⟩ := GV.same_get g h p y hs' h3
      exact ⟨h, b, c, z, by simp [look_upd], h2, e2, by rw [h4, e1]⟩
    · exact hx.weaken fun i hi => by
        simp [SV.mentions] at hi; subst hi
        exact ⟨rfl, by simp [look_upd, hj]⟩
  | row j s n =>
    have hj : j ≠ k := fun e => by
      obtain ⟨z, xs, h1, _⟩ := hx
      simp [rowE, e, hg] at h1
    exact hx.weaken fun i hi => by
      simp [SV.mentions] at hi; subst hi
      exact ⟨rfl, by simp [look_upd, hj]⟩
  | rref j i p =>
    have hj : j ≠ k := fun e => by
      obtain ⟨z, xs, _, _, _, _, _, h1, _⟩ := hx
      simp [rowE, e, hg] at h1
    exact hx.weaken fun i hi => by
      simp [SV.mentions] at hi; subst hi
      exact ⟨rfl, by simp [look_upd, hj]⟩
  | g x => exact hx
  | tup xs => exact hx
  | no => exact hx
  | any => trivial

theorem rowE_upd {pv : List (Nat × PV)} {k j z : Nat} {e : TypeId} {df : GV} {xs : List GV} : rowE (updL pv k (.row e z df xs)) j = if j = k then some (z, xs) else rowE pv j := by
  unfold rowE
  rw [look_upd]
  by_cases h : j = k <;> simp [h]

theorem SVr.upd_row {loc : Loc} {pv : List (Nat × PV)} {x : SV} {v : Value} (hx : SVr loc pv x v) {k z i : Nat} {e : TypeId} {df : GV} {xs : List GV} {x0 h : GV} (hg : look pv k = some (.row e z df xs)) (hi : xs[i]? = some x0) (hs : GV.same h x0) :
    SVr loc (updL pv k (.row e z df (xs.set i h))) x v := by
  have hs' : GV.same x0 h := GV.same_symm _ _ hs
  have hrow : rowE pv k = some (z, xs) := by simp [rowE, hg]
  cases x with
  | ref j p =>
    have hj : j ≠ k := fun e => by
      obtain ⟨g', b, c, y, h1, _⟩ := hx
      simp [e, hg] at h1
    exact hx.weaken fun i hi => by
      simp [SV.mentions] at hi; subst hi
      exact ⟨rfl, by simp [look_upd, hj]⟩
  | row j s n =>
    by_cases hj : j = k
    · subst hj
      obtain ⟨z', xs', h1, h2, h3⟩ := hx
      rw [hrow] at h1
      obtain ⟨rfl, rfl⟩ : z = z' ∧ xs = xs' := by simpa using h1
      exact ⟨z, _, by rw [rowE_upd, if_pos rfl], by simpa using h2, h3⟩
    · exact hx.weaken fun i hi => by
        simp [SV.mentions] at hi; subst hi
        exact ⟨rfl, by simp [look_upd, hj]⟩
  | rref j l p =>
    by_cases hj : j = k
    · subst hj
      obtain ⟨z', xs', x', y, b, o, c, h1, h2, h3, h4, h5⟩ := hx
      rw [hrow] at h1
      obtain ⟨rfl, rfl⟩ : z = z' ∧ xs = xs' := by simpa using h1
      by_cases hl : l = i
      · subst hl
        rw [hi] at h2
        obtain rfl : x0 = x' := by simpa using h2
        obtain ⟨e1, y', e2, e3⟩ := GV.same_get x0 h p y hs' h3
        have hlt : l < xs.length := by
          rcases Nat.lt_or_ge l xs.length with h' | h'
          · exact h'
          · simp [List.getElem?_eq_none h'] at hi
        exact ⟨z, _, h, y', b, o, c, by rw [rowE_upd, if_pos rfl], by simp [hlt], e2, h4, by rw [h5, e1]⟩
      · exact ⟨z, _, x', y, b, o, c, by rw [rowE_upd, if_pos rfl], by rw [List.getElem?_set_ne (fun e => hl e.symm)]; exact h2, h3, h4, h5⟩
    · exact hx.weaken fun i hi => by
        simp [SV.mentions] at hi; subst hi
        exact ⟨rfl, by simp [look_upd, hj]⟩
  | g x => exact hx
  | tup xs => exact hx
  | no => exact hx
  | any => trivial

section
variable {C : Ctx} {loc : Loc} {pv : List (Nat × PV)} {ph : List PH} {m : PH} {w : World}

/-- A block of the call's own is written. -/
theorem HR.write (hH : HR C loc pv ph m w) {k b o c : Nat} {y y' : PV} {ob : Obj} (hk : look pv k = some y) (hy : y.own = true) (hl : loc k = some (b, o, c)) (hb : b < w.heap.size) (hnew : PVr C loc ph (w.setBlk b ob) k y') (hy' : y'.own = true) :
    HR C loc (updL pv k y') ph m (w.setBlk b ob) := by
  obtain ⟨hmine, hmb, hphb⟩ := hH.priv k y b o c hk hy hl
  have hle : ∀ (u : PH), u b = none → u.le w → u.le (w.setBlk b ob) := fun u hn hu j o hj => by
    rw [setBlk_other (fun e => by subst e; rw [hn] at hj; cases hj)]
    exact hu j o hj
  refine ⟨?_, ?_, ?_, ?_, hle m hmb hH.mle, hH.mmine, fun u hu => ⟨hle u (hphb u hu) (hH.phs u hu).1, (hH.phs u hu).2⟩⟩
  · obtain ⟨h1, h2, h3, h4, h5⟩ := hH.kept
    refine ⟨h1, h2, h3, by rw [setBlk_size]; exact h4, fun j hj hm => ?_⟩
    rw [setBlk_other (fun e => by subst e; exact hmine.elim (fun h => by omega) (fun h => h hm))]
    exact h5 j hj hm
  · intro j x hj
    rw [look_upd] at hj
    by_cases hjk : j = k
    · simp only [hjk, if_true, Option.some.injEq] at hj
      subst hj; subst hjk
      exact hnew
    · simp only [hjk, if_false] at hj
      have hp := hH.pvs j x hj
      cases x with
      | box g' =>
        obtain ⟨h0, b', c', e', hl', hb'⟩ := hp
        have hne : b' ≠ b := fun e => hjk (hH.apart j k _ _ b' 0 c' o c hj rfl hl' hk hy (e ▸ hl))
        exact ⟨h0, b', c', e', hl', by rw [setBlk_other hne]; exact hb'⟩
      | row e' z df xs =>
        refine ⟨hp.1, ?_⟩
        have hp2 := hp.2
        cases hlj : loc j with
        | none => rw [hlj] at hp2; exact hp2
        | some l =>
          obtain ⟨b', o', c'⟩ := l
          rw [hlj] at hp2
          obtain ⟨cs, hb', hr⟩ := hp2
          have hne : b' ≠ b := fun e => hjk (hH.apart j k _ _ b' o' c' o c hj rfl hlj hk hy (e ▸ hl))
          exact ⟨cs, by rw [setBlk_other hne]; exact hb', hr⟩
      | ro z df xs => exact hp
  · intro j j' x x' b1 o1 c1 o2 c2 h1 h2 h3 h4 h5 h6
    rw [look_upd] at h1 h4
    by_cases hj : j = k <;> by_cases hj' : j' = k
    · rw [hj, hj']
    · simp only [hj', if_false] at h4
      subst hj
      exact hH.apart j j' y x' b1 o1 c1 o2 c2 hk hy h3 h4 h5 h6
    · simp only [hj, if_false] at h1
      subst hj'
      exact hH.apart j j' x y b1 o1 c1 o2 c2 h1 h2 h3 hk hy h6
    · simp only [hj, if_false] at h1
      simp only [hj', if_false] at h4
      exact hH.apart j j' x x' b1 o1 c1 o2 c2 h1 h2 h3 h4 h5 h6
  · intro j x b1 o1 c1 h1 h2 h3
    rw [look_upd] at h1
    by_cases hj : j = k
    · subst hj; exact hH.priv j y b1 o1 c1 hk hy h3
    · simp only [hj, if_false] at h1; exact hH.priv j x b1 o1 c1 h1 h2 h3
end

section
variable {C : Ctx} {loc : Loc} {σ : SS} {a : Act} {o : Oper} {w : World} {K : KT} {Q : Exit → Act → World → Prop}

theorem wp_st_box {t : TypeId} {i : TypeInfo} {x v : Operand} {x' v' : Opd} (ho : o.op = .store t x v) (hi : C.P.info? t = some i) (hx : cOpd x = some x') (hv : cOpd v = some v') (hd : ∀ t, o.dst = some t → t < C.N)
    (hF : FR loc C.N σ.fr σ.pv a) (hH : HR C loc σ.pv σ.ph σ.m w) {k : Nat} {p : List Nat} {y g : GV} (e1 : ev σ x' = some (.ref k p)) (e2 : ev σ v' = some (.g y)) (hg : look σ.pv k = some (.box g))
    (hs : GV.same y (g.getT p)) (hz : y.sz = i.size) (hK : K ({ σ with pv := updL σ.pv k (.box (g.setT p y)) }.put o.dst .no)) : o.wp C.P a w (liftK C K) Q := by
  obtain ⟨g', b, c, y0, hg', hl, hy0, he⟩ := hF.ev rfl e1
  obtain ⟨hyok, hev⟩ := hF.ev rfl e2
  rw [hg] at hg'
  obtain rfl : g = g' := by simpa using hg'
  rw [GV.getT_of g p y0 hy0] at hs
  have hh := GV.setT_of g p y y0 hy0
  generalize hgh : g.setT p y = h at hh hK
  obtain ⟨hgok, b', c', e, hl', hb⟩ := hH.pvs k _ hg
  rw [hl] at hl'
  obtain ⟨rfl, rfl⟩ : b = b' ∧ c = c' := by simpa using hl'
  obtain ⟨h1, h2, h3, h4⟩ := sub_cells hgok hyok hy0 hs hh
  have hlt : b < w.heap.size := (Array.getElem?_eq_some_iff.1 hb).1
  have hrun : (execOp a.eval o).run C.P w = .ok .skip (w.setBlk b (.cells (GV.flat h).toArray e)) := by
    simp only [execOp, ho, cOpd_eval hx a, cOpd_eval hv a, he, hev, Instr.storeAt, Instr.sureAddr, Sem.run_bind, Sem.run_pure, Result.andThen_ok]
    rw [run_storeVar' hi hyok hz hb (by simp only [List.size_toArray]; omega), h1]
    rfl
  unfold Oper.wp
  rw [hrun, Oper.upon_skip]
  have hH' := hH.write hg rfl hl hlt (y' := .box h) (ob := .cells (GV.flat h).toArray e) ⟨h3, b, c, e, hl, setBlk_same hlt⟩ rfl
  obtain ⟨q1, q2, q3⟩ := ({ σ with pv := updL σ.pv k (.box h) } : SS).put_pv o.dst .no
  refine ⟨_, hK, loc, ?_, ?_⟩
  · rw [q1]
    have hF' : FR loc C.N σ.fr (updL σ.pv k (.box h)) a := ⟨hF.defers, hF.size, fun t x hx => by
      obtain ⟨u, hu, hr⟩ := hF.slots t x hx
      exact ⟨u, hu, hr.upd_box hg h4⟩⟩
    exact hF'.put (σ := { σ with pv := updL σ.pv k (.box h) }) hd (x := .no) (v := undef) rfl rfl
  · rw [q1, q2, q3]; exact hH'

theorem Els.set {z : Nat} {xs : List GV} (h : Els z xs) {i : Nat} {x : GV} (hx : x.ok) (hz : x.sz = z) : Els z (xs.set i x) := by
  intro y hy
  rcases List.mem_or_eq_of_mem_set hy with h1 | rfl
  · exact h y h1
  · exact ⟨hx, hz⟩

theorem flats_set {z : Nat} : ∀ {xs : List GV} {i : Nat} {x h : GV}, Els z xs → xs[i]? = some x → h.sz = z → h.ok → ∀ j v, (flats (xs.set i h))[j]? = some v → if i * z ≤ j ∧ j < i * z + z then (GV.flat h)[j - i * z]? = some v else (flats xs)[j]? = some v
  | [], i, x, h, _, hx, _, _, _, _, _ => by simp at hx
  | y :: xs, 0, x, h, he, hx, hz, hok, j, v, hv => by
    have h1 := he y (by simp)
    have hl : (GV.flat y).length = z := by rw [GV.flat_len y h1.1, h1.2]
    have hl' : (GV.flat h).length = z := by rw [GV.flat_len h hok, hz]
    simp only [List.set_cons_zero, flats, List.flatMap_cons] at hv ⊢
    by_cases hj : j < z
    · rw [if_pos (by omega)]
      rw [List.getElem?_append_left (by omega)] at hv
      simpa using hv
    · rw [if_neg (by omega)]
      rw [List.getElem?_append_right (by omega)] at hv ⊢
      rw [hl]; rw [hl'] at hv; exact hv
  | y :: xs, i + 1, x, h, he, hx, hz, hok, j, v, hv => by
    have h1 := he y (by simp)
    have hl : (GV.flat y).length = z := by rw [GV.flat_len y h1.1, h1.2]
    simp only [List.set_cons_succ, flats, List.flatMap_cons] at hv ⊢
    rw [Nat.succ_mul]
    by_cases hj : j < z
    · rw [List.getElem?_append_left (by omega)] at hv
      rw [if_neg (by omega), List.getElem?_append_left (by omega)]
      exact hv
    · rw [List.getElem?_append_right (by omega), hl] at hv
      have ih := flats_set (xs := xs) (i := i) (fun y hy => he y (by simp [hy])) (by simpa using hx) hz hok (j - z) v hv
      by_cases hb : i * z + z ≤ j ∧ j < i * z + z + z
      · rw [if_pos (by omega)] at ih
        rw [if_pos hb, show j - (i * z + z) = j - z - i * z by omega]
        exact ih
      · rw [if_neg (by omega)] at ih
        rw [if_neg hb, List.getElem?_append_right (by omega), hl]
        exact ih

theorem wp_st_row {t : TypeId} {i : TypeInfo} {x v : Operand} {x' v' : Opd} (ho : o.op = .store t x v) (hi : C.P.info? t = some i) (hx : cOpd x = some x') (hv : cOpd v = some v') (hd : ∀ t, o.dst = some t → t < C.N)
    (hF : FR loc C.N σ.fr σ.pv a) (hH : HR C loc σ.pv σ.ph σ.m w) {k l : Nat} {p : List Nat} {y : GV} {e : TypeId} {z : Nat} {df : GV} {xs : List GV} (e1 : ev σ x' = some (.rref k l p)) (e2 : ev σ v' = some (.g y)) (hg : look σ.pv k = some (.row e z df xs))
    (hs : GV.same y ((xs.getD l df).getT p)) (hz : y.sz = i.size) (hK : K ({ σ with pv := updL σ.pv k (.row e z df (xs.set l ((xs.getD l df).setT p y))) }.put o.dst .no)) : o.wp C.P a w (liftK C K) Q := by
  have hrow : rowE σ.pv k = some (z, xs) := by simp [rowE, hg]
  obtain ⟨z', xs', x0, y0, b, o', c, hg', hx0, hy0, hl, he⟩ := hF.ev rfl e1
  obtain ⟨hyok, hev⟩ := hF.ev rfl e2
  rw [hrow] at hg'
  obtain ⟨rfl, rfl⟩ : z = z' ∧ xs = xs' := by simpa using hg'
  have hxd : xs.getD l df = x0 := by simp [hx0]
  rw [hxd, GV.getT_of x0 p y0 hy0] at hs
  rw [hxd] at hK
  have hh := GV.setT_of x0 p y y0 hy0
  generalize hgh : x0.setT p y = h at hh hK
  obtain ⟨hels, hp⟩ := hH.pvs k _ hg
  rw [hl] at hp
  obtain ⟨cs, hb, hlen, hsz, hat⟩ := hp
  have hx0ok := hels x0 (List.mem_of_getElem? hx0)
  obtain ⟨h1, h2, h3, h4⟩ := sub_cells hx0ok.1 hyok hy0 hs hh
  have hlt : b < w.heap.size := (Array.getElem?_eq_some_iff.1 hb).1
  have hll : l < xs.length := by
    rcases Nat.lt_or_ge l xs.length with h' | h'
    · exact h'
    · simp [List.getElem?_eq_none h'] at hx0
  have hfx : (GV.flat x0).length = z := by rw [GV.flat_len x0 hx0ok.1, hx0ok.2]
  have hmul : l * z + z ≤ c * z := by rw [← Nat.succ_mul]; exact Nat.mul_le_mul_right z (by omega)
  have hrun : (execOp a.eval o).run C.P w = .ok .skip (w.setBlk b (.cells (writeAt cs (o' + l * z + x0.offs p) (GV.flat y)) e)) := by
    simp only [execOp, ho, cOpd_eval hx a, cOpd_eval hv a, he, hev, Instr.storeAt, Instr.sureAddr, Sem.run_bind, Sem.run_pure, Result.andThen_ok]
    rw [run_storeVar' hi hyok hz hb (by omega)]
    rfl
  unfold Oper.wp
  rw [hrun, Oper.upon_skip]
  have hysz : (GV.flat y).length = y.sz := GV.flat_len y hyok
  have hH' := hH.write hg rfl hl hlt (y' := .row e z df (xs.set l h)) (ob := .cells (writeAt cs (o' + l * z + x0.offs p) (GV.flat y)) e) ⟨hels.set h3 (by rw [GV.same_sz h x0 h4]; exact hx0ok.2), by
    rw [hl]
    refine ⟨_, setBlk_same hlt, by simpa using hlen, by rw [writeAt_size]; exact hsz, fun j v hj => ?_⟩
    have := flats_set hels hx0 (by rw [GV.same_sz h x0 h4]; exact hx0ok.2) h3 j v hj
    rw [writeAt_get _ _ _ _ (by omega)]
    by_cases hin : l * z ≤ j ∧ j < l * z + z
    · rw [if_pos hin] at this
      have h1' : (writeAt (GV.flat x0).toArray (x0.offs p) (GV.flat y))[j - l * z]? = some v := by rw [h1]; simpa using this
      rw [writeAt_get _ _ _ _ (by simp only [List.size_toArray]; omega)] at h1'
      by_cases hy2 : o' + l * z + x0.offs p ≤ o' + j ∧ o' + j < o' + l * z + x0.offs p + (GV.flat y).length
      · rw [if_pos hy2]
        rw [if_pos (by omega)] at h1'
        rw [show o' + j - (o' + l * z + x0.offs p) = j - l * z - x0.offs p by omega]
        exact h1'
      · rw [if_neg hy2]
        rw [if_neg (by omega)] at h1'
        have h5 := flats_at hels hx0 (j - l * z) v (by simpa using h1')
        rw [show l * z + (j - l * z) = j by omega] at h5
        exact hat j v h5
    · rw [if_neg hin] at this
      rw [if_neg (by omega)]
      exact hat j v this⟩ rfl
  obtain ⟨q1, q2, q3⟩ := ({ σ with pv := updL σ.pv k (.row e z df (xs.set l h)) } : SS).put_pv o.dst .no
  refine ⟨_, hK, loc, ?_, ?_⟩
  · rw [q1]
    have hF' : FR loc C.N σ.fr (updL σ.pv k (.row e z df (xs.set l h))) a := ⟨hF.defers, hF.size, fun t x hx => by
      obtain ⟨u, hu, hr⟩ := hF.slots t x hx
      exact ⟨u, hu, hr.upd_row hg hx0 h4⟩⟩
    exact hF'.put (σ := { σ with pv := updL σ.pv k (.row e z df (xs.set l h)) }) hd (x := .no) (v := undef) rfl rfl
  · rw [q1, q2, q3]; exact hH'

end

end Go.Proofs.Ytdpknchgoeboaaa.Vc
