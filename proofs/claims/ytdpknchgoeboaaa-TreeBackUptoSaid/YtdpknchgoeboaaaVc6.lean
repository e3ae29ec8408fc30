/- Soundness: operations, regions, code. -/
import Derived.Test.YtdpknchgoeboaaaVc5m
set_option linter.unusedVariables false
set_option linter.unusedSimpArgs false
namespace Go.Proofs.Ytdpknchgoeboaaa.Vc
open Go

theorem scEq_eq {a b : Value} (h : scEq a b = true) : a = b := by
  unfold scEq at h
  split at h <;> first | (cases h; done) | rfl | skip
  · simp at h; simp [h.1, h.2]
  · simpa using h
  · simp at h
    rename_i x y
    congr 1
    exact ByteArray.ext (by simpa using h)

theorem scEqL_eq : ∀ {a b : List Value}, scEqL a b = true → a = b
  | [], [], _ => rfl
  | x :: a, y :: b, h => by
    simp [scEqL] at h
    rw [scEq_eq h.1, scEqL_eq h.2]
  | [], _ :: _, h => by simp [scEqL] at h
  | _ :: _, [], h => by simp [scEqL] at h

theorem okB_ok : ∀ {g : GV}, okB g = true → g.ok
  | .s v, h => h
  | .u, _ => trivial
  | .c h t, e => by
    simp [okB] at e
    exact ⟨okB_ok e.1, okB_ok e.2⟩
  | .ar n e f, h => by
    simp [okB] at h
    intro j hj
    exact ⟨okB_ok (h j hj).1, (h j hj).2⟩

section
variable {C : Ctx} {loc : Loc} {σ : SS} {a : Act} {o : Oper} {w : World} {K : KT} {Q : Exit → Act → World → Prop}

theorem mapM_eval : ∀ {l : List Operand} {l' : List Opd}, l.mapM cOpd = some l' → ∀ a : Act, l.map a.eval = l'.map (evO a)
  | [], l', h, a => by simp at h; subst h; rfl
  | x :: l, l', h, a => by
    simp only [List.mapM_cons, Option.bind_eq_bind, Option.bind_eq_some_iff, Option.pure_def, Option.some.injEq] at h
    obtain ⟨y, hy, l2, hl2, rfl⟩ := h
    simp [cOpd_eval hy a, mapM_eval hl2 a]

theorem call_run {f : Nat} {args : List Opd} {c : Call} {fn : Func} (ho : o.op = .call c) (hc : c.callee = .value (.func f)) (hf : C.P.funcs[f]? = some fn) (hfn : (fn.body.isSome && fn.name != "runtime.NumGoroutine") = true)
    (ha : c.args.toList.mapM cOpd = some args) : (execOp a.eval o).run C.P w = .ok (.enter f (args.map (evO a)).toArray) w := by
  have hargs : c.args.map a.eval = (args.map (evO a)).toArray := by
    rw [← mapM_eval ha a]
    apply Array.toList_inj.mp
    simp
  obtain ⟨dst, op, type, pos, after, guard⟩ := o
  obtain ⟨callee, cargs, argTypes⟩ := c
  simp only at ho hc hargs
  subst ho; subst hc
  simp at hfn
  obtain ⟨b, hb⟩ := Option.isSome_iff_exists.mp hfn.1
  simp [execOp, resolve, Deferred.ofValue, Act.eval, invoke, callFunc, Sem.run_bind, hf, hfn.2, hb, hargs]

theorem wp_call {f : Nat} {args : List Opd} {c : Call} {fn : Func} (ho : o.op = .call c) (hc : c.callee = .value (.func f)) (hf : C.P.funcs[f]? = some fn) (hfn : (fn.body.isSome && fn.name != "runtime.NumGoroutine") = true)
    (ha : c.args.toList.mapM cOpd = some args) (hR : Rel C σ a w) (h : vcCall C f args o.dst K σ) : o.wp C.P a w (liftK C K) Q := by
  unfold Oper.wp
  rw [call_run ho hc hf hfn ha, Oper.upon_enter]
  refine (h.h a w hR).mono fun e w' he => ?_
  obtain ⟨v, rfl, hK⟩ := he
  exact hK

theorem wp_callV {f v : Nat} {args : List Opd} {c : Call} {fn : Func} {p q : Array Value} (ho : o.op = .call c) (hc : c.callee = .value (.tmp v)) (hf : C.P.funcs[f]? = some fn) (hfn : (fn.body.isSome && fn.name != "runtime.NumGoroutine") = true)
    (ha : c.args.toList.mapM cOpd = some args) (hv : a.tmps.getD v undef = .func (.func f) p q) (hR : Rel C σ a w) (h : vcCall C f (p.toList.map Opd.c ++ args ++ q.toList.map Opd.c) o.dst K σ) : o.wp C.P a w (liftK C K) Q := by
  have hargs : c.args.map a.eval = (args.map (evO a)).toArray := by
    rw [← mapM_eval ha a]
    apply Array.toList_inj.mp
    simp
  have hcs : ∀ l : List Value, (l.map Opd.c).map (evO a) = l := fun l => by
    induction l with
    | nil => rfl
    | cons x l ih => simp only [List.map_cons, ih]; rfl
  have hrun : (execOp a.eval o).run C.P w = .ok (.enter f ((p.toList.map Opd.c ++ args ++ q.toList.map Opd.c).map (evO a)).toArray) w := by
    obtain ⟨dst, op, type, pos, after, guard⟩ := o
    obtain ⟨callee, cargs, argTypes⟩ := c
    simp only at ho hc hargs
    subst ho; subst hc
    simp at hfn
    obtain ⟨b, hb⟩ := Option.isSome_iff_exists.mp hfn.1
    have hv' : a.tmps[v]?.getD undef = .func (.func f) p q := by simpa using hv
    have hl : ((p.toList.map Opd.c ++ args ++ q.toList.map Opd.c).map (evO a)).toArray = p ++ (args.map (evO a)).toArray ++ q := by
      apply Array.toList_inj.mp
      simp [hcs]
    rw [hl]
    simp [execOp, resolve, Deferred.ofValue, Act.eval, hv', invoke, callFunc, Sem.run_bind, hf, hfn.2, hb, hargs]
  unfold Oper.wp
  rw [hrun, Oper.upon_enter]
  refine (h.h a w hR).mono fun e w' he => ?_
  obtain ⟨v, rfl, hK⟩ := he
  exact hK

theorem vcOp_split (hd : ∀ t, o.dst = some t → t < C.N) (h : vcOp C o.dst K σ (cOp C.P o)) (hF : FR loc C.N σ.fr σ.pv a) (hH : HR C loc σ.pv σ.ph σ.m w) :
    (∃ x, Reads C loc σ o a x ∧ K (σ.put o.dst x)) ∨ (isRd (cOp C.P o) = false ∧ ∀ Q, o.wp C.P a w (liftK C K) Q) := by
  have hW : ∃ w, HR C loc σ.pv σ.ph σ.m w := ⟨w, hH⟩
  unfold cOp at h
  cases hc : cOp? C.P o with
  | none =>
    rw [hc] at h
    rw [show cOp C.P o = .bot by unfold cOp; rw [hc]; rfl]
    exact (show False from h).elim
  | some ro =>
    rw [hc] at h
    simp only [Option.getD_some] at h
    have fin : ∀ x, Reads C loc σ o a x → K (σ.put o.dst x) → (∃ x, Reads C loc σ o a x ∧ K (σ.put o.dst x)) ∨ (isRd ((some ro : Option RO).getD .bot) = false ∧ ∀ Q, o.wp C.P a w (liftK C K) Q) := fun x hx hk => .inl ⟨x, hx, hk⟩
    rw [show cOp C.P o = (some ro : Option RO).getD .bot by unfold cOp; rw [hc]]
    unfold cOp? at hc
    split at hc
    case h_1 x ho =>
      simp only [Option.map_eq_some_iff] at hc
      obtain ⟨y, hy, rfl⟩ := hc
      simp only [vcOp] at h
      split at h
      · rename_i v hv; exact fin v (rd_mv (.inl ho) hy hF hv) h
      · exact h.elim
    case h_2 x ho =>
      simp only [Option.map_eq_some_iff] at hc
      obtain ⟨y, hy, rfl⟩ := hc
      simp only [vcOp] at h
      split at h
      · rename_i v hv; exact fin v (rd_mv (.inr ho) hy hF hv) h
      · exact h.elim
    case h_3 c x y ho =>
      split at hc <;> first | (cases hc; done) | skip
      rename_i c' x' y' hc1 hx1 hy1
      simp only [Option.some.injEq] at hc
      subst hc
      simp only [vcOp, brB] at h
      split at h
      · rename_i t v1 v2 ht hv1 hv2
        cases t with
        | true => exact fin v1 (rd_pick ho hc1 hx1 hy1 hF ht (by simpa using hv1)) (h.1 rfl)
        | false => exact fin v2 (rd_pick ho hc1 hx1 hy1 hF ht (by simpa using hv2)) (h.2 rfl)
      · exact h.elim
    case h_4 e x ho =>
      simp only [Option.map_eq_some_iff] at hc
      obtain ⟨y, hy, rfl⟩ := hc
      simp only [vcOp] at h
      split at h
      · rename_i k g hdst hv
        obtain ⟨hg, he⟩ := hF.ev rfl hv
        refine .inr ⟨rfl, fun Q => wp_newbox (e := e) hdst hd ?_ hg hF hH h.1 h.2⟩
        simp [execOp, ho, cOpd_eval hy a, he, Instr.box, newVar, newRow, Sem.run_bind, GV.cells_val g hg]
      · exact h.elim
    case h_5 e ho =>
      split at hc <;> first | (cases hc; done) | skip
      rename_i z v hz hv
      split at hc <;> first | (cases hc; done) | skip
      rename_i hok
      simp only [Option.some.injEq] at hc
      subst hc
      simp only [Bool.and_eq_true] at hok
      simp only [vcOp] at h
      split at h
      · rename_i k hdst
        obtain ⟨i, hi, hiz⟩ := Option.bind_eq_some_iff.mp hv
        have hcells : v.cells = (GV.flat z).toArray := by rw [scEqL_eq hok.2]
        refine .inr ⟨rfl, fun Q => wp_newbox (e := e) hdst hd ?_ (okB_ok hok.1) hF hH h.1 h.2⟩
        simp [execOp, ho, Instr.alloc, zeroValue, typeInfo, hi, hiz, newVar, newRow, Sem.run_bind, hcells]
      · exact h.elim
    case h_6 s x f ho =>
      split at hc <;> first | (cases hc; done) | skip
      rename_i fs x' hs hx
      split at hc <;> first | (cases hc; done) | skip
      rename_i fd hf
      split at hc <;> first | (cases hc; done) | skip
      rename_i i hi
      split at hc <;> first | (cases hc; done) | skip
      rename_i hz
      simp only [Option.some.injEq] at hc
      subst hc
      simp only [vcOp] at h
      split at h
      · rename_i k p hv
        split at h
        · rename_i g hg; exact fin _ (rd_fldA ho hs hf hi hz hx hF hv hg h.1) h.2
        · exact h.elim
      · rename_i k j p hv
        exact fin _ (rd_fldA' ho hs hf hi hz hx hF hv h.1) h.2
      · rename_i b q hv
        exact fin _ (rd_fldP ho hs hf hi hz hx hF hv) h
      · exact h.elim
    case h_7 t x i ho =>
      split at hc <;> first | (cases hc; done) | skip
      · rename_i n e x' i' ht hx hi
        simp only [Option.map_eq_some_iff] at hc
        obtain ⟨z, hz, rfl⟩ := hc
        simp only [vcOp] at h
        split at h
        · rename_i k p kd j hv hj
          split at h
          · rename_i g hg; exact fin _ (rd_idxA ho ht hz hx hi hF hv hj hg h.1 h.2.1) h.2.2
          · exact h.elim
        · rename_i k l p kd j hv hj
          exact fin _ (rd_idxA' ho ht hz hx hi hF hv hj h.1 h.2.1) h.2.2
        · rename_i b q kd j hv hj
          exact fin _ (rd_idxP ho ht hz hx hi hF hv hj h.1) h.2
        · exact h.elim
      · rename_i e x' i' ht hx hi
        simp only [Option.map_eq_some_iff] at hc
        obtain ⟨z, hz, rfl⟩ := hc
        simp only [vcOp] at h
        split at h
        · rename_i k s n kd j hv hj
          split at h
          · rename_i zz xs hg
            obtain ⟨rfl, h2, h3⟩ := h
            exact fin _ (rd_idxS ho ht hz hx hi hF hW hv hj hg h2) h3
          · exact h.elim
        · rename_i b q n c kd j hv hj
          exact fin _ (rd_idxSP ho ht hz hx hi hF hv hj h.1) h.2
        · exact h.elim
    case h_8 t x ho =>
      split at hc <;> first | (cases hc; done) | skip
      rename_i d i x' ht hi hx
      simp only [Option.some.injEq] at hc
      subst hc
      simp only [vcOp] at h
      split at h
      · rename_i k p hv
        split at h
        · rename_i g hg
          exact fin _ (rd_ld ho ht hi hx hF hv hg h.1 hW) h.2
        · exact h.elim
      · rename_i k l p hv
        exact fin _ (rd_ld' ho ht hi hx hF hv h.1 hW) h.2
      · rename_i b q hv
        obtain ⟨y, h1, h2, h3⟩ := h
        exact fin _ (rd_ldP ho ht hi hx hF hv h1 h2) h3
      · exact h.elim
    case h_9 t x v ho =>
      split at hc <;> first | (cases hc; done) | skip
      rename_i i x' v' hi hx hv
      simp only [Option.some.injEq] at hc
      subst hc
      simp only [vcOp] at h
      split at h
      · rename_i k p y e1 e2
        split at h
        · rename_i g hg
          exact .inr ⟨rfl, fun Q => wp_st_box ho hi hx hv hd hF hH e1 e2 hg h.1.1 h.1.2 h.2⟩
        · exact h.elim
      · rename_i k l p y e1 e2
        split at h
        · rename_i e z df xs hg
          exact .inr ⟨rfl, fun Q => wp_st_row ho hi hx hv hd hF hH e1 e2 hg h.1.1 h.1.2 h.2⟩
        · exact h.elim
      · rename_i b q y e1 e2
        obtain ⟨h1, cs, e, ⟨h2, h3⟩, h4⟩ := h
        exact .inr ⟨rfl, fun Q => wp_st_mem ho hi hx hv hd hF hH e1 e2 h2 h1 (by rw [← h1]; omega) h4⟩
      · exact h.elim
    case h_10 op t x y u ho =>
      have eqs : ∀ neg, (op = .eql ∧ neg = false ∨ op = .neq ∧ neg = true) → ∀ x' y', cOpd x = some x' → cOpd y = some y' → ro = .eqA neg t x' y' → (∃ x, Reads C loc σ o a x ∧ K (σ.put o.dst x)) ∨ (isRd ((some ro : Option RO).getD .bot) = false ∧ ∀ Q, o.wp C.P a w (liftK C K) Q) := by
        intro neg hop x' y' hx hy hro
        subst hro
        simp only [vcOp] at h
        split at h
        · rename_i p q e1 e2
          obtain ⟨r, h1, h2⟩ := h
          exact fin _ (rd_eqA ho hop hx hy hF e1 e2 h1) h2
        · rename_i k p e1 e2
          obtain ⟨⟨e, ht⟩, h2⟩ := h
          obtain ⟨_, b, c, _, _, _, _, hp⟩ := hF.ev rfl e1
          exact fin _ (rd_eqNilP ho hop hx hy hF ht hp e2) h2
        · rename_i k i p e1 e2
          obtain ⟨⟨e, ht⟩, h2⟩ := h
          obtain ⟨_, _, _, _, b, o', c, _, _, _, _, hp⟩ := hF.ev rfl e1
          exact fin _ (rd_eqNilP ho hop hx hy hF ht hp e2) h2
        · rename_i k s n e1 e2
          obtain ⟨⟨e, ht⟩, h2⟩ := h
          obtain ⟨z, xs, g1, g2, g3⟩ := hF.ev rfl e1
          have hrow := (hH.row g1).2
          cases hl : loc k with
          | none =>
            rw [hl] at g3 hrow
            simp only at hrow
            subst hrow
            obtain ⟨ad, g3⟩ := g3
            exact fin _ (rd_eqNilS ho hop hx hy hF ht g3 e2) (h2 ad.isNone fun hn => by simp at g2; omega)
          | some L =>
            obtain ⟨b, f, c⟩ := L
            rw [hl] at g3
            obtain ⟨ad, g3, _⟩ := g3
            exact fin _ (rd_eqNilS ho hop hx hy hF ht g3 e2) (h2 false fun _ => rfl)
        · exact h.elim
      have bins : ∀ x' y', cOpd x = some x' → cOpd y = some y' → ro = .bin op x' y' → (∃ x, Reads C loc σ o a x ∧ K (σ.put o.dst x)) ∨ (isRd ((some ro : Option RO).getD .bot) = false ∧ ∀ Q, o.wp C.P a w (liftK C K) Q) := by
        intro x' y' hx hy hro
        subst hro
        simp only [vcOp] at h
        split at h
        · rename_i p q e1 e2
          split at h
          · rename_i v h1; exact fin _ (rd_bin ho hx hy hF e1 e2 h1 h.1) h.2
          · exact h.elim
        · exact h.elim
      split at hc
      · rename_i x' y' ht hx hy
        simp only [Option.some.injEq] at hc
        exact bins _ _ hx hy hc.symm
      · rename_i x' y' ht hx hy
        simp only [Option.some.injEq] at hc
        exact bins _ _ hx hy hc.symm
      · rename_i x' y' hx hy _ _ ht
        split at hc
        · simp only [Option.some.injEq] at hc
          exact eqs false (.inl ⟨rfl, rfl⟩) _ _ (by assumption) (by assumption) hc.symm
        · simp only [Option.some.injEq] at hc
          exact eqs true (.inr ⟨rfl, rfl⟩) _ _ (by assumption) (by assumption) hc.symm
        · cases hc
      · cases hc
    case h_11 op t x ho =>
      simp only [Option.map_eq_some_iff] at hc
      obtain ⟨y, hy, rfl⟩ := hc
      simp only [vcOp] at h
      split at h
      · rename_i p e1
        split at h
        · rename_i v h1; exact fin _ (rd_un ho hy hF e1 h1) h
        · exact h.elim
      · exact h.elim
    case h_12 t x f ho =>
      split at hc <;> first | (cases hc; done) | skip
      rename_i fs x' hs hx
      split at hc <;> first | (cases hc; done) | skip
      rename_i fd hf
      split at hc <;> first | (cases hc; done) | skip
      rename_i dd i hdd hi
      simp only [Option.some.injEq] at hc
      subst hc
      simp only [vcOp] at h
      split at h
      · rename_i g hv; exact fin _ (rd_fldV ho hs hf hdd hi hx hF hv h.1 h.2.1) h.2.2
      · exact h.elim
    case h_13 t x i ho =>
      split at hc <;> first | (cases hc; done) | skip
      · rename_i n e x' i' ht hx hi
        split at hc <;> first | (cases hc; done) | skip
        rename_i dd z hdd hz
        simp only [Option.some.injEq] at hc
        subst hc
        simp only [vcOp] at h
        split at h
        · rename_i g kd j hv hj; exact fin _ (rd_idxV ho ht hdd hz hx hi hF hv hj h.1 h.2.1 h.2.2.1) h.2.2.2
        · exact h.elim
      · rename_i x' i' ht hx hi
        simp only [Option.some.injEq] at hc
        subst hc
        simp only [vcOp] at h
        split at h
        · rename_i s kd j hv hj; exact fin _ (rd_strI ho ht hx hi hF hv hj h.1) h.2
        · exact h.elim
    case h_14 t x lo hi mx ho =>
      split at hc <;> first | (cases hc; done) | skip
      · rename_i x' lo' hi' ht hx hlo hhi
        simp only [Option.some.injEq] at hc
        subst hc
        simp only [vcOp] at h
        split at h
        · rename_i s hv
          split at h
          · rename_i l hh hl1 hh1; exact fin _ (rd_slS ho ht hx hlo hhi hF hv hl1 hh1 h.1) h.2
          · exact h.elim
        · exact h.elim
      · rename_i e x' lo' hi' ht hx hlo hhi
        simp only [Option.map_eq_some_iff] at hc
        obtain ⟨z, hz, rfl⟩ := hc
        simp only [vcOp] at h
        split at h
        · rename_i k s n hv
          split at h
          · rename_i l hh z' xs hl1 hh1 hg
            obtain ⟨⟨rfl, h1⟩, h2⟩ := h
            exact fin _ (rd_sl ho ht hz hx hlo hhi hF hW hv hl1 hh1 h1 (fun z2 xs2 e2 => by rw [hg] at e2; simp at e2; exact e2.1.symm)) h2
          · exact h.elim
        · rename_i hv
          split at h
          · rename_i l hh hl1 hh1
            obtain ⟨⟨rfl, rfl⟩, h2⟩ := h
            exact fin _ (rd_slNil ho ht hz hx hlo hhi hF hv hl1 hh1) h2
          · exact h.elim
        · rename_i b q n c hv
          split at h
          · rename_i l hh hl1 hh1
            exact fin _ (rd_slP ho ht hz hx hlo hhi hF hv hl1 hh1 h.1) h.2
          · exact h.elim
        · exact h.elim
    case h_15 s t x ho =>
      split at hc <;> first | (cases hc; done) | skip
      rename_i ks k x' hs ht hx
      simp only [Option.some.injEq] at hc
      subst hc
      simp only [vcOp] at h
      split at h
      · rename_i kd j hv; exact fin _ (rd_cvI ho hs ht hx hF hv) h
      · exact h.elim
      rename_i e x' hs ht hx
      split at hc <;> first | (cases hc; done) | skip
      rename_i he
      simp only [Option.some.injEq] at hc
      subst hc
      simp only [vcOp] at h
      split at h
      · rename_i y hv
        obtain ⟨bs, h1, h2⟩ := h
        exact fin _ (rd_b2s ho hs ht he hx hF hv h1) h2
      · exact h.elim
      rename_i e x' hs ht hx
      split at hc <;> first | (cases hc; done) | skip
      rename_i he
      simp only [Option.some.injEq] at hc
      subst hc
      simp only [vcOp] at h
      split at h
      · rename_i k b hdst e1
        exact .inr ⟨rfl, fun Q => wp_s2b ho hs ht he hx hd hF hH hdst e1 h.1 h.2⟩
      · exact h.elim
    case h_16 x ho =>
      simp only [Option.map_eq_some_iff] at hc
      obtain ⟨y, hy, rfl⟩ := hc
      simp only [vcOp] at h
      split at h
      · rename_i k p hv; exact fin _ (rd_nilc ho hy hF hv (.inl ⟨k, p, rfl⟩)) h
      · rename_i k i p hv; exact fin _ (rd_nilc ho hy hF hv (.inr (.inl ⟨k, i, p, rfl⟩))) h
      · rename_i ad hv; exact fin _ (rd_nilc ho hy hF hv (.inr (.inr (.inl ⟨ad, rfl⟩)))) h
      · rename_i f p q hv; exact fin _ (rd_nilc ho hy hF hv (.inr (.inr (.inr ⟨f, p, q, rfl⟩)))) h
      · exact h.elim
    case h_17 fn first caps ho =>
      split at hc <;> first | (cases hc; done) | skip
      rename_i f hfst
      have hfst' : first = #[] := by simpa using hfst
      subst hfst'
      simp only [Option.map_eq_some_iff] at hc
      obtain ⟨l, hl, rfl⟩ := hc
      simp only [vcOp] at h
      split at h
      · rename_i xs e1
        split at h
        · rename_i vs e2
          have hm : caps.map a.eval = (l.map (evO a)).toArray := by
            rw [← mapM_eval hl a]
            apply Array.toList_inj.mp
            simp
          exact fin _ (rd_mkf ho hl hF hm e1 e2) h
        · exact h.elim
      · exact h.elim
    case h_18 t parts ho =>
      split at hc <;> first | (cases hc; done) | skip
      rename_i z zv l hz hzv hl
      split at hc <;> first | (cases hc; done) | skip
      rename_i hok
      simp only [Option.some.injEq] at hc
      subst hc
      simp only [Bool.and_eq_true, Bool.not_eq_true'] at hok
      obtain ⟨⟨⟨ho1, ho2⟩, ho3⟩, ho4⟩ := hok
      simp only [vcOp] at h
      split at h
      · rename_i xs e1
        split at h
        · rename_i gs e2
          obtain ⟨i, hi, hiz⟩ := Option.bind_eq_some_iff.mp hzv
          have hns : ∀ v, z ≠ .s v := fun v e => by subst e; simp [GV.isS] at ho1
          have hzf := scEqL_eq ho3
          unfold bldOk at ho4
          split at ho4
          · rename_i fs hu
            split at ho4
            · rename_i places hp
              simp only [List.all_eq_true, Bool.and_eq_true, beq_iff_eq] at ho4
              exact fin _ (rd_bld (place := (places.toArray[·]?)) ho (okB_ok ho2) hzf hns (fun l' => by simp only [Program.built, hi, hu, hiz, hp]) (fun i hi => ho4 i hi) hl hF e1 e2 h.1) h.2
            · cases ho4
          · rename_i n e hu
            split at ho4
            · rename_i ie hie
              simp only [List.all_eq_true, Bool.and_eq_true, beq_iff_eq] at ho4
              exact fin _ (rd_bld (place := fun i => some (i * ie.size, ie.size)) ho (okB_ok ho2) hzf hns (fun l' => by simp only [Program.built, hi, hu, hiz, hie]) (fun i hi => ⟨(ho4 i hi).1, congrArg some (ho4 i hi).2⟩) hl hF e1 e2 h.1) h.2
            · cases ho4
          · cases ho4
        · exact h.elim
      · exact h.elim
    case h_19 t n parts ho =>
      split at hc <;> first | (cases hc; done) | skip
      rename_i e l ht hl
      split at hc <;> first | (cases hc; done) | skip
      rename_i i df hi hdf
      split at hc <;> first | (cases hc; done) | skip
      rename_i hok
      simp only [Option.some.injEq] at hc
      subst hc
      simp only [Bool.and_eq_true, beq_iff_eq, decide_eq_true_eq] at hok
      obtain ⟨⟨⟨hn, hz1⟩, hsm⟩, hidx⟩ := hok
      obtain ⟨zv, hzv⟩ := Option.isSome_iff_exists.mp hz1
      subst hn
      simp only [vcOp] at h
      split at h
      · rename_i k xs hdst e1
        split at h
        · rename_i gs e2
          refine .inr ⟨rfl, fun Q => wp_bldS (l := l) ho ht hi hzv hsm ?_ hdst hd hF hH e1 e2 h.1.1 h.1.2 h.2⟩
          have hlen : l.length = parts.size := by
            have key : ∀ (q : List (Nat × Operand)) (r : List Opd), (q.mapM fun x => cOpd x.2) = some r → r.length = q.length := by
              intro q
              induction q with
              | nil => intro r hr; simp at hr; subst hr; rfl
              | cons x q ih =>
                intro r hr
                simp only [List.mapM_cons, Option.bind_eq_bind, Option.bind_eq_some_iff, Option.pure_def, Option.some.injEq] at hr
                obtain ⟨y, _, r2, hr2, rfl⟩ := hr
                simp [ih r2 hr2]
            have := key _ _ hl
            simpa using this
          rw [hlen, ← hidx]
          have key : ∀ (q : List (Nat × Operand)) (r : List Opd), (q.mapM fun x => cOpd x.2) = some r → q.mapM (fun x => (cOpd x.2).map fun y => (x.1, y)) = some ((q.map (·.1)).zip r) := by
            intro q
            induction q with
            | nil => intro r hr; simp at hr; subst hr; rfl
            | cons x q ih =>
              intro r hr
              simp only [List.mapM_cons, Option.bind_eq_bind, Option.bind_eq_some_iff, Option.pure_def, Option.some.injEq] at hr
              obtain ⟨y, hy, r2, hr2, rfl⟩ := hr
              simp [List.mapM_cons, hy, ih r2 hr2]
          exact key _ _ hl
        · exact h.elim
      · exact h.elim
    case h_20 x i ho =>
      simp only [Option.map_eq_some_iff] at hc
      obtain ⟨y, hy, rfl⟩ := hc
      simp only [vcOp] at h
      split at h
      · rename_i xs e1
        split at h
        · rename_i v h1; exact fin _ (rd_ext ho hy hF e1 h1) h
        · exact h.elim
      · exact h.elim
    case h_21 c ho =>
      split at hc
      case h_1 v hcal =>
        simp only [Option.map_eq_some_iff] at hc
        obtain ⟨args, ha, rfl⟩ := hc
        simp only [vcOp] at h
        split at h
        · rename_i f p q e1
          obtain ⟨⟨fn, hfn, hb⟩, h2⟩ := h
          exact .inr ⟨rfl, fun Q => wp_callV ho hcal hfn hb ha (by have := (hF.ev rfl e1).s; simpa [evO] using this) ⟨loc, hF, hH⟩ h2⟩
        · exact h.elim
      case h_2 f hcal =>
        split at hc <;> first | (cases hc; done) | skip
        rename_i fn hfn
        split at hc <;> first | (cases hc; done) | skip
        rename_i hb
        simp only [Option.map_eq_some_iff] at hc
        obtain ⟨args, ha, rfl⟩ := hc
        simp only [vcOp] at h
        exact .inr ⟨rfl, fun Q => wp_call ho hcal hfn hb ha ⟨loc, hF, hH⟩ h⟩
      case h_3 hcal =>
        split at hc <;> first | (cases hc; done) | skip
        rename_i x t ha ht
        split at hc <;> first | (cases hc; done) | skip
        rotate_left 2
        · rename_i k e hu
          split at hc <;> first | (cases hc; done) | skip
          rename_i kd z y hT hy
          simp only [Option.some.injEq] at hc
          subst hc
          simp only [vcOp] at h
          split at h
          · rename_i b e1
            obtain ⟨ob, l, h1, h2, h3⟩ := h
            exact fin _ (rd_mln ho hcal ha ht hT hy hF e1 h1 h2) h3
          · rename_i e1
            exact fin _ (rd_mln0 ho hcal ha ht hT hy hF e1) h
          · exact h.elim
        all_goals
          simp only [Option.map_eq_some_iff] at hc
          obtain ⟨y, hy, rfl⟩ := hc
          simp only [vcOp] at h
        · rename_i e hu
          split at h
          · rename_i k s n e1
            obtain ⟨z, xs, h1, h2, h3⟩ := hF.ev rfl e1
            have h3' : ∃ b k c, evO a y = .slice b k c ∧ (n : Int) = k := by
              cases hl : loc k with
              | none =>
                have hrow := (hH.row h1).2
                rw [hl] at hrow h3
                simp only at hrow
                subst hrow
                simp at h2
                obtain ⟨rfl, rfl⟩ := h2
                obtain ⟨ad, h3⟩ := h3
                exact ⟨ad, 0, 0, h3, rfl⟩
              | some l =>
                obtain ⟨b, o', c⟩ := l
                rw [hl] at h3
                obtain ⟨ad, h3, _⟩ := h3
                exact ⟨_, n, _, h3, rfl⟩
            obtain ⟨b, k', c', h4, h5⟩ := h3'
            exact fin _ (rd_len ho hcal ha ht hu hy h4 (.inl ⟨e, b, k', c', rfl, rfl, h5⟩)) h
          · rename_i b n c' e1
            obtain ⟨h1, h2⟩ := hF.ev rfl e1
            exact fin _ (rd_len ho hcal ha ht hu hy h2 (.inl ⟨e, b, n, c', rfl, rfl, rfl⟩)) h
          · exact h.elim
        · rename_i hu
          split at h
          · rename_i b e1
            obtain ⟨h1, h2⟩ := hF.ev rfl e1
            exact fin _ (rd_len ho hcal ha ht hu hy h2 (.inr ⟨b, rfl, rfl, rfl⟩)) h
          · exact h.elim
      case h_4 hcal =>
        split at hc <;> first | (cases hc; done) | skip
        rename_i x y t t2 ha h0 h1
        split at hc <;> first | (cases hc; done) | skip
        rename_i e e2 x' y' ht ht2 hx hy
        split at hc <;> first | (cases hc; done) | skip
        rename_i i df hi hdf
        split at hc <;> first | (cases hc; done) | skip
        rename_i zv hzv
        split at hc <;> first | (cases hc; done) | skip
        rename_i hok
        simp only [Option.some.injEq] at hc
        subst hc
        simp only [Bool.and_eq_true, beq_iff_eq, bne_iff_ne, ne_eq] at hok
        have aok : AppOk C.P c.argTypes e i zv := ⟨⟨t, t2, _, h0, h1, ht, ht2, fun k => by simp⟩, hi, hzv, hok.1, hok.2⟩
        simp only [vcOp] at h
        split at h
        · rename_i k s n j s' n' e1 e2
          split at h
          · rename_i e' z' df' xs z2 ys hk hj
            obtain ⟨⟨g1, rfl, rfl, rfl, rfl, rfl⟩, g7, g8⟩ := h
            exact .inr ⟨rfl, fun Q => wp_app_row ho hcal ha hx hy aok hd hF hH e1 e2 g1 hk hj g7 g8⟩
          · exact h.elim
        · rename_i v j s' n' e1 e2
          split at h
          · rename_i z2 ys hj
            obtain ⟨rfl, h⟩ := h
            rcases h with ⟨rfl, k, hdst, g2, g3, g4⟩ | h
            · exact .inr ⟨rfl, fun Q => wp_app_nil ho hcal ha hx hy aok hd hF hH hdst e1 e2 g2 hj g3 g4⟩
            · exact .inr ⟨rfl, fun Q => wp_appK (df := df) ho hcal ha hx hy aok hd hF hH e1 e2 hj h⟩
          · exact h.elim
        · exact h.elim
        rename_i e kd x' y' ht ht2 hx hy
        split at hc <;> first | (cases hc; done) | skip
        rename_i i df hi hdf
        split at hc <;> first | (cases hc; done) | skip
        rename_i zv hzv
        split at hc <;> first | (cases hc; done) | skip
        rename_i hok
        simp only [Option.some.injEq] at hc
        subst hc
        simp only [Bool.and_eq_true, beq_iff_eq, bne_iff_ne, ne_eq] at hok
        obtain ⟨⟨⟨⟨⟨k1, k2⟩, k3⟩, k4⟩, k5⟩, k6⟩ := hok
        simp only [vcOp] at h
        split at h
        · rename_i kd' m e1 e2
          split at h
          · rename_i k hdst
            obtain ⟨⟨g1, g2⟩, g3, g4⟩ := h
            exact .inr ⟨rfl, fun Q => wp_appZ ho hcal ha hx hy h0 h1 ht ht2 hi hzv k5 k6 (okB_ok k1) (scEqL_eq k2) k3 hd hF hH hdst e1 e2 g1 g2 g3 g4⟩
          · exact h.elim
        · exact h.elim
      case h_5 hcal =>
        split at hc <;> first | (cases hc; done) | skip
        rename_i x y ha
        split at hc <;> first | (cases hc; done) | skip
        rename_i x' y' hx hy
        simp only [Option.some.injEq] at hc
        subst hc
        simp only [vcOp] at h
        split at h
        · rename_i k i k' j e1 e2
          exact fin _ (rd_min ho hcal ha hx hy hF e1 e2) h
        · exact h.elim
      case h_6 hcal =>
        split at hc <;> first | (cases hc; done) | skip
        rename_i x y ha
        split at hc <;> first | (cases hc; done) | skip
        rename_i x' y' hx hy
        simp only [Option.some.injEq] at hc
        subst hc
        simp only [vcOp] at h
        split at h
        · rename_i k i k' j e1 e2
          exact fin _ (rd_max ho hcal ha hx hy hF e1 e2) h
        · exact h.elim
      case h_7 hcal =>
        split at hc <;> first | (cases hc; done) | skip
        rename_i x t ha ht
        split at hc <;> first | (cases hc; done) | skip
        rename_i e hu
        simp only [Option.map_eq_some_iff] at hc
        obtain ⟨y, hy, rfl⟩ := hc
        simp only [vcOp] at h
        split at h
        · rename_i ad n c' e1
          exact fin _ (rd_cap ho hcal ha ht hu hy hF e1) h
        · exact h.elim
      case h_8 hcal =>
        split at hc <;> first | (cases hc; done) | skip
        rename_i x i t ha ht
        split at hc <;> first | (cases hc; done) | skip
        rename_i kd z x' i' hT hx hi
        simp only [Option.some.injEq] at hc
        subst hc
        simp only [vcOp] at h
        split at h
        · rename_i b k e1 e2
          exact .inr ⟨rfl, fun Q => wp_mdl ho hcal ha ht hT hx hi hd hF hH e1 e2 h⟩
        · exact h.elim
      case h_9 => cases hc
    case h_22 t n c ho =>
      split at hc <;> first | (cases hc; done) | skip
      rename_i e n' c' ht hn hcc
      split at hc <;> first | (cases hc; done) | skip
      rename_i i df hi hdf
      split at hc <;> first | (cases hc; done) | skip
      rename_i zv hzv
      split at hc <;> first | (cases hc; done) | skip
      rename_i hok
      simp only [Option.some.injEq] at hc
      subst hc
      simp only [Bool.and_eq_true, beq_iff_eq, bne_iff_ne, ne_eq] at hok
      obtain ⟨⟨⟨⟨k1, k2⟩, k3⟩, k4⟩, k5⟩ := hok
      simp only [vcOp] at h
      split at h
      · rename_i kd m kd' m' e1 e2
        split at h
        · rename_i k hdst
          obtain ⟨⟨g1, rfl, g2⟩, g3, g4⟩ := h
          exact .inr ⟨rfl, fun Q => wp_mks ho ht hn hcc hi hzv (okB_ok k1) (scEqL_eq k2) k3 k5 hd hF hH hdst e1 e2 g1 g2 g3 g4⟩
        · exact h.elim
      · exact h.elim
    case h_23 t r ho =>
      split at hc <;> first | (cases hc; done) | skip
      simp only [Option.some.injEq] at hc
      subst hc
      exact .inr ⟨rfl, fun Q => wp_mkm ho hd hF hH h⟩
    case h_24 t x i ok ho =>
      split at hc <;> first | (cases hc; done) | skip
      rename_i kd z x' i' hT hx hi
      simp only [Option.some.injEq] at hc
      subst hc
      simp only [vcOp] at h
      split at h
      · rename_i b k e1 e2
        obtain ⟨ob, l, h1, h2, h3, h4⟩ := h
        exact fin _ (rd_mlk ho hT hx hi hF e1 e2 h1 h2 h3) h4
      · exact h.elim
    case h_25 t x i v ho =>
      split at hc <;> first | (cases hc; done) | skip
      rename_i kd z x' i' v' hT hx hi hv
      simp only [Option.some.injEq] at hc
      subst hc
      simp only [vcOp] at h
      split at h
      · rename_i b k y e1 e2 e3
        exact .inr ⟨rfl, fun Q => wp_mup (.inl ho) hT hx hi hv hd hF hH e1 e2 e3 h⟩
      · exact h.elim
    case h_26 t x i v ho =>
      split at hc <;> first | (cases hc; done) | skip
      rename_i kd z x' i' v' hT hx hi hv
      simp only [Option.some.injEq] at hc
      subst hc
      simp only [vcOp] at h
      split at h
      · rename_i b k y e1 e2 e3
        exact .inr ⟨rfl, fun Q => wp_mup (.inr ho) hT hx hi hv hd hF hH e1 e2 e3 h⟩
      · exact h.elim
    case h_27 t x ho =>
      split at hc <;> first | (cases hc; done) | skip
      rename_i kd z x' hT hx
      simp only [Option.some.injEq] at hc
      subst hc
      simp only [vcOp] at h
      split at h
      · rename_i b e1
        exact .inr ⟨rfl, fun Q => wp_rng ho hT hx hd hF hH e1 h⟩
      · exact h.elim
    case h_28 x ho =>
      simp only [Option.map_eq_some_iff] at hc
      obtain ⟨y, hy, rfl⟩ := hc
      simp only [vcOp] at h
      split at h
      · rename_i r e1
        exact .inr ⟨rfl, fun Q => wp_nxt ho hy hd hF hH e1 h⟩
      · exact h.elim
    case h_29 x ho =>
      simp only [Option.map_eq_some_iff] at hc
      obtain ⟨y, hy, rfl⟩ := hc
      simp only [vcOp] at h
      split at h
      · rename_i r e1
        obtain ⟨it, b, ob, kd, l, s, p, h1, h2, h3, h4, h5⟩ := h
        exact fin _ (rd_ent ho hy hF e1 h1 h2 h3 h4) h5
      · exact h.elim
    case h_30 => cases hc

theorem vcOp_sound (hd : ∀ t, o.dst = some t → t < C.N) (h : vcOp C o.dst K σ (cOp C.P o)) (hR : Rel C σ a w) : o.wp C.P a w (liftK C K) Q := by
  obtain ⟨loc, hF, hH⟩ := hR
  rcases vcOp_split hd h hF hH with ⟨x, hx, hk⟩ | h1
  · exact wp_of_reads hd hx hF hH hk
  · exact h1.2 Q

theorem cOp_call {f : Nat} {args : List Opd} (hro : cOp C.P o = .call f args) : ∃ c fn, o.op = .call c ∧ c.callee = .value (.func f) ∧ C.P.funcs[f]? = some fn ∧ (fn.body.isSome && fn.name != "runtime.NumGoroutine") = true ∧ c.args.toList.mapM cOpd = some args := by
  unfold cOp at hro
  cases hc : cOp? C.P o with
  | none => rw [hc] at hro; cases hro
  | some ro =>
    rw [hc] at hro
    simp only [Option.getD_some] at hro
    subst hro
    unfold cOp? at hc
    split at hc
    case h_21 c ho =>
      split at hc
      case h_2 f' hcal =>
        split at hc <;> first | (cases hc; done) | skip
        rename_i fn hfn
        split at hc <;> first | (cases hc; done) | skip
        rename_i hb
        simp only [Option.map_eq_some_iff] at hc
        obtain ⟨args', ha, he⟩ := hc
        simp only [RO.call.injEq] at he
        obtain ⟨rfl, rfl⟩ := he
        exact ⟨c, fn, ho, hcal, hfn, hb, ha⟩
      all_goals (repeat' (split at hc)) <;> first | (cases hc; done) | (simp only [Option.map_eq_some_iff] at hc; obtain ⟨_, _, he⟩ := hc; cases he)
    all_goals (repeat' (split at hc)) <;> first | (cases hc; done) | (simp only [Option.map_eq_some_iff] at hc; obtain ⟨_, _, he⟩ := hc; cases he)

theorem cOp_callV {x : Opd} {args : List Opd} (hro : cOp C.P o = .callV x args) : ∃ c v, o.op = .call c ∧ c.callee = .value (.tmp v) ∧ x = .t v ∧ c.args.toList.mapM cOpd = some args := by
  unfold cOp at hro
  cases hc : cOp? C.P o with
  | none => rw [hc] at hro; cases hro
  | some ro =>
    rw [hc] at hro
    simp only [Option.getD_some] at hro
    subst hro
    unfold cOp? at hc
    split at hc
    case h_21 c ho =>
      split at hc
      case h_1 v hcal =>
        simp only [Option.map_eq_some_iff] at hc
        obtain ⟨args', ha, he⟩ := hc
        simp only [RO.callV.injEq] at he
        obtain ⟨rfl, rfl⟩ := he
        exact ⟨c, v, ho, hcal, rfl, ha⟩
      all_goals (repeat' (split at hc)) <;> first | (cases hc; done) | (simp only [Option.map_eq_some_iff] at hc; obtain ⟨_, _, he⟩ := hc; cases he)
    all_goals (repeat' (split at hc)) <;> first | (cases hc; done) | (simp only [Option.map_eq_some_iff] at hc; obtain ⟨_, _, he⟩ := hc; cases he)

theorem callV_run {f v : Nat} {args : List Opd} {c : Call} {fn : Func} {p q : Array Value} (ho : o.op = .call c) (hc : c.callee = .value (.tmp v)) (hf : C.P.funcs[f]? = some fn) (hfn : (fn.body.isSome && fn.name != "runtime.NumGoroutine") = true)
    (ha : c.args.toList.mapM cOpd = some args) (hv : a.tmps.getD v undef = .func (.func f) p q) : (execOp a.eval o).run C.P w = .ok (.enter f ((p.toList.map Opd.c ++ args ++ q.toList.map Opd.c).map (evO a)).toArray) w := by
  have hargs : c.args.map a.eval = (args.map (evO a)).toArray := by
    rw [← mapM_eval ha a]
    apply Array.toList_inj.mp
    simp
  have hcs : ∀ l : List Value, (l.map Opd.c).map (evO a) = l := fun l => by
    induction l with
    | nil => rfl
    | cons x l ih => simp only [List.map_cons, ih]; rfl
  obtain ⟨dst, op, type, pos, after, guard⟩ := o
  obtain ⟨callee, cargs, argTypes⟩ := c
  simp only at ho hc hargs
  subst ho; subst hc
  simp at hfn
  obtain ⟨b, hb⟩ := Option.isSome_iff_exists.mp hfn.1
  have hv' : a.tmps[v]?.getD undef = .func (.func f) p q := by simpa using hv
  have hl : ((p.toList.map Opd.c ++ args ++ q.toList.map Opd.c).map (evO a)).toArray = p ++ (args.map (evO a)).toArray ++ q := by
    apply Array.toList_inj.mp
    simp [hcs]
  rw [hl]
  simp [execOp, resolve, Deferred.ofValue, Act.eval, hv', invoke, callFunc, Sem.run_bind, hf, hfn.2, hb, hargs]

/-- An operation that only looks, or such a call. -/
theorem vcqOp_sound {q : Act → Prop} (hd : ∀ t, o.dst = some t → t < C.N) (h : vcqOp C o.dst K σ (cOp C.P o)) (hF : FR loc C.N σ.fr σ.pv a) (hW : ∃ w, HR C loc σ.pv σ.ph σ.m w)
    (hq : ∀ x v, SVr loc σ.pv x v → K (σ.put o.dst x) → q (a.put o.dst v)) : o.quiet C.P a (fun w => HR C loc σ.pv σ.ph σ.m w) q := by
  unfold vcqOp at h
  split at h
  · rename_i f args hro
    obtain ⟨y, hy, hcall, hk⟩ := h
    refine ⟨y.val, fun w hw => ?_, hq (.g y) y.val ⟨hy, rfl⟩ hk⟩
    obtain ⟨c, fn, ho, hcal, hfn, hb, ha⟩ := cOp_call hro
    unfold Oper.quietAt
    rw [call_run ho hcal hfn hb ha]
    exact ⟨rfl, hcall loc a w hF hw⟩
  · rename_i x args hro
    split at h
    · rename_i f p q' e1
      obtain ⟨⟨fn, hfn, hb⟩, y, hy, hcall, hk⟩ := h
      refine ⟨y.val, fun w hw => ?_, hq (.g y) y.val ⟨hy, rfl⟩ hk⟩
      obtain ⟨c, v, ho, hcal, rfl, ha⟩ := cOp_callV hro
      unfold Oper.quietAt
      rw [callV_run ho hcal hfn hb ha (by have := (hF.ev rfl e1).s; simpa [evO] using this)]
      exact ⟨rfl, hcall loc a w hF hw⟩
    · exact h.elim
  · obtain ⟨h1, h2⟩ := h
    obtain ⟨w, hw⟩ := hW
    rcases vcOp_split hd h2 hF hw with ⟨x, ⟨v, hv, hrun, _⟩, hk⟩ | h3
    · refine ⟨v, fun w hw => ?_, hq x v hv hk⟩
      unfold Oper.quietAt
      rw [hrun w hw]
      exact ⟨rfl, rfl⟩
    · rw [h3.1] at h1; cases h1

end
end Go.Proofs.Ytdpknchgoeboaaa.Vc
