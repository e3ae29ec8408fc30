/- A region whose order is open: loads of what no operation of it writes, ahead (the law is the library's OrdersHeld; here for what never leaves the region). -/
import Derived.Test.YtdpknchgoeboaaaVcO
set_option linter.unusedVariables false
set_option linter.unusedSimpArgs false
namespace Go.Proofs.Ytdpknchgoeboaaa.Vc
open Go

section
variable {P : Program} {ops : Array Oper} {S : World → Prop}

/-- Whatever order is picked, S behind every operation. -/
def wpAnyS (P : Program) (ops : Array Oper) (S : World → Prop) (D : Act → World → Prop) : Nat → Array Bool → Act → World → Prop
  | 0, l, a, w => Region.ready .any ops l = [] ∧ D a w
  | f + 1, l, a, w => (Region.ready .any ops l = [] → D a w) ∧ ∀ i ∈ Region.ready .any ops l, wpOpN P ops i (fun a' w' => S w' ∧ wpAnyS P ops S D f (l.setIfInBounds i true) a' w') a w

theorem wpAnyN_of_S {D : Act → World → Prop} : ∀ (f : Nat) (l : Array Bool) (a : Act) (w : World), wpAnyS P ops S D f l a w → wpAnyN P ops D f l a w
  | 0, _, _, _, h => h
  | f + 1, l, a, w, h => ⟨h.1, fun i hi => wpOpN_mono (fun a' w' h' => wpAnyN_of_S f _ a' w' h'.2) (h.2 i hi)⟩

/-- It gives v, in every world that meets S. -/
def YieldsS (P : Program) (ops : Array Oper) (S : World → Prop) (o : Oper) (v : Value) (a : Act) : Prop :=
  (Region.wanted o (yielded ops a.tmps) = true ∧ ∀ w, S w → (execOp a.eval o).run P w = .ok (.value v) w) ∨ (Region.wanted o (yielded ops a.tmps) = false ∧ v = undef)
theorem YieldsEv.toS {o : Oper} {v : Value} {a : Act} (h : YieldsEv P ops o v a) : YieldsS P ops S o v a := h.imp (fun ⟨h1, h2⟩ => ⟨h1, fun w _ => h2 w⟩) id

theorem YieldsS.wpOpN {i : Nat} {o : Oper} {v : Value} {a : Act} {w : World} (hi : ops[i]? = some o) (hy : YieldsS P ops S o v a) {K : Act → World → Prop} (hS : S w) (h : K (a.put o.dst v) w) : wpOpN P ops i K a w := by
  unfold Go.Proofs.Ytdpknchgoeboaaa.Vc.wpOpN
  simp only [hi]
  rcases hy with ⟨h1, h2⟩ | ⟨h1, rfl⟩
  · rw [if_pos h1]
    unfold Oper.wp
    rw [h2 w hS, Oper.upon_value]
    exact h
  · rw [h1]; exact h

theorem YieldsS.of_same {o : Oper} {v : Value} {a a' : Act} (hy : YieldsS P ops S o v a) (he : execOp a'.eval o = execOp a.eval o) (hw : Region.wanted o (yielded ops a'.tmps) = Region.wanted o (yielded ops a.tmps)) : YieldsS P ops S o v a' := by
  unfold YieldsS at *
  rw [he, hw]
  exact hy

theorem wpOpN_putS {j : Nat} {oi oj : Oper} {v : Value} {w : World} (hj : ops[j]? = some oj) (hap : oi.apart ops oj = true)
    (hsi : ∀ cs b, oi.op ≠ .select cs b) (hsj : ∀ cs b, oj.op ≠ .select cs b) {K : Act → World → Prop} {a : Act}
    (hy : YieldsS P ops S oi v a) (h : wpOpN P ops j K (a.put oi.dst v) w) :
    wpOpN P ops j (fun a' w' => YieldsS P ops S oi v a' ∧ K (a'.put oi.dst v) w') a w := by
  obtain ⟨h1, h2, h3⟩ := Oper.apart_spec hap
  have keep : ∀ (b : Act), YieldsS P ops S oi v b → ∀ u, YieldsS P ops S oi v (b.put oj.dst u) := fun b hb u =>
    hb.of_same (execOp_put oi hsi b oj.dst u h3) (wanted_put oi b oj.dst u h3)
  unfold wpOpN at *
  simp only [hj] at *
  rw [wanted_put oj a oi.dst v h1] at h
  split
  · rename_i hw
    rw [if_pos hw] at h
    unfold Oper.wp at *
    rw [execOp_put oj hsj a oi.dst v h1] at h
    generalize (execOp a.eval oj).run P w = r at *
    cases r with
    | ok n w' =>
      cases n <;> simp only [Oper.upon] at h ⊢
      case value u => exact ⟨keep a hy u, by rw [← Act.put_comm a v u h2]; exact h⟩
      case skip => exact ⟨keep a hy _, by rw [← Act.put_comm a v undef h2]; exact h⟩
      case defer d =>
        refine ⟨keep _ (hy.of_same (a' := { a with defers := d :: a.defers }) rfl rfl) _, ?_⟩
        rw [← Act.put_comm _ v undef h2, put_defers a oi.dst v]
        rw [put_has] at h
        exact h
      case enter f args =>
        refine Calls.mono h fun e w'' he => ?_
        cases e with
        | returned u => exact ⟨keep a hy u, by rw [← Act.put_comm a v u h2]; exact he⟩
        | panicked c => exact he
        | outgrown => exact he
      case row row args => exact Rows.mono h fun u w'' he => ⟨keep a hy u, by rw [← Act.put_comm a v u h2]; exact he⟩
    | halt x w' => cases x <;> simp only [Oper.upon] at h ⊢
  · rename_i hw
    rw [if_neg hw] at h
    exact ⟨keep a hy _, by rw [← Act.put_comm a v undef h2]; exact h⟩

/-- What looks, in every world that meets S, may be taken first. -/
theorem wpAnyS_first {D : Act → World → Prop} {i : Nat} {oi : Oper} {v : Value} (hi : ops[i]? = some oi) (hsel : ∀ (j : Nat) (o : Oper) cs b, ops[j]? = some o → o.op ≠ .select cs b) :
    ∀ (f : Nat) (l : Array Bool) (a : Act) (w : World),
      (∀ j oj, ops[j]? = some oj → j ≠ i → l.getD j true = false → (∀ e ∈ oj.after, Region.binds .any e = true → e.on ≠ i) → oi.apart ops oj = true) →
      i ∈ Region.ready .any ops l → YieldsS P ops S oi v a → S w →
      wpAnyS P ops S D f (l.setIfInBounds i true) (a.put oi.dst v) w → wpAnyS P ops S D (f + 1) l a w := by
  intro f
  induction f with
  | zero =>
    intro l a w _ hr hy hS H
    refine ⟨fun h => (by rw [h] at hr; cases hr), fun j hj => ?_⟩
    by_cases hji : j = i
    · subst hji; exact hy.wpOpN hi hS ⟨hS, H⟩
    · have := ready_mono hj hji
      rw [H.1] at this
      cases this
  | succ f ih =>
    intro l a w hfree hr hy hS H
    refine ⟨fun h => (by rw [h] at hr; cases hr), fun j hj => ?_⟩
    by_cases hji : j = i
    · subst hji; exact hy.wpOpN hi hS ⟨hS, H⟩
    · have h1 := H.2 j (ready_mono hj hji)
      obtain ⟨hjun, oj, hoj, hall⟩ := mem_ready.1 hj
      have hnot : ∀ e ∈ oj.after, Region.binds .any e = true → e.on ≠ i := fun e he hb heq => by
        have h1 := hall e he hb
        have h0 := (mem_ready.1 hr).1
        rw [heq, getD_un h0] at h1
        cases h1
      have h2 := wpOpN_putS hoj (hfree j oj hoj hji hjun hnot) (fun cs b => hsel i oi cs b hi) (fun cs b => hsel j oj cs b hoj) hy h1
      have hfree' : ∀ k ok, ops[k]? = some ok → k ≠ i → (l.setIfInBounds j true).getD k true = false →
          (∀ e ∈ ok.after, Region.binds .any e = true → e.on ≠ i) → oi.apart ops ok = true := fun k ok hk hki hun hno => by
        refine hfree k ok hk hki ?_ hno
        by_cases hjk : j = k
        · subst hjk; exact hjun
        · rw [getD_set_ne true hjk] at hun; exact hun
      refine wpOpN_mono (fun a' w' h3 => ⟨h3.2.1, ih (l.setIfInBounds j true) a' w' hfree' (ready_mono hr (Ne.symm hji)) h3.1 h3.2.1 ?_⟩) h2
      rw [Array.setIfInBounds_comm _ _ hji]
      exact h3.2.2

end

theorem put_tmps {a : Act} {d : Option Tmp} {v : Value} {t : Nat} (h : d ≠ some t) : (a.put d v).tmps[t]? = a.tmps[t]? := by
  cases d with
  | none => rfl
  | some x =>
    show (a.tmps.setIfInBounds x v)[t]? = _
    rw [Array.getElem?_setIfInBounds_ne (fun e => h (by rw [e]))]

section
variable {P : Program} {ops : Array Oper}

/-- What an operation does not fill stands. -/
theorem wpOpN_keep {i : Nat} {ts : List Nat} (hd : ∀ o ∈ ops, ∀ t ∈ ts, o.dst ≠ some t) {K : Act → World → Prop} {a : Act} {w : World} (h : wpOpN P ops i K a w) :
    wpOpN P ops i (fun a' w' => K a' w' ∧ ∀ t ∈ ts, a'.tmps[t]? = a.tmps[t]?) a w := by
  unfold wpOpN at *
  split
  · rename_i ho; simp only [ho] at h; exact ⟨h, fun _ _ => rfl⟩
  · rename_i o ho
    simp only [ho] at h
    have hm : ∀ t ∈ ts, o.dst ≠ some t := hd o (Array.mem_of_getElem? ho)
    split
    · rename_i hw
      rw [if_pos hw] at h
      unfold Oper.wp at *
      generalize (execOp a.eval o).run P w = r at *
      cases r with
      | ok n w' =>
        cases n <;> simp only [Oper.upon] at h ⊢
        case value u => exact ⟨h, fun t ht => put_tmps (hm t ht)⟩
        case skip => exact ⟨h, fun t ht => put_tmps (hm t ht)⟩
        case defer d => exact ⟨h, fun t ht => put_tmps (hm t ht)⟩
        case enter f args =>
          refine Calls.mono h fun e w'' he => ?_
          cases e with
          | returned u => exact ⟨he, fun t ht => put_tmps (hm t ht)⟩
          | panicked c => exact he
          | outgrown => exact he
        case row row args => exact Rows.mono h fun u w'' he => ⟨he, fun t ht => put_tmps (hm t ht)⟩
      | halt x w' => cases x <;> simp only [Oper.upon] at h ⊢
    · rename_i hw
      rw [if_neg hw] at h
      exact ⟨h, fun t ht => put_tmps (hm t ht)⟩
end

section
variable {C : Ctx} {ops : Array Oper} {K : KT} {σ σ0 : SS} {a a0 : Act} {w : World} {ts : List Nat}

/-- What stands throughout a region. -/
structure Stands (C : Ctx) (σ0 : SS) (ts : List Nat) (a0 : Act) (w : World) : Prop where
  box : ∀ t ∈ ts, ∀ k g, look σ0.fr t = some (.ref k []) → look σ0.pv k = some (.box g) → ∃ b e, a0.tmps[t]? = some (.pointer (some ⟨b, 0, none⟩)) ∧ w.heap[b]? = some (.cells g.flat.toArray e (0, 0))
  m : σ0.m.le w
  u0 : C.u0.le w
  ph : ∀ u ∈ σ0.ph, u.le w

theorem heldOk_at : ∀ {ts : List Nat}, heldOk σ0 σ ts → ∀ t ∈ ts, ∀ k, look σ0.fr t = some (.ref k []) → look σ.fr t = some (.ref k []) ∧ look σ.pv k = look σ0.pv k
  | t :: ts, h, u, hu, k, hk => by
    rcases List.mem_cons.1 hu with rfl | hu
    · have h1 := h.1
      rw [hk] at h1
      exact h1
    · exact heldOk_at h.2 u hu k hk

theorem heldK_mem {fr : List (Nat × SV)} {k : Nat} : ∀ {ts : List Nat}, k ∈ heldK fr ts → ∃ t ∈ ts, look fr t = some (.ref k [])
  | t :: ts, h => by
    simp only [heldK] at h
    split at h
    · rename_i j hj
      rcases List.mem_cons.1 h with rfl | h
      · exact ⟨t, by simp, hj⟩
      · obtain ⟨u, hu, e⟩ := heldK_mem h
        exact ⟨u, by simp [hu], e⟩
    · obtain ⟨u, hu, e⟩ := heldK_mem h
      exact ⟨u, by simp [hu], e⟩

theorem stands_of (hR : Rel C σ a w) (hh : heldOk σ0 σ ts) (hM : HeldM σ0.m σ0.ph σ.m σ.ph) (ha : ∀ t ∈ ts, a.tmps[t]? = a0.tmps[t]?) : Stands C σ0 ts a0 w := by
  obtain ⟨loc, hF, hH⟩ := hR
  refine ⟨fun t ht k g hk hg => ?_, fun b o hb => hH.mle b o (hM.m b o hb), hH.u0le, fun u hu => (hH.phs u (hM.ph u hu)).1⟩
  obtain ⟨h1, h2⟩ := heldOk_at hh t ht k hk
  obtain ⟨v, hv, g', b, c, y, e1, e2, e3, e4⟩ := hF.slots t _ h1
  rw [h2, hg] at e1
  obtain rfl : g = g' := by simpa using e1
  obtain ⟨_, b', c', e, e5, e6⟩ := hH.pvs k _ (h2.trans hg)
  rw [e2] at e5
  obtain ⟨rfl, rfl⟩ : b = b' ∧ c = c' := by simpa using e5
  exact ⟨b, e, by rw [← ha t ht, hv, e4, show g.offs [] = 0 by cases g <;> rfl], e6⟩

theorem isLd_inv {P : Program} {o : Oper} (h : isLd (cOp P o) = true) : ∃ t d i x y, o.op = .load t x ∧ P.underlying t = some d ∧ P.info? t = some i ∧ cOpd x = some y ∧ cOp P o = .ld y i.size (agD d) := by
  unfold cOp at h ⊢
  cases hc : cOp? P o with
  | none => rw [hc] at h; cases h
  | some ro =>
    rw [hc] at h
    simp only [Option.getD_some] at h ⊢
    unfold cOp? at hc
    repeat' (split at hc)
    all_goals first
      | (cases hc; done)
      | (simp only [Option.map_eq_some_iff] at hc; obtain ⟨_, _, rfl⟩ := hc; cases h; done)
      | (simp only [Option.some.injEq] at hc; subst hc; cases h; done)
      | (rename_i d i x hd hi hx; simp only [Option.some.injEq] at hc; subst hc; exact ⟨_, d, i, _, x, by assumption, hd, hi, hx, rfl⟩)

/-- A load of what stands. -/
theorem ldH_run {o : Oper} {t : TypeId} {d : TypeDesc} {i : TypeInfo} {x : Operand} {y : Opd} (ho : o.op = .load t x) (ht : C.P.underlying t = some d) (hi : C.P.info? t = some i) (hx : cOpd x = some y) (hd : ∀ t, o.dst = some t → t < C.N)
    (hw : Region.wanted o (yielded ops a.tmps) = true) (hh : heldOk σ0 σ ts) (ha : ∀ t ∈ ts, a.tmps[t]? = a0.tmps[t]?) (hR : Rel C σ a w) (h : ldH C σ0 ts y i.size (agD d) o.dst K σ) :
    ∃ v τ, YieldsS C.P ops (Stands C σ0 ts a0) o v a ∧ K τ ∧ Rel C τ (a.put o.dst v) w := by
  obtain ⟨loc, hF, hH⟩ := hR
  have fin : ∀ (g : GV), g.ok → g.fits i.size (agD d) = true → K (σ.put o.dst (.g g)) → ∀ b q, evO a y = .pointer (some ⟨b, q, none⟩) → (∀ w, Stands C σ0 ts a0 w → ∃ cs e fz, w.heap[b]? = some (.cells cs e fz) ∧ RowAt cs q g.flat) →
      ∃ v τ, YieldsS C.P ops (Stands C σ0 ts a0) o v a ∧ K τ ∧ Rel C τ (a.put o.dst v) w := by
    intro g hok hfit hK b q hp hc
    obtain ⟨q1, q2, q3⟩ := σ.put_pv o.dst (.g g)
    refine ⟨g.val, _, .inl ⟨hw, fun w' hS => ?_⟩, hK, loc, by rw [q1]; exact hF.put hd rfl ⟨hok, rfl⟩, by rw [q1, q2, q3]; exact hH⟩
    obtain ⟨cs, e, fz, hb, hat⟩ := hc w' hS
    have he : execOp a.eval o = (do pure (.value (← Instr.loadAt t (.pointer (some ⟨b, q, none⟩)))) : Sem Next) := by
      simp only [execOp, ho, cOpd_eval hx a, hp]
    rw [he]
    refine run_andThen_value ?_
    simp only [Instr.loadAt, Instr.sureAddr, Sem.run_bind, Sem.run_pure, Result.andThen_ok]
    refine run_loadVar' ht hi hok hfit b _ w' fun j v hj => ?_
    rw [cell_of hb]
    exact hat j v hj
  unfold ldH at h
  split at h
  · rename_i k p hv
    obtain ⟨hk, h⟩ := h
    split at h
    · rename_i g hg
      obtain ⟨hfit, hK⟩ := h
      obtain ⟨u, hu, huk⟩ := heldK_mem (by simpa using hk)
      obtain ⟨f1, f2⟩ := heldOk_at hh u hu k huk
      obtain ⟨g', b, c, r, e1, e2, e3, e4⟩ := hF.ev rfl hv
      rw [f2, hg] at e1
      obtain rfl : g = g' := by simpa using e1
      obtain ⟨v1, hv1, g2, b2, c2, y2, d1, d2, d3, d4⟩ := hF.slots u _ f1
      rw [e2] at d2
      obtain ⟨rfl, rfl⟩ : b = b2 ∧ c = c2 := by simpa using d2
      rw [f2, hg] at d1
      obtain rfl : g = g2 := by simpa using d1
      have hok := (hH.pvs k _ (f2.trans hg)).1
      rw [GV.getT_of g p r e3] at hfit hK
      refine fin r (GV.get_at g p r hok e3).1 hfit hK b (g.offs p) e4 fun w' hS => ?_
      obtain ⟨b', e, s1, s2⟩ := hS.box u hu k g huk hg
      rw [← ha u hu, hv1, d4] at s1
      have hbb : b = b' := by
        have := Option.some.inj s1
        injection this with this
        have := Option.some.inj this
        injection this
      subst hbb
      exact ⟨_, e, _, s2, fun j v hj => by simpa using GV.get_cells hok e3 j v hj⟩
    · exact h.elim
  · rename_i b q hv
    obtain ⟨g, hs, hfit, hK⟩ := h
    obtain ⟨hok, cs, e, fz, hm, hat⟩ := hs
    refine fin g hok hfit hK b q (hF.ev rfl hv).s fun w' hS => ⟨cs, e, fz, ?_, hat⟩
    rcases hm with hm | ⟨u, hu, hm⟩ | hm
    · exact hS.m b _ hm
    · exact hS.ph u hu b _ hm
    · exact hS.u0 b _ hm
  · exact h.elim

theorem first_run {i : Nat} {o : Oper} (hi : ops[i]? = some o) (hd : dstOk C.N o = true) (hk : guardOk ops o = true) (hp : isLd (cOp C.P o) = true) (hh : heldOk σ0 σ ts) (hts : ∀ o ∈ ops, ∀ t ∈ ts, o.dst ≠ some t)
    (ha : ∀ t ∈ ts, a.tmps[t]? = a0.tmps[t]?) (hR : Rel C σ a w) (h : vcFirst C σ0 ts (segOf C.P ops i) K σ) : ∃ v τ, YieldsS C.P ops (Stands C σ0 ts a0) o v a ∧ K τ ∧ Rel C τ (a.put o.dst v) w := by
  have hd' : ∀ t, o.dst = some t → t < C.N := fun t ht => by simpa [dstOk, ht] using hd
  obtain ⟨ty, d, inf, x, y, ho, hu, hinf, hx, hc⟩ := isLd_inv hp
  have skip : ∀ σ, Rel C σ a w → Region.wanted o (yielded ops a.tmps) = false → K (σ.put o.dst .no) → ∃ v τ, YieldsS C.P ops (Stands C σ0 ts a0) o v a ∧ K τ ∧ Rel C τ (a.put o.dst v) w := by
    rintro σ ⟨loc, hF, hH⟩ hw hK
    obtain ⟨q1, q2, q3⟩ := σ.put_pv o.dst .no
    exact ⟨undef, _, .inr ⟨hw, rfl⟩, hK, loc, by rw [q1]; exact hF.put hd' rfl (x := .no) (v := undef) rfl, by rw [q1, q2, q3]; exact hH⟩
  unfold segOf at h
  simp only [hi, vcFirst, hc] at h
  cases hg : gOf ops o with
  | none =>
    rw [hg] at h
    have hw : Region.wanted o (yielded ops a.tmps) = true := by
      unfold gOf at hg; unfold Region.wanted
      cases hgg : o.guard with
      | none => rfl
      | some x => simp [hgg] at hg
    exact ldH_run ho hu hinf hx hd' hw hh ha hR h
  | some gt =>
    obtain ⟨t, want⟩ := gt
    rw [hg] at h
    have hwant : Region.wanted o (yielded ops a.tmps) = (match a.tmps[t]? with | some (.bool b) => b == want | _ => false) := by
      unfold gOf at hg; unfold guardOk at hk; unfold Region.wanted
      cases hgg : o.guard with
      | none => simp [hgg] at hg
      | some x =>
        obtain ⟨j, v⟩ := x
        simp only [hgg, Option.map_some, Option.some.injEq, Prod.mk.injEq] at hg
        simp only [hgg] at hk
        cases hdd : (ops[j]?).bind (·.dst) with
        | none => simp [hdd] at hk
        | some t' =>
          simp only [hdd, Option.getD_some] at hg hk
          obtain ⟨rfl, rfl⟩ := hg
          simp only [yielded, hdd, Option.bind_some]
          cases a.tmps[t']? with
          | none => rfl
          | some u => cases u <;> first | rfl | (rename_i b; cases b <;> cases v <;> rfl)
    simp only [brB] at h
    split at h
    · rename_i b hl
      have hR' := hR
      obtain ⟨loc, hF, hH⟩ := hR'
      obtain ⟨v, hv, hs⟩ := hF.slots t _ hl
      have hvb : v = .bool b := hs.2
      subst hvb
      have hre : ∀ c, c = b → Rel C (σ.put (some t) (.g (.s (.bool c)))) a w := fun c hc => ⟨loc, ⟨hF.defers, hF.size, fun u y hy => by
        rw [look_put] at hy
        by_cases hu : u = t
        · simp only [hu, if_true, Option.some.injEq] at hy
          subst hy; subst hu; subst hc
          exact ⟨.bool c, hv, rfl, rfl⟩
        · simp only [hu, if_false] at hy
          exact hF.slots u y hy⟩, hH⟩
      have hho : ∀ c, heldOk σ0 (σ.put (some t) (.g (.s (.bool c)))) ts := by
        intro c
        have key : ∀ {l : List Nat}, heldOk σ0 σ l → heldOk σ0 (σ.put (some t) (.g (.s (.bool c)))) l := by
          intro l
          induction l with
          | nil => intro _; trivial
          | cons u l ih =>
            intro hl2
            refine ⟨?_, ih hl2.2⟩
            have h1 := hl2.1
            split at h1
            · rename_i k hk0
              refine ⟨?_, h1.2⟩
              rw [look_put]
              by_cases hut : u = t
              · subst hut; rw [h1.1] at hl; cases hl
              · simp only [hut, if_false]; exact h1.1
            · trivial
        exact key hh
      by_cases hb : b = want
      · exact ldH_run ho hu hinf hx hd' (by rw [hwant, hv]; simp [hb]) (hho want) ha (hre want hb.symm) (h.1 hb)
      · have hb' : b = !want := by cases b <;> cases want <;> simp_all
        exact skip _ (hre (!want) hb'.symm) (by rw [hwant, hv]; simp [hb']) (h.2 hb')
    · rename_i hl
      have hR' := hR
      obtain ⟨loc, hF, hH⟩ := hR'
      obtain ⟨v, hv, hs⟩ := hF.slots t _ hl
      have hvu : v = undef := hs
      exact skip σ hR (by rw [hwant, hv, hvu]; rfl) h
    · exact h.elim

theorem orLH_all {K : KT} {f : Nat → OT} : ∀ (l : List Nat) (σ : SS), vcOTH C K ts σ0 (orL (l.map f)) σ → ∀ i ∈ l, vcOTH C K ts σ0 (f i) σ
  | [], _, _, i, hi => by cases hi
  | [x], σ, h, i, hi => by
    simp at hi; subst hi; exact h
  | x :: y :: r, σ, h, i, hi => by
    have h' : vcOTH C K ts σ0 (f x) σ ∧ vcOTH C K ts σ0 (orL ((y :: r).map f)) σ := h
    rcases List.mem_cons.1 hi with rfl | hi
    · exact h'.1
    · exact orLH_all (y :: r) σ h'.2 i hi

theorem otH_sound (hns : Region.noSelect ops = true) (hd : ∀ o ∈ ops, dstOk C.N o = true) (hg : ∀ o ∈ ops, guardOk ops o = true) (hts : ∀ o ∈ ops, ∀ t ∈ ts, o.dst ≠ some t) : ∀ (f : Nat) (l : Array Bool) (σ : SS) (a : Act) (w : World),
    vcOTH C K ts σ0 (otOfH C.P ops f l) σ → heldOk σ0 σ ts → (∀ t ∈ ts, a.tmps[t]? = a0.tmps[t]?) → Stands C σ0 ts a0 w → Rel C σ a w → wpAnyS C.P ops (Stands C σ0 ts a0) (liftK C K) f l a w := by
  have hsel := Region.noSelect_spec hns
  intro f
  induction f with
  | zero =>
    intro l σ a w h hh ha hS hR
    simp only [otOfH] at h
    cases hr : (Region.ready .any ops l).isEmpty with
    | true => rw [hr] at h; exact ⟨by simpa using hr, σ, h, hR⟩
    | false => rw [hr] at h; exact h.elim
  | succ f ih =>
    intro l σ a w h hh ha hS hR
    simp only [otOfH] at h
    cases hr : (Region.ready .any ops l).isEmpty with
    | true =>
      rw [hr] at h
      have hnil : Region.ready .any ops l = [] := by simpa using hr
      exact ⟨fun _ => ⟨σ, h, hR⟩, fun i hi => by rw [hnil] at hi; cases hi⟩
    | false =>
      rw [hr] at h
      simp only [cond_false] at h
      have hne : Region.ready .any ops l ≠ [] := fun e => by rw [e] at hr; cases hr
      split at h
      · rename_i i hf
        have hi := List.mem_of_find?_eq_some hf
        have hp := List.find?_some hf
        simp only [Bool.and_eq_true] at hp
        cases ho : ops[i]? with
        | none => rw [ho] at hp; cases hp.1
        | some o =>
          rw [ho] at hp
          have hmem : o ∈ ops := Array.mem_of_getElem? ho
          obtain ⟨v, τ, hy, hK, hR'⟩ := pure_run ho (hd o hmem) (hg o hmem) hp.1 hR h
          exact wpAnyS_first ho hsel f l a w (Region.free_spec ho hp.2) hi hy.toS hS (ih _ τ _ _ hK.2.2 hK.2.1 (fun t ht => (put_tmps (hts o hmem t ht)).trans (ha t ht)) hS hR')
      · split at h
        · rename_i i hf
          have hi := List.mem_of_find?_eq_some hf
          have hp := List.find?_some hf
          simp only [Bool.and_eq_true] at hp
          cases ho : ops[i]? with
          | none => rw [ho] at hp; cases hp.1
          | some o =>
            rw [ho] at hp
            have hmem : o ∈ ops := Array.mem_of_getElem? ho
            obtain ⟨v, τ, hy, hK, hR'⟩ := first_run ho (hd o hmem) (hg o hmem) hp.1 hh hts ha hR h
            exact wpAnyS_first ho hsel f l a w (Region.free_spec ho hp.2) hi hy hS (ih _ τ _ _ hK.2 hK.1 (fun t ht => (put_tmps (hts o hmem t ht)).trans (ha t ht)) hS hR')
        · refine ⟨fun e => absurd e hne, fun i hi => ?_⟩
          have h1 := orLH_all _ σ h i hi
          obtain ⟨_, o, ho, _⟩ := mem_ready.1 hi
          have hmem : o ∈ ops := Array.mem_of_getElem? ho
          refine wpOpN_mono (fun a' w' hx => ?_) (wpOpN_keep hts (one_run ho (hd o hmem) (hg o hmem) hR h1))
          obtain ⟨⟨τ, ⟨hM, hh', hK⟩, hR'⟩, ht'⟩ := hx
          have ha' : ∀ t ∈ ts, a'.tmps[t]? = a0.tmps[t]? := fun t ht => (ht' t ht).trans (ha t ht)
          have hS' := stands_of hR' hh' hM ha'
          exact ⟨hS', ih _ τ a' w' hK hh' ha' hS' hR'⟩

end
end Go.Proofs.Ytdpknchgoeboaaa.Vc
