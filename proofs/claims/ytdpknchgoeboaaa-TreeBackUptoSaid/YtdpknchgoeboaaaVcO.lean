/- A region whose order is open: every order there is; what looks at its slots alone, ahead. -/
import Derived.Test.YtdpknchgoeboaaaVcQ
set_option linter.unusedVariables false
set_option linter.unusedSimpArgs false
namespace Go.Proofs.Ytdpknchgoeboaaa.Vc
open Go

section
variable {P : Program} {ops : Array Oper}

def wpOpN (P : Program) (ops : Array Oper) (i : Nat) (K : Act → World → Prop) (a : Act) (w : World) : Prop :=
  match ops[i]? with
  | none => K a w
  | some o => if Region.wanted o (yielded ops a.tmps) then o.wp P a w K (fun _ _ _ => False) else K (a.put o.dst undef) w

def wpAnyN (P : Program) (ops : Array Oper) (D : Act → World → Prop) : Nat → Array Bool → Act → World → Prop
  | 0, l, a, w => Region.ready .any ops l = [] ∧ D a w
  | f + 1, l, a, w => (Region.ready .any ops l = [] → D a w) ∧ ∀ i ∈ Region.ready .any ops l, wpOpN P ops i (wpAnyN P ops D f (l.setIfInBounds i true)) a w

theorem wp_noexit {o : Oper} {a : Act} {w : World} {K K' : Act → World → Prop} {Q : Exit → Act → World → Prop} (hK : ∀ a w, K a w → K' a w) (h : o.wp P a w K (fun _ _ _ => False)) : o.wp P a w K' Q := by
  unfold Oper.wp at *
  generalize (execOp a.eval o).run P w = r at *
  cases r with
  | ok n w' =>
    cases n <;> simp only [Oper.upon] at h ⊢
    case value v => exact hK _ _ h
    case skip => exact hK _ _ h
    case defer d => exact hK _ _ h
    case enter f args =>
      refine Calls.mono h fun e w'' he => ?_
      cases e with
      | returned u => exact hK _ _ he
      | panicked c => exact he.elim
      | outgrown => obtain ⟨_, _, h⟩ := he; exact h.elim
    case row row args => exact Rows.mono h fun u w'' he => hK _ _ he
  | halt x w' => cases x <;> simp only [Oper.upon] at h ⊢

theorem wpAny_of_N {D : Act → World → Prop} {Q : Exit → Act → World → Prop} (hD : ∀ a w, D a w → Q .normal a w) : ∀ (f : Nat) (l : Array Bool) (a : Act) (w : World), wpAnyN P ops D f l a w → wpAny P .any ops Q f l a w
  | 0, _, _, _, h => ⟨h.1, hD _ _ h.2⟩
  | f + 1, l, a, w, h => ⟨fun e => hD _ _ (h.1 e), fun i hi => by
    have h1 := h.2 i hi
    unfold wpOpN at h1
    unfold wpOp
    split
    · rename_i ho; simp only [ho] at h1; exact wpAny_of_N hD f _ _ _ h1
    · rename_i o ho
      simp only [ho] at h1
      split
      · rename_i hw
        rw [if_pos hw] at h1
        exact .inl (wp_noexit (fun a' w' => wpAny_of_N hD f _ a' w') h1)
      · rename_i hw
        rw [if_neg hw] at h1
        exact wpAny_of_N hD f _ _ _ h1⟩

/-- It gives v, in whatever world. -/
def YieldsEv (P : Program) (ops : Array Oper) (o : Oper) (v : Value) (a : Act) : Prop :=
  (Region.wanted o (yielded ops a.tmps) = true ∧ ∀ w, (execOp a.eval o).run P w = .ok (.value v) w) ∨ (Region.wanted o (yielded ops a.tmps) = false ∧ v = undef)

theorem YieldsEv.wpOpN {i : Nat} {o : Oper} {v : Value} {a : Act} {w : World} (hi : ops[i]? = some o) (hy : YieldsEv P ops o v a) {K : Act → World → Prop} (h : K (a.put o.dst v) w) : wpOpN P ops i K a w := by
  unfold Go.Proofs.Ytdpknchgoeboaaa.Vc.wpOpN
  simp only [hi]
  rcases hy with ⟨h1, h2⟩ | ⟨h1, rfl⟩
  · rw [if_pos h1]
    unfold Oper.wp
    rw [h2, Oper.upon_value]
    exact h
  · rw [h1]; exact h

theorem YieldsEv.of_same {o : Oper} {v : Value} {a a' : Act} (hy : YieldsEv P ops o v a) (he : execOp a'.eval o = execOp a.eval o) (hw : Region.wanted o (yielded ops a'.tmps) = Region.wanted o (yielded ops a.tmps)) : YieldsEv P ops o v a' := by
  unfold YieldsEv at *
  rw [he, hw]
  exact hy

theorem put_defers (a : Act) (d : Option Tmp) (v : Value) (ds : List Deferred) : ({ a with defers := ds } : Act).put d v = { a.put d v with defers := ds } := by
  cases d <;> rfl
theorem put_has (a : Act) (d : Option Tmp) (v : Value) : (a.put d v).defers = a.defers := by
  cases d <;> rfl

theorem wpOpN_put {j : Nat} {oi oj : Oper} {v : Value} {w : World} (hj : ops[j]? = some oj) (hap : oi.apart ops oj = true)
    (hsi : ∀ cs b, oi.op ≠ .select cs b) (hsj : ∀ cs b, oj.op ≠ .select cs b) {K : Act → World → Prop} {a : Act}
    (hy : YieldsEv P ops oi v a) (h : wpOpN P ops j K (a.put oi.dst v) w) :
    wpOpN P ops j (fun a' w' => YieldsEv P ops oi v a' ∧ K (a'.put oi.dst v) w') a w := by
  obtain ⟨h1, h2, h3⟩ := Oper.apart_spec hap
  have keep : ∀ (b : Act), YieldsEv P ops oi v b → ∀ u, YieldsEv P ops oi v (b.put oj.dst u) := fun b hb u =>
    hb.of_same (execOp_put oi hsi b oj.dst u h3) (wanted_put oi b oj.dst u h3)
  unfold wpOpN at *
  simp only [hj] at *
  rw [wanted_put oj a oi.dst v h1] at h
  split
  · rename_i hw
    rw [if_pos hw] at h
    unfold Oper.wp at *
    rw [execOp_put oj hsj a oi.dst v h1] at h
    generalize (execOp a.eval oj).run P w = r at *
    cases r with
    | ok n w' =>
      cases n <;> simp only [Oper.upon] at h ⊢
      case value u => exact ⟨keep a hy u, by rw [← Act.put_comm a v u h2]; exact h⟩
      case skip => exact ⟨keep a hy _, by rw [← Act.put_comm a v undef h2]; exact h⟩
      case defer d =>
        refine ⟨keep _ (hy.of_same (a' := { a with defers := d :: a.defers }) rfl rfl) _, ?_⟩
        rw [← Act.put_comm _ v undef h2, put_defers a oi.dst v]
        rw [put_has] at h
        exact h
      case enter f args =>
        refine Calls.mono h fun e w'' he => ?_
        cases e with
        | returned u => exact ⟨keep a hy u, by rw [← Act.put_comm a v u h2]; exact he⟩
        | panicked c => exact he
        | outgrown => exact he
      case row row args => exact Rows.mono h fun u w'' he => ⟨keep a hy u, by rw [← Act.put_comm a v u h2]; exact he⟩
    | halt x w' => cases x <;> simp only [Oper.upon] at h ⊢
  · rename_i hw
    rw [if_neg hw] at h
    exact ⟨keep a hy _, by rw [← Act.put_comm a v undef h2]; exact h⟩

theorem wpOpN_mono {i : Nat} {a : Act} {w : World} {K K' : Act → World → Prop} (h : ∀ a w, K a w → K' a w) (hh : wpOpN P ops i K a w) : wpOpN P ops i K' a w := by
  unfold wpOpN at *
  split
  · rename_i ho; simp only [ho] at hh; exact h _ _ hh
  · rename_i o ho
    simp only [ho] at hh
    split
    · rename_i hw; rw [if_pos hw] at hh; exact wp_noexit h hh
    · rename_i hw; rw [if_neg hw] at hh; exact h _ _ hh

theorem getD_un {listed : Array Bool} {i : Nat} (h : listed.getD i true = false) : listed.getD i false = false := by
  rcases Nat.lt_or_ge i listed.size with h' | h'
  · simp [h'] at h ⊢; exact h
  · simp [Array.getElem?_eq_none h'] at h

/-- What looks at its slots alone may be taken first. -/
theorem wpAnyN_first {D : Act → World → Prop} {i : Nat} {oi : Oper} {v : Value} (hi : ops[i]? = some oi) (hsel : ∀ (j : Nat) (o : Oper) cs b, ops[j]? = some o → o.op ≠ .select cs b) :
    ∀ (f : Nat) (l : Array Bool) (a : Act) (w : World),
      (∀ j oj, ops[j]? = some oj → j ≠ i → l.getD j true = false → (∀ e ∈ oj.after, Region.binds .any e = true → e.on ≠ i) → oi.apart ops oj = true) →
      i ∈ Region.ready .any ops l → YieldsEv P ops oi v a →
      wpAnyN P ops D f (l.setIfInBounds i true) (a.put oi.dst v) w → wpAnyN P ops D (f + 1) l a w := by
  intro f
  induction f with
  | zero =>
    intro l a w _ hr hy H
    refine ⟨fun h => (by rw [h] at hr; cases hr), fun j hj => ?_⟩
    by_cases hji : j = i
    · subst hji; exact hy.wpOpN hi H
    · have := ready_mono hj hji
      rw [H.1] at this
      cases this
  | succ f ih =>
    intro l a w hfree hr hy H
    refine ⟨fun h => (by rw [h] at hr; cases hr), fun j hj => ?_⟩
    by_cases hji : j = i
    · subst hji; exact hy.wpOpN hi H
    · have h1 := H.2 j (ready_mono hj hji)
      obtain ⟨hjun, oj, hoj, hall⟩ := mem_ready.1 hj
      have hnot : ∀ e ∈ oj.after, Region.binds .any e = true → e.on ≠ i := fun e he hb heq => by
        have h1 := hall e he hb
        have h0 := (mem_ready.1 hr).1
        rw [heq, getD_un h0] at h1
        cases h1
      have h2 := wpOpN_put hoj (hfree j oj hoj hji hjun hnot) (fun cs b => hsel i oi cs b hi) (fun cs b => hsel j oj cs b hoj) hy h1
      have hfree' : ∀ k ok, ops[k]? = some ok → k ≠ i → (l.setIfInBounds j true).getD k true = false →
          (∀ e ∈ ok.after, Region.binds .any e = true → e.on ≠ i) → oi.apart ops ok = true := fun k ok hk hki hun hno => by
        refine hfree k ok hk hki ?_ hno
        by_cases hjk : j = k
        · subst hjk; exact hjun
        · rw [getD_set_ne true hjk] at hun; exact hun
      refine wpOpN_mono (fun a' w' h3 => ih (l.setIfInBounds j true) a' w' hfree' (ready_mono hr (Ne.symm hji)) h3.1 ?_) h2
      rw [Array.setIfInBounds_comm _ _ hji]
      exact h3.2

end

section
variable {C : Ctx} {ops : Array Oper} {K : KT} {σ : SS} {a : Act} {w : World}

theorem cOp_noGh (P : Program) (o : Oper) : (cOp P o).isGh = false := by
  cases h : (cOp P o).isGh with
  | false => rfl
  | true =>
    have hg : cOp P o = .gh := by
      generalize cOp P o = r at h
      cases r <;> first | rfl | (cases h; done)
    unfold cOp at hg
    cases hc : cOp? P o with
    | none => rw [hc] at hg; cases hg
    | some ro =>
      rw [hc] at hg
      simp only [Option.getD_some] at hg
      subst hg
      unfold cOp? at hc
      repeat' (split at hc)
      all_goals first | (cases hc; done) | (simp only [Option.map_eq_some_iff] at hc; obtain ⟨_, _, he⟩ := hc; cases he)

theorem isPure_rd {P : Program} {o : Oper} (h : isPure (cOp P o) = true) : isRd (cOp P o) = true := by
  unfold isPure at h
  split at h <;> first | (cases h; done) | exact h

theorem pure_run {i : Nat} {o : Oper} (hi : ops[i]? = some o) (hd : dstOk C.N o = true) (hk : guardOk ops o = true) (hp : isPure (cOp C.P o) = true) (hR : Rel C σ a w) (h : vcSegs C [segOf C.P ops i] K σ) :
    ∃ v τ, YieldsEv C.P ops o v a ∧ K τ ∧ Rel C τ (a.put o.dst v) w := by
  have hd' : ∀ t, o.dst = some t → t < C.N := fun t ht => by simpa [dstOk, ht] using hd
  have run : ∀ σ, Rel C σ a w → Region.wanted o (yielded ops a.tmps) = true → vcOp C o.dst K σ (cOp C.P o) → ∃ v τ, YieldsEv C.P ops o v a ∧ K τ ∧ Rel C τ (a.put o.dst v) w := by
    rintro σ ⟨loc, hF, hH⟩ hw hv
    rcases vcOp_split hd' hv hF hH with ⟨x, ⟨v, hv, _, hrun⟩, hK⟩ | h3
    · obtain ⟨q1, q2, q3⟩ := σ.put_pv o.dst x
      exact ⟨v, _, .inl ⟨hw, hrun hp⟩, hK, loc, by rw [q1]; exact hF.put hd' rfl hv, by rw [q1, q2, q3]; exact hH⟩
    · rw [isPure_rd hp] at h3; cases h3.1
  have skip : ∀ σ, Rel C σ a w → Region.wanted o (yielded ops a.tmps) = false → K (σ.put o.dst .no) → ∃ v τ, YieldsEv C.P ops o v a ∧ K τ ∧ Rel C τ (a.put o.dst v) w := by
    rintro σ ⟨loc, hF, hH⟩ hw hK
    obtain ⟨q1, q2, q3⟩ := σ.put_pv o.dst .no
    exact ⟨undef, _, .inr ⟨hw, rfl⟩, hK, loc, by rw [q1]; exact hF.put hd' rfl (x := .no) (v := undef) rfl, by rw [q1, q2, q3]; exact hH⟩
  have hng := cOp_noGh C.P o
  unfold segOf at h
  simp only [hi] at h
  cases hg : gOf ops o with
  | none =>
    rw [hg] at h
    have hw : Region.wanted o (yielded ops a.tmps) = true := by
      unfold gOf at hg; unfold Region.wanted
      cases hgg : o.guard with
      | none => rfl
      | some x => simp [hgg] at hg
    exact run σ hR hw h
  | some x =>
    obtain ⟨t, want⟩ := x
    rw [hg] at h
    have hwant : Region.wanted o (yielded ops a.tmps) = (match a.tmps[t]? with | some (.bool b) => b == want | _ => false) := by
      unfold gOf at hg; unfold guardOk at hk; unfold Region.wanted
      cases hgg : o.guard with
      | none => simp [hgg] at hg
      | some x =>
        obtain ⟨j, v⟩ := x
        simp only [hgg, Option.map_some, Option.some.injEq, Prod.mk.injEq] at hg
        simp only [hgg] at hk
        cases hdd : (ops[j]?).bind (·.dst) with
        | none => simp [hdd] at hk
        | some t' =>
          simp only [hdd, Option.getD_some] at hg hk
          obtain ⟨rfl, rfl⟩ := hg
          simp only [yielded, hdd, Option.bind_some]
          cases a.tmps[t']? with
          | none => rfl
          | some u => cases u <;> first | rfl | (rename_i b; cases b <;> cases v <;> rfl)
    simp only [vcSegs, brB, skipAll, hng, cond_false] at h
    split at h
    · rename_i b hl
      have hR' := hR
      obtain ⟨loc, hF, hH⟩ := hR'
      obtain ⟨v, hv, hs⟩ := hF.slots t _ hl
      have hvb : v = .bool b := hs.2
      subst hvb
      have hre : ∀ c, c = b → Rel C (σ.put (some t) (.g (.s (.bool c)))) a w := fun c hc => ⟨loc, ⟨hF.defers, hF.size, fun u y hy => by
        rw [look_put] at hy
        by_cases hu : u = t
        · simp only [hu, if_true, Option.some.injEq] at hy
          subst hy; subst hu; subst hc
          exact ⟨.bool c, hv, rfl, rfl⟩
        · simp only [hu, if_false] at hy
          exact hF.slots u y hy⟩, hH⟩
      by_cases hb : b = want
      · exact run _ (hre want hb.symm) (by rw [hwant, hv]; simp [hb]) (h.1 hb)
      · have hb' : b = !want := by cases b <;> cases want <;> simp_all
        exact skip _ (hre (!want) hb'.symm) (by rw [hwant, hv]; simp [hb']) (h.2 hb')
    · rename_i hl
      have hR' := hR
      obtain ⟨loc, hF, hH⟩ := hR'
      obtain ⟨v, hv, hs⟩ := hF.slots t _ hl
      have hvu : v = undef := hs
      exact skip σ hR (by rw [hwant, hv, hvu]; rfl) h
    · exact h.elim

/-- One operation, whatever it is. -/
theorem one_run {i : Nat} {o : Oper} (hi : ops[i]? = some o) (hd : dstOk C.N o = true) (hk : guardOk ops o = true) (hR : Rel C σ a w) (h : vcSegs C [segOf C.P ops i] K σ) : wpOpN C.P ops i (liftK C K) a w := by
  have hd' : ∀ t, o.dst = some t → t < C.N := fun t ht => by simpa [dstOk, ht] using hd
  have run : ∀ σ, Rel C σ a w → Region.wanted o (yielded ops a.tmps) = true → vcOp C o.dst K σ (cOp C.P o) → wpOpN C.P ops i (liftK C K) a w := by
    intro σ hR hw hv
    unfold wpOpN
    simp only [hi]
    rw [if_pos hw]
    exact vcOp_sound hd' hv hR
  have skip : ∀ σ, Rel C σ a w → Region.wanted o (yielded ops a.tmps) = false → K (σ.put o.dst .no) → wpOpN C.P ops i (liftK C K) a w := by
    rintro σ ⟨loc, hF, hH⟩ hw hK
    obtain ⟨q1, q2, q3⟩ := σ.put_pv o.dst .no
    unfold wpOpN
    simp only [hi]
    rw [hw]
    exact ⟨_, hK, loc, by rw [q1]; exact hF.put hd' rfl (x := .no) (v := undef) rfl, by rw [q1, q2, q3]; exact hH⟩
  have hng := cOp_noGh C.P o
  unfold segOf at h
  simp only [hi] at h
  cases hg : gOf ops o with
  | none =>
    rw [hg] at h
    have hw : Region.wanted o (yielded ops a.tmps) = true := by
      unfold gOf at hg; unfold Region.wanted
      cases hgg : o.guard with
      | none => rfl
      | some x => simp [hgg] at hg
    exact run σ hR hw h
  | some x =>
    obtain ⟨t, want⟩ := x
    rw [hg] at h
    have hwant : Region.wanted o (yielded ops a.tmps) = (match a.tmps[t]? with | some (.bool b) => b == want | _ => false) := by
      unfold gOf at hg; unfold guardOk at hk; unfold Region.wanted
      cases hgg : o.guard with
      | none => simp [hgg] at hg
      | some x =>
        obtain ⟨j, v⟩ := x
        simp only [hgg, Option.map_some, Option.some.injEq, Prod.mk.injEq] at hg
        simp only [hgg] at hk
        cases hdd : (ops[j]?).bind (·.dst) with
        | none => simp [hdd] at hk
        | some t' =>
          simp only [hdd, Option.getD_some] at hg hk
          obtain ⟨rfl, rfl⟩ := hg
          simp only [yielded, hdd, Option.bind_some]
          cases a.tmps[t']? with
          | none => rfl
          | some u => cases u <;> first | rfl | (rename_i b; cases b <;> cases v <;> rfl)
    simp only [vcSegs, brB, skipAll, hng, cond_false] at h
    split at h
    · rename_i b hl
      have hR' := hR
      obtain ⟨loc, hF, hH⟩ := hR'
      obtain ⟨v, hv, hs⟩ := hF.slots t _ hl
      have hvb : v = .bool b := hs.2
      subst hvb
      have hre : ∀ c, c = b → Rel C (σ.put (some t) (.g (.s (.bool c)))) a w := fun c hc => ⟨loc, ⟨hF.defers, hF.size, fun u y hy => by
        rw [look_put] at hy
        by_cases hu : u = t
        · simp only [hu, if_true, Option.some.injEq] at hy
          subst hy; subst hu; subst hc
          exact ⟨.bool c, hv, rfl, rfl⟩
        · simp only [hu, if_false] at hy
          exact hF.slots u y hy⟩, hH⟩
      by_cases hb : b = want
      · exact run _ (hre want hb.symm) (by rw [hwant, hv]; simp [hb]) (h.1 hb)
      · have hb' : b = !want := by cases b <;> cases want <;> simp_all
        exact skip _ (hre (!want) hb'.symm) (by rw [hwant, hv]; simp [hb']) (h.2 hb')
    · rename_i hl
      have hR' := hR
      obtain ⟨loc, hF, hH⟩ := hR'
      obtain ⟨v, hv, hs⟩ := hF.slots t _ hl
      have hvu : v = undef := hs
      exact skip σ hR (by rw [hwant, hv, hvu]; rfl) h
    · exact h.elim

theorem orL_all {K : KT} {f : Nat → OT} : ∀ (l : List Nat) (σ : SS), vcOT C K (orL (l.map f)) σ → ∀ i ∈ l, vcOT C K (f i) σ
  | [], _, _, i, hi => by cases hi
  | [x], σ, h, i, hi => by
    simp at hi; subst hi; exact h
  | x :: y :: r, σ, h, i, hi => by
    have h' : vcOT C K (f x) σ ∧ vcOT C K (orL ((y :: r).map f)) σ := h
    rcases List.mem_cons.1 hi with rfl | hi
    · exact h'.1
    · exact orL_all (y :: r) σ h'.2 i hi

theorem ot_sound (hns : Region.noSelect ops = true) (hd : ∀ o ∈ ops, dstOk C.N o = true) (hg : ∀ o ∈ ops, guardOk ops o = true) : ∀ (f : Nat) (l : Array Bool) (σ : SS) (a : Act) (w : World),
    vcOT C K (otOf C.P ops f l) σ → Rel C σ a w → wpAnyN C.P ops (liftK C K) f l a w := by
  have hsel := Region.noSelect_spec hns
  intro f
  induction f with
  | zero =>
    intro l σ a w h hR
    simp only [otOf] at h
    cases hr : (Region.ready .any ops l).isEmpty with
    | true => rw [hr] at h; exact ⟨by simpa using hr, σ, h, hR⟩
    | false => rw [hr] at h; exact h.elim
  | succ f ih =>
    intro l σ a w h hR
    simp only [otOf] at h
    cases hr : (Region.ready .any ops l).isEmpty with
    | true =>
      rw [hr] at h
      have hnil : Region.ready .any ops l = [] := by simpa using hr
      exact ⟨fun _ => ⟨σ, h, hR⟩, fun i hi => by rw [hnil] at hi; cases hi⟩
    | false =>
      rw [hr] at h
      simp only [cond_false] at h
      have hne : Region.ready .any ops l ≠ [] := fun e => by rw [e] at hr; cases hr
      split at h
      · rename_i i hf
        have hi := List.mem_of_find?_eq_some hf
        have hp := List.find?_some hf
        simp only [Bool.and_eq_true] at hp
        cases ho : ops[i]? with
        | none => rw [ho] at hp; cases hp.1
        | some o =>
          rw [ho] at hp
          have hmem : o ∈ ops := Array.mem_of_getElem? ho
          obtain ⟨v, τ, hy, hK, hR'⟩ := pure_run ho (hd o hmem) (hg o hmem) hp.1 hR h
          exact wpAnyN_first ho hsel f l a w (Region.free_spec ho hp.2) hi hy (ih _ τ _ _ hK hR')
      · refine ⟨fun e => absurd e hne, fun i hi => ?_⟩
        have h1 := orL_all _ σ h i hi
        obtain ⟨_, o, ho, _⟩ := mem_ready.1 hi
        have hmem : o ∈ ops := Array.mem_of_getElem? ho
        exact wpOpN_mono (fun a' w' ⟨τ, hK, hR'⟩ => ih _ τ a' w' hK hR') (one_run ho (hd o hmem) (hg o hmem) hR h1)

end
end Go.Proofs.Ytdpknchgoeboaaa.Vc
