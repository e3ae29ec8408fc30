/- Soundness: regions, code. -/
import Derived.Test.YtdpknchgoeboaaaVcH
import Derived.Deep.LoopGhost
set_option linter.unusedVariables false
set_option linter.unusedSimpArgs false
namespace Go.Proofs.Ytdpknchgoeboaaa.Vc
open Go

theorem grp_flat (ops : Array Oper) : ∀ l, (grp ops l).flatMap (·.2) = l
  | [] => rfl
  | o :: r => by
    have ih := grp_flat ops r
    simp only [grp]
    split
    · rename_i h l s e
      rw [e] at ih
      split <;> simpa using ih
    · rename_i e
      rw [e] at ih
      simpa using ih

theorem grp_mem (ops : Array Oper) : ∀ l, ∀ x ∈ grp ops l, ∀ o ∈ x.2, gOf ops o = x.1 ∧ o ∈ l
  | [], x, h, _, _ => by simp [grp] at h
  | o :: r, x, h, q, hq => by
    have ih := grp_mem ops r
    simp only [grp] at h
    split at h
    · rename_i g l s e
      rw [e] at ih
      split at h
      · rename_i hg
        simp only [List.mem_cons] at h
        rcases h with rfl | h
        · simp only [List.mem_cons] at hq
          rcases hq with rfl | hq
          · exact ⟨rfl, by simp⟩
          · obtain ⟨h1, h2⟩ := ih (g, l) (by simp) q hq
            exact ⟨by rw [h1]; exact hg, by simp [h2]⟩
        · obtain ⟨h1, h2⟩ := ih x (by simp [h]) q hq
          exact ⟨h1, by simp [h2]⟩
      · simp only [List.mem_cons] at h
        rcases h with rfl | h
        · simp at hq; subst hq; exact ⟨rfl, by simp⟩
        · obtain ⟨h1, h2⟩ := ih x (by simpa using h) q hq
          exact ⟨h1, by simp [h2]⟩
    · simp at h; subst h
      simp at hq; subst hq; exact ⟨rfl, by simp⟩

section
variable {C : Ctx} {σ : SS} {a : Act} {w : World} {K : KT} {Q : Exit → Act → World → Prop} {ops : Array Oper}

theorem dstOk_spec {N : Nat} {o : Oper} (h : dstOk N o = true) : ∀ t, o.dst = some t → t < N := by
  intro t ht
  simpa [dstOk, ht] using h

/-- What an operation's guard looks at. -/
theorem wanted_none {o : Oper} (h : gOf ops o = none) (f : Nat → Option Bool) : Region.wanted o f = true := by
  unfold gOf at h
  unfold Region.wanted
  cases hg : o.guard with
  | none => rfl
  | some x => simp [hg] at h

theorem wanted_some {o : Oper} {t : Nat} {want : Bool} (h : gOf ops o = some (t, want)) (hk : guardOk ops o = true) (tmps : Array Value) :
    Region.wanted o (yielded ops tmps) = (match tmps[t]? with | some (.bool b) => b == want | _ => false) ∧ o.dst ≠ some t := by
  unfold gOf at h
  unfold guardOk at hk
  unfold Region.wanted
  cases hg : o.guard with
  | none => simp [hg] at h
  | some x =>
    obtain ⟨j, v⟩ := x
    simp only [hg, Option.map_some, Option.some.injEq, Prod.mk.injEq] at h
    simp only [hg] at hk
    cases hd : (ops[j]?).bind (·.dst) with
    | none => simp [hd] at hk
    | some t' =>
      simp only [hd, Option.getD_some] at h hk
      obtain ⟨rfl, rfl⟩ := h
      refine ⟨?_, by simpa using hk⟩
      simp only [yielded, hd, Option.bind_some]
      cases tmps[t']? with
      | none => rfl
      | some u => cases u <;> first | rfl | (rename_i b; cases b <;> cases v <;> rfl)

theorem Rel.reput (h : Rel C σ a w) {t : Nat} {x : SV} (hx : ∀ loc, FR loc C.N σ.fr σ.pv a → ∃ v, a.tmps[t]? = some v ∧ SVr loc σ.pv x v) : Rel C (σ.put (some t) x) a w := by
  obtain ⟨loc, hF, hH⟩ := h
  refine ⟨loc, ⟨hF.defers, hF.size, fun u y hy => ?_⟩, hH⟩
  rw [look_put] at hy
  by_cases hu : u = t
  · simp only [hu, if_true, Option.some.injEq] at hy
    subst hy; subst hu
    exact hx loc hF
  · simp only [hu, if_false] at hy
    exact hF.slots u y hy

def ghLess (r : List (Option Nat × RO)) : List (Option Nat × RO) := r.filter fun x => !x.2.isGh

theorem isGh_eq {o : RO} (h : o.isGh = true) : o = .gh := by
  cases o <;> first | rfl | (cases h; done)

/-- A group of operations that is carried out. -/
theorem group_run {g : Option (Nat × Bool)} {rest : List Oper} : ∀ (r : List (Option Nat × RO)) (lg : List Oper) (σ : SS) (a : Act) (w : World), (lg.map fun o => (o.dst, cOp C.P o)) = ghLess r → (∀ o ∈ lg, gOf ops o = g ∧ dstOk C.N o = true ∧ guardOk ops o = true) →
    (∀ t b, g = some (t, b) → a.tmps[t]? = some (.bool b)) → Rel C σ a w → vcSegOps C r K σ →
    (∀ σ a w, K σ → Rel C σ a w → wpList C.P ops Q rest a w) → wpList C.P ops Q (lg ++ rest) a w
  | [], lg, σ, a, w, he, _, _, hR, h, hr => by
    have : lg = [] := by simpa [ghLess] using he
    subst this
    exact hr σ a w h hR
  | (d, ro) :: r, lg, σ, a, w, he, hg, ht, hR, h, hr => by
    cases hgh : ro.isGh with
    | true =>
      have := isGh_eq hgh
      subst this
      obtain ⟨τ, hR', h'⟩ := (show ghC C (vcSegOps C r K) σ from h).h a w hR
      exact group_run r lg τ a w (by simpa [ghLess, RO.isGh] using he) hg ht hR' h' hr
    | false =>
      cases lg with
      | nil => simp [ghLess, hgh] at he
      | cons o lg =>
        simp only [ghLess, List.filter_cons, hgh, Bool.not_false, if_true, List.map_cons, List.cons.injEq, Prod.mk.injEq] at he
        obtain ⟨⟨rfl, rfl⟩, he⟩ := he
        obtain ⟨hgo, hd, hk⟩ := hg o (by simp)
        have hw : Region.wanted o (yielded ops a.tmps) = true ∧ ∀ t b, g = some (t, b) → o.dst ≠ some t := by
          cases g with
          | none => exact ⟨wanted_none hgo _, fun t b e => by cases e⟩
          | some x =>
            obtain ⟨t, b⟩ := x
            obtain ⟨h1, h2⟩ := wanted_some hgo hk a.tmps
            refine ⟨by rw [h1, ht t b rfl]; simp, fun t' b' e => by cases e; exact h2⟩
        simp only [List.cons_append, wpList]
        rw [if_pos hw.1]
        left
        simp only [vcSegOps] at h
        have h1 := Oper.wp_put (vcOp_sound (Q := Q) (dstOk_spec hd) h hR)
        refine Oper.wp_mono (fun a' w' hq => ?_) h1
        obtain ⟨⟨σ', hK, hR'⟩, hs⟩ := hq
        exact group_run r lg σ' a' w' he (fun o ho => hg o (by simp [ho])) (fun t b e => by rw [hs t (hw.2 t b e)]; exact ht t b e) hR' hK hr

/-- A group of operations that is passed over. -/
theorem group_skip {t : Nat} {want : Bool} {rest : List Oper} : ∀ (r : List (Option Nat × RO)) (lg : List Oper) (σ : SS) (a : Act) (w : World), (lg.map fun o => (o.dst, cOp C.P o)) = ghLess r → (∀ o ∈ lg, gOf ops o = some (t, want) ∧ dstOk C.N o = true ∧ guardOk ops o = true) →
    (∀ b, a.tmps[t]? = some (.bool b) → b = !want) → Rel C σ a w → K (skipAll r σ) →
    (∀ σ a w, K σ → Rel C σ a w → wpList C.P ops Q rest a w) → wpList C.P ops Q (lg ++ rest) a w
  | [], lg, σ, a, w, he, _, _, hR, h, hr => by
    have : lg = [] := by simpa [ghLess] using he
    subst this
    exact hr σ a w h hR
  | (d, ro) :: r, lg, σ, a, w, he, hg, ht, hR, h, hr => by
    cases hgh : ro.isGh with
    | true =>
      simp only [skipAll, hgh, cond_true] at h
      exact group_skip r lg σ a w (by simpa [ghLess, hgh] using he) hg ht hR h hr
    | false =>
      cases lg with
      | nil => simp [ghLess, hgh] at he
      | cons o lg =>
        simp only [ghLess, List.filter_cons, hgh, Bool.not_false, if_true, List.map_cons, List.cons.injEq, Prod.mk.injEq] at he
        obtain ⟨⟨rfl, rfl⟩, he⟩ := he
        obtain ⟨hgo, hd, hk⟩ := hg o (by simp)
        obtain ⟨h1, h2⟩ := wanted_some hgo hk a.tmps
        have hw : Region.wanted o (yielded ops a.tmps) = false := by
          rw [h1]
          cases hv : a.tmps[t]? with
          | none => rfl
          | some v =>
            cases v <;> first | rfl | skip
            rename_i b
            rw [ht b hv]
            cases want <;> rfl
        simp only [List.cons_append, wpList]
        rw [hw]
        simp only [Bool.false_eq_true, if_false]
        simp only [skipAll, hgh, cond_false] at h
        refine group_skip r lg (σ.put o.dst .no) (a.put o.dst undef) w he (fun o ho => hg o (by simp [ho])) (fun b hb => ht b ?_) ?_ h hr
        · rw [← hb]
          cases hd' : o.dst with
          | none => rfl
          | some d => simp only [Act.put]; rw [Array.getElem?_setIfInBounds_ne (fun e => h2 (by rw [hd', e]))]
        · obtain ⟨loc, hF, hH⟩ := hR
          obtain ⟨q1, q2, q3⟩ := σ.put_pv o.dst .no
          exact ⟨loc, by rw [q1]; exact hF.put (dstOk_spec hd) rfl (x := .no) (v := undef) rfl, by rw [q1, q2, q3]; exact hH⟩

theorem segs_sound (hQ : ∀ σ a w, K σ → Rel C σ a w → Q .normal a w) : ∀ (ss : List Seg) (gs : List (Option (Nat × Bool) × List Oper)) (σ : SS) (a : Act) (w : World), gs.map (cSeg C.P) = ss.map erSeg → (∀ x ∈ gs, ∀ o ∈ x.2, gOf ops o = x.1 ∧ dstOk C.N o = true ∧ guardOk ops o = true) →
    Rel C σ a w → vcSegs C ss K σ → wpList C.P ops Q (gs.flatMap (·.2)) a w
  | [], gs, σ, a, w, he, _, hR, h => by
    have : gs = [] := by simpa using he
    subst this
    exact hQ σ a w h hR
  | _ :: _, [], σ, a, w, he, _, hR, h => by simp at he
  | ⟨gd, r⟩ :: ss, (g, lg) :: gs, σ, a, w, he, hg, hR, h => by
    simp only [List.map_cons, List.cons.injEq, cSeg, erSeg, Seg.mk.injEq] at he
    obtain ⟨⟨rfl, he1⟩, he2⟩ := he
    have hgs := fun x (hx : x ∈ gs) => hg x (List.mem_cons_of_mem _ hx)
    have hlg := hg (g, lg) (by simp)
    simp only [List.flatMap_cons]
    cases g with
    | none =>
      exact group_run r lg σ a w he1 hlg (fun t b e => by cases e) hR h fun σ' a' w' hK hR' => segs_sound hQ ss gs σ' a' w' he2 hgs hR' hK
    | some tw =>
      obtain ⟨t, want⟩ := tw
      simp only [vcSegs, brB] at h
      obtain ⟨loc, hF, hH⟩ := hR
      split at h
      · rename_i b hl
        obtain ⟨v, hv, hs⟩ := hF.slots t _ hl
        have hvb : v = .bool b := hs.2
        subst hvb
        have hre : ∀ c, c = b → Rel C (σ.put (some t) (.g (.s (.bool c)))) a w := fun c hc => Rel.reput ⟨loc, hF, hH⟩ fun loc' hF' => by
          subst hc
          exact ⟨.bool c, hv, rfl, rfl⟩
        by_cases hb : b = want
        · exact group_run r lg _ a w he1 hlg (fun t' b' e => by cases e; rw [hv, hb]) (hre want hb.symm) (h.1 hb) fun σ' a' w' hK hR' => segs_sound hQ ss gs σ' a' w' he2 hgs hR' hK
        · have hb' : b = !want := by cases b <;> cases want <;> simp_all
          exact group_skip (t := t) (want := want) r lg _ a w he1 hlg (fun b' e => by rw [hv] at e; simp at e; rw [← e]; exact hb') (hre (!want) hb'.symm) (h.2 hb') fun σ' a' w' hK hR' => segs_sound hQ ss gs σ' a' w' he2 hgs hR' hK
      · rename_i hl
        obtain ⟨v, hv, hs⟩ := hF.slots t _ hl
        have hvu : v = undef := hs
        exact group_skip (t := t) (want := want) r lg _ a w he1 hlg (fun b' e => by rw [hv, hvu] at e; simp [undef] at e) ⟨loc, hF, hH⟩ h fun σ' a' w' hK hR' => segs_sound hQ ss gs σ' a' w' he2 hgs hR' hK
      · exact h.elim

/-! ### Where the order is open -/
theorem put_other (a : Act) {o : Oper} {t : Nat} (h : o.dst ≠ some t) (v : Value) : (a.put o.dst v).tmps[t]? = a.tmps[t]? := by
  cases hd : o.dst with
  | none => rfl
  | some d => simp only [Act.put]; rw [Array.getElem?_setIfInBounds_ne (fun e => h (by rw [hd, e]))]

def HeapIs (pv : List (Nat × PV)) (ph : List PH) (m : PH) (σ : SS) : Prop := σ.pv = pv ∧ σ.ph = ph ∧ σ.m = m

theorem HeapIs.put {pv : List (Nat × PV)} {ph : List PH} {m : PH} (h : HeapIs pv ph m σ) (d : Option Nat) (x : SV) : HeapIs pv ph m (σ.put d x) := by
  obtain ⟨q1, q2, q3⟩ := σ.put_pv d x
  exact ⟨q1.trans h.1, q2.trans h.2.1, q3.trans h.2.2⟩

section
variable {loc : Loc} {pv : List (Nat × PV)} {ph : List PH} {m : PH} {q : Act → Prop}

theorem noRegion {P : Program} {N : Nat} {ns : List (Nat × Nat)} {id : Nat} {ops : Array Oper} {draw : Bool} {cd : Cd} (h : compR P N ns id ops draw = cd) (h1 : ∀ s k, cd ≠ .rg s k) (h2 : ∀ s t k, cd ≠ .rgq s t k) (h4 : ∀ t k, cd ≠ .rga t k) (h3 : ∀ c, cd ≠ .raw c) : False := by
  rcases compR_cases P N ns id ops draw with ⟨_, _, _, e⟩ | ⟨n, _, _, _, _, _, e⟩ | ⟨_, _, _, _, _, e⟩ | ⟨_, _, _, _, _, _, e⟩ | e
  · exact h1 _ _ (h.symm.trans e)
  · exact h2 _ _ _ (h.symm.trans e)
  · exact h4 _ _ (h.symm.trans e)
  · exact h4 _ _ (h.symm.trans e)
  · exact h3 _ (h.symm.trans e)

theorem groupQ_run (hW : ∃ w, HR C loc pv ph m w) {g : Option (Nat × Bool)} {rest : List Oper} : ∀ (lg : List Oper) (σ : SS) (a : Act), HeapIs pv ph m σ → (∀ o ∈ lg, gOf ops o = g ∧ dstOk C.N o = true ∧ guardOk ops o = true) →
    (∀ t b, g = some (t, b) → a.tmps[t]? = some (.bool b)) → FR loc C.N σ.fr pv a → vcqSegOps C (lg.map fun o => (o.dst, cOp C.P o)) K σ →
    (∀ σ a, HeapIs pv ph m σ → FR loc C.N σ.fr pv a → K σ → wpQuiet C.P ops (fun w => HR C loc pv ph m w) q rest a) → wpQuiet C.P ops (fun w => HR C loc pv ph m w) q (lg ++ rest) a := by
  intro lg
  induction lg with
  | nil => exact fun σ a hs _ _ hF h hr => hr σ a hs hF h
  | cons o lg ih =>
    intro σ a hs hg ht hF h hr
    obtain ⟨hgo, hd, hk⟩ := hg o (by simp)
    have hw : Region.wanted o (yielded ops a.tmps) = true ∧ ∀ t b, g = some (t, b) → o.dst ≠ some t := by
      cases g with
      | none => exact ⟨wanted_none hgo _, fun t b e => by cases e⟩
      | some x =>
        obtain ⟨t, b⟩ := x
        obtain ⟨h1, h2⟩ := wanted_some hgo hk a.tmps
        refine ⟨by rw [h1, ht t b rfl]; simp, fun t' b' e => by cases e; exact h2⟩
    simp only [List.cons_append, wpQuiet]
    rw [if_pos hw.1]
    simp only [List.map_cons, vcqSegOps] at h
    obtain ⟨e1, e2, e3⟩ := hs
    subst e1; subst e2; subst e3
    refine vcqOp_sound (dstOk_spec hd) h hF hW fun x v hx hK => ?_
    refine ih (σ.put o.dst x) (a.put o.dst v) (HeapIs.put ⟨rfl, rfl, rfl⟩ _ _) (fun o ho => hg o (by simp [ho])) (fun t b e => by rw [put_other a (hw.2 t b e)]; exact ht t b e) ?_ hK hr
    exact hF.put (dstOk_spec hd) rfl hx

theorem groupQ_skip {t : Nat} {want : Bool} {rest : List Oper} : ∀ (lg : List Oper) (σ : SS) (a : Act), HeapIs pv ph m σ → (∀ o ∈ lg, gOf ops o = some (t, want) ∧ dstOk C.N o = true ∧ guardOk ops o = true) →
    (∀ b, a.tmps[t]? = some (.bool b) → b = !want) → FR loc C.N σ.fr pv a → K (skipAll (lg.map fun o => (o.dst, cOp C.P o)) σ) →
    (∀ σ a, HeapIs pv ph m σ → FR loc C.N σ.fr pv a → K σ → wpQuiet C.P ops (fun w => HR C loc pv ph m w) q rest a) → wpQuiet C.P ops (fun w => HR C loc pv ph m w) q (lg ++ rest) a
  | [], σ, a, hs, _, _, hF, h, hr => hr σ a hs hF h
  | o :: lg, σ, a, hs, hg, ht, hF, h, hr => by
    obtain ⟨hgo, hd, hk⟩ := hg o (by simp)
    obtain ⟨h1, h2⟩ := wanted_some hgo hk a.tmps
    have hw : Region.wanted o (yielded ops a.tmps) = false := by
      rw [h1]
      cases hv : a.tmps[t]? with
      | none => rfl
      | some v =>
        cases v <;> first | rfl | skip
        rename_i b
        rw [ht b hv]
        cases want <;> rfl
    simp only [List.cons_append, wpQuiet]
    rw [hw]
    simp only [Bool.false_eq_true, if_false]
    simp only [List.map_cons, skipAll, cOp_noGh, cond_false] at h
    exact groupQ_skip lg (σ.put o.dst .no) (a.put o.dst undef) (hs.put _ _) (fun o ho => hg o (by simp [ho])) (fun b hb => ht b (by rw [← hb, put_other a h2])) (hF.put (dstOk_spec hd) rfl (x := .no) (v := undef) rfl) h hr

theorem segsQ_sound (hW : ∃ w, HR C loc pv ph m w) (hQ : ∀ σ a, HeapIs pv ph m σ → FR loc C.N σ.fr pv a → K σ → q a) : ∀ (gs : List (Option (Nat × Bool) × List Oper)) (σ : SS) (a : Act), HeapIs pv ph m σ →
    (∀ x ∈ gs, ∀ o ∈ x.2, gOf ops o = x.1 ∧ dstOk C.N o = true ∧ guardOk ops o = true) →
    FR loc C.N σ.fr pv a → vcqSegs C (gs.map (cSeg C.P)) K σ → wpQuiet C.P ops (fun w => HR C loc pv ph m w) q (gs.flatMap (·.2)) a
  | [], σ, a, hs, _, hF, h => hQ σ a hs hF h
  | (none, lg) :: gs, σ, a, hs, hg, hF, h => by
    simp only [List.flatMap_cons]
    exact groupQ_run hW lg σ a hs (hg (none, lg) (by simp)) (fun t b e => by cases e) hF h fun σ' a' hs' hF' hK => segsQ_sound hW hQ gs σ' a' hs' (fun x hx => hg x (by simp [hx])) hF' hK
  | (some (t, want), lg) :: gs, σ, a, hs, hg, hF, h => by
    have hgs := fun x (hx : x ∈ gs) => hg x (List.mem_cons_of_mem _ hx)
    have hlg := hg (some (t, want), lg) (by simp)
    simp only [List.flatMap_cons]
    simp only [List.map_cons, cSeg, vcqSegs, brB] at h
    split at h
    · rename_i b hl
      obtain ⟨v, hv, hsv⟩ := hF.slots t _ hl
      have hvb : v = .bool b := hsv.2
      subst hvb
      have hre : ∀ c, c = b → FR loc C.N (σ.put (some t) (.g (.s (.bool c)))).fr pv a := fun c hc => ⟨hF.defers, hF.size, fun u y hy => by
        rw [look_put] at hy
        by_cases hu : u = t
        · simp only [hu, if_true, Option.some.injEq] at hy
          subst hy; subst hu; subst hc
          exact ⟨.bool c, hv, rfl, rfl⟩
        · simp only [hu, if_false] at hy
          exact hF.slots u y hy⟩
      by_cases hb : b = want
      · exact groupQ_run hW lg _ a (hs.put _ _) hlg (fun t' b' e => by cases e; rw [hv, hb]) (hre want hb.symm) (h.1 hb) fun σ' a' hs' hF' hK => segsQ_sound hW hQ gs σ' a' hs' hgs hF' hK
      · have hb' : b = !want := by cases b <;> cases want <;> simp_all
        exact groupQ_skip (t := t) (want := want) lg _ a (hs.put _ _) hlg (fun b' e => by rw [hv] at e; simp at e; rw [← e]; exact hb') (hre (!want) hb'.symm) (h.2 hb') fun σ' a' hs' hF' hK => segsQ_sound hW hQ gs σ' a' hs' hgs hF' hK
    · rename_i hl
      obtain ⟨v, hv, hsv⟩ := hF.slots t _ hl
      have hvu : v = undef := hsv
      exact groupQ_skip (t := t) (want := want) lg _ a hs hlg (fun b' e => by rw [hv, hvu] at e; simp [undef] at e) hF h fun σ' a' hs' hF' hK => segsQ_sound hW hQ gs σ' a' hs' hgs hF' hK
    · exact h.elim
end

theorem HR.drew {loc : Loc} {pv : List (Nat × PV)} {ph : List PH} {m : PH} (h : HR C loc pv ph m w) : HR C loc pv ph m { w with drawn := w.drawn + 1 } :=
  ⟨h.kept, h.pvs, h.apart, h.priv, h.mle, h.mmine, h.phs⟩

theorem Ge.rel {τ : SS} (hg : Ge σ τ) (h : Rel C σ a w) : Rel C τ a w := by
  obtain ⟨loc, hF, hH⟩ := h
  refine ⟨loc, ⟨hF.defers, hF.size, fun t x hx => ?_⟩, ⟨hH.kept, fun k y hk => ?_, ?_, ?_, hg.m ▸ hH.mle, fun b hb => hH.mmine b (by rw [← hg.m]; exact hb), fun u hu => ?_⟩⟩
  · obtain ⟨v, hv, hr⟩ := hF.slots t x (hg.fr t x hx)
    refine ⟨v, hv, hr.weaken fun k hk => ⟨rfl, ?_⟩⟩
    obtain ⟨y, hy⟩ := Option.isSome_iff_exists.mp (hg.wf t x hx k hk)
    rw [hy, hg.pv k y hy]
  · have hp := hH.pvs k y (hg.pv k y hk)
    cases y with
    | box g => exact hp
    | row e z df xs => exact hp
    | ro z df xs =>
      refine ⟨hp.1, ?_⟩
      have hp2 := hp.2
      cases hl : loc k with
      | none => rw [hl] at hp2; exact hp2
      | some l =>
        obtain ⟨b, o, c⟩ := l
        rw [hl] at hp2
        obtain ⟨h1, hp3⟩ := hp2
        refine ⟨h1, fun hc0 => ?_⟩
        obtain ⟨u, cs, e, fz, hu, h2⟩ := hp3 hc0
        exact ⟨u, cs, e, fz, hu.imp id (hg.ros k z df xs hk u), h2⟩
  · intro k k' y y' b o c o' c' h1 h2 h3 h4
    exact hH.apart k k' y y' b o c o' c' (hg.pv _ _ h1) h2 h3 (hg.pv _ _ h4)
  · intro k y b o c h1 h2 h3
    obtain ⟨e1, e2, e3⟩ := hH.priv k y b o c (hg.pv _ _ h1) h2 h3
    exact ⟨e1, by rw [hg.m]; exact e2, fun u hu => e3 u (hg.ph u hu)⟩
  · rw [hg.m]; exact hH.phs u (hg.ph u hu)

theorem look_keepL {fr : List (Nat × SV)} : ∀ (l : List Nat) (t : Nat) (x : SV), look (keepL fr l) t = some x → look fr t = some x
  | [], t, x, h => by simp [keepL, look] at h
  | k :: l, t, x, h => by
    simp only [keepL] at h
    split at h
    · rename_i y hy
      simp only [look] at h
      split at h
      · rename_i e
        subst e
        rw [hy]; exact h
      · exact look_keepL l t x h
    · exact look_keepL l t x h

theorem Rel.keep (h : Rel C σ a w) (l : List Nat) : Rel C (σ.keep l) a w := by
  obtain ⟨loc, hF, hH⟩ := h
  exact ⟨loc, ⟨hF.defers, hF.size, fun t x hx => hF.slots t x (look_keepL l t x hx)⟩, hH⟩

theorem vc_sound (ns : List (Nat × Nat)) : ∀ (cd : Cd) (code : Code) (Q : QT) (σ : SS) (a : Act) (w : World), comp C.P C.N ns code = er cd → vc C cd Q σ → Rel C σ a w → code.wp C.P (liftQ C Q) a w := by
  intro cd
  induction cd with
  | skip =>
    intro code Q σ a w hc h hR
    cases code <;> simp only [comp, er] at hc <;> (try split at hc) <;> first | (cases hc; done) | (exact (noRegion hc (by intros; simp) (by intros; simp) (by intros; simp) (by intros; simp)).elim) | skip
    · exact wp_skip ⟨σ, h, hR⟩
    · exact wp_label ⟨σ, h, hR⟩
  | ret =>
    intro code Q σ a w hc h hR
    cases code <;> simp only [comp, er] at hc <;> (try split at hc) <;> first | (cases hc; done) | (exact (noRegion hc (by intros; simp) (by intros; simp) (by intros; simp) (by intros; simp)).elim) | skip
    exact wp_ret ⟨σ, h, hR⟩
  | exit id =>
    intro code Q σ a w hc h hR
    cases code <;> simp only [comp, er] at hc <;> (try split at hc) <;> first | (cases hc; done) | (exact (noRegion hc (by intros; simp) (by intros; simp) (by intros; simp) (by intros; simp)).elim) | skip
    cases hc
    exact wp_exit ⟨σ, h, hR⟩
  | seq x y ihx ihy =>
    intro code Q σ a w hc h hR
    cases code <;> simp only [comp, er] at hc <;> (try split at hc) <;> first | (cases hc; done) | (exact (noRegion hc (by intros; simp) (by intros; simp) (by intros; simp) (by intros; simp)).elim) | skip
    rename_i x' y'
    simp only [Cd.seq.injEq] at hc
    refine wp_seq (wp_mono (ihx x' _ σ a w hc.1 h hR) fun e a' w' hq => ?_)
    obtain ⟨σ', hq, hR'⟩ := hq
    cases e with
    | normal => exact ihy y' Q σ' a' w' hc.2 hq hR'
    | _ => exact ⟨σ', hq, hR'⟩
  | ite c x y ihx ihy =>
    intro code Q σ a w hc h hR
    cases code <;> simp only [comp, er] at hc <;> (try split at hc) <;> first | (cases hc; done) | (exact (noRegion hc (by intros; simp) (by intros; simp) (by intros; simp) (by intros; simp)).elim) | skip
    rename_i c' x' y' _ c2 hc2
    simp only [Cd.ite.injEq] at hc
    obtain ⟨rfl, h1, h2⟩ := hc
    simp only [vc, brB] at h
    split at h
    · rename_i t ht
      have hF := hR.choose_spec.1
      have hv := (hF.ev rfl ht).s
      refine wp_cond_split (t := t) (by rw [cOpd_eval hc2 a]; exact hv) (fun e => ihx x' Q σ a w h1 (h.1 e) hR) (fun e => ihy y' Q σ a w h2 (h.2 e) hR)
    · exact h.elim
  | block id x ih =>
    intro code Q σ a w hc h hR
    cases code <;> simp only [comp, er] at hc <;> (try split at hc) <;> first | (cases hc; done) | (exact (noRegion hc (by intros; simp) (by intros; simp) (by intros; simp) (by intros; simp)).elim) | skip
    rename_i id' x'
    simp only [Cd.block.injEq] at hc
    obtain ⟨rfl, h1⟩ := hc
    refine wp_block (wp_mono (ih x' _ σ a w h1 h hR) fun e a' w' hq => ?_)
    obtain ⟨σ', hq, hR'⟩ := hq
    cases e with
    | exit j =>
      simp only [blockQ] at hq
      simp only [Exit.inBlock]
      split
      · rename_i e; rw [if_pos e] at hq; exact ⟨σ', hq, hR'⟩
      · rename_i e; rw [if_neg e] at hq; exact ⟨σ', hq, hR'⟩
    | _ => exact ⟨σ', hq, hR'⟩
  | loop x ih =>
    intro code Q σ a w hc h hR
    cases code <;> simp only [comp, er] at hc <;> (try split at hc) <;> first | (cases hc; done) | (exact (noRegion hc (by intros; simp) (by intros; simp) (by intros; simp) (by intros; simp)).elim) | skip
    rename_i x'
    simp only [Cd.loop.injEq] at hc
    obtain ⟨ι, st, inv, ms, i0, hi0, hge, hstep⟩ := h
    refine wp_loop_ghost (fun n a w => ∃ i, inv i ∧ ms i = n ∧ Rel C (st i) a w) (ms i0) ⟨i0, hi0, rfl, hge.rel hR⟩ fun n a w hI => ?_
    obtain ⟨i, hi, rfl, hRi⟩ := hI
    refine wp_mono (ih x' _ (st i) a w hc (hstep i hi) hRi) fun e a' w' hq => ?_
    obtain ⟨σ', hq, hR'⟩ := hq
    cases e with
    | normal =>
      obtain ⟨j, hj, hlt, hge'⟩ := hq
      exact ⟨ms j, hlt, j, hj, rfl, hge'.rel hR'⟩
    | _ => exact ⟨σ', hq, hR'⟩
  | scope x ih =>
    intro code Q σ a w hc h hR
    cases code <;> simp only [comp, er] at hc <;> (try split at hc) <;> first | (cases hc; done) | (exact (noRegion hc (by intros; simp) (by intros; simp) (by intros; simp) (by intros; simp)).elim) | skip
    rename_i x'
    simp only [Cd.scope.injEq] at hc
    refine wp_scope_straight (wp_mono (ih x' _ σ a w hc h hR) fun e a' w' hq => ?_)
    obtain ⟨σ', hq, hR'⟩ := hq
    cases e with
    | goto l => exact hq.elim
    | _ => exact ⟨σ', hq, hR'⟩
  | rg segs keep =>
    intro code Q σ a w hc h hR
    cases code <;> simp only [comp, er] at hc <;> (try split at hc) <;> first | (cases hc; done) | skip
    rename_i id ops draw
    rcases compR_cases C.P C.N ns id ops draw with ⟨rfl, hd, hg, e⟩ | ⟨n, _, _, _, _, _, e⟩ | ⟨_, _, _, _, _, e⟩ | ⟨_, _, _, _, _, _, e⟩ | e
    rotate_left
    · rw [e] at hc; cases hc
    · rw [e] at hc; cases hc
    · rw [e] at hc; cases hc
    · rw [e] at hc; cases hc
    rw [e] at hc
    simp only [Cd.rg.injEq, and_true] at hc
    simp only [Array.all_eq_true_iff_forall_mem] at hd hg
    refine wp_region_list ?_
    have := segs_sound (C := C) (ops := ops) (K := kKeep keep Q) (Q := liftQ C Q) (fun σ' a' w' hK hR' => ⟨σ'.keep keep, hK, hR'.keep keep⟩) segs (grp ops ops.toList) σ a w hc (fun x hx o ho => by
      obtain ⟨h1, h2⟩ := grp_mem ops ops.toList x hx o ho
      exact ⟨h1, hd o (by simpa using h2), hg o (by simpa using h2)⟩) hR h
    rwa [grp_flat] at this
  | rgq hd' tl keep =>
    intro code Q σ a w hc h hR
    cases code <;> simp only [comp, er] at hc <;> (try split at hc) <;> first | (cases hc; done) | skip
    rename_i id ops draw
    rcases compR_cases C.P C.N ns id ops draw with ⟨_, _, _, e⟩ | ⟨n, rfl, hd, hg, hmix, hB, e⟩ | ⟨_, _, _, _, _, e⟩ | ⟨_, _, _, _, _, _, e⟩ | e
    · rw [e] at hc; cases hc
    rotate_left
    · rw [e] at hc; cases hc
    · rw [e] at hc; cases hc
    · rw [e] at hc; cases hc
    rw [e] at hc
    simp only [Cd.rgq.injEq, and_true] at hc
    simp only [Array.all_eq_true_iff_forall_mem] at hd hg
    obtain ⟨e1, e2⟩ := hc
    subst e1
    obtain ⟨loc, hF, hH⟩ := hR
    have hmem : ∀ (l : List Oper), (∀ o ∈ l, o ∈ ops.toList) → ∀ x ∈ grp ops l, ∀ o ∈ x.2, gOf ops o = x.1 ∧ dstOk C.N o = true ∧ guardOk ops o = true := fun l hl x hx o ho => by
      obtain ⟨h1, h2⟩ := grp_mem ops l x hx o ho
      have := hl o h2
      exact ⟨h1, hd o (by simpa using this), hg o (by simpa using this)⟩
    have hquiet : wpQuiet C.P ops (fun w => HR C loc σ.pv σ.ph σ.m w) (fun a' => ∀ w', HR C loc σ.pv σ.ph σ.m w' → wpList C.P ops (liftQ C Q) (ops.toList.drop n) a' w') (ops.toList.take n) a := by
      have := segsQ_sound (C := C) (ops := ops) (K := vcSegs C tl (kKeep keep Q)) (q := fun a' => ∀ w', HR C loc σ.pv σ.ph σ.m w' → wpList C.P ops (liftQ C Q) (ops.toList.drop n) a' w') ⟨w, hH⟩
        (fun σ' a' hs' hF' hK w' hw' => by
          obtain ⟨q1, q2, q3⟩ := hs'
          have := segs_sound (C := C) (ops := ops) (K := kKeep keep Q) (Q := liftQ C Q) (fun σ' a' w' hK hR' => ⟨σ'.keep keep, hK, hR'.keep keep⟩) tl (grp ops (ops.toList.drop n)) σ' a' w' e2 (hmem _ fun o ho => List.mem_of_mem_drop ho)
            ⟨loc, by rw [q1]; exact hF', by rw [q1, q2, q3]; exact hw'⟩ hK
          rwa [grp_flat] at this) (grp ops (ops.toList.take n)) σ a ⟨rfl, rfl, rfl⟩ (hmem _ fun o ho => List.mem_of_mem_take ho) hF h
      rwa [grp_flat] at this
    rcases hB with ⟨hsz, hB⟩ | ⟨hsz, hB⟩
    · refine wp_region_quiet (C := fun w => HR C loc σ.pv σ.ph σ.m w) hmix hB hH.drew ?_
      rw [List.take_of_length_le (by simp [hsz])] at hquiet
      rw [List.drop_of_length_le (by simp [hsz])] at hquiet
      exact hquiet
    · exact wp_region_qt (C := fun w => HR C loc σ.pv σ.ph σ.m w) n hmix hB hH.drew hquiet
  | rga t keep =>
    intro code Q σ a w hc h hR
    cases code <;> simp only [comp, er] at hc <;> (try split at hc) <;> first | (cases hc; done) | skip
    rename_i id ops draw
    rcases compR_cases C.P C.N ns id ops draw with ⟨_, _, _, e⟩ | ⟨n, _, _, _, _, _, e⟩ | ⟨rfl, hd, hg, hmix, hns, e⟩ | ⟨rfl, hd, hg, hmix, hns, hts, e⟩ | e
    · rw [e] at hc; cases hc
    · rw [e] at hc; cases hc
    · rw [e] at hc
      simp only [Cd.rga.injEq, and_true] at hc
      subst hc
      simp only [Array.all_eq_true_iff_forall_mem] at hd hg
      obtain ⟨loc, hF, hH⟩ := hR
      exact wp_region_any hmix (wpAny_of_N (D := liftK C (kKeep keep Q)) (fun a' w' ⟨τ, hK, hR'⟩ => ⟨τ.keep keep, hK, hR'.keep keep⟩) _ _ _ _ (ot_sound hns hd hg _ _ σ a _ h ⟨loc, hF, hH.drew⟩))
    · rw [e] at hc
      simp only [Cd.rga.injEq, and_true] at hc
      subst hc
      simp only [Array.all_eq_true_iff_forall_mem] at hd hg hts
      obtain ⟨loc, hF, hH⟩ := hR
      obtain ⟨hh, h⟩ := (show heldOk σ σ (heldTs C.P ops) ∧ vcOTH C (kKeep keep Q) (heldTs C.P ops) σ (otOfH C.P ops ops.size (Array.replicate ops.size false)) σ from h)
      have hR' : Rel C σ a { w with drawn := w.drawn + 1 } := ⟨loc, hF, hH.drew⟩
      have hts' : ∀ o ∈ ops, ∀ t ∈ heldTs C.P ops, o.dst ≠ some t := fun o ho t ht => by
        have h1 := hts o ho
        simp only [List.all_eq_true, bne_iff_ne, ne_eq] at h1
        exact h1 t ht
      exact wp_region_any hmix (wpAny_of_N (D := liftK C (kKeep keep Q)) (fun a' w' ⟨τ, hK, hR'⟩ => ⟨τ.keep keep, hK, hR'.keep keep⟩) _ _ _ _ (wpAnyN_of_S _ _ _ _
        (otH_sound hns hd hg hts' _ _ σ a _ h hh (fun _ _ => rfl) (stands_of hR' hh (HeldM.self _ _) fun _ _ => rfl) hR')))
    · rw [e] at hc; cases hc
  | gh x ih =>
    intro code Q σ a w hc h hR
    obtain ⟨τ, hR', h'⟩ := h a w hR
    exact ih code Q τ a w hc h' hR'
  | raw c =>
    intro code Q σ a w hc h hR
    have : code = c := by
      cases code <;> simp only [comp, er] at hc <;> (try split at hc) <;> first | (cases hc; done) | (cases hc; rfl) | skip
      rename_i id ops draw
      rcases compR_cases C.P C.N ns id ops draw with ⟨_, _, _, e⟩ | ⟨n, _, _, _, _, _, e⟩ | ⟨_, _, _, _, _, e⟩ | ⟨_, _, _, _, _, _, e⟩ | e <;> rw [e] at hc <;> cases hc
      rfl
    subst this
    exact h a w hR

end
end Go.Proofs.Ytdpknchgoeboaaa.Vc
