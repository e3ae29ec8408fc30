/- How what is to be shown is taken apart; rows handed out and taken in. -/
import Derived.Test.YtdpknchgoeboaaaVc9
set_option linter.unusedVariables false
set_option linter.unusedSimpArgs false
namespace Go.Proofs.Ytdpknchgoeboaaa.Vc
open Go

/-! ### What is to be shown, by the code's form -/
section
variable {C : Ctx} {Q : QT} {σ : SS}
theorem vc_skip : vc C .skip Q σ = Q .normal σ := rfl
theorem vc_ret : vc C .ret Q σ = Q .ret σ := rfl
theorem vc_exit {id : Nat} : vc C (.exit id) Q σ = Q (.exit id) σ := rfl
theorem vc_seq {a b : Cd} : vc C (.seq a b) Q σ = vc C a (thenQ (vc C b Q) Q) σ := rfl
theorem vc_block {id : Nat} {a : Cd} : vc C (.block id a) Q σ = vc C a (blockQ id Q) σ := rfl
theorem vc_rg {s : List Seg} {l : List Nat} : vc C (.rg s l) Q σ = vcSegs C s (kKeep l Q) σ := rfl
theorem vc_rgq {h t : List Seg} {l : List Nat} : vc C (.rgq h t l) Q σ = vcqSegs C h (vcSegs C t (kKeep l Q)) σ := rfl
theorem vc_rga {t : OT} {l : List Nat} : vc C (.rga t l) Q σ = vcOT C (kKeep l Q) t σ := rfl
theorem vc_ite {c : Opd} {a b : Cd} : vc C (.ite c a b) Q σ = match ev σ c with
    | some (.g (.s (.bool t))) => brB t true (vc C a Q σ) (vc C b Q σ)
    | _ => False := rfl
theorem thenQ_n {K : KT} : thenQ K Q .normal σ = K σ := rfl
theorem thenQ_r {K : KT} : thenQ K Q .ret σ = Q .ret σ := rfl
theorem thenQ_e {K : KT} {id : Nat} : thenQ K Q (.exit id) σ = Q (.exit id) σ := rfl
theorem blockQ_n {id : Nat} : blockQ id Q .normal σ = Q .normal σ := rfl
theorem blockQ_r {id : Nat} : blockQ id Q .ret σ = Q .ret σ := rfl
theorem blockQ_e {id j : Nat} : blockQ id Q (.exit j) σ = if j = id then Q .normal σ else Q (.exit j) σ := rfl
theorem vc_scope {a : Cd} : vc C (.scope a) Q σ = vc C a (scopeQ Q) σ := rfl
theorem scopeQ_n : scopeQ Q .normal σ = Q .normal σ := rfl
theorem scopeQ_r : scopeQ Q .ret σ = Q .ret σ := rfl
theorem scopeQ_e {id : Nat} : scopeQ Q (.exit id) σ = Q (.exit id) σ := rfl
theorem kKeep_eq {l : List Nat} : kKeep l Q σ = Q .normal (σ.keep l) := rfl
theorem loopQ_r {ι : Type} {st : ι → SS} {inv : ι → Prop} {ms : ι → Nat} {i : ι} : loopQ st inv ms i Q .ret σ = Q .ret σ := rfl
theorem loopQ_e {ι : Type} {st : ι → SS} {inv : ι → Prop} {ms : ι → Nat} {i : ι} {id : Nat} : loopQ st inv ms i Q (.exit id) σ = Q (.exit id) σ := rfl
theorem loopQ_n {ι : Type} {st : ι → SS} {inv : ι → Prop} {ms : ι → Nat} {i : ι} : loopQ st inv ms i Q .normal σ = ∃ j, inv j ∧ ms j < ms i ∧ Ge σ (st j) := rfl

theorem br_tt {x y : Prop} : brB true true x y = x := by simp [brB]
theorem br_ff {x y : Prop} : brB false false x y = x := by simp [brB]
theorem br_tf {x y : Prop} : brB true false x y = y := by simp [brB]
theorem br_ft {x y : Prop} : brB false true x y = y := by simp [brB]
theorem br_t {b : Bool} {x y : Prop} : brB b true x y = ((b = true → x) ∧ (b = false → y)) := rfl
theorem br_f {b : Bool} {x y : Prop} : brB b false x y = ((b = false → x) ∧ (b = true → y)) := rfl
theorem segs_nil {K : KT} : vcSegs C [] K σ = K σ := rfl
theorem segs_n {K : KT} {ops : List (Option Nat × RO)} {r : List Seg} : vcSegs C (⟨none, ops⟩ :: r) K σ = vcSegOps C ops (vcSegs C r K) σ := rfl
theorem segs_g {K : KT} {t : Nat} {want : Bool} {ops : List (Option Nat × RO)} {r : List Seg} : vcSegs C (⟨some (t, want), ops⟩ :: r) K σ = match look σ.fr t with
    | some (.g (.s (.bool b))) =>
      brB b want (vcSegOps C ops (vcSegs C r K) (σ.put (some t) (.g (.s (.bool want))))) (vcSegs C r K (skipAll ops (σ.put (some t) (.g (.s (.bool !want))))))
    | some .no => vcSegs C r K (skipAll ops σ)
    | _ => False := rfl
theorem ops_nil {K : KT} : vcSegOps C [] K σ = K σ := rfl
theorem ops_cons {K : KT} {d : Option Nat} {o : RO} {r : List (Option Nat × RO)} : vcSegOps C ((d, o) :: r) K σ = vcOp C d (vcSegOps C r K) σ o := rfl
theorem qsegs_nil {K : KT} : vcqSegs C [] K σ = K σ := rfl
theorem qsegs_n {K : KT} {ops : List (Option Nat × RO)} {r : List Seg} : vcqSegs C (⟨none, ops⟩ :: r) K σ = vcqSegOps C ops (vcqSegs C r K) σ := rfl
theorem qsegs_g {K : KT} {t : Nat} {want : Bool} {ops : List (Option Nat × RO)} {r : List Seg} : vcqSegs C (⟨some (t, want), ops⟩ :: r) K σ = match look σ.fr t with
    | some (.g (.s (.bool b))) =>
      brB b want (vcqSegOps C ops (vcqSegs C r K) (σ.put (some t) (.g (.s (.bool want))))) (vcqSegs C r K (skipAll ops (σ.put (some t) (.g (.s (.bool !want))))))
    | some .no => vcqSegs C r K (skipAll ops σ)
    | _ => False := rfl
theorem qops_nil {K : KT} : vcqSegOps C [] K σ = K σ := rfl
theorem qops_cons {K : KT} {d : Option Nat} {o : RO} {r : List (Option Nat × RO)} : vcqSegOps C ((d, o) :: r) K σ = vcqOp C d (vcqSegOps C r K) σ o := rfl
theorem ot_done {K : KT} : vcOT C K .done σ = K σ := rfl
theorem ot_op {K : KT} {s : Seg} {t : OT} : vcOT C K (.op s t) σ = vcSegs C [s] (vcOT C K t) σ := rfl
theorem ot_or {K : KT} {s t : OT} : vcOT C K (.or s t) σ = (vcOT C K s σ ∧ vcOT C K t σ) := rfl
theorem ot_held {K : KT} {ts : List Nat} {t : OT} : vcOT C K (.held ts t) σ = (heldOk σ σ ts ∧ vcOTH C K ts σ t σ) := rfl
def heldC (ts : List Nat) (σ0 : SS) (K : KT) : KT := fun σ' => HeldM σ0.m σ0.ph σ'.m σ'.ph ∧ heldOk σ0 σ' ts ∧ K σ'
def heldF (ts : List Nat) (σ0 : SS) (K : KT) : KT := fun σ' => heldOk σ0 σ' ts ∧ K σ'
section
variable {K : KT} {ts : List Nat} {σ0 : SS}
theorem heldC_eq : heldC ts σ0 K σ = (HeldM σ0.m σ0.ph σ.m σ.ph ∧ heldOk σ0 σ ts ∧ K σ) := rfl
theorem heldF_eq : heldF ts σ0 K σ = (heldOk σ0 σ ts ∧ K σ) := rfl
theorem oh_done : vcOTH C K ts σ0 .done σ = K σ := rfl
theorem oh_op {s : Seg} {t : OT} : vcOTH C K ts σ0 (.op s t) σ = vcSegs C [s] (heldC ts σ0 (vcOTH C K ts σ0 t)) σ := rfl
theorem oh_or {s t : OT} : vcOTH C K ts σ0 (.or s t) σ = (vcOTH C K ts σ0 s σ ∧ vcOTH C K ts σ0 t σ) := rfl
theorem oh_first {d : Option Nat} {x : Opd} {z : Nat} {ag : Bool} {t : OT} : vcOTH C K ts σ0 (.first ⟨none, [(d, .ld x z ag)]⟩ t) σ = ldH C σ0 ts x z ag d (heldF ts σ0 (vcOTH C K ts σ0 t)) σ := rfl
theorem oh_firstg {u : Nat} {want : Bool} {d : Option Nat} {x : Opd} {z : Nat} {ag : Bool} {t : OT} : vcOTH C K ts σ0 (.first ⟨some (u, want), [(d, .ld x z ag)]⟩ t) σ = (match look σ.fr u with
      | some (.g (.s (.bool b))) => brB b want (ldH C σ0 ts x z ag d (heldF ts σ0 (vcOTH C K ts σ0 t)) (σ.put (some u) (.g (.s (.bool want))))) (heldF ts σ0 (vcOTH C K ts σ0 t) ((σ.put (some u) (.g (.s (.bool !want)))).put d .no))
      | some .no => heldF ts σ0 (vcOTH C K ts σ0 t) (σ.put d .no)
      | _ => False) := rfl
end

def skipL : List (Option Nat × RO) → List (Nat × SV) → List (Nat × SV)
  | [], fr => fr
  | (d, o) :: r, fr => bif o.isGh then skipL r fr else match d with
    | some t => skipL r ((t, .no) :: fr)
    | none => skipL r fr
theorem skip_mk : ∀ (r : List (Option Nat × RO)) (fr : List (Nat × SV)) (pv : List (Nat × PV)) (ph : List PH) (m : PH), skipAll r ⟨fr, pv, ph, m⟩ = ⟨skipL r fr, pv, ph, m⟩
  | [], _, _, _, _ => rfl
  | (d, o) :: r, fr, pv, ph, m => by
    simp only [skipAll, skipL]
    cases o.isGh
    · cases d with
      | none => exact skip_mk r fr pv ph m
      | some t => exact skip_mk r _ pv ph m
    · exact skip_mk r fr pv ph m
theorem put_mk {fr : List (Nat × SV)} {pv : List (Nat × PV)} {ph : List PH} {m : PH} {t : Nat} {x : SV} : SS.put ⟨fr, pv, ph, m⟩ (some t) x = ⟨(t, x) :: fr, pv, ph, m⟩ := rfl
theorem put_mk0 {fr : List (Nat × SV)} {pv : List (Nat × PV)} {ph : List PH} {m : PH} {x : SV} : SS.put ⟨fr, pv, ph, m⟩ none x = ⟨fr, pv, ph, m⟩ := rfl
theorem keep_mk {fr : List (Nat × SV)} {pv : List (Nat × PV)} {ph : List PH} {m : PH} {l : List Nat} : SS.keep ⟨fr, pv, ph, m⟩ l = ⟨keepL fr l, pv, ph, m⟩ := rfl

/-- A loop: states by index. -/
theorem vc_loop {a : Cd} {ι : Type} (st : ι → SS) (inv : ι → Prop) (ms : ι → Nat) (i : ι) (h0 : inv i) (h1 : Ge σ (st i)) (h2 : ∀ i, inv i → vc C a (loopQ st inv ms i Q) (st i)) : vc C (.loop a) Q σ := ⟨ι, st, inv, ms, i, h0, h1, h2⟩

/-- The results are values, of which this is so. -/
def finW (rv : List RV) (Qf : List GV → Prop) : QT
  | .ret, σ | .normal, σ => match resL σ rv with
    | some rs => Qf rs
    | none => False
  | _, _ => False
theorem finW_r {rv : List RV} {Qf : List GV → Prop} : finW rv Qf .ret σ = match resL σ rv with
    | some rs => Qf rs
    | none => False := rfl
theorem finW_n {rv : List RV} {Qf : List GV → Prop} : finW rv Qf .normal σ = match resL σ rv with
    | some rs => Qf rs
    | none => False := rfl
theorem finW_finQ {rv : List RV} {Qf : List GV → Prop} {Qg : List GV → PH → Prop} (h : ∀ rs, Qf rs → Qg rs PH.no) (e : Exit) (σ : SS) (hq : finW rv Qf e σ) : finQ C rv Qg e σ := by
  cases e <;> first | exact hq.elim | skip
  all_goals
    simp only [finW] at hq
    split at hq
    · rename_i rs hr; exact fin_g hr (h rs hq)
    · exact hq.elim
theorem finQ_r {rv : List RV} {Qf : List GV → PH → Prop} : finQ C rv Qf .ret σ = Fin C rv Qf σ := rfl
theorem finQ_n {rv : List RV} {Qf : List GV → PH → Prop} : finQ C rv Qf .normal σ = Fin C rv Qf σ := rfl
end

/-! ### States that say more -/
def frIn (fr : List (Nat × SV)) : List (Nat × SV) → Prop
  | [] => True
  | (t, x) :: r => look fr t = some x ∧ frIn fr r
def pvIn (pv : List (Nat × PV)) : List (Nat × PV) → Prop
  | [] => True
  | (t, x) :: r => look pv t = some x ∧ pvIn pv r
def SV.key : SV → Option Nat
  | .ref k _ => some k
  | .row k _ _ => some k
  | .rref k _ _ => some k
  | _ => none
def wfIn (pv : List (Nat × PV)) : List (Nat × SV) → Bool
  | [] => true
  | (_, x) :: r => (match x.key with | some k => (look pv k).isSome | none => true) && wfIn pv r

theorem frIn_look {fr : List (Nat × SV)} : ∀ {l : List (Nat × SV)}, frIn fr l → ∀ t x, look l t = some x → look fr t = some x
  | [], _, t, x, h => by cases h
  | (k, y) :: r, h, t, x, hx => by
    simp only [look] at hx
    split at hx
    · rename_i e; subst e; rw [← hx]; exact h.1
    · exact frIn_look h.2 t x hx
theorem pvIn_look {pv : List (Nat × PV)} : ∀ {l : List (Nat × PV)}, pvIn pv l → ∀ t x, look l t = some x → look pv t = some x
  | [], _, t, x, h => by cases h
  | (k, y) :: r, h, t, x, hx => by
    simp only [look] at hx
    split at hx
    · rename_i e; subst e; rw [← hx]; exact h.1
    · exact pvIn_look h.2 t x hx
theorem SV.key_of {x : SV} {k : Nat} (h : x.mentions k = true) : x.key = some k := by
  cases x <;> simp [SV.mentions] at h <;> simp [SV.key, h]
theorem wfIn_look {pv : List (Nat × PV)} : ∀ {l : List (Nat × SV)}, wfIn pv l = true → ∀ t x, look l t = some x → ∀ k, x.mentions k = true → (look pv k).isSome = true
  | [], _, t, x, h, _, _ => by cases h
  | (j, y) :: r, h, t, x, hx, k, hk => by
    simp only [wfIn, Bool.and_eq_true] at h
    simp only [look] at hx
    split at hx
    · simp at hx; subst hx
      have := h.1
      rw [SV.key_of hk] at this
      exact this
    · exact wfIn_look h.2 t x hx k hk

theorem ge_of {σ τ : SS} (h1 : frIn σ.fr τ.fr) (h2 : pvIn σ.pv τ.pv) (h3 : wfIn τ.pv τ.fr = true) (h4 : τ.ph = σ.ph) (h5 : τ.m = σ.m) : Ge σ τ :=
  ⟨frIn_look h1, pvIn_look h2, wfIn_look h3, fun u hu => h4 ▸ hu, fun _ _ _ _ _ u hu => h4 ▸ hu, h5⟩

/-! ### A function and its code -/
structure Ok (P : Program) (f : Nat) (cd : Cd) (N : Nat) (ns : List (Nat × Nat)) (rv : List RV) : Prop where
  h : ∃ fn code, P.funcs[f]? = some fn ∧ fn.body = some code ∧ fn.ntmps = N ∧ comp P fn.ntmps ns code = er cd ∧ cRes P fn.results.toList = some rv

theorem Ok.mk' {P : Program} {f : Nat} {cd : Cd} {N : Nat} {ns : List (Nat × Nat)} {rv : List RV} {fn : Func} (hf : P.funcs[f]? = some fn) (hN : fn.ntmps = N) (hc : fn.body.map (comp P N ns) = some (er cd)) (hr : cRes P fn.results.toList = some rv) : Ok P f cd N ns rv := by
  cases hb : fn.body with
  | none => rw [hb] at hc; cases hc
  | some code =>
    rw [hb] at hc
    simp at hc
    exact ⟨fn, code, hf, hb, hN, by rw [hN]; exact hc, hr⟩

theorem spec_of {P : Program} {f : Nat} {cd : Cd} {N : Nat} {ns : List (Nat × Nat)} {rv : List RV} (hk : Ok P f cd N ns rv) {Qf : List GV → PH → Prop} {w : World} {m : PH} (avs : List AV) (hn : avs.length ≤ N)
    (hok : ∀ x : AV, x ∈ avs → x.ok (Ctx.u0 ⟨P, N, w, m⟩))
    (h : vc ⟨P, N, w, m⟩ cd (finQ ⟨P, N, w, m⟩ rv Qf) ⟨initF 0 avs, initP 0 avs, [], m⟩) : Spec P f (avs.map AV.val) m w Qf := by
  obtain ⟨fn, code, hf, hb, hN, hc, hr⟩ := hk.h
  subst hN
  exact spec_of_vc ns avs hf hb hc hr hn hok (fun _ _ h => h) h

/-- The same, where values are all that is handed back. -/
theorem spec_val {P : Program} {f : Nat} {cd : Cd} {N : Nat} {ns : List (Nat × Nat)} {rv : List RV} (hk : Ok P f cd N ns rv) {Qf : List GV → Prop} {w : World} {m : PH} (avs : List AV) (hn : avs.length ≤ N)
    (hok : ∀ x : AV, x ∈ avs → x.ok (Ctx.u0 ⟨P, N, w, m⟩))
    (h : vc ⟨P, N, w, m⟩ cd (finW rv Qf) ⟨initF 0 avs, initP 0 avs, [], m⟩) : Spec P f (avs.map AV.val) m w fun rs _ => Qf rs := by
  obtain ⟨fn, code, hf, hb, hN, hc, hr⟩ := hk.h
  subst hN
  exact spec_of_vc ns avs hf hb hc hr hn hok (fun e σ hq => finW_finQ (fun _ h => h) e σ hq) h

theorem u0_no {P : Program} {N : Nat} {w : World} : Ctx.u0 ⟨P, N, w, PH.no⟩ = w.ph := rfl

/-! ### Calls of functions that take and give plain values -/
/-- Such a function, for these values. -/
def FnV (P : Program) (f : Nat) (args rs : List GV) : Prop := ∀ w, Spec P f (args.map GV.val) PH.no w fun rs' _ => rs' = rs

theorem argsV_gv {C : Ctx} {σ : SS} {w : World} : ∀ {svs : List SV} {gs : List GV} {vs : List Value}, gvL svs = some gs → ArgsV C σ w svs vs → vs = gs.map GV.val
  | [], gs, vs, h, ha => by
    simp [gvL] at h; subst h
    cases vs with
    | nil => rfl
    | cons v vs => exact ha.elim
  | x :: l, gs, vs, h, ha => by
    cases vs with
    | nil => exact ha.elim
    | cons v vs =>
      unfold gvL at h
      split at h
      · rename_i e; cases e
      · rename_i y l' e
        simp only [List.cons.injEq] at e
        obtain ⟨rfl, rfl⟩ := e
        simp only [Option.map_eq_some_iff] at h
        obtain ⟨gs', h, rfl⟩ := h
        simp [argsV_gv h ha.2, ha.1.2]
      · cases h

def dOk (d : Option Nat) (N : Nat) : Bool := match d with
  | some t => decide (t < N)
  | none => true
theorem dOk_spec {d : Option Nat} {N : Nat} (h : dOk d N = true) : ∀ t, d = some t → t < N := by
  intro t ht
  subst ht
  simpa [dOk] using h

section
variable {C : Ctx} {σ : SS} {f : Nat} {args : List Opd} {d : Option Nat} {K : KT}

theorem call_fnv {svs : List SV} {gs rs : List GV} (hf : FnV C.P f gs rs) (hd : dOk d C.N = true) (ha : evL σ args = some svs) (hg : gvL svs = some gs) (hK : (∀ r ∈ rs, r.ok) → K (σ.put d (retS rs))) : vcCall C f args d K σ :=
  call_val (Q := fun rs' _ => rs' = rs) (dOk_spec hd) ha (fun w vs hv _ _ => by rw [argsV_gv hg hv]; exact hf w) fun rs' m' h1 h2 => by subst h2; exact hK h1

theorem callq_of {y : GV} {svs : List SV} (hy : y.ok) (ha : evL σ args = some svs) (hs : ∀ w vs, ArgsV C σ w svs vs → C.u0.le w → (∀ u ∈ σ.ph, u.le w) → Spec C.P f vs PH.no w fun rs' _ => rs' = [y]) (hK : K (σ.put d (.g y))) : vcCallQ C f args d K σ := by
  refine ⟨y, hy, fun loc a w hF hH => ?_, hK⟩
  refine (hs w _ (argsV_of hF hH ha) hH.u0le (fun u hu => (hH.phs u hu).1) (fun _ _ h => by cases h)).mono fun e w' he => ?_
  obtain ⟨rs, m', rfl, hrs, rfl, hle, hdom, hk⟩ := he
  exact ⟨rfl, (hH.after (uni_no σ.m).symm (dis_no _) hle hdom hk).2.2.1⟩

theorem argsV_nil {w : World} {vs : List Value} (h : ArgsV C σ w [] vs) : vs = [] := by
  cases vs with
  | nil => rfl
  | cons _ _ => exact h.elim
theorem argsV_g {w : World} {x : GV} {svs : List SV} {vs : List Value} (h : ArgsV C σ w (.g x :: svs) vs) : ∃ vs', vs = x.val :: vs' ∧ x.ok ∧ ArgsV C σ w svs vs' := by
  cases vs with
  | nil => exact h.elim
  | cons v vs => exact ⟨vs, by rw [h.1.2], h.1.1, h.2⟩
theorem argsV_row {w : World} {k n z : Nat} {xs : List GV} {svs : List SV} {vs : List Value} (hr : rowE σ.pv k = some (z, xs)) (hn : n = xs.length) (h : ArgsV C σ w (.row k 0 n :: svs) vs) : ∃ v vs', vs = v :: vs' ∧ SlR w.ph v z xs ∧ ArgsV C σ w svs vs' := by
  cases vs with
  | nil => exact h.elim
  | cons v vs =>
    obtain ⟨⟨z', xs', e1, e2, e3⟩, h⟩ := h
    rw [hr] at e1
    obtain ⟨rfl, rfl⟩ : z = z' ∧ xs = xs' := by simpa using e1
    rw [List.drop_zero, List.take_of_length_le (by omega)] at e3
    exact ⟨v, vs, rfl, e3, h⟩

/-- A call that reads, with results that are known. -/
theorem call_is (svs : List SV) (rs : List GV) (hd : dOk d C.N = true) (ha : evL σ args = some svs) (hs : ∀ w vs, ArgsV C σ w svs vs → C.u0.le w → (∀ u ∈ σ.ph, u.le w) → Spec C.P f vs PH.no w fun rs' _ => rs' = rs) (hK : K (σ.put d (retS rs))) : vcCall C f args d K σ :=
  call_val (Q := fun rs' _ => rs' = rs) (dOk_spec hd) ha hs fun rs' m' h1 h2 => by subst h2; exact hK

theorem callq_fnv {svs : List SV} {gs : List GV} {y : GV} (hf : FnV C.P f gs [y]) (hy : y.ok) (ha : evL σ args = some svs) (hg : gvL svs = some gs) (hK : K (σ.put d (.g y))) : vcCallQ C f args d K σ :=
  callq_of hy ha (fun w vs hv _ _ => by rw [argsV_gv hg hv]; exact hf w) hK
end

theorem spec_fnv {P : Program} {f : Nat} {cd : Cd} {N : Nat} {ns : List (Nat × Nat)} {rv : List RV} (hk : Ok P f cd N ns rv) {args rs : List GV} (hn : args.length ≤ N) (hok : ∀ x ∈ args, x.ok)
    (h : ∀ w, vc ⟨P, N, w, PH.no⟩ cd (finW rv fun rs' => rs' = rs) ⟨initF 0 (args.map AV.g), [], [], PH.no⟩) : FnV P f args rs := by
  intro w
  have hp : ∀ (i : Nat) (l : List GV), initP i (l.map AV.g) = [] := fun i l => by
    induction l generalizing i with
    | nil => rfl
    | cons x l ih => simpa [initP] using ih (i + 1)
  have := spec_val hk (Qf := fun rs' => rs' = rs) (w := w) (m := PH.no) (args.map AV.g) (by simpa using hn) (fun x hx => by
    simp only [List.mem_map] at hx
    obtain ⟨g, hg, rfl⟩ := hx
    exact hok g hg) (by rw [hp]; exact h w)
  simpa [AV.val, Function.comp_def] using this

/-! ### Rows handed out and taken in -/
section
variable {C : Ctx} {σ : SS} {a : Act} {w : World}

/-- A slice that reads so becomes a row that is read. -/
theorem Rel.ro (h : Rel C σ a w) {t : Nat} (k : Nat) {v : Value} {z : Nat} (df : GV) {xs : List GV} {u : PH} (ht : look σ.fr t = some (.g (.s v))) (hk : look σ.pv k = none) (hs : SlR u v z xs) (hu : u = C.u0 ∨ u ∈ σ.ph) :
    Rel C ⟨(t, .row k 0 xs.length) :: σ.fr, (k, .ro z df xs) :: σ.pv, σ.ph, σ.m⟩ a w := by
  obtain ⟨loc, hF, hH⟩ := h
  obtain ⟨v', hv, hvs⟩ := hF.slots t _ ht
  have hvv : v' = v := hvs.2
  subst hvv
  obtain ⟨hels, hs⟩ := hs
  have key : ∀ (L : Option (Nat × Nat × Nat)), SlcV L z 0 xs.length v' → (match L with
      | none => xs = []
      | some (b, o, c) => xs.length ≤ c ∧ (0 < c → ∃ u cs e fz, (u = C.u0 ∨ u ∈ σ.ph) ∧ u b = some (.cells cs e fz) ∧ RowAt cs o (flats xs))) →
      Rel C ⟨(t, .row k 0 xs.length) :: σ.fr, (k, .ro z df xs) :: σ.pv, σ.ph, σ.m⟩ a w := by
    intro L h1 h2
    refine ⟨fun j => if j = k then L else loc j, ⟨hF.defers, hF.size, fun s x hx => ?_⟩, ⟨hH.kept, fun j y hj => ?_, fun j j' y y' b o c o' c' g1 g2 g3 g4 g5 g6 => ?_, fun j y b o c g1 g2 g3 => ?_, hH.mle, hH.mmine, hH.phs⟩⟩
    · simp only [look] at hx
      split at hx
      · rename_i e; subst e
        simp at hx; subst hx
        exact ⟨v', hv, z, xs, by simp [rowE, look], by simp, by simpa using h1⟩
      · obtain ⟨v2, hv2, hr2⟩ := hF.slots s x hx
        refine ⟨v2, hv2, hr2.weaken fun j hj => ?_⟩
        have hjk : j ≠ k := fun e => hr2.there j hj (e ▸ hk)
        exact ⟨by simp [hjk], by simp [look, hjk]⟩
    · simp only [look] at hj
      split at hj
      · rename_i e; subst e
        simp at hj; subst hj
        refine ⟨hels, ?_⟩
        simp only [if_true]
        cases L with
        | none => exact h2
        | some l => exact h2
      · rename_i hjk
        have hp := hH.pvs j y hj
        cases y with
        | box g => simpa [PVr, hjk] using hp
        | row e' z' df' xs' => simpa [PVr, hjk] using hp
        | ro z' df' xs' => simpa [PVr, hjk] using hp
    · simp only [look] at g1 g4
      by_cases hj : j = k
      · simp only [hj, if_true, Option.some.injEq] at g1; subst g1; cases g2
      · by_cases hj' : j' = k
        · simp only [hj', if_true, Option.some.injEq] at g4; subst g4; cases g5
        · simp only [hj, if_false] at g1 g3
          simp only [hj', if_false] at g4 g6
          exact hH.apart j j' y y' b o c o' c' g1 g2 g3 g4 g5 g6
    · simp only [look] at g1
      by_cases hj : j = k
      · simp only [hj, if_true, Option.some.injEq] at g1; subst g1; cases g2
      · simp only [hj, if_false] at g1 g3
        exact hH.priv j y b o c g1 g2 g3
  rcases hs with ⟨rfl, rfl⟩ | ⟨ad, c, rfl, h1, h2⟩
  · exact key none ⟨none, rfl⟩ rfl
  · rcases Nat.eq_zero_or_pos c with hc0 | hc0
    · subst hc0
      have : xs = [] := List.length_eq_zero_iff.mp (by omega)
      subst this
      exact key none ⟨some ad, rfl⟩ rfl
    · obtain ⟨cs, e, fz, g1, g2, g3⟩ := h2 hc0
      obtain ⟨b, o, sp⟩ := ad
      simp only at g1 g2 g3
      subst g1
      exact key (some (b, o, c)) ⟨⟨b, o, none⟩, by simp, fun _ => by simp⟩ ⟨h1, fun _ => ⟨u, cs, e, fz, hu, g2, g3⟩⟩

/-- Memory at one's disposal is only read from now on. -/
theorem Rel.frz (h : Rel C σ a w) {u m' : PH} (hm : σ.m = uni u m') (hd : dis u m') : Rel C { σ with ph := u :: σ.ph, m := m' } a w := by
  obtain ⟨loc, hF, hH⟩ := h
  have hmle : ∀ j, σ.m j = none → u j = none ∧ m' j = none := fun j hj => by
    rw [hm] at hj
    cases h1 : u j with
    | some o => simp [uni, h1] at hj
    | none => exact ⟨rfl, by simpa [uni, h1] using hj⟩
  have hule : ∀ j o, u j = some o → σ.m j = some o := fun j o hj => by rw [hm]; exact sub_uni_l _ _ j o hj
  have hm'le : ∀ j o, m' j = some o → σ.m j = some o := fun j o hj => by rw [hm]; exact sub_uni_r hd j o hj
  refine ⟨loc, hF, ⟨hH.kept, fun k y hk => ?_, hH.apart, fun k y b o c h1 h2 h3 => ?_, fun j o hj => hH.mle j o (hm'le j o hj), fun j hj => hH.mmine j (fun e => hj (hmle j e).2), fun u' hu => ?_⟩⟩
  · have hp := hH.pvs k y hk
    cases y with
    | box g => exact hp
    | row e z df xs => exact hp
    | ro z df xs =>
      refine ⟨hp.1, ?_⟩
      have hp2 := hp.2
      cases hl : loc k with
      | none => rw [hl] at hp2; exact hp2
      | some l =>
        obtain ⟨b, o, c⟩ := l
        rw [hl] at hp2
        obtain ⟨h1, hp3⟩ := hp2
        refine ⟨h1, fun hc => ?_⟩
        obtain ⟨u', cs, e, fz, hu, h2⟩ := hp3 hc
        exact ⟨u', cs, e, fz, hu.imp id (List.mem_cons_of_mem _), h2⟩
  · obtain ⟨e1, e2, e3⟩ := hH.priv k y b o c h1 h2 h3
    refine ⟨e1, (hmle b e2).2, fun u' hu => ?_⟩
    rcases List.mem_cons.1 hu with rfl | hu
    · exact (hmle b e2).1
    · exact e3 u' hu
  · rcases List.mem_cons.1 hu with rfl | hu
    · refine ⟨fun j o hj => hH.mle j o (hule j o hj), fun j hj => ⟨hH.mmine j (fun e => hj (hmle j e).1), (hd j).resolve_left hj⟩⟩
    · exact ⟨(hH.phs u' hu).1, fun j hj => ⟨((hH.phs u' hu).2 j hj).1, (hmle j ((hH.phs u' hu).2 j hj).2).2⟩⟩

/-- One says less. -/
theorem Rel.ge {τ : SS} (h : Rel C σ a w) (hg : Ge σ τ) : Rel C τ a w := hg.rel h

theorem Rel.fr (h : Rel C σ a w) {fr : List (Nat × SV)} (hf : ∀ t x, look fr t = some x → look σ.fr t = some x) : Rel C { σ with fr := fr } a w := by
  obtain ⟨loc, hF, hH⟩ := h
  exact ⟨loc, ⟨hF.defers, hF.size, fun t x hx => hF.slots t x (hf t x hx)⟩, hH⟩
end


/-! ### Marks -/
section
variable {C : Ctx} {σ : SS} {K : KT}

/-- A nil slice as an own row without elements. -/
theorem gh_nil (t k : Nat) (e : TypeId) (z : Nat) (df : GV) (ht : look σ.fr t = some (.g (.s (.slice none 0 0)))) (hk : look σ.pv k = none) (hK : K ⟨(t, .row k 0 0) :: σ.fr, (k, .row e z df []) :: σ.pv, σ.ph, σ.m⟩) : ghC C K σ := by
  constructor
  intro a w hR
  refine ⟨_, ?_, hK⟩
  exact hR.own (e := e) (z := z) (u := PH.no) (m' := σ.m) (xs := []) k df ht hk ⟨(fun x hx => absurd hx (by simp)), .inl ⟨rfl, rfl⟩⟩ (uni_no _).symm (dis_no _)

/-- An own row, handed out. -/
theorem gh_pub (t k n : Nat) {e : TypeId} {z : Nat} {df : GV} {xs : List GV} (ht : look σ.fr t = some (.row k 0 n)) (hk : look σ.pv k = some (.row e z df xs)) (hn : n = xs.length)
    (hK : ∀ v u, v.oneCell' = true → SlO u v e z xs → dis u σ.m → K ⟨(t, .g (.s v)) :: kill k σ.fr, dropK k σ.pv, σ.ph, uni u σ.m⟩) : ghC C K σ := by
  constructor
  intro a w hR
  obtain ⟨v, u, h1, h2, h3, h4⟩ := hR.pub ht hk hn
  exact ⟨_, h4, hK v u h1 h2 h3⟩

/-- A slice of one's own memory, taken in. -/
theorem gh_own (t k : Nat) {v : Value} {e : TypeId} {z : Nat} (df : GV) {xs : List GV} {u m' : PH} (ht : look σ.fr t = some (.g (.s v))) (hk : look σ.pv k = none) (hs : SlO u v e z xs) (hm : σ.m = uni u m') (hd : dis u m')
    (hK : K ⟨(t, .row k 0 xs.length) :: σ.fr, (k, .row e z df xs) :: σ.pv, σ.ph, m'⟩) : ghC C K σ :=
  ⟨fun a w hR => ⟨_, hR.own k df ht hk hs hm hd, hK⟩⟩

/-- A slice that is read, taken in. -/
theorem gh_ro (t k : Nat) {v : Value} {z : Nat} (df : GV) {xs : List GV} {u : PH} (ht : look σ.fr t = some (.g (.s v))) (hk : look σ.pv k = none) (hs : SlR u v z xs) (hu : u = C.u0 ∨ u ∈ σ.ph)
    (hK : K ⟨(t, .row k 0 xs.length) :: σ.fr, (k, .ro z df xs) :: σ.pv, σ.ph, σ.m⟩) : ghC C K σ :=
  ⟨fun a w hR => ⟨_, hR.ro k df ht hk hs hu, hK⟩⟩

/-- Memory of one's own, only read from now on. -/
theorem gh_frz {u m' : PH} (hm : σ.m = uni u m') (hd : dis u m') (hK : K { σ with ph := u :: σ.ph, m := m' }) : ghC C K σ :=
  ⟨fun a w hR => ⟨_, hR.frz hm hd, hK⟩⟩

theorem vc_gh {c : Cd} {Q : QT} (h : ghC C (vc C c Q) σ) : vc C (.gh c) Q σ := h.h
end

end Go.Proofs.Ytdpknchgoeboaaa.Vc
