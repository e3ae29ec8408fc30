/- Contracts: what a function is good for; how one is proved; how one is used. -/
import Derived.Test.YtdpknchgoeboaaaVc7
set_option linter.unusedVariables false
set_option linter.unusedSimpArgs false
namespace Go.Proofs.Ytdpknchgoeboaaa.Vc
open Go

def retV : List GV → Value
  | [x] => x.val
  | xs => .tuple (xs.map GV.val).toArray
def retS : List GV → SV
  | [x] => .g x
  | xs => .tup xs

/-- Called with these values, the memory m at its disposal: it returns; of all that was there only m has turned. -/
def Spec (P : Program) (f : Nat) (args : List Value) (m : PH) (w : World) (Q : List GV → PH → Prop) : Prop :=
  m.le w → Calls P f args.toArray w fun e w' => ∃ rs m', e = .returned (retV rs) ∧ (∀ r ∈ rs, r.ok) ∧ Q rs m' ∧ m'.le w' ∧ (∀ b, m' b ≠ none → m b ≠ none ∨ w.heap.size ≤ b) ∧ Kept m w w'

theorem Spec.mono {P : Program} {f : Nat} {args : List Value} {m : PH} {w : World} {Q Q' : List GV → PH → Prop} (h : Spec P f args m w Q) (hq : ∀ rs m', Q rs m' → Q' rs m') : Spec P f args m w Q' :=
  fun hm => (h hm).mono fun e w' ⟨rs, m', h1, h2, h3, h4⟩ => ⟨rs, m', h1, h2, hq rs m' h3, h4⟩

theorem Kept.refl (m : PH) (w : World) : Kept m w w := ⟨rfl, rfl, rfl, Nat.le_refl _, fun _ _ _ => rfl⟩

/-! ### The beginning -/
inductive AV where
  | g (x : GV)
  | ro (v : Value) (z : Nat) (df : GV) (xs : List GV)

def AV.val : AV → Value
  | .g x => x.val
  | .ro v _ _ _ => v
def AV.ok (u : PH) : AV → Prop
  | .g x => x.ok
  | .ro v z _ xs => SlR u v z xs

def initF : Nat → List AV → List (Nat × SV)
  | _, [] => []
  | i, .g x :: r => (i, .g x) :: initF (i + 1) r
  | i, .ro _ _ _ xs :: r => (i, .row i 0 xs.length) :: initF (i + 1) r
def initP : Nat → List AV → List (Nat × PV)
  | _, [] => []
  | i, .g _ :: r => initP (i + 1) r
  | i, .ro _ z df xs :: r => (i, .ro z df xs) :: initP (i + 1) r

def locOf : Value → Option (Nat × Nat × Nat)
  | .slice (some ⟨b, o, _⟩) _ c => some (b, o, c)
  | _ => none

theorem look_initP (l : List AV) : ∀ (i k : Nat), look (initP i l) k = if k < i then none else (l[k - i]?).bind fun x => match x with | .g _ => none | .ro _ z df xs => some (.ro z df xs) := by
  induction l with
  | nil => intro i k; simp [initP, look]
  | cons x l ih =>
    intro i k
    have key : ∀ y, (if k = i then y else if k < i + 1 then none else ((l[k - (i + 1)]?).bind fun x => match x with | .g _ => none | .ro _ z df xs => some (PV.ro z df xs))) =
        if k < i then none else if k = i then y else ((l[k - (i + 1)]?).bind fun x => match x with | .g _ => none | .ro _ z df xs => some (PV.ro z df xs)) := by
      intro y
      by_cases h1 : k = i
      · subst h1; simp
      · by_cases h2 : k < i
        · simp [h1, h2, show k < i + 1 by omega]
        · simp [h1, h2, show ¬ k < i + 1 by omega]
    cases x with
    | g x =>
      simp only [initP, ih]
      by_cases h1 : k = i
      · subst h1; simp
      · by_cases h2 : k < i
        · simp [h2, show k < i + 1 by omega]
        · rw [if_neg (by omega), if_neg h2, show k - i = (k - (i + 1)) + 1 by omega]; rfl
    | ro v z df xs =>
      simp only [initP, look, ih]
      by_cases h1 : k = i
      · subst h1; simp
      · by_cases h2 : k < i
        · simp [h1, h2, show k < i + 1 by omega]
        · rw [if_neg h1, if_neg (by omega), if_neg h2, show k - i = (k - (i + 1)) + 1 by omega]; rfl

theorem look_initF (l : List AV) : ∀ (i k : Nat), look (initF i l) k = if k < i then none else (l[k - i]?).map fun x => match x with | .g x => SV.g x | .ro _ _ _ xs => .row k 0 xs.length := by
  induction l with
  | nil => intro i k; simp [initF, look]
  | cons x l ih =>
    intro i k
    cases x with
    | g x =>
      simp only [initF, look, ih]
      by_cases h1 : k = i
      · subst h1; simp
      · by_cases h2 : k < i
        · simp [h1, h2, show k < i + 1 by omega]
        · rw [if_neg h1, if_neg (by omega), if_neg h2, show k - i = (k - (i + 1)) + 1 by omega]; rfl
    | ro v z df xs =>
      simp only [initF, look, ih]
      by_cases h1 : k = i
      · subst h1; simp
      · by_cases h2 : k < i
        · simp [h1, h2, show k < i + 1 by omega]
        · rw [if_neg h1, if_neg (by omega), if_neg h2, show k - i = (k - (i + 1)) + 1 by omega]; rfl

inductive RV where
  | tmp (t : Nat)
  | cell (t z : Nat) (ag : Bool)

def cRes (P : Program) : List ResultVar → Option (List RV)
  | [] => some []
  | .tmp t :: r => (cRes P r).map (.tmp t :: ·)
  | .cell a ty :: r => match P.underlying ty, P.info? ty, cRes P r with
    | some d, some i, some l => some (.cell a i.size (agD d) :: l)
    | _, _, _ => none

def resOne (σ : SS) : RV → Option GV
  | .tmp t => match look σ.fr t with
    | some (.g x) => some x
    | _ => none
  | .cell t z ag => match look σ.fr t with
    | some (.ref k p) => match look σ.pv k with
      | some (.box g) => (g.get p).bind fun y => if y.fits z ag then some y else none
      | _ => none
    | _ => none

def resL (σ : SS) : List RV → Option (List GV)
  | [] => some []
  | r :: l => match resOne σ r, resL σ l with
    | some x, some y => some (x :: y)
    | _, _ => none

/-- The end of a body. -/
structure Fin (C : Ctx) (rv : List RV) (Qf : List GV → PH → Prop) (σ : SS) : Prop where
  h : ∀ a w, Rel C σ a w → ∃ τ rs m', Rel C τ a w ∧ resL τ rv = some rs ∧ Qf rs m' ∧ PH.sub m' τ.m
def finQ (C : Ctx) (rv : List RV) (Qf : List GV → PH → Prop) : QT
  | .ret, σ => Fin C rv Qf σ
  | .normal, σ => Fin C rv Qf σ
  | _, _ => False

theorem fin_m {C : Ctx} {rv : List RV} {Qf : List GV → PH → Prop} {σ : SS} {rs : List GV} (m' : PH) (h : resL σ rv = some rs) (hs : PH.sub m' σ.m) (hq : Qf rs m') : Fin C rv Qf σ :=
  ⟨fun a w hR => ⟨σ, rs, m', hR, h, hq, hs⟩⟩
/-- No memory is handed back. -/
theorem fin_g {C : Ctx} {rv : List RV} {Qf : List GV → PH → Prop} {σ : SS} {rs : List GV} (h : resL σ rv = some rs) (hq : Qf rs PH.no) : Fin C rv Qf σ :=
  fin_m PH.no h (fun _ _ h => by cases h) hq

def rdRes (a : Act) : ResultVar → Sem Value
  | .tmp t => pure (a.tmps.getD t undef)
  | .cell b t => do loadVar t (← asAddr (a.tmps.getD b undef))

theorem resOne_run {C : Ctx} {σ : SS} {a : Act} {w : World} {loc : Loc} (hF : FR loc C.N σ.fr σ.pv a) (hH : HR C loc σ.pv σ.ph σ.m w) {x : ResultVar} {r : RV} {g : GV} (hc : cRes C.P [x] = some [r]) (hg : resOne σ r = some g) :
    g.ok ∧ (rdRes a x).run C.P w = .ok g.val w := by
  cases x with
  | tmp t =>
    simp [cRes] at hc
    subst hc
    simp only [resOne] at hg
    split at hg
    · rename_i x hl
      simp at hg; subst hg
      obtain ⟨v, hv, h1, h2⟩ := hF.slots t _ hl
      exact ⟨h1, by simp [rdRes, hv, h2]⟩
    · cases hg
  | cell b t =>
    simp only [cRes] at hc
    split at hc
    · rename_i d i l hu hi hl
      simp at hl; subst hl
      simp at hc; subst hc
      simp only [resOne] at hg
      split at hg
      · rename_i k p hl
        split at hg
        · rename_i g' hb
          obtain ⟨y, hy, hf⟩ := Option.bind_eq_some_iff.mp hg
          split at hf
          · rename_i hfit
            simp at hf; subst hf
            obtain ⟨v, hv, g2, b2, c2, y2, h1, h2, h3, h4⟩ := hF.slots b _ hl
            rw [hb] at h1
            obtain rfl : g' = g2 := by simpa using h1
            obtain ⟨hok, b3, c3, e, hl3, hb3⟩ := hH.pvs k _ hb
            rw [h2] at hl3
            obtain ⟨rfl, rfl⟩ : b2 = b3 ∧ c2 = c3 := by simpa using hl3
            have hyok := (GV.get_at g' p y hok hy).1
            refine ⟨hyok, ?_⟩
            have := run_loadVar' (P := C.P) hu hi hyok hfit b2 (g'.offs p) w (fun j v hj => by rw [cell_of hb3]; simpa using GV.get_cells hok hy j v hj)
            simp [rdRes, hv, h4, asAddr, Sem.run_bind, this]
          · cases hf
        · cases hg
      · cases hg
    · cases hc

theorem resL_run {C : Ctx} {σ : SS} {a : Act} {w : World} {loc : Loc} (hF : FR loc C.N σ.fr σ.pv a) (hH : HR C loc σ.pv σ.ph σ.m w) : ∀ {xs : List ResultVar} {rv : List RV} {rs : List GV}, cRes C.P xs = some rv → resL σ rv = some rs →
    (∀ r ∈ rs, r.ok) ∧ (xs.mapM (rdRes a)).run C.P w = .ok (rs.map GV.val) w
  | [], rv, rs, hc, hr => by
    simp [cRes] at hc; subst hc
    simp [resL] at hr; subst hr
    exact ⟨by simp, by simp⟩
  | x :: xs, rv, rs, hc, hr => by
    have hsplit : ∃ r l, cRes C.P [x] = some [r] ∧ cRes C.P xs = some l ∧ rv = r :: l := by
      cases x with
      | tmp t =>
        simp only [cRes, Option.map_eq_some_iff] at hc
        obtain ⟨l, hl, rfl⟩ := hc
        exact ⟨.tmp t, l, by simp [cRes], hl, rfl⟩
      | cell b t =>
        simp only [cRes] at hc
        split at hc
        · rename_i d i l hu hi hl
          simp at hc; subst hc
          exact ⟨.cell b i.size (agD d), l, by simp [cRes, hu, hi], hl, rfl⟩
        · cases hc
    obtain ⟨r, l, h1, h2, rfl⟩ := hsplit
    simp only [resL] at hr
    split at hr
    · rename_i g gs hg hgs
      simp at hr; subst hr
      obtain ⟨e1, e2⟩ := resOne_run hF hH h1 hg
      obtain ⟨e3, e4⟩ := resL_run hF hH h2 hgs
      refine ⟨by simpa using ⟨e1, e3⟩, ?_⟩
      rw [List.mapM_cons, Sem.run_bind, e2]
      simp only [Result.andThen_ok, Sem.run_bind, e4, Sem.run_pure, List.map_cons]
    · cases hr

theorem results_run {C : Ctx} {fn : Func} {σ : SS} {a : Act} {w : World} {rv : List RV} {rs : List GV} (hR : Rel C σ a w) (hc : cRes C.P fn.results.toList = some rv) (hr : resL σ rv = some rs) :
    (∀ r ∈ rs, r.ok) ∧ (results fn a.tmps).run C.P w = .ok (retV rs) w := by
  obtain ⟨loc, hF, hH⟩ := hR
  obtain ⟨h1, h2⟩ := resL_run hF hH hc hr
  refine ⟨h1, ?_⟩
  have hres : results fn a.tmps = (do
      let vs ← fn.results.mapM (rdRes a)
      pure (if h : vs.size = 1 then vs[0] else .tuple vs)) := by
    unfold results
    congr 1
  rw [hres, Sem.run_bind]
  have : (fn.results.mapM (rdRes a)).run C.P w = .ok (rs.map GV.val).toArray w := by
    rw [Array.mapM_eq_mapM_toList, Sem.run_map, h2]
    rfl
  rw [this]
  simp only [Result.andThen_ok]
  cases rs with
  | nil => rfl
  | cons x l =>
    cases l with
    | nil => simp [retV]
    | cons y l => simp [retV]

/-- A contract out of what is to be shown of the body. -/
theorem spec_of_vc (ns : List (Nat × Nat)) {P : Program} {f : Nat} {fn : Func} {code : Code} {cd : Cd} {rv : List RV} {Qf : List GV → PH → Prop} {w : World} {m : PH} (avs : List AV)
    (hf : P.funcs[f]? = some fn) (hb : fn.body = some code) (hc : comp P fn.ntmps ns code = er cd) (hr : cRes P fn.results.toList = some rv) (hn : avs.length ≤ fn.ntmps)
    (hok : ∀ x : AV, x ∈ avs → x.ok (Ctx.u0 ⟨P, fn.ntmps, w, m⟩))
    {Q : QT} (hQ : ∀ e σ, Q e σ → finQ ⟨P, fn.ntmps, w, m⟩ rv Qf e σ) (h : vc ⟨P, fn.ntmps, w, m⟩ cd Q ⟨initF 0 avs, initP 0 avs, [], m⟩) : Spec P f (avs.map AV.val) m w Qf := by
  intro hm
  refine calls_of_wp hf hb ?_
  have hR : Rel ⟨P, fn.ntmps, w, m⟩ ⟨initF 0 avs, initP 0 avs, [], m⟩ { tmps := (avs.map AV.val).toArray ++ Array.replicate (fn.ntmps - (avs.map AV.val).toArray.size) undef, defers := [] } w := by
    have hslot : ∀ (k : Nat) (x : AV), avs[k]? = some x → x.ok (Ctx.u0 ⟨P, fn.ntmps, w, m⟩) := fun k x hx => hok x (List.mem_of_getElem? hx)
    refine ⟨fun k => (avs[k]?).bind fun x => locOf x.val, ⟨rfl, by simp; omega, fun t x hx => ?_⟩, ⟨Kept.refl _ _, fun k y hk => ?_, ?_, ?_, hm, fun b hb => .inr hb, fun u hu => by cases hu⟩⟩
    · rw [look_initF] at hx
      simp only [Nat.not_lt_zero, if_false, Nat.sub_zero, Option.map_eq_some_iff] at hx
      obtain ⟨y, hy, rfl⟩ := hx
      have hlt : t < avs.length := (List.getElem?_eq_some_iff.1 hy).1
      refine ⟨y.val, by rw [Array.getElem?_append_left (by simpa using hlt)]; simp [hy], ?_⟩
      have ho := hslot t y hy
      cases y with
      | g x => exact ⟨ho, rfl⟩
      | ro v z df xs =>
        refine ⟨z, xs, by unfold rowE; rw [look_initP]; simp [hy], by simp, ?_⟩
        simp only [hy, Option.bind_some, AV.val]
        rcases ho.2 with ⟨rfl, rfl⟩ | ⟨ad, c, rfl, h2, h3⟩
        · exact ⟨none, rfl⟩
        · refine ⟨ad, by simp, fun hc => ?_⟩
          obtain ⟨cs, e, fz, g1, _⟩ := h3 hc
          obtain ⟨b, o, s⟩ := ad
          simp only at g1
          subst g1
          simp
    · rw [look_initP] at hk
      simp only [Nat.not_lt_zero, if_false, Nat.sub_zero, Option.bind_eq_some_iff] at hk
      obtain ⟨x, hx, hxy⟩ := hk
      cases x with
      | g x => cases hxy
      | ro v z df xs =>
        simp only [Option.some.injEq] at hxy
        subst hxy
        have ho := hslot k _ hx
        refine ⟨ho.1, ?_⟩
        simp only [hx, Option.bind_some, AV.val]
        rcases ho.2 with ⟨rfl, rfl⟩ | ⟨ad, c, rfl, h2, h3⟩
        · rfl
        · refine ⟨h2, fun hc => ?_⟩
          obtain ⟨cs, e, fz, g1, g2, g3⟩ := h3 hc
          exact ⟨_, cs, e, fz, .inl rfl, g2, g3⟩
    · intro k k' y y' b o c o' c' h1 h2
      rw [look_initP] at h1
      simp only [Nat.not_lt_zero, if_false, Nat.sub_zero, Option.bind_eq_some_iff] at h1
      obtain ⟨x, hx, hxy⟩ := h1
      cases x with
      | g x => cases hxy
      | ro v z df xs => simp only [Option.some.injEq] at hxy; subst hxy; cases h2
    · intro k y b o c h1 h2
      rw [look_initP] at h1
      simp only [Nat.not_lt_zero, if_false, Nat.sub_zero, Option.bind_eq_some_iff] at h1
      obtain ⟨x, hx, hxy⟩ := h1
      cases x with
      | g x => cases hxy
      | ro v z df xs => simp only [Option.some.injEq] at hxy; subst hxy; cases h2
  refine wp_mono (vc_sound ns cd code _ _ _ _ hc h hR) fun e a' w' hq => ?_
  obtain ⟨σ', hq, hR'⟩ := hq
  replace hq := hQ e σ' hq
  have fin : Fin ⟨P, fn.ntmps, w, m⟩ rv Qf σ' → a'.defers = [] ∧ ∃ v, (results fn a'.tmps).run P w' = .ok v w' ∧ ∃ rs m', Ending.returned v = .returned (retV rs) ∧ (∀ r ∈ rs, r.ok) ∧ Qf rs m' ∧ m'.le w' ∧ (∀ b, m' b ≠ none → m b ≠ none ∨ w.heap.size ≤ b) ∧ Kept m w w' := by
    intro hfin
    obtain ⟨τ, rs, m', hRτ, hrs, hqf, hsub⟩ := hfin.h a' w' hR'
    obtain ⟨h1, h2⟩ := results_run (fn := fn) hRτ hr hrs
    obtain ⟨loc, hF, hH⟩ := hRτ
    refine ⟨hF.defers, _, h2, rs, m', rfl, h1, hqf, fun k o hk => hH.mle k o (hsub k o hk), fun b hb => ?_, hH.kept⟩
    have : τ.m b ≠ none := fun e => by
      cases hmb : m' b with
      | none => exact hb hmb
      | some o => rw [hsub b o hmb] at e; cases e
    exact (hH.mmine b this).symm
  cases e with
  | ret => exact fin hq
  | normal => exact fin hq
  | exit id => exact hq.elim
  | goto l => exact hq.elim
  | panic c => exact hq.elim
  | outgrown => exact hq.elim

end Go.Proofs.Ytdpknchgoeboaaa.Vc
