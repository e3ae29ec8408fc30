/- OplogMerges: where what is read is of bulk at most the row's bound, the law answers true and leaves its arguments as they were. -/
import Derived.Sort.LoopGhostIn
import Derived.OrdersIn
import Derived.RangeFuncCalls
import Derived.Test.YtmjiojflncffeaaGreatProg
import Derived.Test.YtmjiojflncffeaaGreatZOa85
/- Code within a round of a loop over a function. -/
set_option linter.unusedVariables false
set_option linter.unusedSimpArgs false
namespace Go.Proofs.YtmjiojflncffeaaGreat.Vc
open Go

def plainO (o : Oper) : Bool := match o.op with
  | .defer _ => false
  | _ => true
/-- Code with no deferred call, no loop over a function, no scope. -/
def plainC : Code → Bool
  | .skip => true
  | .ret => true
  | .exit _ => true
  | .label _ => true
  | .seq a b => plainC a && plainC b
  | .cond _ a b => plainC a && plainC b
  | .block _ a => plainC a
  | .loop a => plainC a
  | .region _ ops _ => ops.all plainO
  | _ => false
/-- Where no function and no depth is barred; in a round, or in none. -/
abbrev fenceR (ro : Option Nat) : Fence := { Fence.wide with round := ro }
theorem semAt_plain (ro : Option Nat) (ρ : Operand → Value) (o : Oper) (h : ∀ c, o.op ≠ .defer c) : Oper.semAt ro ρ o = execOp ρ o := by
  cases ro with
  | some l => exact Oper.semAt_some l ρ o h
  | none => rfl
theorem callsR {P : Program} {f : FuncId} {args : Array Value} {w : World} {R : Ending → World → Prop} (ro : Option Nat) (n : Nat) : CallsIn (fenceR ro) n P f args w R ↔ Calls P f args w R := by
  cases ro with
  | some l => exact ⟨fun h => callsIn_wide.1 (CallsIn.outOfRound (l := l) (F := Fence.wide) h), fun h => CallsIn.inRound (F := Fence.wide) l (callsIn_wide.2 h)⟩
  | none => exact callsIn_wide
def noRaw : Cd → Bool
  | .seq a b => noRaw a && noRaw b
  | .ite _ a b => noRaw a && noRaw b
  | .block _ a => noRaw a
  | .loop a => noRaw a
  | .scope a => noRaw a
  | .gh a => noRaw a
  | .raw _ => false
  | .rgq .. => false
  | _ => true
/-- Not asked: that a machine outgrows what it has. -/
def QOk (Q : QT) : Prop := ∀ σ, ¬ Q .outgrown σ

theorem listIn_of {P : Program} {ops : Array Oper} {Q : Exit → Act → World → Prop} (ro : Option Nat) (hQ : ∀ a w, ¬ Q .outgrown a w) : ∀ (L : List Oper) (a : Act) (w : World), (∀ o ∈ L, plainO o = true) → wpList P ops Q L a w → wpListIn (fenceR ro) 0 P ops Q L a w
  | [], a, w, _, h => h
  | o :: L, a, w, hp, h => by
    have ih := fun (a : Act) (w : World) => listIn_of (P := P) (ops := ops) (Q := Q) ro hQ L a w (fun o ho => hp o (List.mem_cons_of_mem _ ho))
    have hno : ∀ c, o.op ≠ .defer c := fun c e => by
      have := hp o (by simp)
      rw [plainO, e] at this; cases this
    have hlet : ¬ LetsOut Q := fun ⟨a, w, h⟩ => hQ a w h
    unfold wpList at h
    unfold wpListIn
    by_cases hw : Region.wanted o (yielded ops a.tmps) = true
    · rw [if_pos hw] at h ⊢
      rcases h with h | ⟨_, h⟩
      · refine ⟨fun _ _ => trivial, ?_⟩
        have hsem : o.semAt ro a.eval = execOp a.eval o := semAt_plain ro _ o hno
        rw [hsem]
        unfold Oper.wp at h
        generalize (execOp a.eval o).run P w = r at h ⊢
        cases r with
        | ok x w' =>
          cases x with
          | value v => exact ih _ _ h
          | skip => exact ih _ _ h
          | defer d => exact ih _ _ h
          | enter f args =>
            refine ⟨(fun h => by cases h), ((callsR ro _).2 h).mono fun e w2 he => ?_⟩
            cases e with
            | returned v => exact ih _ _ he
            | panicked ch => exact he
            | outgrown => exact he
          | row row args =>
            refine ⟨(fun h => by cases h), fun c cs _ => ?_⟩
            obtain ⟨v, w2, h1, h2⟩ := h c cs
            exact ⟨v, w2, ih _ _ h1, stepsIn_wide.2 h2⟩
          | _ => exact h.elim
        | halt x w' =>
          cases x with
          | panic v => exact h
          | _ => exact h.elim
      · exact absurd h hlet
    · rw [if_neg hw] at h ⊢
      exact ⟨fun _ _ => trivial, ih _ _ h⟩

theorem operIn_of {P : Program} {Q : Exit → Act → World → Prop} (ro : Option Nat) (hQ : ∀ a w, ¬ Q .outgrown a w) {o : Oper} {a : Act} {w : World} {K K' : Act → World → Prop} (hp : plainO o = true) (hK : ∀ a w, K a w → K' a w) (h : o.wp P a w K Q ∨ (o.asks P a w ∧ LetsOut Q)) : o.wpIn (fenceR ro) 0 P a w K' Q := by
  have hno : ∀ c, o.op ≠ .defer c := fun c e => by
    rw [plainO, e] at hp; cases hp
  have hlet : ¬ LetsOut Q := fun ⟨a, w, h⟩ => hQ a w h
  rcases h with h | ⟨_, h⟩
  · refine ⟨fun _ _ => trivial, ?_⟩
    have hsem : o.semAt ro a.eval = execOp a.eval o := semAt_plain ro _ o hno
    rw [hsem]
    unfold Oper.wp at h
    generalize (execOp a.eval o).run P w = r at h ⊢
    cases r with
    | ok x w' =>
      cases x with
      | value v => exact hK _ _ h
      | skip => exact hK _ _ h
      | defer d => exact hK _ _ h
      | enter f args =>
        refine ⟨(fun h => by cases h), ((callsR ro _).2 h).mono fun e w2 he => ?_⟩
        cases e with
        | returned v => exact hK _ _ he
        | panicked ch => exact he
        | outgrown => exact he
      | row row args =>
        refine ⟨(fun h => by cases h), fun c cs _ => ?_⟩
        obtain ⟨v, w2, h1, h2⟩ := h c cs
        exact ⟨v, w2, hK _ _ h1, stepsIn_wide.2 h2⟩
      | _ => exact h.elim
    | halt x w' =>
      cases x with
      | panic v => exact h
      | _ => exact h.elim
  · exact absurd h hlet
theorem anyIn_of {P : Program} {md : Region.Mode} {ops : Array Oper} {Q : Exit → Act → World → Prop} (ro : Option Nat) (hQ : ∀ a w, ¬ Q .outgrown a w) (hp : ∀ o ∈ ops, plainO o = true) : ∀ (fuel : Nat) (listed : Array Bool) (a : Act) (w : World), wpAny P md ops Q fuel listed a w → wpAnyIn (fenceR ro) 0 P md ops Q fuel listed a w
  | 0, _, _, _, h => h
  | fuel + 1, listed, a, w, h => by
    refine ⟨h.1, fun i hi => ?_⟩
    have h2 := h.2 i hi
    have ih := anyIn_of (P := P) (md := md) (Q := Q) ro hQ hp fuel (listed.setIfInBounds i true)
    unfold wpOp at h2
    unfold wpOpIn
    cases ho : ops[i]? with
    | none => rw [ho] at h2; exact ih _ _ h2
    | some o =>
      rw [ho] at h2
      simp only at h2 ⊢
      have hpo := hp o (Array.mem_of_getElem? ho)
      split at h2
      · rename_i hw
        rw [if_pos hw]
        exact operIn_of ro hQ hpo ih h2
      · rename_i hw
        rw [if_neg hw]
        exact ⟨fun _ _ => trivial, ih _ _ h2⟩

section
variable {C : Ctx} {σ : SS} {a : Act} {w : World}
theorem QOk.lift {Q : QT} (h : QOk Q) : ∀ a w, ¬ liftQ C Q .outgrown a w := fun a w ⟨σ, hq, _⟩ => h σ hq
theorem QOk.thenQ {Q : QT} {K : KT} (h : QOk Q) : QOk (thenQ K Q) := fun σ q => h σ q
theorem QOk.blockQ {Q : QT} {id : Nat} (h : QOk Q) : QOk (blockQ id Q) := fun σ q => h σ q
theorem QOk.loopQ {Q : QT} {ι : Type} {st : ι → SS} {inv : ι → Prop} {ms : ι → Nat} {i : ι} (h : QOk Q) : QOk (loopQ st inv ms i Q) := fun σ q => h σ q
/-- What is shown of a round's body holds of it. -/
theorem vc_sound_round (ns : List (Nat × Nat)) (ro : Option Nat) : ∀ (cd : Cd) (code : Code) (Q : QT) (σ : SS) (a : Act) (w : World), comp C.P C.N ns code = er cd → noRaw cd = true → plainC code = true → QOk Q → vc C cd Q σ → Rel C σ a w → code.wpIn (fenceR ro) 0 C.P (liftQ C Q) a w := by
  intro cd
  induction cd with
  | skip =>
    intro code Q σ a w hc hn hp hQk h hR
    cases code <;> simp only [comp, er] at hc <;> (try split at hc) <;> first | (cases hc; done) | (exact (noRegion hc (by intros; simp) (by intros; simp) (by intros; simp) (by intros; simp)).elim) | skip
    · exact wpIn_skip ⟨σ, h, hR⟩
    · exact wpIn_label ⟨σ, h, hR⟩
  | ret =>
    intro code Q σ a w hc hn hp hQk h hR
    cases code <;> simp only [comp, er] at hc <;> (try split at hc) <;> first | (cases hc; done) | (exact (noRegion hc (by intros; simp) (by intros; simp) (by intros; simp) (by intros; simp)).elim) | skip
    exact wpIn_ret ⟨σ, h, hR⟩
  | exit id =>
    intro code Q σ a w hc hn hp hQk h hR
    cases code <;> simp only [comp, er] at hc <;> (try split at hc) <;> first | (cases hc; done) | (exact (noRegion hc (by intros; simp) (by intros; simp) (by intros; simp) (by intros; simp)).elim) | skip
    cases hc
    exact wpIn_exit ⟨σ, h, hR⟩
  | seq x y ihx ihy =>
    intro code Q σ a w hc hn hp hQk h hR
    cases code <;> simp only [comp, er] at hc <;> (try split at hc) <;> first | (cases hc; done) | (exact (noRegion hc (by intros; simp) (by intros; simp) (by intros; simp) (by intros; simp)).elim) | skip
    rename_i x' y'
    simp only [Cd.seq.injEq] at hc
    refine wpIn_seq (wpIn_mono (ihx x' _ σ a w hc.1 (by simp only [noRaw, Bool.and_eq_true] at hn; exact hn.1) (by simp only [plainC, Bool.and_eq_true] at hp; exact hp.1) hQk.thenQ h hR) fun e a' w' hq => ?_)
    obtain ⟨σ', hq, hR'⟩ := hq
    cases e with
    | normal => exact ihy y' Q σ' a' w' hc.2 (by simp only [noRaw, Bool.and_eq_true] at hn; exact hn.2) (by simp only [plainC, Bool.and_eq_true] at hp; exact hp.2) hQk hq hR'
    | _ => exact ⟨σ', hq, hR'⟩
  | ite c x y ihx ihy =>
    intro code Q σ a w hc hn hp hQk h hR
    cases code <;> simp only [comp, er] at hc <;> (try split at hc) <;> first | (cases hc; done) | (exact (noRegion hc (by intros; simp) (by intros; simp) (by intros; simp) (by intros; simp)).elim) | skip
    rename_i c' x' y' _ c2 hc2
    simp only [Cd.ite.injEq] at hc
    obtain ⟨rfl, h1, h2⟩ := hc
    simp only [vc, brB] at h
    split at h
    · rename_i t ht
      have hF := hR.choose_spec.1
      have hv := (hF.ev rfl ht).s
      refine wpIn_cond_split (t := t) (by rw [cOpd_eval hc2 a]; exact hv) (fun e => ihx x' Q σ a w h1 (by simp only [noRaw, Bool.and_eq_true] at hn; exact hn.1) (by simp only [plainC, Bool.and_eq_true] at hp; exact hp.1) hQk (h.1 e) hR) (fun e => ihy y' Q σ a w h2 (by simp only [noRaw, Bool.and_eq_true] at hn; exact hn.2) (by simp only [plainC, Bool.and_eq_true] at hp; exact hp.2) hQk (h.2 e) hR)
    · exact h.elim
  | block id x ih =>
    intro code Q σ a w hc hn hp hQk h hR
    cases code <;> simp only [comp, er] at hc <;> (try split at hc) <;> first | (cases hc; done) | (exact (noRegion hc (by intros; simp) (by intros; simp) (by intros; simp) (by intros; simp)).elim) | skip
    rename_i id' x'
    simp only [Cd.block.injEq] at hc
    obtain ⟨rfl, h1⟩ := hc
    refine wpIn_block (wpIn_mono (ih x' _ σ a w h1 hn hp hQk.blockQ h hR) fun e a' w' hq => ?_)
    obtain ⟨σ', hq, hR'⟩ := hq
    cases e with
    | exit j =>
      simp only [blockQ] at hq
      simp only [Exit.inBlock]
      split
      · rename_i e; rw [if_pos e] at hq; exact ⟨σ', hq, hR'⟩
      · rename_i e; rw [if_neg e] at hq; exact ⟨σ', hq, hR'⟩
    | _ => exact ⟨σ', hq, hR'⟩
  | loop x ih =>
    intro code Q σ a w hc hn hp hQk h hR
    cases code <;> simp only [comp, er] at hc <;> (try split at hc) <;> first | (cases hc; done) | (exact (noRegion hc (by intros; simp) (by intros; simp) (by intros; simp) (by intros; simp)).elim) | skip
    rename_i x'
    simp only [Cd.loop.injEq] at hc
    obtain ⟨ι, st, inv, ms, i0, hi0, hge, hstep⟩ := h
    refine wpIn_loop_ghost (fun n a w => ∃ i, inv i ∧ ms i = n ∧ Rel C (st i) a w) (ms i0) ⟨i0, hi0, rfl, hge.rel hR⟩ fun n a w hI => ?_
    obtain ⟨i, hi, rfl, hRi⟩ := hI
    refine wpIn_mono (ih x' _ (st i) a w hc hn hp hQk.loopQ (hstep i hi) hRi) fun e a' w' hq => ?_
    obtain ⟨σ', hq, hR'⟩ := hq
    cases e with
    | normal =>
      obtain ⟨j, hj, hlt, hge'⟩ := hq
      exact ⟨ms j, hlt, j, hj, rfl, hge'.rel hR'⟩
    | _ => exact ⟨σ', hq, hR'⟩
  | scope x ih =>
    intro code Q σ a w hc hn hp hQk h hR
    cases code <;> simp only [comp, er] at hc <;> (try split at hc) <;> first | (cases hc; done) | (exact (noRegion hc (by intros; simp) (by intros; simp) (by intros; simp) (by intros; simp)).elim) | skip
    cases hp
  | rg segs keep =>
    intro code Q σ a w hc hn hp hQk h hR
    cases code <;> simp only [comp, er] at hc <;> (try split at hc) <;> first | (cases hc; done) | skip
    rename_i id ops draw
    rcases compR_cases C.P C.N ns id ops draw with ⟨rfl, hd, hg, e⟩ | ⟨n, _, _, _, _, _, e⟩ | ⟨_, _, _, _, _, e⟩ | ⟨_, _, _, _, _, _, e⟩ | e
    rotate_left
    · rw [e] at hc; cases hc
    · rw [e] at hc; cases hc
    · rw [e] at hc; cases hc
    · rw [e] at hc; cases hc
    rw [e] at hc
    simp only [Cd.rg.injEq, and_true] at hc
    simp only [Array.all_eq_true_iff_forall_mem] at hd hg
    refine wpIn_region_list ?_
    have := segs_sound (C := C) (ops := ops) (K := kKeep keep Q) (Q := liftQ C Q) (fun σ' a' w' hK hR' => ⟨σ'.keep keep, hK, hR'.keep keep⟩) segs (grp ops ops.toList) σ a w hc (fun x hx o ho => by
      obtain ⟨h1, h2⟩ := grp_mem ops ops.toList x hx o ho
      exact ⟨h1, hd o (by simpa using h2), hg o (by simpa using h2)⟩) hR h
    rw [grp_flat] at this
    simp only [plainC, Array.all_eq_true_iff_forall_mem] at hp
    exact listIn_of ro hQk.lift _ _ _ (fun o ho => hp o (by simpa using ho)) this
  | rgq hd' tl keep =>
    intro code Q σ a w hc hn hp hQk h hR
    cases hn
  | rga t keep =>
    intro code Q σ a w hc hn hp hQk h hR
    cases code <;> simp only [comp, er] at hc <;> (try split at hc) <;> first | (cases hc; done) | skip
    rename_i id ops draw
    rcases compR_cases C.P C.N ns id ops draw with ⟨_, _, _, e⟩ | ⟨n, _, _, _, _, _, e⟩ | ⟨rfl, hd, hg, hmix, hns, e⟩ | ⟨rfl, hd, hg, hmix, hns, hts, e⟩ | e
    · rw [e] at hc; cases hc
    · rw [e] at hc; cases hc
    · rw [e] at hc
      simp only [Cd.rga.injEq, and_true] at hc
      simp only [plainC, Array.all_eq_true_iff_forall_mem] at hd hg hp
      obtain ⟨loc, hF, hH⟩ := hR
      exact wpIn_region_any hmix (anyIn_of ro hQk.lift hp _ _ _ _ (wpAny_of_N (D := liftK C (kKeep keep Q)) (fun a' w' ⟨τ, hK, hR'⟩ => ⟨τ.keep keep, hK, hR'.keep keep⟩) _ _ _ _ (ot_sound hns hd hg _ _ t σ a _ hc h ⟨loc, hF, hH.drew⟩)))
    · rw [e] at hc
      simp only [Cd.rga.injEq, and_true] at hc
      simp only [plainC, Array.all_eq_true_iff_forall_mem] at hd hg hts hp
      obtain ⟨t1, σ1, e1, hn, h, hR⟩ := ot_strip t σ h hR
      obtain ⟨u, σ0, hu, hh, h, hM⟩ := ot_held_of (e1.trans hc.symm) hn h
      obtain ⟨loc, hF, hH⟩ := hR
      have hR' : Rel C σ1 a { w with drawn := w.drawn + 1 } := ⟨loc, hF, hH.drew⟩
      have hts' : ∀ o ∈ ops, ∀ t ∈ heldTs C.P ops, o.dst ≠ some t := fun o ho t ht => by
        have h1 := hts o ho
        simp only [List.all_eq_true, bne_iff_ne, ne_eq] at h1
        exact h1 t ht
      exact wpIn_region_any hmix (anyIn_of ro hQk.lift hp _ _ _ _ (wpAny_of_N (D := liftK C (kKeep keep Q)) (fun a' w' ⟨τ, hK, hR'⟩ => ⟨τ.keep keep, hK, hR'.keep keep⟩) _ _ _ _ (wpAnyN_of_S _ _ _ _
        (otH_sound hns hd hg hts' _ _ u σ1 a _ hu.symm h hh (fun _ _ => rfl) (stands_of hR' hh hM fun _ _ => rfl) hR'))))
    · rw [e] at hc; cases hc
  | gh x ih =>
    intro code Q σ a w hc hn hp hQk h hR
    obtain ⟨τ, hR', h'⟩ := h a w hR
    exact ih code Q τ a w hc hn hp hQk h' hR'
  | raw c =>
    intro code Q σ a w hc hn hp hQk h hR
    cases hn

end
end Go.Proofs.YtmjiojflncffeaaGreat.Vc

/- A loop over a function, its rounds: what is shown of its body for each value handed in. -/
set_option linter.unusedVariables false
set_option linter.unusedSimpArgs false
namespace Go.Proofs.YtmjiojflncffeaaGreat.Vc
open Go Go.Shelf

/-- What an iterator does: it hands these in, one after another, till it is told to stop; between two rounds it changes nothing that was there. -/
def Iter (P : Program) (gf : Nat) (lb : List Value) (ui : PH) (encs : List (List Value)) : Prop :=
  ∀ (l : Nat) (J : Nat → World → Prop) (Jx : World → Prop) (W : World), ui.le W → (∀ i W W', J i W → Kept PH.no W W' → J i W') → (∀ W W', Jx W → Kept PH.no W W' → Jx W') →
    (∀ i x W, encs[i]? = some x → J i W → YieldAt Fence.wide 0 P l x.toArray W fun e W' => (e = .returned (.bool true) ∧ J (i + 1) W' ∧ ui.le W') ∨ (e = .returned (.bool false) ∧ Jx W')) →
    J 0 W → CallsIn Fence.wide 0 P gf (#[.func (.yield l) #[] #[]] ++ lb.toArray) W fun e W' => (∃ v, e = .returned v) ∧ (J encs.length W' ∨ Jx W')

/-! ### Another beginning -/
noncomputable def baseOf (ph : List PH) (m : PH) (W : World) : PH := fun b => open Classical in if m b ≠ none ∨ ∃ u ∈ ph, u b ≠ none then W.heap[b]? else none
theorem baseOf_in {ph : List PH} {m : PH} {W : World} {b : Nat} (h : m b ≠ none ∨ ∃ u ∈ ph, u b ≠ none) : baseOf ph m W b = W.heap[b]? := by rw [baseOf, if_pos h]
theorem baseOf_out {ph : List PH} {m : PH} {W : World} {b : Nat} (h1 : m b = none) (h2 : ∀ u ∈ ph, u b = none) : baseOf ph m W b = none := by
  rw [baseOf, if_neg]
  rintro (h | ⟨u, hu, h⟩)
  · exact h h1
  · exact h (h2 u hu)
theorem baseOf_mem {ph : List PH} {m : PH} {W : World} {b : Nat} (h : baseOf ph m W b ≠ none) : m b ≠ none ∨ ∃ u ∈ ph, u b ≠ none := by
  rw [baseOf] at h
  split at h
  · assumption
  · exact absurd rfl h
noncomputable abbrev cx (C : Ctx) (ph : List PH) (m : PH) (W : World) : Ctx := ⟨C.P, C.N, W, baseOf ph m W⟩

section
variable {C : Ctx} {loc : Loc} {ph : List PH} {m : PH} {W : World}
theorem HR.bare {pv : List (Nat × PV)} (h : HR C loc pv ph m W) (loc' : Loc) : HR C loc' [] ph m W :=
  ⟨h.kept, (fun k y hk => by cases hk), (fun k k' y y' b o c o' c' hk => by cases hk), (fun k y b o c hk => by cases hk), h.mle, h.mmine, h.phs⟩
theorem HR.rebase (h : HR C loc [] ph m W) (loc' : Loc) : HR (cx C ph m W) loc' [] ph m W := by
  refine ⟨Kept.refl _ _, (fun k y hk => by cases hk), (fun k k' y y' b o c o' c' hk => by cases hk), (fun k y b o c hk => by cases hk), h.mle, fun b hb => .inr ?_, fun u hu => ⟨(h.phs u hu).1, fun b hb => ⟨.inr ?_, ((h.phs u hu).2 b hb).2⟩⟩⟩
  · show baseOf ph m W b ≠ none
    rw [baseOf_in (.inl hb)]
    cases hm : m b with
    | none => exact absurd hm hb
    | some o => rw [h.mle b o hm]; simp
  · show baseOf ph m W b ≠ none
    rw [baseOf_in (.inr ⟨u, hu, hb⟩)]
    cases hm : u b with
    | none => exact absurd hm hb
    | some o => rw [(h.phs u hu).1 b o hm]; simp
theorem HR.u0_up (h : HR C loc [] ph m W) : ∀ b o, C.u0 b = some o → (cx C ph m W).u0 b = some o := by
  intro b o hb
  unfold Ctx.u0 at hb ⊢
  split at hb
  · rename_i h0
    have h0 : C.m0 b = none := by simpa using h0
    have hlt : b < C.w0.heap.size := (Array.getElem?_eq_some_iff.1 hb).1
    have nm : ¬ C.mine b := fun hmine => hmine.elim (fun h => by omega) fun h => h h0
    have h1 : m b = none := by
      cases hm : m b with
      | none => rfl
      | some o => exact absurd (h.mmine b (by rw [hm]; simp)) nm
    have h2 : ∀ u ∈ ph, u b = none := fun u hu => by
      cases hm : u b with
      | none => rfl
      | some o => exact absurd ((h.phs u hu).2 b (by rw [hm]; simp)).1 nm
    show (if (baseOf ph m W b).isNone then W.heap[b]? else none) = some o
    rw [baseOf_out h1 h2]
    simp only [Option.isNone_none, if_true]
    rw [h.kept.2.2.2.2 b hlt h0]; exact hb
  · cases hb
theorem HR.mine_up (h : HR C loc [] ph m W) {b : Nat} (hb : (cx C ph m W).mine b) : C.mine b := by
  rcases hb with hb | hb
  · exact .inl (Nat.le_trans h.kept.2.2.2.1 hb)
  · rcases baseOf_mem hb with hm | ⟨u, hu, hm⟩
    · exact h.mmine b hm
    · exact ((h.phs u hu).2 b hm).1
theorem HR.unbase (h : HR C loc [] ph m W) {loc' loc2 : Loc} {pv' : List (Nat × PV)} {ph' : List PH} {m' : PH} {W' : World} (h' : HR (cx C ph m W) loc' pv' ph' m' W') : HR C loc2 [] ph' m' W' := by
  refine ⟨?_, (fun k y hk => by cases hk), (fun k k' y y' b o c o' c' hk => by cases hk), (fun k y b o c hk => by cases hk), h'.mle, fun b hb => h.mine_up (h'.mmine b hb), fun u hu => ⟨(h'.phs u hu).1, fun b hb => ⟨h.mine_up ((h'.phs u hu).2 b hb).1, ((h'.phs u hu).2 b hb).2⟩⟩⟩
  obtain ⟨k1, k2, k3, k4, k5⟩ := h.kept
  obtain ⟨q1, q2, q3, q4, q5⟩ := h'.kept
  refine ⟨q1.trans k1, q2.trans k2, q3.trans k3, Nat.le_trans k4 q4, fun k hk hn => ?_⟩
  have nm : ¬ C.mine k := fun hmine => hmine.elim (fun h => by omega) fun h => h hn
  rw [q5 k (Nat.lt_of_lt_of_le hk k4) (baseOf_out ?_ ?_)]
  · exact k5 k hk hn
  · cases hm : m k with
    | none => rfl
    | some o => exact absurd (h.mmine k (by rw [hm]; simp)) nm
  · intro u hu
    cases hm : u k with
    | none => rfl
    | some o => exact absurd ((h.phs u hu).2 k (by rw [hm]; simp)).1 nm
/-- What is not in the memory that is known lies as it lay. -/
theorem HR.other (h' : HR (cx C ph m W) loc [] ph m W) {loc' : Loc} {pv' : List (Nat × PV)} {ph' : List PH} {m' : PH} {W' : World} (h2 : HR (cx C ph m W) loc' pv' ph' m' W') {b : Nat} {o : Obj} (hb : W.heap[b]? = some o) (h3 : m b = none) (h4 : ∀ u ∈ ph, u b = none) : W'.heap[b]? = some o := by
  have hlt : b < W.heap.size := (Array.getElem?_eq_some_iff.1 hb).1
  rw [h2.kept.2.2.2.2 b hlt (baseOf_out h3 h4)]; exact hb
/-- And is not known to be one's own behind it, either. -/
theorem HR.apart' (h : HR C loc [] ph m W) {loc' : Loc} {pv' : List (Nat × PV)} {ph' : List PH} {m' : PH} {W' : World} (h2 : HR (cx C ph m W) loc' pv' ph' m' W') {b : Nat} (hb : b < W.heap.size) (h3 : m b = none) (h4 : ∀ u ∈ ph, u b = none) : m' b = none ∧ ∀ u ∈ ph', u b = none := by
  have nm : ¬ (cx C ph m W).mine b := fun hmine => hmine.elim (fun h => by simp only at h; omega) fun h => h (baseOf_out h3 h4)
  refine ⟨?_, fun u hu => ?_⟩
  · cases hm : m' b with
    | none => rfl
    | some o => exact absurd (h2.mmine b (by rw [hm]; simp)) nm
  · cases hm : u b with
    | none => rfl
    | some o => exact absurd ((h2.phs u hu).2 b (by rw [hm]; simp)).1 nm
end

/-! ### Plain slots -/
def frG (fr : List (Nat × SV)) : Prop := ∀ t x, look fr t = some x → ∃ g, x = .g g
theorem FR.plain {loc loc' : Loc} {N : Nat} {fr : List (Nat × SV)} {pv pv' : List (Nat × PV)} {ph ph' : List PH} {a : Act} (h : FR loc N fr pv ph a) (hg : frG fr) (hs : ∀ u ∈ ph, u ∈ ph') : FR loc' N fr pv' ph' a := by
  refine ⟨h.defers.up hs, h.size, fun t x hx => ?_⟩
  obtain ⟨g, rfl⟩ := hg t x hx
  exact h.slots t _ hx

/-! ### The rule -/
/-- How a round's body may be left. -/
def bodyQ (σ : SS) (I : List PH → PH → Prop) (Ix : Exit → List PH → PH → Prop) : QT
  | .normal, τ => (∀ u ∈ σ.ph, u ∈ τ.ph) ∧ I τ.ph τ.m
  | .ret, τ => (∀ u ∈ σ.ph, u ∈ τ.ph) ∧ Ix .ret τ.ph τ.m
  | .exit id, τ => (∀ u ∈ σ.ph, u ∈ τ.ph) ∧ Ix (.exit id) τ.ph τ.m
  | _, _ => False
theorem bodyQ_ok {σ : SS} {I : List PH → PH → Prop} {Ix : Exit → List PH → PH → Prop} : QOk (bodyQ σ I Ix) := fun _ h => h
theorem look_app {α : Type} : ∀ (a b : List (Nat × α)) (t : Nat), look (a ++ b) t = (look a t).or (look b t)
  | [], b, t => by simp [look]
  | (k, x) :: a, b, t => by
    simp only [List.cons_append, look]
    split
    · simp
    · exact look_app a b t
theorem foldl_size (l : List (Tmp × Value)) : ∀ tm : Array Value, (l.foldl (fun tm (p : Tmp × Value) => tm.setIfInBounds p.1 p.2) tm).size = tm.size := by
  induction l with
  | nil => intro tm; rfl
  | cons p l ih => intro tm; rw [List.foldl_cons, ih, Array.size_setIfInBounds]
end Go.Proofs.YtmjiojflncffeaaGreat.Vc


/- A loop over a function: the rule. -/
set_option linter.unusedVariables false
set_option linter.unusedSimpArgs false
namespace Go.Proofs.YtmjiojflncffeaaGreat.Vc
open Go Go.Shelf

section
variable {C : Ctx} {loc : Loc} {ph : List PH} {m : PH} {W : World}
theorem HR.put_other (h : HR C loc [] ph m W) (loc' : Loc) {l : Nat} (o : Obj) (h1 : m l = none) (h2 : ∀ u ∈ ph, u l = none) (h3 : C.w0.heap.size ≤ l) : HR C loc' [] ph m (W.putObj l o) := by
  have hne : ∀ {u : PH} {b : Nat} {o' : Obj}, u l = none → u b = some o' → b ≠ l := fun hu hb e => by rw [e, hu] at hb; cases hb
  refine ⟨?_, (fun k y hk => by cases hk), (fun k k' y y' b o c o' c' hk => by cases hk), (fun k y b o c hk => by cases hk), fun b o' hb => ?_, h.mmine, fun u hu => ⟨fun b o' hb => ?_, (h.phs u hu).2⟩⟩
  · obtain ⟨k1, k2, k3, k4, k5⟩ := h.kept
    exact ⟨k1, k2, k3, by rw [World.putObj_size]; exact k4, fun k hk hn => by rw [World.putObj_heap_other (by omega)]; exact k5 k hk hn⟩
  · rw [World.putObj_heap_other (hne h1 hb)]; exact h.mle b o' hb
  · rw [World.putObj_heap_other (hne (h2 u hu) hb)]; exact (h.phs u hu).1 b o' hb
theorem HR.grown (h : HR C loc [] ph m W) {W' : World} (hk : Kept PH.no W W') : HR C loc [] ph m W' :=
  (h.after (m := m) (m1 := PH.no) (mr := m) (m' := PH.no) (uni_no _).symm (dis_no _) (fun b o hb => by cases hb) (fun b hb => absurd rfl hb) hk).2.2.1
theorem HR.add (h : HR C loc [] ph m W) {D : Nat} {o : Obj} (hD : W.heap[D]? = some o) (h1 : m D = none) (h2 : C.w0.heap.size ≤ D) : HR C loc [] (one D o :: ph) m W := by
  refine ⟨h.kept, (fun k y hk => by cases hk), (fun k k' y y' b o c o' c' hk => by cases hk), (fun k y b o c hk => by cases hk), h.mle, h.mmine, fun u hu => ?_⟩
  rcases List.mem_cons.1 hu with rfl | hu
  · refine ⟨fun b o' hb => ?_, fun b hb => ?_⟩
    · simp only [one] at hb
      split at hb
      · rename_i e; subst e; cases hb; exact hD
      · cases hb
    · simp only [one] at hb
      split at hb
      · rename_i e; subst e; exact ⟨.inl h2, h1⟩
      · exact absurd rfl hb
  · exact h.phs u hu
end
def jumpOf : Exit → Option Code
  | .ret => some .ret
  | .exit id => some (.exit id)
  | _ => none

end Go.Proofs.YtmjiojflncffeaaGreat.Vc


/- Pieces of an iterator: code by its resolved form; a piece from a fresh beginning; a region that asks for a round. -/
set_option linter.unusedVariables false
set_option linter.unusedSimpArgs false
namespace Go.Proofs.YtmjiojflncffeaaGreat.Vc
open Go Go.Shelf

section
variable {P : Program} {N : Nat} {ns : List (Nat × Nat)} {code : Code}
end

/-- What an activation's slots hold: plain values; nothing is deferred. -/
structure Slots (N : Nat) (fr : List (Nat × SV)) (a : Act) : Prop where
  defers : a.defers = []
  size : a.tmps.size = N
  at' : ∀ t x, look fr t = some x → ∃ g, x = .g g ∧ GV.ok g ∧ a.tmps[t]? = some g.val
abbrev cw (P : Program) (N : Nat) (w : World) : Ctx := ⟨P, N, w, PH.no⟩
theorem Slots.rel {P : Program} {N : Nat} {fr : List (Nat × SV)} {a : Act} (h : Slots N fr a) (w : World) : Rel (cw P N w) ⟨fr, [], [], PH.no⟩ a w := by
  refine ⟨fun _ => none, ⟨by rw [h.defers]; exact Marks.nil _, h.size, fun t x hx => ?_⟩, ⟨Kept.refl _ _, (fun k y hk => by cases hk), (fun k k' y y' b o c o' c' hk => by cases hk), (fun k y b o c hk => by cases hk), (fun b o hb => by cases hb), (fun b hb => absurd rfl hb), fun u hu => by cases hu⟩⟩
  obtain ⟨g, rfl, h1, h2⟩ := h.at' t x hx
  exact ⟨_, h2, h1, rfl⟩
/-- How a piece ends: plain slots, and nothing that was there has changed. -/
def pieceQ (R : Exit → List (Nat × SV) → Prop) : QT := fun e τ => (e = .normal ∨ e = .ret ∨ ∃ id, e = .exit id) ∧ τ.ph = [] ∧ ∃ fr, frG fr ∧ R e fr ∧ ∀ t x, look fr t = some x → look τ.fr t = some x
theorem pieceQ_ok {R : Exit → List (Nat × SV) → Prop} : QOk (pieceQ R) := fun σ h => by
  rcases h.1 with h | h | ⟨id, h⟩ <;> cases h
theorem Rel.slots {P : Program} {N : Nat} {w : World} {τ : SS} {a : Act} {w' : World} (h : Rel (cw P N w) τ a w') (hp : τ.ph = []) {fr : List (Nat × SV)} (hg : frG fr) (hs : ∀ t x, look fr t = some x → look τ.fr t = some x) : Slots N fr a ∧ Kept PH.no w w' := by
  obtain ⟨loc, hF, hH⟩ := h
  refine ⟨⟨?_, hF.size, fun t x hx => ?_⟩, hH.kept⟩
  · cases hd : a.defers with
    | nil => rfl
    | cons d ds =>
      obtain ⟨D, u, _, hu, _⟩ := hF.defers.2 d (by rw [hd]; simp)
      rw [hp] at hu; cases hu
  · obtain ⟨g, rfl⟩ := hg t x hx
    obtain ⟨v, hv, h1, h2⟩ := hF.slots t _ (hs t _ hx)
    exact ⟨g, rfl, h1, by rw [hv, h2]⟩
/-- A piece of code from a fresh beginning. -/
theorem piece {P : Program} {N : Nat} {ns : List (Nat × Nat)} {cd : Cd} {code : Code} {fr : List (Nat × SV)} {a : Act} {w : World} {R : Exit → List (Nat × SV) → Prop} {Q : Exit → Act → World → Prop} (hc : comp P N ns code = er cd) (hn : noRaw cd = true) (hp : plainC code = true)
    (hs : Slots N fr a) (h : vc (cw P N w) cd (pieceQ R) ⟨fr, [], [], PH.no⟩) (hQ : ∀ e fr' a' w', R e fr' → Slots N fr' a' → Kept PH.no w w' → (e = .normal ∨ e = .ret ∨ ∃ id, e = .exit id) → Q e a' w') : code.wpIn (fenceR none) 0 P Q a w := by
  refine wpIn_mono (vc_sound_round (C := cw P N w) ns none cd code (pieceQ R) ⟨fr, [], [], PH.no⟩ a w hc hn hp pieceQ_ok h (hs.rel w)) fun e a' w' hq => ?_
  obtain ⟨τ, ⟨he, hph, fr', hg, hR, hl⟩, hrel⟩ := hq
  obtain ⟨h1, h2⟩ := hrel.slots hph hg hl
  exact hQ e fr' a' w' hR h1 h2 he
end Go.Proofs.YtmjiojflncffeaaGreat.Vc

/- A region that asks for a round: what stands before the call, the call of yield, what stands behind it. -/
set_option linter.unusedVariables false
set_option linter.unusedSimpArgs false
namespace Go.Proofs.YtmjiojflncffeaaGreat.Vc
open Go Go.Shelf

theorem listIn_app {P : Program} {ops : Array Oper} {Q1 Q : Exit → Act → World → Prop} (ro : Option Nat) {L2 : List Oper} (hlet : ∀ a w, ¬ Q1 .outgrown a w) (hpan : ∀ c a w, ¬ Q1 (.panic c) a w) (hK : ∀ a w, Q1 .normal a w → wpListIn (fenceR ro) 0 P ops Q L2 a w) :
    ∀ (L1 : List Oper) (a : Act) (w : World), (∀ o ∈ L1, plainO o = true) → wpList P ops Q1 L1 a w → wpListIn (fenceR ro) 0 P ops Q (L1 ++ L2) a w
  | [], a, w, _, h => hK a w h
  | o :: L, a, w, hp, h => by
    have ih := fun (a : Act) (w : World) => listIn_app (P := P) (ops := ops) (Q1 := Q1) (Q := Q) ro hlet hpan hK L a w (fun o ho => hp o (List.mem_cons_of_mem _ ho))
    have hno : ∀ c, o.op ≠ .defer c := fun c e => by
      have := hp o (by simp)
      rw [plainO, e] at this; cases this
    have hl : ¬ LetsOut Q1 := fun ⟨a, w, h⟩ => hlet a w h
    unfold wpList at h
    rw [List.cons_append]
    unfold wpListIn
    by_cases hw : Region.wanted o (yielded ops a.tmps) = true
    · rw [if_pos hw] at h ⊢
      rcases h with h | ⟨_, h⟩
      · refine ⟨fun _ _ => trivial, ?_⟩
        have hsem : o.semAt ro a.eval = execOp a.eval o := semAt_plain ro _ o hno
        rw [hsem]
        unfold Oper.wp at h
        generalize (execOp a.eval o).run P w = r at h ⊢
        cases r with
        | ok x w' =>
          cases x with
          | value v => exact ih _ _ h
          | skip => exact ih _ _ h
          | defer d => exact ih _ _ h
          | enter f args =>
            refine ⟨(fun h => by cases h), ((callsR ro _).2 h).mono fun e w2 he => ?_⟩
            cases e with
            | returned v => exact ih _ _ he
            | panicked ch => exact absurd he (hpan _ _ _)
            | outgrown => exact absurd he hl
          | row row args =>
            refine ⟨(fun h => by cases h), fun c cs _ => ?_⟩
            obtain ⟨v, w2, h1, h2⟩ := h c cs
            exact ⟨v, w2, ih _ _ h1, stepsIn_wide.2 h2⟩
          | _ => exact h.elim
        | halt x w' =>
          cases x with
          | panic v => exact absurd h (hpan _ _ _)
          | _ => exact h.elim
      · exact absurd h hl
    · rw [if_neg hw] at h ⊢
      exact ⟨fun _ _ => trivial, ih _ _ h⟩

/-- The region. n: where the call of yield stands; d: its slot. -/
theorem yield_reg {P : Program} {N : Nat} {id : Nat} {ops : Array Oper} {Q : Exit → Act → World → Prop} {C : Ctx} (hCP : C.P = P) (hCN : C.N = N) (hd : ops.all (dstOk N) = true) (hg : ops.all (guardOk ops) = true) (hpl : ops.all plainO = true)
    (n d tx l : Nat) (o : Oper) (c : Call) (hn : ops.toList.drop n = o :: ops.toList.drop (n + 1)) (hoc : o.op = .call c) (hog : o.guard = none) (hod : o.dst = some d) (hcc : c.callee = .value (.tmp tx))
    (s1 s2 : List Seg) (h1 : cSegs P ops (ops.toList.take n) = s1.map erSeg) (h2 : cSegs P ops (ops.toList.drop (n + 1)) = s2.map erSeg)
    {σ : SS} {a : Act} {w : World} (hR : Rel C σ a w) (K1 : SS → Prop) (hK1 : vcSegs C s1 K1 σ)
    (hY : ∀ τ a w, K1 τ → Rel C τ a w → a.eval (.tmp tx) = .func (.yield l) #[] #[] ∧ YieldAt Fence.wide 0 P l (c.args.map a.eval) w fun e w2 => ∃ b, e = .returned (.bool b) ∧ ∃ (fr : List (Nat × SV)) (Q2 : SS → Prop), Slots N fr (a.put (some d) (.bool b)) ∧ vcSegs (cw P N w2) s2 Q2 ⟨fr, [], [], PH.no⟩ ∧ ∀ τ2 a2 w3, Q2 τ2 → Rel (cw P N w2) τ2 a2 w3 → Q .normal a2 w3) :
    (Code.region id ops false).wpIn (fenceR none) 0 P Q a w := by
  subst hCP; subst hCN
  simp only [Array.all_eq_true_iff_forall_mem] at hd hg hpl
  have hmem : ∀ (l : List Oper), (∀ o ∈ l, o ∈ ops.toList) → ∀ x ∈ grp ops l, ∀ o ∈ x.2, gOf ops o = x.1 ∧ dstOk C.N o = true ∧ guardOk ops o = true := fun l hl x hx o ho => by
    obtain ⟨h1, h2⟩ := grp_mem ops l x hx o ho
    have := hl o h2
    exact ⟨h1, hd o (by simpa using this), hg o (by simpa using this)⟩
  refine wpIn_region_list ?_
  rw [← List.take_append_drop n ops.toList, hn]
  refine listIn_app (Q1 := fun e a w => e = .normal ∧ ∃ τ, K1 τ ∧ Rel C τ a w) none (fun a w h => by cases h.1) (fun c a w h => by cases h.1) ?_ _ a w (fun o ho => hpl o (by simpa using List.mem_of_mem_take ho)) ?_
  · rintro a1 w1 ⟨_, τ, hK, hR1⟩
    obtain ⟨hev, fn, tmps, assign, body, hy, hround⟩ := hY τ a1 w1 hK hR1
    unfold wpListIn
    rw [if_pos (by unfold Region.wanted; rw [hog])]
    have hrun : (execOp a1.eval o).run C.P w1 = .ok (.round l fn tmps assign body) w1 := by
      rw [← hy]
      unfold execOp
      rw [hoc]
      simp only [resolve, hcc, hev, Deferred.ofValue, Sem.run_bind, Sem.run_pure, Result.andThen, invoke]
      simp
    refine ⟨fun _ _ => trivial, ?_⟩
    rw [show o.semAt none a1.eval = execOp a1.eval o from rfl, hrun]
    refine ⟨(fun h => by cases h), hround.mono fun e w2 he => ?_⟩
    obtain ⟨b, rfl, fr, Q2, hS, hv, hQ2⟩ := he
    show wpListIn _ _ _ _ _ _ (a1.put o.dst (.bool b)) w2
    rw [hod]
    have hb : ∀ o' ∈ ops.toList.drop (n + 1), o' ∈ ops.toList := fun o' ho' => List.mem_of_mem_drop ho'
    have hs2 := segs_sound (C := cw C.P C.N w2) (ops := ops) (K := Q2) (Q := fun e a w => e = .normal ∧ ∃ τ, Q2 τ ∧ Rel (cw C.P C.N w2) τ a w) (fun σ' a' w' hK hR' => ⟨rfl, σ', hK, hR'⟩) s2 (grp ops (ops.toList.drop (n + 1))) ⟨fr, [], [], PH.no⟩ _ w2 h2 (hmem _ hb) (hS.rel w2) hv
    rw [grp_flat] at hs2
    have := listIn_app (Q := Q) (L2 := []) none (fun a w h => by cases h.1) (fun c a w h => by cases h.1) (fun a w h => by
      obtain ⟨_, τ2, q1, q2⟩ := h
      exact hQ2 τ2 a w q1 q2) _ _ w2 (fun o ho => hpl o (by simpa using hb o ho)) hs2
    rwa [List.append_nil] at this
  · have := segs_sound (C := C) (ops := ops) (K := K1) (Q := fun e a w => e = .normal ∧ ∃ τ, K1 τ ∧ Rel C τ a w) (fun σ' a' w' hK hR' => ⟨rfl, σ', hK, hR'⟩) s1 (grp ops (ops.toList.take n)) σ a w h1 (hmem _ fun o ho => List.mem_of_mem_take ho) hR hK1
    rwa [grp_flat] at this

/-! ### Parts of code -/
def atL : Code → Code
  | .seq a _ => a
  | .cond _ a _ => a
  | .block _ a => a
  | .loop a => a
  | c => c
def atR : Code → Code
  | .seq _ b => b
  | .cond _ _ b => b
  | c => c
def regOps : Code → Array Oper
  | .region _ ops _ => ops
  | _ => #[]
def regId : Code → Nat
  | .region id _ _ => id
  | _ => 0
end Go.Proofs.YtmjiojflncffeaaGreat.Vc

/- A loop over a function whose values may be structs: the rule. -/
set_option linter.unusedVariables false
set_option linter.unusedSimpArgs false
namespace Go.Proofs.YtmjiojflncffeaaGreat.Vc
open Go Go.Shelf

/-- The parameters of a round. -/
def parFrG : List Tmp → List GV → List (Nat × SV)
  | t :: ts, g :: gs => parFrG ts gs ++ [(t, .g g)]
  | _, _ => []
theorem parFrG_keep : ∀ (ts : List Tmp) (gs : List GV) (tm : Array Value) (t : Nat), look (parFrG ts gs) t = none → ((ts.zip (gs.map GV.val)).foldl (fun tm (p : Tmp × Value) => tm.setIfInBounds p.1 p.2) tm)[t]? = tm[t]?
  | [], gs, tm, t, _ => rfl
  | q :: ts, [], tm, t, _ => rfl
  | q :: ts, v :: gs, tm, t, h => by
    simp only [parFrG, look_app, Option.or_eq_none_iff, look] at h
    obtain ⟨h1, h2⟩ := h
    simp only [List.map_cons, List.zip_cons_cons, List.foldl_cons]
    rw [parFrG_keep ts gs _ t h1, Array.getElem?_setIfInBounds_ne]
    intro e
    rw [if_pos e.symm] at h2; cases h2
theorem parFrG_slot : ∀ (ts : List Tmp) (gs : List GV) (tm : Array Value), (∀ t ∈ ts, t < tm.size) → ∀ t x, look (parFrG ts gs) t = some x → ∃ g, x = .g g ∧ g ∈ gs ∧ ((ts.zip (gs.map GV.val)).foldl (fun tm (p : Tmp × Value) => tm.setIfInBounds p.1 p.2) tm)[t]? = some g.val
  | [], _, tm, _, t, x, h => by simp [parFrG, look] at h
  | _ :: _, [], tm, _, t, x, h => by simp [parFrG, look] at h
  | p :: ts, g :: gs, tm, hb, t, x, h => by
    simp only [parFrG, look_app] at h
    simp only [List.map_cons, List.zip_cons_cons, List.foldl_cons]
    have hb' : ∀ t ∈ ts, t < (tm.setIfInBounds p g.val).size := fun t ht => by rw [Array.size_setIfInBounds]; exact hb t (by simp [ht])
    cases h1 : look (parFrG ts gs) t with
    | some y =>
      rw [h1] at h
      simp only [Option.some_or, Option.some.injEq] at h
      subst h
      obtain ⟨g', e, hm, hv⟩ := parFrG_slot ts gs _ hb' t y h1
      exact ⟨g', e, by simp [hm], hv⟩
    | none =>
      rw [h1] at h
      simp only [Option.none_or, look] at h
      split at h
      · rename_i e
        cases h
        subst e
        exact ⟨g, rfl, by simp, by rw [parFrG_keep ts gs _ t h1, Array.getElem?_setIfInBounds_self_of_lt (hb t (by simp))]⟩
      · cases h
/-- Behind the assignment to the loop's left sides: plain slots; a variable that was made is handed out. -/
def asgQ2 (ph : List PH) (K : List PH → PH → List (Nat × SV) → Prop) : QT
  | .normal, τ => (∀ u ∈ ph, u ∈ τ.ph) ∧ ∃ fr1, frG fr1 ∧ (∀ t x, look fr1 t = some x → look τ.fr t = some x) ∧ K τ.ph τ.m fr1
  | _, _ => False
theorem asgQ2_ok {ph : List PH} {K : List PH → PH → List (Nat × SV) → Prop} : QOk (asgQ2 ph K) := fun _ h => h
theorem raw_roundsG {C : Ctx} {Q : QT} {fr : List (Nat × SV)} {ph0 : List PH} {m0 : PH} {code : Code} {t gf : Nat} {lb : List Value} {ui : PH} {encs : List (List GV)} (ns : List (Nat × Nat))
    (hc : code = .rangeFunc (.tmp t) (rfPs code) (rfAs code) (rfBd code)) (ht : look fr t = some (.g (.s (.func (.func gf) #[] lb.toArray)))) (eg : ∀ args w, (callFunc gf args).run C.P w = .ok (.enter gf args) w)
    (hfr : frG fr) (hui : ui ∈ ph0) (hit : Iter C.P gf lb ui (encs.map fun x => x.map GV.val)) (hps : ∀ x ∈ encs, x.length = (rfPs code).size) (hone : ∀ x ∈ encs, ∀ g ∈ x, g.ok) (hpb : ∀ t ∈ (rfPs code).toList, t < C.N)
    (cA cB : Cd) (hA : comp C.P C.N ns (rfAs code) = er cA) (hA1 : noRaw cA = true) (hA2 : plainC (rfAs code) = true) (hB : comp C.P C.N ns (rfBd code) = er cB) (hB1 : noRaw cB = true) (hB2 : plainC (rfBd code) = true)
    (I : Nat → List PH → PH → Prop) (Ix : Exit → List PH → PH → Prop) (h0 : I 0 ph0 m0)
    (hround : ∀ i x (w' : World) (m' : PH) ph m, encs[i]? = some x → (∀ b o, C.u0 b = some o → (⟨C.P, C.N, w', m'⟩ : Ctx).u0 b = some o) → (∀ u ∈ ph0, u ∈ ph) → I i ph m →
      vc ⟨C.P, C.N, w', m'⟩ cA (asgQ2 ph fun ph1 m1 fr1 => ∀ (w2 : World) (m2 : PH), (∀ b o, C.u0 b = some o → (⟨C.P, C.N, w2, m2⟩ : Ctx).u0 b = some o) → vc ⟨C.P, C.N, w2, m2⟩ cB (bodyQ ⟨fr, [], ph0, m0⟩ (I (i + 1)) Ix) ⟨fr1, [], ph1, m1⟩) ⟨parFrG (rfPs code).toList x ++ fr, [], ph, m⟩)
    (hdone : ∀ u ph m, (∀ u ∈ ph0, u ∈ ph) → I encs.length ph m → Q .normal ⟨fr, [], u :: ph, m⟩)
    (hstop : ∀ e c u ph m, jumpOf e = some c → (∀ u ∈ ph0, u ∈ ph) → Ix e ph m → Q e ⟨fr, [], u :: ph, m⟩) : vc C (.raw code) Q ⟨fr, [], ph0, m0⟩ := by
  intro act w hR
  obtain ⟨loc, hF, hH⟩ := hR
  have hev : act.eval (.tmp t) = .func (.func gf) #[] lb.toArray := by
    obtain ⟨v, hv, hr⟩ := hF.slots t _ ht
    obtain ⟨_, rfl⟩ := hr
    simp [Act.eval, hv, GV.val]
  rw [hc]
  refine (wpIn_wide (n := 0)).1 (wpIn_rangeFunc ?_)
  intro fn _
  generalize hpsE : rfPs code = ps at *
  generalize hasE : rfAs code = assign at *
  generalize hbdE : rfBd code = body at *
  obtain ⟨rec, hrec⟩ : ∃ rec : LoopState → Option Code → Loop, rec = fun st pe => { state := st, pending := pe, fn, tmps := act.tmps, params := ps, assign, body, defers := w.heap.size } := ⟨_, rfl⟩
  obtain ⟨W1, hW1⟩ : ∃ W1, (w.alloc (.deferred (some []))).alloc (.loop (rec .ready none)) = W1 := ⟨_, rfl⟩
  have hk1 : Kept PH.no w W1 := by rw [← hW1]; exact kept_trans (kept_alloc _ _) (kept_alloc _ _)
  have hsz : W1.heap.size = w.heap.size + 2 := by rw [← hW1, World.size_alloc, World.size_alloc]
  have hL1 : W1.heap[w.heap.size + 1]? = some (.loop (rec .ready none)) := by
    rw [← hW1]; have := World.alloc_heap_new (w.alloc (.deferred (some []))) (.loop (rec .ready none)); rwa [World.size_alloc] at this
  have hK1 : W1.heap[w.heap.size]? = some (.deferred (some [])) := by
    rw [← hW1]
    have h2 := (kept_alloc (w.alloc (.deferred (some []))) (.loop (rec .ready none))).2.2.2.2 w.heap.size (by rw [World.size_alloc]; omega) rfl
    rw [h2]
    exact World.alloc_heap_new w _
  have hw0 : C.w0.heap.size ≤ w.heap.size := hH.kept.2.2.2.1
  obtain ⟨l, hl⟩ : ∃ l, w.heap.size + 1 = l := ⟨_, rfl⟩
  obtain ⟨D, hD⟩ : ∃ D, w.heap.size = D := ⟨_, rfl⟩
  -- what stands between two rounds
  obtain ⟨J, hJ⟩ : ∃ J : Nat → World → Prop, J = fun i W => ∃ ph m, (∀ u ∈ ph0, u ∈ ph) ∧ I i ph m ∧ HR C loc [] ph m W ∧ (m l = none ∧ ∀ u ∈ ph, u l = none) ∧ (m D = none ∧ ∀ u ∈ ph, u D = none) ∧ W.heap[l]? = some (.loop (rec .ready none)) ∧ W.heap[D]? = some (.deferred (some [])) := ⟨_, rfl⟩
  obtain ⟨Jx, hJx⟩ : ∃ Jx : World → Prop, Jx = fun W => ∃ e c ph m, jumpOf e = some c ∧ (∀ u ∈ ph0, u ∈ ph) ∧ Ix e ph m ∧ HR C loc [] ph m W ∧ (m l = none ∧ ∀ u ∈ ph, u l = none) ∧ (m D = none ∧ ∀ u ∈ ph, u D = none) ∧ W.heap[l]? = some (.loop (rec .done (some c))) ∧ W.heap[D]? = some (.deferred (some [])) := ⟨_, rfl⟩
  have hlD : l ≠ D := by omega
  have fresh : ∀ {b : Nat}, w.heap.size ≤ b → m0 b = none ∧ ∀ u ∈ ph0, u b = none := fun {b} hb => by
    have hn : w.heap[b]? = none := Array.getElem?_eq_none hb
    refine ⟨?_, fun u hu => ?_⟩
    · cases hm : m0 b with
      | none => rfl
      | some o => have := hH.mle b o hm; rw [hn] at this; cases this
    · cases hm : u b with
      | none => rfl
      | some o => have := (hH.phs u hu).1 b o hm; rw [hn] at this; cases this
  have kept_at : ∀ {W W' : World} {k : Nat} {o : Obj}, Kept PH.no W W' → W.heap[k]? = some o → W'.heap[k]? = some o := fun {W W' k o} hk h => by
    rw [hk.2.2.2.2 k (Array.getElem?_eq_some_iff.1 h).1 rfl]; exact h
  refine ⟨w.heap.size + 1, [{ target := .collected w.heap.size, args := #[] }], W1, { target := .fn (.func gf) lb.toArray, args := #[.func (.yield (w.heap.size + 1)) #[] #[]] }, W1, gf,
    #[.func (.yield (w.heap.size + 1)) #[] #[]] ++ lb.toArray, W1, ?_, ?_, ?_, ?_, (fun h => by cases h), ?_⟩
  · rw [← hW1, hrec]; exact run_enterLoop_outer _ _ _ _ _
  · simp only [resolve, hev]
    simp [go_sem]
  · intro f' _; trivial
  · simp [invoke, go_sem, eg]
  rw [hl, hD]
  rw [hl] at hL1
  rw [hD] at hK1
  refine (hit l J Jx W1 ?_ ?_ ?_ ?_ ?_).mono ?_
  · exact fun b o hb => kept_at hk1 ((hH.phs ui hui).1 b o hb)
  · intro i W W' h hk
    rw [hJ] at h ⊢
    obtain ⟨ph, m, q1, q2, q3, q4, q5, q6, q7⟩ := h
    exact ⟨ph, m, q1, q2, q3.grown hk, q4, q5, kept_at hk q6, kept_at hk q7⟩
  · intro W W' h hk
    rw [hJx] at h ⊢
    obtain ⟨e, c, ph, m, q0, q1, q2, q3, q4, q5, q6, q7⟩ := h
    exact ⟨e, c, ph, m, q0, q1, q2, q3.grown hk, q4, q5, kept_at hk q6, kept_at hk q7⟩
  · -- one round
    intro i x W hx h
    rw [List.getElem?_map] at hx
    obtain ⟨y, hy0, rfl⟩ := Option.map_eq_some_iff.1 hx
    clear hx
    rw [hJ] at h
    obtain ⟨ph, m, q1, q2, q3, q4, q5, q6, q7⟩ := h
    have hxm : y ∈ encs := List.mem_of_getElem? hy0
    have hy := run_yield (P := C.P) (args := (y.map GV.val).toArray) q6 (by rw [hrec]; simpa using hps y hxm)
    rw [hrec] at hy
    refine ⟨fn, _, assign, body, hy, roundIn_of_wpIn trivial ?_⟩
    have htm : (ps.zip (y.map GV.val).toArray).foldl (fun tmps (t, a) => tmps.setIfInBounds t a) act.tmps = (ps.toList.zip (y.map GV.val)).foldl (fun tm (p : Tmp × Value) => tm.setIfInBounds p.1 p.2) act.tmps := by
      rw [← Array.foldl_toList, Array.toList_zip]
    rw [htm]
    have hF0 : FR loc C.N (parFrG ps.toList y ++ fr) [] ph { tmps := (ps.toList.zip (y.map GV.val)).foldl (fun tm (p : Tmp × Value) => tm.setIfInBounds p.1 p.2) act.tmps, defers := [] } := by
      refine ⟨Marks.nil _, by simp only; rw [foldl_size]; exact hF.size, fun t sv hy => ?_⟩
      rw [look_app] at hy
      cases h1 : look (parFrG ps.toList y) t with
      | some z =>
        rw [h1] at hy
        simp only [Option.some_or, Option.some.injEq] at hy
        subst hy
        obtain ⟨g, rfl, hv, hval⟩ := parFrG_slot ps.toList y act.tmps (fun t ht => by rw [hF.size]; exact hpb t ht) t z h1
        exact ⟨g.val, hval, hone y hxm g hv, rfl⟩
      | none =>
        rw [h1] at hy
        simp only [Option.none_or] at hy
        obtain ⟨g, rfl⟩ := hfr t sv hy
        obtain ⟨v, hv, hr⟩ := hF.slots t _ hy
        exact ⟨v, by simp only; rw [parFrG_keep _ _ _ _ h1]; exact hv, hr⟩
    have hA' := vc_sound_round (C := cx C ph m W) ns (some l) cA assign _ ⟨parFrG ps.toList y ++ fr, [], ph, m⟩ _ W hA hA1 hA2 asgQ2_ok (hround i y W (baseOf ph m W) ph m hy0 q3.u0_up q1 q2) ⟨loc, hF0, q3.rebase loc⟩
    refine wpIn_mono hA' fun e a1 W1' hq => ?_
    obtain ⟨σ1, hq1, loc1, hF1, hH1⟩ := hq
    cases e with
    | normal =>
      obtain ⟨g0, fr1, hf1, e3, hK⟩ := hq1
      have h2 : HR C loc [] σ1.ph σ1.m W1' := q3.unbase hH1
      have hl2 := (q3.rebase loc).other hH1 q6 q4.1 q4.2
      have hd2 := (q3.rebase loc).other hH1 q7 q5.1 q5.2
      have hap1 := q3.apart' hH1 (Array.getElem?_eq_some_iff.1 q6).1 q4.1 q4.2
      have hapD1 := q3.apart' hH1 (Array.getElem?_eq_some_iff.1 q7).1 q5.1 q5.2
      refine ⟨_, run_beginRound hl2 (by rw [hrec]), ?_⟩
      have hlt2 : l < W1'.heap.size := (Array.getElem?_eq_some_iff.1 hl2).1
      have h3 := h2.put_other loc (.loop { rec .ready none with state := .busy }) hap1.1 hap1.2 (by omega)
      have hl3 : (W1'.putObj l (.loop { rec .ready none with state := .busy })).heap[l]? = some (.loop { rec .ready none with state := .busy }) := World.putObj_heap_same hlt2
      have hd3 : (W1'.putObj l (.loop { rec .ready none with state := .busy })).heap[D]? = some (.deferred (some [])) := (World.putObj_heap_other (Ne.symm hlD)).trans hd2
      generalize W1'.putObj l (.loop { rec .ready none with state := .busy }) = W2 at h3 hl3 hd3 ⊢
      have hFb : FR loc C.N fr1 [] σ1.ph a1 := by
        refine ⟨hF1.defers, hF1.size, fun t y hy => ?_⟩
        obtain ⟨g, rfl⟩ := hf1 t y hy
        exact hF1.slots t _ (e3 t _ hy)
      have hBq := vc_sound_round (C := cx C σ1.ph σ1.m W2) ns (some l) cB body (bodyQ ⟨fr, [], ph0, m0⟩ (I (i + 1)) Ix) ⟨fr1, [], σ1.ph, σ1.m⟩ a1 W2 hB hB1 hB2 bodyQ_ok (hK W2 (baseOf σ1.ph σ1.m W2) h3.u0_up) ⟨loc, hFb, h3.rebase loc⟩
      refine wpIn_mono hBq fun e a3 W3 hq => ?_
      obtain ⟨τ, hq3, loc3, hF3, hH3⟩ := hq
      have hl4 := (h3.rebase loc).other hH3 hl3 hap1.1 hap1.2
      have hd4 := (h3.rebase loc).other hH3 hd3 hapD1.1 hapD1.2
      have hap := h3.apart' hH3 (Array.getElem?_eq_some_iff.1 hl3).1 hap1.1 hap1.2
      have hapD := h3.apart' hH3 (Array.getElem?_eq_some_iff.1 hd3).1 hapD1.1 hapD1.2
      have h5 : HR C loc [] τ.ph τ.m W3 := h3.unbase hH3
      have hlt4 : l < W3.heap.size := (Array.getElem?_eq_some_iff.1 hl4).1
      have stop : ∀ (e : Exit) (c : Code), jumpOf e = some c → (∀ u ∈ ph0, u ∈ τ.ph) → Ix e τ.ph τ.m → ∃ v w', (Instr.endRound l (some c)).run C.P W3 = .ok v w' ∧ ((Ending.returned v = .returned (.bool true) ∧ J (i + 1) w' ∧ ui.le w') ∨ (Ending.returned v = .returned (.bool false) ∧ Jx w')) := fun e c hj g1 g2 => by
        refine ⟨_, _, run_endRound (some c) hl4, .inr ⟨rfl, ?_⟩⟩
        rw [hJx]
        refine ⟨e, c, τ.ph, τ.m, hj, g1, g2, h5.put_other loc _ hap.1 hap.2 (by omega), hap, hapD, ?_, (World.putObj_heap_other (Ne.symm hlD)).trans hd4⟩
        rw [World.putObj_heap_same hlt4, hrec]
        rfl
      cases e with
      | normal =>
        obtain ⟨g1, g2⟩ := hq3
        refine ⟨_, _, run_endRound none hl4, .inl ⟨rfl, ?_, ?_⟩⟩
        · rw [hJ]
          refine ⟨τ.ph, τ.m, g1, g2, h5.put_other loc _ hap.1 hap.2 (by omega), hap, hapD, ?_, (World.putObj_heap_other (Ne.symm hlD)).trans hd4⟩
          rw [World.putObj_heap_same hlt4, hrec]
          rfl
        · exact ((h5.put_other loc _ hap.1 hap.2 (by omega)).phs ui (g1 ui hui)).1
      | ret => exact stop .ret .ret rfl hq3.1 hq3.2
      | exit id => exact stop (.exit id) (.exit id) rfl hq3.1 hq3.2
      | goto l => exact hq3.elim
      | panic c => exact hq3.elim
      | outgrown => exact hq3.elim
    | _ => exact hq1.elim
  · rw [hJ]
    exact ⟨ph0, m0, fun _ h => h, h0, hH.grown hk1, fresh (by omega), fresh (by omega), hL1, hK1⟩
  · have mark : ∀ {ph : List PH} {m : PH} {W : World} {o : Obj}, (∀ u ∈ ph0, u ∈ ph) → HR C loc [] ph m W → (m l = none ∧ ∀ u ∈ ph, u l = none) → (m D = none ∧ ∀ u ∈ ph, u D = none) → W.heap[D]? = some (.deferred (some [])) →
        Rel C ⟨fr, [], one D (.deferred (some [])) :: ph, m⟩ { act with defers := [{ target := .collected D, args := #[] }] ++ act.defers } (W.putObj l o) := by
      intro ph m W o g1 g2 g3 g4 g5
      have hp := hF.plain (loc' := loc) (pv' := []) (ph' := one D (.deferred (some [])) :: ph) hfr (fun u hu => List.mem_cons_of_mem _ (g1 u hu))
      refine ⟨loc, ⟨⟨List.pairwise_cons.2 ⟨fun d hd => ?_, hF.defers.1⟩, fun d hd => ?_⟩, hp.size, hp.slots⟩, (g2.put_other loc o g3.1 g3.2 (by omega)).add ((World.putObj_heap_other (Ne.symm hlD)).trans g5) g4.1 (by omega)⟩
      · obtain ⟨D', u, h1, h2, h3⟩ := hF.defers.2 d hd
        rw [h1]
        intro e
        have e : D = D' := by simpa using e
        have := (fresh (b := D') (by omega)).2 u h2
        rw [h3] at this; cases this
      · rcases List.mem_cons.1 hd with rfl | hd
        · exact ⟨D, one D (.deferred (some [])), rfl, by simp, by simp [one]⟩
        · exact hp.defers.2 d hd
    rintro e W2 ⟨⟨v, rfl⟩, (h | h)⟩
    · rw [hJ] at h
      obtain ⟨ph, m, q1, q2, q3, q4, q5, q6, q7⟩ := h
      rw [List.length_map] at q2
      refine ⟨none, _, (by have := run_endLoop (P := C.P) q6 (by rw [hrec]; simp); rw [hrec] at this; exact this), ?_⟩
      exact ⟨_, hdone _ ph m q1 q2, mark q1 q3 q4 q5 q7⟩
    · rw [hJx] at h
      obtain ⟨e, c, ph, m, q0, q1, q2, q3, q4, q5, q6, q7⟩ := h
      refine ⟨some c, _, (by have := run_endLoop (P := C.P) q6 (by rw [hrec]; simp); rw [hrec] at this; exact this), ?_⟩
      cases e with
      | ret => cases q0; exact wpIn_ret ⟨_, hstop .ret _ _ ph m rfl q1 q2, mark q1 q3 q4 q5 q7⟩
      | exit id => cases q0; exact wpIn_exit ⟨_, hstop (.exit id) _ _ ph m rfl q1 q2, mark q1 q3 q4 q5 q7⟩
      | _ => cases q0
end Go.Proofs.YtmjiojflncffeaaGreat.Vc

/- The code of some functions of the program, its types resolved: printed by a program of this claim. -/
set_option linter.unusedVariables false
set_option maxRecDepth 100000
namespace Go.Proofs.YtmjiojflncffeaaGreat.Vc
open Go Go.Proofs

abbrev f_oplog_Log_Ops : Nat := 24
def c_oplog_Log_Ops : Cd :=
 (.seq (.rg [⟨none, [(some 2, .mv (.c .nilFunc))]⟩] [0])
 (.seq (.rg [⟨none, [(some 3, .new 79 (.s (.slice none 0 0)))]⟩] [0, 3])
 (.seq (.seq (.rg [⟨none, [(some 4, .mv (.t 0)), (some 5, .call 35 [(.t 4)]), (some 6, .un .not (.t 5))]⟩] [0, 3, 6])
 (.ite (.t 6)
 (.rg [⟨none, [(some 7, .mv (.t 0)), (some 8, .nilc (.t 7)), (some 9, .fldA (.t 8) 3 3), (some 10, .ld (.t 9) 1 false), (some 11, .call 43 [(.t 10)]), (none, .st (.t 3) (.t 11) 1)]⟩] [3])
 .skip))
 (.seq (.rg [⟨none, [(none, .gh), (some 12, .mkf 61 [(.t 3)]), (some 2, .mv (.t 12))]⟩] [2])
 .ret))))
theorem k_oplog_Log_Ops : Ok Tryz.prog 24 c_oplog_Log_Ops 13 [] [.tmp 2] := Ok.mk' Tryz.func24 (by kernel_rfl) (by kernel_rfl) (by kernel_rfl)

abbrev f_oplog_Log_Ops_1 : Nat := 61
end Go.Proofs.YtmjiojflncffeaaGreat.Vc

/- What Ops answers is an iterator over the operations that it captured. -/
set_option linter.unusedVariables false
set_option linter.unusedSimpArgs false
set_option maxRecDepth 100000
namespace Go.Proofs.YtmjiojflncffeaaGreat.Vc
open Go Go.Proofs Go.Shelf

theorem ops_spec {w : World} {u : PH} (hu : u.le w) {b : Nat} {L Lb : Lay} {p : PL} (hL : LogM u b L Lb p) (hl : p.ds.length ≤ 549755813888) :
    Spec Tryz.prog f_oplog_Log_Ops [ptr b] PH.no w fun rs m' => ∃ bo e v, rs = [.s (.func (.func f_oplog_Log_Ops_1) #[] #[ptr bo])] ∧ m' bo = some (.cells #[v] e (0, 0)) ∧ SlR m' v 22 (p.ds.map gDone) := by
  refine spec_of k_oplog_Log_Ops [.g (.s (ptr b))] (by simp) (by simp [AV.ok, GV.ok, Value.oneCell', ptr]) ?_
  obtain ⟨ov, mT, mB, hS, _, _, hs⟩ := hL.look
  simp (maxSteps := 2000000) only [c_oplog_Log_Ops, ptr, vc_seq, vc_rg, thenQ_n, kKeep_eq, segs_nil, segs_n, ops_nil, ops_cons, vcOp, ev, look, updL, put_mk, keep_mk, keepL, Value.oneCell', cond_true, ↓reduceIte, reduceCtorEq, Bool.true_and, true_and, initF, initP, ptr]
  refine call_ism _ [.s (.bool false)] rfl rfl (fun w' vs hv hw _ _ => ?_) ?_
  · obtain ⟨vs, rfl, _, hv⟩ := argsV_g hv
    obtain rfl := argsV_nil hv
    exact logNone_spec (fun b o h => hw b o (by rw [u0_no]; exact hu b o h)) hL
  simp (maxSteps := 2000000) only [retS, vc_rg, vc_ite, thenQ_n, kKeep_eq, segs_nil, segs_n, ops_nil, ops_cons, vcOp, ev, look, put_mk, keep_mk, keepL, unV, Nat.reduceEqDiff, ↓reduceIte, reduceCtorEq, Nat.zero_add, Bool.not_false, ↓br_tt]
  refine ld_of _ (hs (kn_u hu)).2.2.2.1 rfl ?_
  simp (maxSteps := 2000000) only [ops_cons, vcOp, put_mk]
  refine call_ownm rfl rfl (Q := fun rs m' => ∃ v', rs = [.s v'] ∧ SlO m' v' 97 22 (p.ds.map gDone)) (fun w' vs hv hw _ _ => ?_) fun rs m1 _ hq _ => ?_
  · obtain ⟨vs, rfl, _, hv⟩ := argsV_g hv
    obtain rfl := argsV_nil hv
    exact cloneD_spec w' ov p.ds hl u (fun b o h => hw b o (by rw [u0_no]; exact hu b o h)) hS
  obtain ⟨v1, rfl, hs1⟩ := hq
  have hv1 := hs1.one
  simp (maxSteps := 2000000) only [retS, uni_no_r, vc_seq, vc_rg, thenQ_n, kKeep_eq, segs_nil, segs_n, ops_nil, ops_cons, vcOp, ev, look, updL, put_mk, put_mk0, keep_mk, keepL, GV.getT, GV.sz, GV.same, GV.setT, Nat.reduceEqDiff, ↓reduceIte, reduceCtorEq, Bool.and_true, Bool.true_and, true_and, and_true]
  refine gh_pubBox 3 3 rfl rfl fun v u2 hv hp hd => ?_
  obtain ⟨hok, bo, e, rfl, rfl⟩ := hp
  simp (maxSteps := 2000000) only [dropK, vc_ret, thenQ_n, kKeep_eq, finQ_r, segs_nil, ops_nil, ops_cons, vcOp, ev, evL, scL, look, put_mk, keep_mk, keepL, cond_true, ↓reduceIte, BEq.rfl, Option.map_some, kill, SV.mentions]
  exact fin_m (rs := [.s (.func (.func f_oplog_Log_Ops_1) #[] #[ptr bo])]) _ rfl (fun _ _ h => h) ⟨bo, e, v1, rfl, by simp [uni, one, GV.flat], hs1.toR.up (sub_uni_r hd)⟩

def encD (x : Done) : List GV := [gOp x.op, .s (.bool x.taken)]
def encV (x : Done) : List Value := (encD x).map GV.val
theorem seen_c1 {C : Ctx} {ph : List PH} {m u : PH} (hk : KN C.u0 (m :: ph) u) {b : Nat} {cs : Array Value} {e : TypeId} {fz : Nat × Nat} (h : u b = some (.cells cs e fz)) {j : Nat} {v : Value} (hj : cs[j]? = some v) (hv : v.oneCell' = true) : Seen C ph m b j (.s v) := seen_cell hk h hj hv
noncomputable def o1W : Code := Tryz.f61.body.getD .skip
noncomputable def o1X : Code := atL (atL (atR o1W))
noncomputable def o1R : Code := atR (atR o1X)
noncomputable def o1S : Code := atL (atL o1R)
noncomputable def o1Y : Code := atL (atR o1S)
theorem o1_shape : o1W = .seq (atL o1W) (.block 0 (.loop (.seq (atL o1X) (.seq (.cond (.tmp 8) .skip (.exit 0)) (.seq (.block 1 (.seq (atL o1S) (.seq (.region (regId o1Y) (regOps o1Y) false) (.cond (.tmp 17) .ret .skip)))) (atR o1R)))))) := by kernel_rfl
theorem o1_ops : (regOps o1Y).all (dstOk 19) = true ∧ (regOps o1Y).all (guardOk (regOps o1Y)) = true ∧ (regOps o1Y).all plainO = true := ⟨by kernel_rfl, by kernel_rfl, by kernel_rfl⟩
noncomputable def o1o : Oper := ((regOps o1Y).toList[5]?).getD default
noncomputable def o1c : Call := match o1o.op with | .call c => c | _ => default
theorem o1_o : (regOps o1Y).toList.drop 5 = o1o :: (regOps o1Y).toList.drop 6 := by kernel_rfl
theorem o1_call : o1o.op = .call o1c ∧ o1o.guard = none ∧ o1o.dst = some 16 ∧ o1c.callee = .value (.tmp 11) ∧ o1c.args = #[.tmp 13, .tmp 15] := ⟨by kernel_rfl, by kernel_rfl, by kernel_rfl, by kernel_rfl, by kernel_rfl⟩

theorem slots_eval {N : Nat} {fr : List (Nat × SV)} {a : Act} (h : Slots N fr a) {t : Nat} {v : Value} (ht : look fr t = some (.g (.s v))) : a.eval (.tmp t) = v := by
  obtain ⟨g, e, _, h2⟩ := h.at' t _ ht
  cases e
  simp [Act.eval, h2, GV.val]
theorem slots_evalG {N : Nat} {fr : List (Nat × SV)} {a : Act} (h : Slots N fr a) {t : Nat} {g : GV} (ht : look fr t = some (.g g)) : a.eval (.tmp t) = g.val := by
  obtain ⟨g', e, _, h2⟩ := h.at' t _ ht
  cases e
  simp [Act.eval, h2]
theorem frG_of {fr : List (Nat × SV)} (h : fr.all (fun p => match p.2 with | .g _ => true | _ => false) = true) : frG fr := by
  intro t x hx
  induction fr with
  | nil => simp [look] at hx
  | cons p fr ih =>
    obtain ⟨k, y⟩ := p
    simp only [List.all_cons, Bool.and_eq_true] at h
    simp only [look] at hx
    split at hx
    · cases hx
      cases x with
      | g x => exact ⟨x, rfl⟩
      | _ => simp at h
    · exact ih h.2 hx
/-- The slots at the head of the loop. -/
def hd1 (yv v : Value) (n i : Nat) : List (Nat × SV) := [(0, .g (.s yv)), (5, .g (.s v)), (6, .g (.s (.int .i64 (n)))), (7, .g (.s (.int .i64 (i))))]
theorem o1_c0 (w : World) (ui : PH) (hu : ui.le w) {b : Nat} {e : TypeId} {v yv : Value} {n : Nat} {a : Option Addr} {c : Nat} (hv : v = .slice a n c) (hb : ui b = some (.cells #[v] e (0, 0))) :
    vc (cw Tryz.prog 19 w) (.rg [⟨none, [(some 5, .ld (.t 1) 1 false), (some 6, .len (.t 5)), (some 7, .mv (.c (.int .i64 0)))]⟩] [0, 5, 6, 7]) (pieceQ fun e fr => e = .normal ∧ fr = hd1 yv v n 0) ⟨[(0, .g (.s yv)), (1, .g (.s (.pointer (some ⟨b, 0, none⟩))))], [], [], PH.no⟩ := by
  have hk : ∀ {l : List PH}, KN (⟨Tryz.prog, 19, w, PH.no⟩ : Ctx).u0 l ui := kn_u hu
  subst hv
  simp (maxSteps := 2000000) only [vc_rg, segs_n, ops_cons, vcOp, ev, look, ↓reduceIte, reduceCtorEq]
  refine ld_of (.s (.slice a n c)) (seen_c1 hk hb (j := 0) (v := .slice a n c) rfl rfl) rfl ?_
  simp (maxSteps := 2000000) only [kKeep_eq, segs_nil, ops_nil, ops_cons, vcOp, ev, look, put_mk, keep_mk, keepL, Value.oneCell', cond_true, Nat.reduceEqDiff, ↓reduceIte, reduceCtorEq]
  exact ⟨.inl rfl, rfl, hd1 yv (.slice a n c) n 0, frG_of rfl, ⟨rfl, rfl⟩, fun t x hx => by simpa [hd1] using hx⟩
theorem o1_cA (w : World) {v yv : Value} {n i : Nat} :
    vc (cw Tryz.prog 19 w) (.rg [⟨none, [(some 8, .bin .lss (.t 7) (.t 6))]⟩] [0, 5, 6, 7, 8]) (pieceQ fun e fr => e = .normal ∧ fr = (8, .g (.s (.bool (decide ((i : Int) < n))))) :: hd1 yv v n i) ⟨hd1 yv v n i, [], [], PH.no⟩ := by
  unfold hd1
  simp (maxSteps := 2000000) only [vc_rg, kKeep_eq, segs_nil, segs_n, ops_nil, ops_cons, vcOp, ev, look, put_mk, keep_mk, keepL, binV, binC, Nat.reduceEqDiff, ↓reduceIte, reduceCtorEq, Bool.true_and, true_and]
  exact ⟨.inl rfl, rfl, _, frG_of rfl, ⟨rfl, rfl⟩, fun t x hx => by
    simp only [look] at hx ⊢
    (repeat' split at hx) <;> simp_all⟩
theorem o1_cE (w : World) {v yv : Value} {n i : Nat} (hn : n ≤ 9223372036854775800) (hi : i < n) :
    vc (cw Tryz.prog 19 w) (.rg [⟨none, [(some 18, .bin .add (.t 7) (.c (.int .i64 1))), (some 7, .mv (.t 18))]⟩] [0, 5, 6, 7]) (pieceQ fun e fr => e = .normal ∧ fr = hd1 yv v n (i + 1)) ⟨hd1 yv v n i, [], [], PH.no⟩ := by
  unfold hd1
  simp (maxSteps := 2000000) only [vc_rg, kKeep_eq, segs_nil, segs_n, ops_nil, ops_cons, vcOp, ev, look, put_mk, keep_mk, keepL, binV, binC, Value.oneCell', cond_true, Nat.reduceEqDiff, ↓reduceIte, reduceCtorEq, Bool.true_and, true_and]
  rw [wrap_n (by omega)]
  exact ⟨.inl rfl, rfl, _, frG_of rfl, ⟨rfl, rfl⟩, fun t x hx => by simpa using hx⟩
/-- Ahead of the call of yield: the variable of the round. -/
theorem o1_cB (w : World) (ui : PH) (hu : ui.le w) {yv : Value} {b0 o0 c : Nat} {xs : List Done} (hS : SlR ui (.slice (some ⟨b0, o0, none⟩) xs.length c) 22 (xs.map gDone)) {i : Nat} (hi : i < xs.length) :
    vc (cw Tryz.prog 19 w) (.rg [⟨none, [(some 9, .idxS (.t 5) (.t 7) 22), (some 10, .ld (.t 9) 22 true), (some 4, .new 97 (gDone zDone)), (none, .st (.t 4) (.t 10) 22)]⟩] [0, 4, 5, 6, 7])
      (fun e τ => e = .normal ∧ τ.ph = [] ∧ vcSegs (cw Tryz.prog 19 w) [⟨none, [(some 11, .mv (.t 0)), (some 12, .fldA (.t 4) 0 0), (some 13, .ld (.t 12) 8 true), (some 14, .fldA (.t 4) 1 8), (some 15, .ld (.t 14) 1 false)]⟩]
        (fun τ => τ.ph = [] ∧ ∀ t x, look ([(11, .g (.s yv)), (13, .g (gOp (xs.getD i zDone).op)), (15, .g (.s (.bool (xs.getD i zDone).taken)))] ++ hd1 yv (.slice (some ⟨b0, o0, none⟩) xs.length c) xs.length i) t = some x → look τ.fr t = some x) τ) ⟨hd1 yv (.slice (some ⟨b0, o0, none⟩) xs.length c) xs.length i, [], [], PH.no⟩ := by
  have hk : ∀ {l : List PH}, KN (⟨Tryz.prog, 19, w, PH.no⟩ : Ctx).u0 l ui := kn_u hu
  rcases hS.shape with ⟨h1, _⟩ | ⟨_, b, o, c', h2, h3, h4⟩
  · have : xs = [] := by simpa using h1
    subst this; simp at hi
  simp only [Value.slice.injEq, Option.some.injEq, List.length_map] at h2 h3
  obtain ⟨h2, _, rfl⟩ := h2
  cases h2
  have hseen := fun {C : Ctx} {ph : List PH} {m : PH} (hu : KN C.u0 (m :: ph) ui) => h4 hu i (gDone (xs.getD i zDone)) (by rw [List.getElem?_map, List.getD_eq_getElem?_getD, List.getElem?_eq_getElem hi]; rfl)
  generalize xs.getD i zDone = q at hseen ⊢
  unfold hd1
  simp (maxSteps := 2000000) only [vc_rg, segs_nil, segs_n, ops_nil, ops_cons, vcOp, ev, look, put_mk, rowD, Nat.reduceEqDiff, ↓reduceIte, reduceCtorEq, List.nil_append, List.cons_append, Nat.add_zero, Int.toNat_natCast]
  refine ⟨⟨by omega, by omega⟩, ld_of _ (hseen hk) rfl ?_⟩
  simp (maxSteps := 2000000) only [kKeep_eq, segs_nil, ops_nil, ops_cons, vcOp, ev, look, updL, put_mk, put_mk0, keep_mk, keepL, GV.getT, Nat.reduceEqDiff, ↓reduceIte, reduceCtorEq, List.nil_append, Bool.and_true, Bool.true_and, Bool.not_false, true_and, and_true, getT_nil, setT_nil, fits_s, gOp_fits, gDone_sz, gDone_same, gDone_fld0, gDone_get0, gDone_fld1, gDone_get1]
  intro t x hx
  (repeat' split at hx) <;> simp_all
theorem o1_cY (w : World) {yv v : Value} {n i : Nat} {b : Bool} :
    vcSegs (cw Tryz.prog 19 w) [⟨none, [(some 17, .un .not (.t 16))]⟩] (fun τ => τ.ph = [] ∧ ∀ t x, look ((17, .g (.s (.bool !b))) :: hd1 yv v n i) t = some x → look τ.fr t = some x) ⟨(16, .g (.s (.bool b))) :: hd1 yv v n i, [], [], PH.no⟩ := by
  unfold hd1
  simp (maxSteps := 2000000) only [segs_nil, segs_n, ops_nil, ops_cons, vcOp, ev, look, put_mk, unV, ↓reduceIte, Bool.true_and, true_and]
  intro t x hx
  (repeat' split at hx) <;> simp_all

theorem hd1_key {yv v : Value} {n i : Nat} {t : Nat} {x : SV} (h : look (hd1 yv v n i) t = some x) : t = 0 ∨ t = 5 ∨ t = 6 ∨ t = 7 := by
  simp only [hd1, look] at h
  split at h
  · exact .inl ‹_›
  · split at h
    · exact .inr (.inl ‹_›)
    · split at h
      · exact .inr (.inr (.inl ‹_›))
      · split at h
        · exact .inr (.inr (.inr ‹_›))
        · cases h
theorem look_pre {pre fr : List (Nat × SV)} {t : Nat} {x : SV} (h : look fr t = some x) (hn : look pre t = none) : look (pre ++ fr) t = some x := by
  rw [look_app, hn, h]; rfl
theorem Slots.sub {N : Nat} {fr fr' : List (Nat × SV)} {a : Act} (h : Slots N fr a) (hs : ∀ t x, look fr' t = some x → look fr t = some x) : Slots N fr' a := ⟨h.defers, h.size, fun t x hx => h.at' t x (hs t x hx)⟩
theorem ops1_iter (ui : PH) {b : Nat} {e : TypeId} {v : Value} {xs : List Done} (hb : ui b = some (.cells #[v] e (0, 0))) (hS : SlR ui v 22 (xs.map gDone)) (hl : xs.length ≤ 9223372036854775800) :
    Iter Tryz.prog f_oplog_Log_Ops_1 [ptr b] ui (xs.map encV) := by
  intro l J Jx W hu hJ hJx hY h0
  obtain ⟨yv, hyv⟩ : ∃ yv : Value, yv = .func (.yield l) #[] #[] := ⟨_, rfl⟩
  have hy1 : yv.oneCell' = true := by rw [hyv]; rfl
  obtain ⟨a0, c0, hv⟩ := slr_len hS
  rw [List.length_map] at hv
  have hbody : Tryz.f61.body = some o1W := by kernel_rfl
  refine callsIn_of_wp_marks Tryz.func61 hbody trivial ?_ rfl
  -- the end
  have fin : ∀ (fr : List (Nat × SV)) (a : Act) (w : World), Slots 19 fr a → (J xs.length w ∨ Jx w) → LeavesInM Fence.wide 0 Tryz.prog Tryz.f61 a.tmps (fun e W' => (∃ v, e = .returned v) ∧ (J (xs.map encV).length W' ∨ Jx W')) a.defers .returning w := fun fr a w hs h => by
    rw [hs.defers]
    have hres := (results_run (fn := Tryz.f61) (hs.rel (P := Tryz.prog) w) (rv := []) (rs := []) (by kernel_rfl) rfl).2
    exact ⟨_, hres, ⟨_, rfl⟩, by rw [List.length_map]; exact h⟩
  have hN : Tryz.f61.ntmps = 19 := by kernel_rfl
  have hs0 : Slots 19 [(0, .g (.s yv)), (1, .g (.s (.pointer (some ⟨b, 0, none⟩))))] { tmps := #[Value.func (.yield l) #[] #[]] ++ [ptr b].toArray ++ Array.replicate (Tryz.f61.ntmps - (#[Value.func (.yield l) #[] #[]] ++ [ptr b].toArray).size) undef, defers := [] } := by
    refine ⟨rfl, by rw [hN]; simp, fun t x hx => ?_⟩
    simp only [look] at hx
    split at hx
    · rename_i ht; subst ht; cases hx; exact ⟨_, rfl, hy1, by rw [hyv]; simp [GV.val]⟩
    · split at hx
      · rename_i ht; subst ht; cases hx; exact ⟨_, rfl, rfl, by simp [GV.val, ptr]⟩
      · cases hx
  rw [o1_shape]
  refine wpIn_seq (piece (P := Tryz.prog) (N := 19) (ns := []) (cd := .rg [⟨none, [(some 5, .ld (.t 1) 1 false), (some 6, .len (.t 5)), (some 7, .mv (.c (.int .i64 0)))]⟩] [0, 5, 6, 7]) (by kernel_rfl) rfl (by kernel_rfl) hs0 (o1_c0 W ui hu hv hb) fun e fr' a1 W1 hR hs1 hk1 _ => ?_)
  obtain ⟨rfl, rfl⟩ := hR
  have keep : ∀ {w w' : World}, ui.le w → Kept PH.no w w' → ui.le w' := fun {w w'} h hk b o hb => by
    have := h b o hb
    rw [hk.2.2.2.2 b (Array.getElem?_eq_some_iff.1 this).1 rfl]; exact this
  refine wpIn_block (wpIn_loop_ghost (fun k a w => ∃ i, i ≤ xs.length ∧ k = xs.length - i ∧ Slots 19 (hd1 yv v xs.length i) a ∧ ui.le w ∧ J i w) xs.length ⟨0, by omega, by omega, hs1, keep hu hk1, hJ 0 W W1 h0 hk1⟩ ?_)
  rintro k a w ⟨i, hi, rfl, hs, hui, hj⟩
  refine wpIn_seq (piece (P := Tryz.prog) (N := 19) (ns := []) (cd := .rg [⟨none, [(some 8, .bin .lss (.t 7) (.t 6))]⟩] [0, 5, 6, 7, 8]) (by kernel_rfl) rfl (by kernel_rfl) hs (o1_cA w) fun e fr' a2 w2 hR hs2 hk2 _ => ?_)
  obtain ⟨rfl, rfl⟩ := hR
  have hui2 := keep hui hk2
  have hj2 := hJ i w w2 hj hk2
  refine wpIn_seq (wpIn_cond_split (t := decide ((i : Int) < xs.length)) (slots_eval hs2 rfl) (fun ht => wpIn_skip ?_) (fun ht => wpIn_exit ?_))
  · have hlt : i < xs.length := by simpa using ht
    obtain ⟨b1, o1, c1, rfl⟩ : ∃ b1 o1 c1, v = .slice (some ⟨b1, o1, none⟩) xs.length c1 := by
      rcases hS.shape with ⟨h1, _⟩ | ⟨_, b1, o1, c1, h2, _⟩
      · have : xs = [] := by simpa using h1
        subst this; simp at hlt
      · rw [List.length_map] at h2
        exact ⟨b1, o1, c1, h2⟩
    have hs2' : Slots 19 (hd1 yv (.slice (some ⟨b1, o1, none⟩) xs.length c1) xs.length i) a2 := hs2.sub fun t x hx => look_pre (pre := [(8, _)]) hx (by rcases hd1_key hx with rfl | rfl | rfl | rfl <;> rfl)
    refine wpIn_seq (wpIn_block (wpIn_seq ?_))
    have hcB := vc_sound_round (C := cw Tryz.prog 19 w2) [] none _ (atL o1S) _ _ a2 w2 (by kernel_rfl) rfl (by kernel_rfl) (fun σ h => by cases h.1) (o1_cB w2 ui hui2 hS hlt) (hs2'.rel w2)
    refine wpIn_mono hcB fun e a3 w3 hq => ?_
    obtain ⟨τ, ⟨rfl, hph, hseg⟩, hrel⟩ := hq
    refine wpIn_seq (yield_reg (P := Tryz.prog) (N := 19) (C := cw Tryz.prog 19 w2) rfl rfl o1_ops.1 o1_ops.2.1 o1_ops.2.2 5 16 11 l o1o o1c o1_o o1_call.1 o1_call.2.1 o1_call.2.2.1 o1_call.2.2.2.1 _ [⟨none, [(some 17, .un .not (.t 16))]⟩] (by kernel_rfl) (by kernel_rfl) hrel _ hseg ?_)
    rintro τ1 a4 w4 ⟨hp1, hl1⟩ hr1
    obtain ⟨hs4, hk4⟩ := hr1.slots hp1 (frG_of rfl) hl1
    refine ⟨by rw [← hyv]; exact slots_eval hs4 rfl, ?_⟩
    have hargs : o1c.args.map a4.eval = (encV (xs.getD i zDone)).toArray := by
      rw [o1_call.2.2.2.2]
      simp only [List.map_toArray, List.map_cons, List.map_nil]
      rw [slots_evalG hs4 (t := 13) rfl, slots_evalG hs4 (t := 15) rfl]
      rfl
    rw [hargs]
    have hget : (xs.map encV)[i]? = some (encV (xs.getD i zDone)) := by
      rw [List.getElem?_map, List.getD_eq_getElem?_getD, List.getElem?_eq_getElem hlt]; rfl
    obtain ⟨fn, tmps, assign, body, hy, hround⟩ := hY i _ w4 hget (hJ i w2 w4 hj2 hk4)
    refine ⟨fn, tmps, assign, body, hy, hround.mono fun e w5 he => ?_⟩
    have putS : ∀ bb : Bool, Slots 19 ((16, .g (.s (.bool bb))) :: hd1 yv (.slice (some ⟨b1, o1, none⟩) xs.length c1) xs.length i) (a4.put (some 16) (.bool bb)) := fun bb => by
      refine ⟨hs4.defers, by simp [Act.put, hs4.size], fun t x hx => ?_⟩
      simp only [look] at hx
      split at hx
      · rename_i ht; subst ht; cases hx
        exact ⟨_, rfl, rfl, by simp only [Act.put]; rw [Array.getElem?_setIfInBounds_self_of_lt (by rw [hs4.size]; omega)]; rfl⟩
      · rename_i ht
        obtain ⟨g, rfl, h1, h2⟩ := hs4.at' t x (look_pre hx (by rcases hd1_key hx with rfl | rfl | rfl | rfl <;> rfl))
        exact ⟨g, rfl, h1, by simp only [Act.put]; rw [Array.getElem?_setIfInBounds_ne (fun e => ht e.symm)]; exact h2⟩
    rcases he with ⟨rfl, hj5, hui5⟩ | ⟨rfl, hjx⟩
    · refine ⟨true, rfl, _, _, putS true, o1_cY w5, fun τ2 a5 w6 hq2 hr2 => ?_⟩
      obtain ⟨hs6, hk6⟩ := hr2.slots hq2.1 (frG_of rfl) hq2.2
      refine wpIn_cond_split (t := !true) (slots_eval hs6 rfl) (fun ht => by cases ht) (fun ht => wpIn_skip ?_)
      have hs6' : Slots 19 (hd1 yv (.slice (some ⟨b1, o1, none⟩) xs.length c1) xs.length i) a5 := hs6.sub fun t x hx => look_pre (pre := [(17, _)]) hx (by rcases hd1_key hx with rfl | rfl | rfl | rfl <;> rfl)
      refine piece (P := Tryz.prog) (N := 19) (ns := []) (cd := .rg [⟨none, [(some 18, .bin .add (.t 7) (.c (.int .i64 1))), (some 7, .mv (.t 18))]⟩] [0, 5, 6, 7]) (code := atR o1R) (by kernel_rfl) rfl (by kernel_rfl) hs6' (o1_cE w6 hl hlt) fun e fr' a7 w7 hR hs7 hk7 _ => ?_
      obtain ⟨rfl, rfl⟩ := hR
      exact ⟨xs.length - (i + 1), by omega, i + 1, by omega, rfl, hs7, keep (keep hui5 hk6) hk7, hJ _ _ _ (hJ _ _ _ hj5 hk6) hk7⟩
    · refine ⟨false, rfl, _, _, putS false, o1_cY w5, fun τ2 a5 w6 hq2 hr2 => ?_⟩
      obtain ⟨hs6, hk6⟩ := hr2.slots hq2.1 (frG_of rfl) hq2.2
      refine wpIn_cond_split (t := !false) (slots_eval hs6 rfl) (fun ht => wpIn_ret ?_) (fun ht => by cases ht)
      exact fin _ a5 w6 hs6 (.inr (hJx _ _ hjx hk6))
  · have hge : i = xs.length := by
      have : ¬ (i : Int) < xs.length := by simpa using ht
      omega
    exact fin _ a2 w2 hs2 (.inl (hge ▸ hj2))
end Go.Proofs.YtmjiojflncffeaaGreat.Vc

/- A variable that was handed out is one's own again. -/
set_option linter.unusedVariables false
set_option linter.unusedSimpArgs false
namespace Go.Proofs.YtmjiojflncffeaaGreat.Vc
open Go Go.Shelf
section
variable {C : Ctx} {σ : SS} {a : Act} {w : World} {K : KT}
end
end Go.Proofs.YtmjiojflncffeaaGreat.Vc

/- OplogCuts, the walk. -/
set_option linter.unusedVariables false
set_option linter.unusedSimpArgs false
set_option maxRecDepth 100000
namespace Go.Proofs.YtmjiojflncffeaaGreat.Vc
open Go Go.Proofs Go.Shelf

/-- What is taken, one by one. -/
theorem LHist.at {mk : Value} {B : PT} {i0 ids : List Int} {ds : List Done} (h : LHist mk B i0 ds ids) {i : Nat} (hi : i < ds.length) : (ds.getD i zDone).taken = mayA (ideal B ((ds.take i).map (·.op))) (ds.getD i zDone).op := by
  have e : ds = ds.take (i + 1) ++ ds.drop (i + 1) := (List.take_append_drop _ _).symm
  rw [e] at h
  obtain ⟨i1, h1, _⟩ := h.drop
  rw [take_at hi zDone] at h1
  exact h1.taken
/-- Two logs of one history: the second begins behind what was cut. -/
structure Cutted (pa pb : PL) (t : Int) (l0 : List Op) : Prop where
  a : pa.ds.map (·.op) = l0 ++ pb.ds.map (·.op)
  B : pb.B = ideal pa.B l0
  low : ∀ op ∈ l0, op.stamp.time ≤ t
  high : ∀ d ∈ pb.ds, t < d.op.stamp.time
  ris : Rising (l0.map Op.k)
  fra : pa.fr = 0
  frb : pb.fr = t
  t0 : 0 ≤ t
section
variable {pa pb : PL} {t : Int} {l0 : List Op} {mka mkb : Value} {ka kb qa qb : Nat}
theorem Cutted.view (h : Cutted pa pb t l0) (ha : pa.good mka ka qa) (hb : pb.good mkb kb qb) : pa.T.view = pb.T.view := by
  rw [ha.fl.view, hb.fl.view, h.a, h.B, ideal_app]
theorem Cutted.len (h : Cutted pa pb t l0) : pa.ds.length = l0.length + pb.ds.length := by
  have := congrArg List.length h.a
  simpa using this
theorem Cutted.has (h : Cutted pa pb t l0) {op : Op} (ho : t < op.stamp.time) : hasA pa.ds op.k = hasA pb.ds op.k := by
  rw [hasA, hasA, decide_eq_decide]
  have e : pa.ds.map Done.k = l0.map Op.k ++ pb.ds.map Done.k := by
    have := congrArg (List.map Op.k) h.a
    rw [List.map_map, List.map_append, List.map_map] at this
    exact this
  rw [e, List.mem_append]
  refine ⟨fun hm => ?_, .inr⟩
  rcases hm with hm | hm
  · obtain ⟨x, hx, e⟩ := List.mem_map.1 hm
    have h1 := h.low x hx
    have : x.stamp.time = op.stamp.time := congrArg Prod.fst e
    omega
  · exact hm
theorem Cutted.look (h : Cutted pa pb t l0) {op : Op} (ho : t < op.stamp.time) : lookE pa.ds pa.fr [] [op] = lookE pb.ds pb.fr [] [op] := by
  rw [lookE_one, lookE_one, h.has ho]
  have h1 := h.t0
  rw [if_neg (c := op.stamp.time ≤ pa.fr) (by rw [h.fra]; omega), if_neg (c := op.stamp.time ≤ pb.fr) (by rw [h.frb]; omega)]
theorem Cutted.add (h : Cutted pa pb t l0) {op : Op} (ho : t < op.stamp.time) {pa' pb' : PL} {na nb : Int} (ha : pa'.good mka ka qa) (hb : pb'.good mkb kb qb) (h1 : Added pa [op] pa' na) (h2 : Added pb [op] pb' nb) : Cutted pa' pb' t l0 := by
  have hhigh : ∀ d ∈ pb'.ds, t < d.op.stamp.time := fun d hd => by
    rcases List.mem_append.1 (h2.perm.mem_iff.1 (List.mem_map.2 ⟨d, hd, rfl⟩)) with hm | hm
    · obtain ⟨y, hy, e⟩ := List.mem_map.1 hm
      rw [← e]; exact h.high y hy
    · rw [List.mem_singleton.1 hm]; exact ho
  refine ⟨?_, by rw [h2.B, h1.B]; exact h.B, h.low, hhigh, h.ris, h1.fr.trans h.fra, h2.fr.trans h.frb, h.t0⟩
  refine Rising.uniq (f := Op.k) ?_ (by rw [List.map_map]; exact ha.ris) ?_
  · refine h1.perm.trans ?_
    rw [h.a, List.append_assoc]
    exact h2.perm.symm.append_left l0
  · rw [Rising, List.map_append, List.pairwise_append]
    have hr : Rising ((pa'.ds.map (·.op)).map Op.k) := by rw [List.map_map]; exact ha.ris
    refine ⟨h.ris, by rw [List.map_map]; exact hb.ris, fun x hx y hy => ?_⟩
    obtain ⟨a, ha1, rfl⟩ := List.mem_map.1 hx
    rw [List.map_map] at hy
    obtain ⟨d, hd, rfl⟩ := List.mem_map.1 hy
    have h3 := h.low a ha1
    have h4 := hhigh d hd
    left
    show a.stamp.time < d.op.stamp.time
    omega
end
/-- What is taken, by stamp. -/
def tkn (ds : List Done) : List ((Int × Int) × Value) := ds.map fun d => (d.k, .bool d.taken)
theorem tkn_get : ∀ {ds : List Done} {d : Done}, Rising (ds.map Done.k) → d ∈ ds → mget2 (tkn ds) d.k = some (.bool d.taken)
  | [], _, _, h => by cases h
  | x :: l, d, hr, h => by
    have hr' : (∀ y ∈ l, ltK x.k y.k) ∧ Rising (l.map Done.k) := by
      rw [Rising, List.map_cons, List.pairwise_cons] at hr
      exact ⟨fun y hy => hr.1 _ (List.mem_map.2 ⟨y, hy, rfl⟩), hr.2⟩
    show (if x.k = d.k then some (.bool x.taken) else mget2 (tkn l) d.k) = _
    rcases List.mem_cons.1 h with rfl | h
    · rw [if_pos rfl]
    · rw [if_neg (fun e => by have := hr'.1 d h; rw [e] at this; exact ltK_irrefl _ this)]
      exact tkn_get hr'.2 h
theorem seen_box {C : Ctx} {ph : List PH} {m u : PH} {b : Nat} {e : TypeId} {g : GV} (hu : u ∈ ph) (hb : u b = some (.cells g.flat.toArray e (0, 0))) (hg : g.ok) : Seen C ph m b 0 g :=
  seen_of (KN.mem (List.mem_cons_of_mem _ hu)) hb hg fun j v hj => by simpa using hj
/-- An operation of the second log is taken as it is in the first. -/
theorem Cutted.taken {pa pb : PL} {t : Int} {l0 : List Op} {mka mkb : Value} {ka kb qa qb : Nat} (h : Cutted pa pb t l0) (ha : pa.good mka ka qa) (hb : pb.good mkb kb qb) {d : Done} (hd : d ∈ pb.ds) : mget2 (tkn pa.ds) d.k = some (.bool d.taken) := by
  obtain ⟨i, hi, rfl⟩ := List.mem_iff_getElem.1 hd
  have hlen := h.len
  have ea : (pa.ds.getD (l0.length + i) zDone).op = pb.ds[i].op := by
    have := congrArg (fun l : List Op => l[l0.length + i]?) h.a
    simp only [List.getElem?_map] at this
    rw [List.getElem?_append_right (by omega), Nat.add_sub_cancel_left, List.getElem?_map, List.getElem?_eq_getElem (by omega : l0.length + i < pa.ds.length), List.getElem?_eq_getElem hi] at this
    rw [List.getD_eq_getElem?_getD, List.getElem?_eq_getElem (by omega : l0.length + i < pa.ds.length)]
    simpa using this
  have h1 := ha.fl.hist.at (i := l0.length + i) (by omega)
  have h2 := hb.fl.hist.at hi
  have e3 : pb.ds.getD i zDone = pb.ds[i] := by rw [List.getD_eq_getElem?_getD, List.getElem?_eq_getElem hi]; rfl
  have e4 : (pa.ds.take (l0.length + i)).map (·.op) = l0 ++ (pb.ds.take i).map (·.op) := by
    rw [List.map_take, h.a, List.take_append, List.map_take, List.take_of_length_le (by omega), Nat.add_sub_cancel_left]
  rw [e4, ideal_app, ← h.B, ea] at h1
  rw [e3] at h2
  rw [← h2] at h1
  have hk : (pa.ds.getD (l0.length + i) zDone).k = pb.ds[i].k := by show (pa.ds.getD (l0.length + i) zDone).op.k = pb.ds[i].op.k; rw [ea]
  have := tkn_get ha.ris (getD_in (by omega : l0.length + i < pa.ds.length) zDone)
  rw [hk, h1] at this
  exact this
theorem encs_val (ds : List Done) : (ds.map encD).map (fun x => x.map GV.val) = ds.map encV := by rw [List.map_map]; rfl
theorem encs_two {ds : List Done} {n : Nat} (hn : n = 2) : ∀ x ∈ ds.map encD, x.length = n := fun x hx => by
  obtain ⟨d, _, rfl⟩ := List.mem_map.1 hx
  rw [hn]; rfl
theorem encs_ok {ds : List Done} : ∀ x ∈ ds.map encD, ∀ g ∈ x, g.ok := fun x hx g hg => by
  obtain ⟨d, _, rfl⟩ := List.mem_map.1 hx
  simp only [encD, List.mem_cons, List.not_mem_nil, or_false] at hg
  rcases hg with rfl | rfl
  · exact gOp_ok _
  · rfl
/-- Both logs behind the cut. -/
structure Way3 (bA bB : Nat) (mA mB : PH) (LA LbA LB LbB : Lay) (pA pB : PL) (t : Int) (l0 : List Op) (kb : Nat) : Prop where
  MA : LogM mA bA LA LbA pA
  gA : pA.good (ptr (LA .mk)) 0 (tri pA.ds.length)
  MB : LogM mB bB LB LbB pB
  gB : pB.good (ptr (LB .mk)) kb (tri pA.ds.length)
  C : Cutted pA pB t l0
  d : dis mA mB
end Go.Proofs.YtmjiojflncffeaaGreat.Vc

/- OplogMerges, the walk. -/
set_option linter.unusedVariables false
set_option linter.unusedSimpArgs false
set_option maxRecDepth 100000
namespace Go.Proofs.YtmjiojflncffeaaGreat.Vc
open Go Go.Proofs Go.Shelf

theorem mw0_ps : (rfPs c_law13_OplogMerges_W0).toList = [47, 48] := by kernel_rfl
theorem mw1_ps : (rfPs c_law13_OplogMerges_W1).toList = [55, 56] := by kernel_rfl
theorem mw0_code : c_law13_OplogMerges_W0 = .rangeFunc (.tmp 46) (rfPs c_law13_OplogMerges_W0) (rfAs c_law13_OplogMerges_W0) (rfBd c_law13_OplogMerges_W0) := by kernel_rfl
theorem mw1_code : c_law13_OplogMerges_W1 = .rangeFunc (.tmp 54) (rfPs c_law13_OplogMerges_W1) (rfAs c_law13_OplogMerges_W1) (rfBd c_law13_OplogMerges_W1) := by kernel_rfl
theorem mw0_plain : plainC (rfAs c_law13_OplogMerges_W0) = true ∧ plainC (rfBd c_law13_OplogMerges_W0) = true := ⟨by kernel_rfl, by kernel_rfl⟩
theorem mw1_plain : plainC (rfAs c_law13_OplogMerges_W1) = true ∧ plainC (rfBd c_law13_OplogMerges_W1) = true := ⟨by kernel_rfl, by kernel_rfl⟩
theorem dis_of_uni_l' {a b c : PH} (h : dis (uni a b) c) : dis a c ∧ dis b c := ⟨dis_comm (dis_of_uni_r (dis_comm h)).1, dis_comm (dis_of_uni_r (dis_comm h)).2⟩
/-- What is told once more is there, or comes to be there. -/
structure Told (K la lb l : List Op) (i : Nat) : Prop where
  a : ∀ op ∈ la, op ∈ l
  b : ∀ op ∈ lb.take i, op ∈ l
  k : ∀ op ∈ l, op ∈ K
theorem Told.begin {K la lb l : List Op} (hK : Kn K l lb) (ha : ∀ op ∈ la, op ∈ l) : Told K la lb l 0 := ⟨ha, by simp, hK.in1⟩
theorem k_inj {K : List Op} (hn : (K.map Op.k).Nodup) {x y : Op} (hx : x ∈ K) (hy : y ∈ K) (h : x.k = y.k) : x = y := by
  induction K with
  | nil => cases hx
  | cons z K ih =>
    rw [List.map_cons, List.nodup_cons] at hn
    rcases List.mem_cons.1 hx with rfl | hx1 <;> rcases List.mem_cons.1 hy with rfl | hy1
    · rfl
    · exact absurd (List.mem_map.2 ⟨y, hy1, h.symm⟩) hn.1
    · exact absurd (List.mem_map.2 ⟨x, hx1, h⟩) hn.1
    · exact ih hn.2 hx1 hy1
/-- A log to which an operation that is known comes. -/
theorem told_look2 {b : Nat} {m : PH} {L Lb : Lay} {p : PL} {l : List Op} (h : Way2 b m L Lb p l) {op : Op} (hc : checkE op = 0) : lookE p.ds p.fr [] [op] = if op.k ∈ l.map Op.k then 5 else 0 := by
  have h1 := checkE_time hc
  rw [lookE_one, if_neg (by simp [hc]), if_neg (by rw [h.fr]; omega)]
  have e : hasA p.ds op.k = decide (op.k ∈ l.map Op.k) := by
    rw [hasA, decide_eq_decide, ← (h.perm.map Op.k).mem_iff, List.map_map]; rfl
  rw [e]
  simp only [decide_eq_true_eq]
theorem Told.had {K la lb l : List Op} {i : Nat} (h : Told K la lb l i) (hn : (K.map Op.k).Nodup) {op : Op} (hop : op ∈ K) (hi : i < lb.length) (he : lb.getD i zOp = op) (hk : op.k ∈ l.map Op.k) : Told K la lb l (i + 1) := by
  obtain ⟨x, hx, hxk⟩ := List.mem_map.1 hk
  have : x = op := k_inj hn (h.k x hx) hop hxk
  refine ⟨h.a, fun y hy => ?_, h.k⟩
  rw [take_at hi zOp, he] at hy
  rcases List.mem_append.1 hy with hy | hy
  · exact h.b y hy
  · rw [List.mem_singleton.1 hy, ← this]; exact hx
theorem Told.more {K la lb l : List Op} {i : Nat} (h : Told K la lb l i) {op : Op} (hop : op ∈ K) (hi : i < lb.length) (he : lb.getD i zOp = op) : Told K la lb (l ++ [op]) (i + 1) := by
  refine ⟨fun y hy => List.mem_append_left _ (h.a y hy), fun y hy => ?_, fun y hy => ?_⟩
  · rw [take_at hi zOp, he] at hy
    rcases List.mem_append.1 hy with hy | hy
    · exact List.mem_append_left _ (h.b y hy)
    · exact List.mem_append_right _ hy
  · rcases List.mem_append.1 hy with hy | hy
    · exact h.k y hy
    · rw [List.mem_singleton.1 hy]; exact hop
/-- In the end it has all that is known. -/
theorem Told.all {K la lb l la' lb' : List Op} (h : Told K la lb l lb.length) (hK : Kn K la' lb') (ha : ∀ op ∈ la', op ∈ la) (hb : ∀ op ∈ lb', op ∈ lb) (hn : (l.map Op.k).Nodup) : l.Perm K := by
  have d1 : l.Nodup := nodup_of_map _ hn
  have d2 : K.Nodup := nodup_of_map _ hK.nod
  refine (List.perm_ext_iff_of_nodup d1 d2).2 fun op => ⟨h.k op, fun hop => ?_⟩
  rcases hK.all op hop with h1 | h1
  · exact h.a op (ha op h1)
  · exact h.b op (by rw [List.take_length]; exact hb op h1)
set_option maxHeartbeats 1000000 in
theorem merges_spec (w : World) (v v2 : Value) (one' two : List Op) (hb : one'.length + two.length ≤ 1048576) (ho : ∀ op ∈ one', OpIn op ∧ OpOk op) (ho2 : ∀ op ∈ two, OpIn op ∧ OpOk op) (h : SlR w.ph v 8 (one'.map gOp)) (h2 : SlR w.ph v2 8 (two.map gOp)) :
    Spec Tryz.prog f_law13_OplogMerges [v, v2] PH.no w fun rs _ => rs = [.s (.bool true)] := by
  refine spec_val k_law13_OplogMerges (Qf := fun rs => rs = [.s (.bool true)]) [.ro v 8 (gOp zOp) (one'.map gOp), .ro v2 8 (gOp zOp) (two.map gOp)] (by simp) (by simpa [AV.ok, u0_no] using ⟨h, h2⟩) ?_
  simp (maxSteps := 2000000) only [c_law13_OplogMerges, vc_seq, vc_rg, thenQ_n, kKeep_eq, segs_nil, segs_n, ops_nil, ops_cons, vcOp, ev, look, put_mk, keep_mk, keepL, Value.oneCell', cond_true, Nat.reduceEqDiff, ↓reduceIte, reduceCtorEq, Nat.zero_add, initF, initP, List.length_map]
  refine call_ownm rfl rfl (Q := fun rs m' => ∃ b L Lb, rs = [.s (ptr b)] ∧ LogM m' b L Lb PL.new) (fun w' vs hv hw _ _ => ?_) fun rs mA _ hq _ => ?_
  · obtain rfl := argsV_nil hv
    exact logNew_spec w'
  obtain ⟨bA, LA, LbA, rfl, hA⟩ := hq
  simp (maxSteps := 2000000) only [retS, uni_no_r, ops_cons, vcOp, put_mk, ptr]
  refine call_ownm rfl rfl (Q := fun rs m' => ∃ b L Lb, rs = [.s (ptr b)] ∧ LogM m' b L Lb PL.new) (fun w' vs hv hw _ _ => ?_) fun rs mB _ hq hdB => ?_
  · obtain rfl := argsV_nil hv
    exact logNew_spec w'
  obtain ⟨bB, LB, LbB, rfl, hB⟩ := hq
  have hdB : dis mB mA := hdB
  simp (maxSteps := 2000000) only [retS, vc_seq, vc_rg, thenQ_n, kKeep_eq, segs_nil, segs_n, ops_nil, ops_cons, vcOp, ev, look, put_mk, keep_mk, keepL, Value.oneCell', cond_true, Nat.reduceEqDiff, ↓reduceIte, reduceCtorEq, ptr]
  rw [uni_comm hdB]
  refine eq_of (eqLog bA) ?_
  simp (maxSteps := 2000000) only [segs_g, ops_nil, ops_cons, vcOp, ev, look, put_mk, Value.oneCell', cond_true, Nat.reduceEqDiff, ↓reduceIte, reduceCtorEq, ↓br_ff, Bool.bne_false]
  refine eq_of (eqLog bB) ?_
  simp (maxSteps := 2000000) only [segs_n, segs_g, ops_nil, ops_cons, vcOp, ev, look, put_mk, Value.oneCell', cond_true, Nat.reduceEqDiff, ↓reduceIte, ↓br_ff, ↓br_ft, Bool.bne_false]
  refine call_ism _ [.s (.bool true)] rfl rfl (fun w' vs hv _ _ hm => ?_) ?_
  · obtain rfl := argsV_nil hv
    exact live13_spec w'
  simp (maxSteps := 2000000) only [retS, vc_skip, vc_seq, vc_rg, vc_ite, thenQ_n, kKeep_eq, segs_nil, segs_n, ops_nil, ops_cons, vcOp, ev, look, put_mk, keep_mk, keepL, unV, Value.oneCell', cond_true, Nat.reduceEqDiff, ↓reduceIte, reduceCtorEq, Bool.not_true, ↓br_ft]
  intro bm om hom hdm
  have hdm : dis (one bm om) (uni mA mB) := hdm
  simp (maxSteps := 2000000) only [vc_seq, vc_rg, thenQ_n, kKeep_eq, segs_nil, segs_n, ops_nil, ops_cons, vcOp, ev, look, updL, put_mk, put_mk0, keep_mk, keepL, GV.getT, GV.sz, GV.same, GV.setT, Nat.reduceEqDiff, ↓reduceIte, reduceCtorEq, Bool.and_true, Bool.true_and, true_and, and_true]
  refine gh_seq (gh_pubBox 7 7 rfl rfl fun v7 u7 _ hp7 hd7 => ?_)
  refine gh_frz rfl hd7 ?_
  obtain ⟨_, b7, e7, rfl, rfl⟩ := hp7
  generalize hu7 : one b7 (Obj.cells (GV.s (Value.map (some bm))).flat.toArray e7 (0, 0)) = u7
  have g7 : u7 b7 = some (.cells #[.map (some bm)] e7 (0, 0)) := by rw [← hu7]; exact one_self _ _
  simp (maxSteps := 2000000) only [dropK, vc_seq, vc_rg, thenQ_n, kKeep_eq, segs_nil, segs_n, ops_nil, ops_cons, vcOp, ev, evL, scL, look, put_mk, keep_mk, keepL, cond_true, cond_false, Nat.reduceEqDiff, Nat.reduceBEq, ↓reduceIte, reduceCtorEq, List.nil_append, List.cons_append, BEq.rfl, List.map_cons, List.map_nil, Option.map_some, kill, SV.mentions]
  have goodsA : Kn [] [] [] := Kn.nil
  refine ⟨⟨_, Tryz.func25, by kernel_rfl⟩, ?_⟩
  have e1 : uni (one bm om) (uni mA mB) = uni (uni mA (one bm om)) mB := by
    obtain ⟨g1, _⟩ := dis_of_uni_r hdm
    rw [uni_comm (dis_comm g1), uni_assoc]
  have hdA : dis mA (one bm om) := dis_comm (dis_of_uni_r hdm).1
  have hdAB : dis (uni mA (one bm om)) mB := dis_comm (dis_uni_r hdB (dis_comm (dis_of_uni_r hdm).2))
  refine call_split (uni mA (one bm om)) mB rfl rfl e1 hdAB (Q := PutMQ bA bm LbA [] one'.length) (fun w' vs hv _ hph _ => ?_) fun rs m1 _ hq hd1 => ?_
  · obtain ⟨vs, rfl, _, hv⟩ := argsB_g hv
    obtain ⟨v', vs, rfl, hs, hv⟩ := argsB_row (z := 8) (xs := one'.map gOp) rfl (by simp) hv
    obtain ⟨vs, rfl, _, hv⟩ := argsB_g hv
    obtain rfl := argsB_nil hv
    have := putM_spec w' _ mA bA bm b7 LA LbA PL.new [] [] [] om e7 rfl hdA (Way2.new hA) (mapI_G (hom none)) Kn.nil (hph u7 (by simp) _ _ g7) v' one' ho hs (by simp; omega)
    rw [List.length_nil, Nat.zero_add] at this
    exact this
  obtain ⟨rfl, LA, pA, mA, la, K, o1, rfl, hdA, hWA, hM1, hK1, hla⟩ := hq
  simp (maxSteps := 2000000) only [retS, vc_seq, vc_rg, thenQ_n, kKeep_eq, segs_nil, segs_n, ops_nil, ops_cons, vcOp, ev, look, put_mk, keep_mk, keepL, Nat.reduceEqDiff, ↓reduceIte, reduceCtorEq, List.nil_append, List.cons_append, List.map_cons, List.map_nil]
  refine ⟨⟨_, Tryz.func25, by kernel_rfl⟩, ?_⟩
  have hd1 : dis (uni mA (one bm o1)) mB := hd1
  have hdA2 : dis mA mB ∧ dis (one bm o1) mB := dis_of_uni_l' hd1
  have e2 : uni (uni mA (one bm o1)) mB = uni (uni mB (one bm o1)) mA := by
    rw [uni_assoc, uni_comm hdA2.2, uni_comm (dis_uni_r hdA2.1 hdA)]
  refine call_split (uni mB (one bm o1)) mA rfl rfl e2 (dis_comm (dis_uni_r hdA2.1 hdA)) (Q := PutMQ bB bm LbB la two.length) (fun w' vs hv _ hph _ => ?_) fun rs m2 _ hq hd2 => ?_
  · obtain ⟨vs, rfl, _, hv⟩ := argsB_g hv
    obtain ⟨v', vs, rfl, hs, hv⟩ := argsB_row (z := 8) (xs := two.map gOp) rfl (by simp) hv
    obtain ⟨vs, rfl, _, hv⟩ := argsB_g hv
    obtain rfl := argsB_nil hv
    have := putM_spec w' _ mB bB bm b7 LB LbB PL.new [] la K o1 e7 rfl (dis_comm hdA2.2) (Way2.new hB) hM1 hK1.swap (hph u7 (by simp) _ _ g7) v' two ho2 hs (by simp; omega)
    rw [List.length_nil, Nat.zero_add] at this
    exact this
  obtain ⟨rfl, LB, pB, mB, lb, K, o2, rfl, hdB, hWB, hM2, hK2, hlb⟩ := hq
  have hd2 : dis (uni mB (one bm o2)) mA := hd2
  simp (maxSteps := 2000000) only [retS, vc_seq, vc_rg, thenQ_n, kKeep_eq, segs_nil, segs_n, ops_nil, ops_cons, vcOp, look, updL, put_mk, keep_mk, keepL, Nat.reduceEqDiff, ↓reduceIte, reduceCtorEq, Bool.true_and, true_and]
  refine gh_seq (gh_ge (τ := ⟨[(5, .g (.s (.pointer (some ⟨bA, 0, none⟩)))), (6, .g (.s (.pointer (some ⟨bB, 0, none⟩)))), (7, .g (.s (.pointer (some ⟨b7, 0, none⟩)))), (9, .ref 9 []), (10, .ref 10 [])], [(9, .box (.s (.slice none 0 0))), (10, .box (.s (.slice none 0 0)))], [u7], uni (uni mB (one bm o2)) mA⟩) (ge_of (by simp [frIn, look]) (by simp [pvIn, look]) rfl rfl rfl) ?_)
  refine gh_seq (gh_pubBox 10 10 rfl rfl fun v10 u10 _ hp10 hd10 => ?_)
  refine gh_pubBox 9 9 rfl rfl fun v9 u9 _ hp9 hd9 => ?_
  obtain ⟨_, b10, e10, rfl, rfl⟩ := hp10
  obtain ⟨_, b9, e9, rfl, rfl⟩ := hp9
  have hd10 : dis (one b10 (.cells #[.slice none 0 0] e10 (0, 0))) (uni (uni mB (one bm o2)) mA) := hd10
  have hd9 : dis (one b9 (.cells #[.slice none 0 0] e9 (0, 0))) (uni (one b10 (.cells #[.slice none 0 0] e10 (0, 0))) (uni (uni mB (one bm o2)) mA)) := hd9
  have hpA := hWA.len
  have hpB := hWB.len
  generalize hR : uni (uni mB (one bm o2)) mA = R at hd9 hd10
  have sA : PH.sub mA R := by rw [← hR]; exact sub_uni_r hd2
  have sB : PH.sub mB R := by rw [← hR]; exact PH.sub_trans (sub_uni_l _ _) (sub_uni_l _ _)
  simp (maxSteps := 2000000) only [dropK, ops_cons, vcOp, ev, look, put_mk, cond_true, cond_false, Nat.reduceEqDiff, Nat.reduceBEq, ↓reduceIte, BEq.rfl, kill, SV.mentions]
  have e3 : (one b10 (Obj.cells (GV.s (Value.slice none 0 0)).flat.toArray e10 (0, 0))) = one b10 (.cells #[.slice none 0 0] e10 (0, 0)) := rfl
  have e4 : (one b9 (Obj.cells (GV.s (Value.slice none 0 0)).flat.toArray e9 (0, 0))) = one b9 (.cells #[.slice none 0 0] e9 (0, 0)) := rfl
  rw [e3, e4]
  generalize hR1 : uni (one b10 (.cells #[.slice none 0 0] e10 (0, 0))) R = R1 at hd9
  have sR1 : PH.sub R R1 := by rw [← hR1]; exact sub_uni_r hd10
  refine call_frzm rfl rfl (Q := fun rs m' => ∃ bo e v, rs = [.s (.func (.func f_oplog_Log_Ops_1) #[] #[ptr bo])] ∧ m' bo = some (.cells #[v] e (0, 0)) ∧ SlR m' v 22 (pA.ds.map gDone)) (fun w' vs hv _ _ hm => ?_) fun rs mW _ hq => ?_
  · obtain ⟨vs, rfl, _, hv⟩ := argsV_g hv
    obtain rfl := argsV_nil hv
    exact ops_spec (fun b o h => hm b o (sub_uni_r hd9 b o (sR1 b o (sA b o h)))) hWA.M (by omega)
  obtain ⟨bo0, eo0, vo0, rfl, hbo0, hso0⟩ := hq
  simp (maxSteps := 2000000) only [retS, vc_block, thenQ_n, kKeep_eq, segs_nil, ops_nil, look, put_mk, keep_mk, keepL, Nat.reduceEqDiff, ↓reduceIte, ptr]
  refine raw_roundsG (ns := []) (code := c_law13_OplogMerges_W0) (t := 46) (gf := f_oplog_Log_Ops_1) (lb := [ptr bo0]) (ui := mW) (encs := pA.ds.map encD) mw0_code rfl (enters_of Tryz.func61 (by kernel_rfl) rfl) (frG_of rfl) (List.mem_cons_self)
    (by rw [encs_val]; exact ops1_iter mW hbo0 hso0 (by omega)) (encs_two (by have := congrArg List.length mw0_ps; simpa using this)) encs_ok (fun x hx => by
      rw [mw0_ps] at hx
      simp only [List.mem_cons, List.not_mem_nil, or_false] at hx
      show x < 132
      rcases hx with rfl | rfl <;> decide)
    c_law13_OplogMerges_A0 c_law13_OplogMerges_B0 kA0_law13_OplogMerges rfl mw0_plain.1 kB0_law13_OplogMerges rfl mw0_plain.2
    (fun n _ m => ∃ vx mo, m = uni (one b9 (.cells #[vx] e9 (0, 0))) (uni mo R1) ∧ SlO mo vx 26 8 ((((pA.ds.take n).map (·.op))).map gOp) ∧ dis (one b9 (.cells #[vx] e9 (0, 0))) (uni mo R1) ∧ dis mo R1) (fun _ _ _ => False) ⟨.slice none 0 0, PH.no, by rw [uni_no], ⟨fun x hx => (by simp at hx), .inl ⟨by simp, rfl⟩⟩, by rw [uni_no]; exact hd9, dis_no _⟩ ?_ ?_ ?_
  · intro n x w' m' ph m hx hu0 hph hI
    obtain ⟨vx, mo, rfl, hS, hdx, hdo⟩ := hI
    rw [List.getElem?_map] at hx
    obtain ⟨d, hdi, rfl⟩ := Option.map_eq_some_iff.1 hx
    have hn : n < pA.ds.length := (List.getElem?_eq_some_iff.1 hdi).1
    have hdd : pA.ds.getD n zDone = d := by rw [List.getD_eq_getElem?_getD, hdi]; rfl
    rw [mw0_ps]
    unfold encD
    simp (maxSteps := 2000000) only [c_law13_OplogMerges_A0, parFrG, List.nil_append, List.cons_append, vc_rg, segs_n, ops_cons, vcOp, ev, look, updL, put_mk0, Nat.reduceEqDiff, ↓reduceIte, List.nil_append, List.cons_append, Bool.and_true, Bool.true_and, true_and, and_true, getT_nil, setT_nil, gStamp_zero, gOp_sz, gOp_same, gOp_zero]
    refine gh_seq (gh_pubBox 11 11 rfl rfl fun vq uq _ hpq hdq => ?_)
    refine gh_frz rfl hdq ?_
    obtain ⟨_, bq, eq, rfl, rfl⟩ := hpq
    generalize huq : one bq (Obj.cells (gOp d.op).flat.toArray eq (0, 0)) = uq
    have gq : uq bq = some (.cells (gOp d.op).flat.toArray eq (0, 0)) := by rw [← huq]; exact one_self _ _
    simp (maxSteps := 2000000) only [dropK, kKeep_eq, segs_nil, ops_nil, look, keep_mk, keepL, cond_true, cond_false, Nat.reduceEqDiff, ↓reduceIte, BEq.rfl, kill, SV.mentions]
    refine ⟨fun u hu => List.mem_cons_of_mem _ hu, [(9, .g (.s (.pointer (some ⟨b9, 0, none⟩)))), (11, .g (.s (.pointer (some ⟨bq, 0, none⟩))))], frG_of rfl, ?_, fun w2 m2 _ => ?_⟩
    · intro t x hx
      simp only [look] at hx ⊢
      (repeat' split at hx) <;> simp_all
    have hvx := hS.one
    simp (maxSteps := 2000000) only [c_law13_OplogMerges_B0, vc_block, vc_rg, segs_n, ops_cons, vcOp, ev, look, ↓reduceIte, gStamp_zero, gOp_zero]
    refine ld_of (.s vx) (seen_cell kn_m (sub_uni_l _ _ _ _ (one_at _ _)) rfl hvx) rfl ?_
    simp (maxSteps := 2000000) only [ops_cons, vcOp, ev, look, put_mk, Nat.reduceEqDiff, ↓reduceIte]
    refine ld_of _ (seen_box (g := gOp d.op) List.mem_cons_self gq (gOp_ok _)) (gOp_fits _) ?_
    simp (maxSteps := 2000000) only [ops_cons, vcOp, ev, evL, gvL, look, updL, put_mk, rowE, Nat.reduceEqDiff, ↓reduceIte, Nat.zero_add, Bool.and_true, Bool.true_and, true_and, and_true, Option.map_some, szAll, List.length_cons, List.length_nil, List.drop_zero, List.take_succ_cons, List.take_zero, gOp_sz]
    refine app_of rfl rfl mo (uni (one b9 (.cells #[vx] e9 (0, 0))) R1) _ hS (uni_rotC (dis_of_uni_r hdx).1) (dis_uni_r (dis_comm (dis_of_uni_r hdx).1) hdo) (by simp; omega) fun v' u' hv' hs' hd' => ?_
    simp (maxSteps := 2000000) only [ops_cons, vcOp, ev, look, put_mk, Nat.reduceEqDiff, ↓reduceIte]
    have hb9 : (uni (one b9 (.cells #[vx] e9 (0, 0))) R1) b9 = some (.cells #[vx] e9 (0, 0)) := sub_uni_l _ _ _ _ (one_at _ _)
    have hu9 := uni_r hd' hb9
    refine st_of rfl #[vx] e9 ⟨hu9.1, by simp⟩ ?_
    simp (maxSteps := 2000000) only [blockQ_n, kKeep_eq, segs_nil, ops_nil, put_mk0, keep_mk, keepL]
    rw [uni_upd hu9.2, uni_one_upd, show writeAt #[vx] 0 (GV.s v').flat = #[v'] from rfl]
    have hdn : dis u' (uni (one b9 (.cells #[v'] e9 (0, 0))) R1) := by
      obtain ⟨q1, q2⟩ := dis_of_uni_r hd'
      exact dis_uni_r (dis_one_of2 q1) q2
    refine ⟨fun u hu => List.mem_cons_of_mem _ (hph u hu), v', u', uni_rotC (dis_of_uni_r hdn).1, ?_, ?_, (dis_of_uni_r hdn).2⟩
    · rw [take_at hn zDone, hdd, List.map_append, List.map_append]
      exact hs'
    · exact dis_uni_r (dis_comm (dis_of_uni_r hdn).1) (dis_one_of (dis_of_uni_r hdx).2)
  · intro u ph m hph hI
    obtain ⟨vx, mo, rfl, hSx, hdx, hdo⟩ := hI
    rw [List.length_map, List.take_length] at hSx
    simp (maxSteps := 2000000) only [vc_seq, vc_rg, thenQ_n, blockQ_n, segs_n, ops_cons, vcOp, ev, look, put_mk, Nat.reduceEqDiff, ↓reduceIte]
    have h7 : u7 ∈ u :: ph := List.mem_cons_of_mem _ (hph u7 (by simp))
    generalize u :: ph = ph2 at h7
    have e5 : uni (one b9 (.cells #[vx] e9 (0, 0))) (uni mo R1) = uni (one b10 (.cells #[.slice none 0 0] e10 (0, 0))) (uni (one b9 (.cells #[vx] e9 (0, 0))) (uni mo R)) ∧ dis (one b10 (.cells #[.slice none 0 0] e10 (0, 0))) (uni (one b9 (.cells #[vx] e9 (0, 0))) (uni mo R)) ∧ dis (one b9 (.cells #[vx] e9 (0, 0))) (uni mo R) ∧ dis mo R := by
      rw [← hR1] at hdx hdo ⊢
      obtain ⟨q1, q2⟩ := dis_of_uni_r hdo
      obtain ⟨q3, q4⟩ := dis_of_uni_r hdx
      obtain ⟨q5, q6⟩ := dis_of_uni_r q4
      exact ⟨by rw [uni_rotC q1, uni_rotC q5], dis_uni_r (dis_comm q5) (dis_uni_r (dis_comm q1) hd10), dis_uni_r q3 q6, q2⟩
    obtain ⟨e5, hd10, hdx, hdo⟩ := e5
    rw [e5]
    generalize hR2 : uni (one b9 (.cells #[vx] e9 (0, 0))) (uni mo R) = R2 at hd10
    have sR2 : PH.sub R R2 := by rw [← hR2]; exact PH.sub_trans (sub_uni_r hdo) (sub_uni_r hdx)
    refine call_frzm rfl rfl (Q := fun rs m' => ∃ bo e v, rs = [.s (.func (.func f_oplog_Log_Ops_1) #[] #[ptr bo])] ∧ m' bo = some (.cells #[v] e (0, 0)) ∧ SlR m' v 22 (pB.ds.map gDone)) (fun w' vs hv _ _ hm => ?_) fun rs mV _ hq => ?_
    · obtain ⟨vs, rfl, _, hv⟩ := argsV_g hv
      obtain rfl := argsV_nil hv
      exact ops_spec (fun b o h => hm b o (sub_uni_r hd10 b o (sR2 b o (sB b o h)))) hWB.M (by omega)
    obtain ⟨bo1, eo1, vo1, rfl, hbo1, hso1⟩ := hq
    simp (maxSteps := 2000000) only [retS, vc_block, thenQ_n, kKeep_eq, segs_nil, ops_nil, look, put_mk, keep_mk, keepL, Nat.reduceEqDiff, ↓reduceIte, ptr]
    refine raw_roundsG (ns := []) (code := c_law13_OplogMerges_W1) (t := 54) (gf := f_oplog_Log_Ops_1) (lb := [ptr bo1]) (ui := mV) (encs := pB.ds.map encD) mw1_code rfl (enters_of Tryz.func61 (by kernel_rfl) rfl) (frG_of rfl) (List.mem_cons_self)
      (by rw [encs_val]; exact ops1_iter mV hbo1 hso1 (by omega)) (encs_two (by have := congrArg List.length mw1_ps; simpa using this)) encs_ok (fun x hx => by
        rw [mw1_ps] at hx
        simp only [List.mem_cons, List.not_mem_nil, or_false] at hx
        show x < 132
        rcases hx with rfl | rfl <;> decide)
      c_law13_OplogMerges_A1 c_law13_OplogMerges_B1 kA1_law13_OplogMerges rfl mw1_plain.1 kB1_law13_OplogMerges rfl mw1_plain.2
      (fun n _ m => ∃ vx mo, m = uni (one b10 (.cells #[vx] e10 (0, 0))) (uni mo R2) ∧ SlO mo vx 26 8 ((((pB.ds.take n).map (·.op))).map gOp) ∧ dis (one b10 (.cells #[vx] e10 (0, 0))) (uni mo R2) ∧ dis mo R2) (fun _ _ _ => False) ⟨.slice none 0 0, PH.no, by rw [uni_no], ⟨fun x hx => (by simp at hx), .inl ⟨by simp, rfl⟩⟩, by rw [uni_no]; exact hd10, dis_no _⟩ ?_ ?_ ?_
    · intro n x w' m' ph m hx hu0 hph hI
      obtain ⟨vx, mo, rfl, hS, hdx, hdo⟩ := hI
      rw [List.getElem?_map] at hx
      obtain ⟨d, hdi, rfl⟩ := Option.map_eq_some_iff.1 hx
      have hn : n < pB.ds.length := (List.getElem?_eq_some_iff.1 hdi).1
      have hdd : pB.ds.getD n zDone = d := by rw [List.getD_eq_getElem?_getD, hdi]; rfl
      rw [mw1_ps]
      unfold encD
      simp (maxSteps := 2000000) only [c_law13_OplogMerges_A1, parFrG, List.nil_append, List.cons_append, vc_rg, segs_n, ops_cons, vcOp, ev, look, updL, put_mk0, Nat.reduceEqDiff, ↓reduceIte, List.nil_append, List.cons_append, Bool.and_true, Bool.true_and, true_and, and_true, getT_nil, setT_nil, gStamp_zero, gOp_sz, gOp_same, gOp_zero]
      refine gh_seq (gh_pubBox 12 12 rfl rfl fun vq uq _ hpq hdq => ?_)
      refine gh_frz rfl hdq ?_
      obtain ⟨_, bq, eq, rfl, rfl⟩ := hpq
      generalize huq : one bq (Obj.cells (gOp d.op).flat.toArray eq (0, 0)) = uq
      have gq : uq bq = some (.cells (gOp d.op).flat.toArray eq (0, 0)) := by rw [← huq]; exact one_self _ _
      simp (maxSteps := 2000000) only [dropK, kKeep_eq, segs_nil, ops_nil, look, keep_mk, keepL, cond_true, cond_false, Nat.reduceEqDiff, ↓reduceIte, BEq.rfl, kill, SV.mentions]
      refine ⟨fun u hu => List.mem_cons_of_mem _ hu, [(10, .g (.s (.pointer (some ⟨b10, 0, none⟩)))), (12, .g (.s (.pointer (some ⟨bq, 0, none⟩))))], frG_of rfl, ?_, fun w2 m2 _ => ?_⟩
      · intro t x hx
        simp only [look] at hx ⊢
        (repeat' split at hx) <;> simp_all
      have hvx := hS.one
      simp (maxSteps := 2000000) only [c_law13_OplogMerges_B1, vc_block, vc_rg, segs_n, ops_cons, vcOp, ev, look, ↓reduceIte, gStamp_zero, gOp_zero]
      refine ld_of (.s vx) (seen_cell kn_m (sub_uni_l _ _ _ _ (one_at _ _)) rfl hvx) rfl ?_
      simp (maxSteps := 2000000) only [ops_cons, vcOp, ev, look, put_mk, Nat.reduceEqDiff, ↓reduceIte]
      refine ld_of _ (seen_box (g := gOp d.op) List.mem_cons_self gq (gOp_ok _)) (gOp_fits _) ?_
      simp (maxSteps := 2000000) only [ops_cons, vcOp, ev, evL, gvL, look, updL, put_mk, rowE, Nat.reduceEqDiff, ↓reduceIte, Nat.zero_add, Bool.and_true, Bool.true_and, true_and, and_true, Option.map_some, szAll, List.length_cons, List.length_nil, List.drop_zero, List.take_succ_cons, List.take_zero, gOp_sz]
      refine app_of rfl rfl mo (uni (one b10 (.cells #[vx] e10 (0, 0))) R2) _ hS (uni_rotC (dis_of_uni_r hdx).1) (dis_uni_r (dis_comm (dis_of_uni_r hdx).1) hdo) (by simp; omega) fun v' u' hv' hs' hd' => ?_
      simp (maxSteps := 2000000) only [ops_cons, vcOp, ev, look, put_mk, Nat.reduceEqDiff, ↓reduceIte]
      have hb9 : (uni (one b10 (.cells #[vx] e10 (0, 0))) R2) b10 = some (.cells #[vx] e10 (0, 0)) := sub_uni_l _ _ _ _ (one_at _ _)
      have hu9 := uni_r hd' hb9
      refine st_of rfl #[vx] e10 ⟨hu9.1, by simp⟩ ?_
      simp (maxSteps := 2000000) only [blockQ_n, kKeep_eq, segs_nil, ops_nil, put_mk0, keep_mk, keepL]
      rw [uni_upd hu9.2, uni_one_upd, show writeAt #[vx] 0 (GV.s v').flat = #[v'] from rfl]
      have hdn : dis u' (uni (one b10 (.cells #[v'] e10 (0, 0))) R2) := by
        obtain ⟨q1, q2⟩ := dis_of_uni_r hd'
        exact dis_uni_r (dis_one_of2 q1) q2
      refine ⟨fun u hu => List.mem_cons_of_mem _ (hph u hu), v', u', uni_rotC (dis_of_uni_r hdn).1, ?_, ?_, (dis_of_uni_r hdn).2⟩
      · rw [take_at hn zDone, hdd, List.map_append, List.map_append]
        exact hs'
      · exact dis_uni_r (dis_comm (dis_of_uni_r hdn).1) (dis_one_of (dis_of_uni_r hdx).2)
    · intro u3 ph3 m hph3 hI
      obtain ⟨vy, mo2, rfl, hSy, hdy, hdo2⟩ := hI
      rw [List.length_map, List.take_length] at hSy
      simp (maxSteps := 2000000) only [vc_seq, vc_rg, thenQ_n, blockQ_n, segs_n, ops_cons, vcOp]
      have h7' : u7 ∈ u3 :: ph3 := List.mem_cons_of_mem _ (hph3 u7 (List.mem_cons_of_mem _ h7))
      generalize u3 :: ph3 = ph3 at h7'
      -- all but the logs is only read from here on
      obtain ⟨hmB, hmA⟩ := dis_of_uni_l' hd2
      have hAB : dis mA mB := dis_comm hmB
      have eR : R = uni (one bm o2) (uni mA mB) := by rw [← hR, uni_comm hdB, uni_assoc, uni_comm hmB]
      have hmm : dis (one bm o2) (uni mA mB) := dis_uni_r hmA (dis_comm hdB)
      rw [← hR2, eR] at hdy hdo2 ⊢
      rw [eR] at hdx hdo
      generalize hN9 : one b9 (.cells #[vx] e9 (0, 0)) = N9 at hdx hdy hdo2 ⊢
      generalize hN10 : one b10 (.cells #[vy] e10 (0, 0)) = N10 at hdy ⊢
      obtain ⟨y1, y2⟩ := dis_of_uni_r hdy
      obtain ⟨y3, y4⟩ := dis_of_uni_r y2
      obtain ⟨y5, y6⟩ := dis_of_uni_r y4
      obtain ⟨y7, y8⟩ := dis_of_uni_r y6
      obtain ⟨z1, z2⟩ := dis_of_uni_r hdo2
      obtain ⟨z3, z4⟩ := dis_of_uni_r z2
      obtain ⟨z5, z6⟩ := dis_of_uni_r z4
      obtain ⟨x1, x2⟩ := dis_of_uni_r hdx
      obtain ⟨x3, x4⟩ := dis_of_uni_r x2
      obtain ⟨w1, w2⟩ := dis_of_uni_r hdo
      have eF : uni N10 (uni mo2 (uni N9 (uni mo (uni (one bm o2) (uni mA mB))))) = uni (uni N10 (uni mo2 (uni N9 (uni mo (one bm o2))))) (uni mA mB) := by simp only [uni_assoc]
      have hF : dis (uni N10 (uni mo2 (uni N9 (uni mo (one bm o2))))) (uni mA mB) := dis_uni_l y8 (dis_uni_l z6 (dis_uni_l x4 (dis_uni_l w2 hmm)))
      refine gh_frz eF hF ?_
      have k10 : PH.sub N10 (uni N10 (uni mo2 (uni N9 (uni mo (one bm o2))))) := sub_uni_l _ _
      have d4 : dis mo (one bm o2) := w1
      have d3 : dis N9 (uni mo (one bm o2)) := dis_uni_r x1 x3
      have d2 : dis mo2 (uni N9 (uni mo (one bm o2))) := dis_uni_r z1 (dis_uni_r z3 z5)
      have d1 : dis N10 (uni mo2 (uni N9 (uni mo (one bm o2)))) := dis_uni_r y1 (dis_uni_r y3 (dis_uni_r y5 y7))
      have s2 : PH.sub mo2 (uni N10 (uni mo2 (uni N9 (uni mo (one bm o2))))) := PH.sub_trans (sub_uni_l _ _) (sub_uni_r d1)
      have s3 : PH.sub N9 (uni N10 (uni mo2 (uni N9 (uni mo (one bm o2))))) := PH.sub_trans (PH.sub_trans (sub_uni_l _ _) (sub_uni_r d2)) (sub_uni_r d1)
      have s4 : PH.sub mo (uni N10 (uni mo2 (uni N9 (uni mo (one bm o2))))) := PH.sub_trans (PH.sub_trans (PH.sub_trans (sub_uni_l _ _) (sub_uni_r d3)) (sub_uni_r d2)) (sub_uni_r d1)
      have s5 : PH.sub (one bm o2) (uni N10 (uni mo2 (uni N9 (uni mo (one bm o2))))) := PH.sub_trans (PH.sub_trans (PH.sub_trans (sub_uni_r d4) (sub_uni_r d3)) (sub_uni_r d2)) (sub_uni_r d1)
      have f10 := k10 b10 (.cells #[vy] e10 (0, 0)) (by rw [← hN10]; exact one_at _ _)
      have f9 := s3 b9 (.cells #[vx] e9 (0, 0)) (by rw [← hN9]; exact one_at _ _)
      have fm := s5 bm o2 (one_at _ _)
      have fy := hSy.toR.up s2
      have fx := hSx.toR.up s4
      clear s2 s3 s4 s5 k10 d1 d2 d3 d4 w1 w2 x1 x2 x3 x4 y1 y2 y3 y4 y5 y6 y7 y8 z1 z2 z3 z4 z5 z6 eF hF hdx hdo hdy hdo2 hN9 hN10 hmm eR hmA hd10 hd9 e5 sR1 sR2 sA sB hR1 hR2 hR e3 e4
      generalize uni N10 (uni mo2 (uni N9 (uni mo (one bm o2)))) = F at f10 f9 fm fy fx ⊢
      have s10 : ∀ {ph' : List PH} {m : PH}, Seen ⟨Tryz.prog, 132, w, PH.no⟩ (F :: ph') m b10 0 (.s vy) := seen_cell (KN.mem (by simp)) f10 rfl hSy.one
      have s9 : ∀ {ph' : List PH} {m : PH}, Seen ⟨Tryz.prog, 132, w, PH.no⟩ (F :: ph') m b9 0 (.s vx) := seen_cell (KN.mem (by simp)) f9 rfl hSx.one
      have s7 : ∀ {m : PH}, Seen ⟨Tryz.prog, 132, w, PH.no⟩ (F :: ph3) m b7 0 (.s (.map (some bm))) := seen_cell (KN.mem (List.mem_cons_of_mem _ (List.mem_cons_of_mem _ h7'))) g7 rfl rfl
      obtain ⟨lA, hlA⟩ : ∃ l, pA.ds.map (·.op) = l := ⟨_, rfl⟩
      obtain ⟨lB, hlB⟩ : ∃ l, pB.ds.map (·.op) = l := ⟨_, rfl⟩
      rw [hlA] at fx
      rw [hlB] at fy
      have qA : lA.Perm la := hlA ▸ hWA.perm
      have qB : lB.Perm lb := hlB ▸ hWB.perm
      have nA : lA.length = la.length := qA.length_eq
      have nB : lB.length = lb.length := qB.length_eq
      have hWA' : Way2 bA mA LA LbA pA lA := ⟨hWA.M, hWA.good, hWA.fr, hWA.B, hlA ▸ List.Perm.refl _⟩
      have hWB' : Way2 bB mB LB LbB pB lB := ⟨hWB.M, hWB.good, hWB.fr, hWB.B, hlB ▸ List.Perm.refl _⟩
      have hKA : Kn K lA lB := ⟨hK2.nod, hK2.goods, fun op h => hK2.in2 op (qA.mem_iff.1 h), fun op h => hK2.in1 op (qB.mem_iff.1 h), fun op h => (hK2.all op h).symm.imp qA.mem_iff.2 qB.mem_iff.2⟩
      have hKB := hKA.swap
      obtain ⟨ay, cy, rfl⟩ := slr_len fy
      obtain ⟨ax, cx, rfl⟩ := slr_len fx
      have ny : (lB.map gOp).length = pB.ds.length := by rw [List.length_map, ← hlB, List.length_map]
      have nx : (lA.map gOp).length = pA.ds.length := by rw [List.length_map, ← hlA, List.length_map]
      rw [ny] at fy s10
      rw [nx] at fx s9
      refine ld_of _ s10 rfl ?_
      simp (maxSteps := 2000000) only [vc_block, thenQ_n, kKeep_eq, segs_nil, ops_nil, ops_cons, vcOp, ev, look, put_mk, keep_mk, keepL, Value.oneCell', cond_true, Nat.reduceEqDiff, ↓reduceIte]
      refine vc_loop (ι := Nat × Lay × PL × PH × List Op) (fun x => ⟨[(5, .g (.s (.pointer (some ⟨bA, 0, none⟩)))), (6, .g (.s (.pointer (some ⟨bB, 0, none⟩)))), (7, .g (.s (.pointer (some ⟨b7, 0, none⟩)))), (9, .g (.s (.pointer (some ⟨b9, 0, none⟩)))), (61, .g (.s (.slice ay pB.ds.length cy))), (62, .g (.s (.int .i64 (pB.ds.length)))), (63, .g (.s (.int .i64 (x.1))))], [], F :: ph3, uni x.2.2.2.1 mB⟩)
        (fun x => x.1 ≤ pB.ds.length ∧ Way2 bA x.2.2.2.1 x.2.1 LbA x.2.2.1 x.2.2.2.2 ∧ dis x.2.2.2.1 mB ∧ Told K lA lB x.2.2.2.2 x.1 ∧ x.2.2.2.2.length ≤ lA.length + x.1) (fun x => pB.ds.length - x.1) (0, LA, pA, mA, lA) ⟨by simp, hWA', hAB, Told.begin hKA (fun _ h => h), Nat.le_refl _⟩ (ge_of ?_ ?_ rfl rfl rfl) ?_
      · simp [frIn, look]
      · simp [pvIn, look]
      rintro ⟨i, L0, p0, m0, l0⟩ ⟨hi, hW0, hd, hT, hl0⟩
      simp only at hi hW0 hd hT hl0
      have hp0 := hW0.len
      generalize hQ : loopQ _ _ _ _ _ = Q
      simp (maxSteps := 2000000) only [c_law13_OplogMerges_L0, vc_skip, vc_exit, vc_seq, vc_block, vc_rg, vc_ite, thenQ_n, thenQ_e, kKeep_eq, segs_nil, segs_n, ops_nil, ops_cons, vcOp, ev, look, put_mk, keep_mk, keepL, rowE, binV, binC, Nat.reduceEqDiff, ↓reduceIte, Bool.true_and, true_and, decide_eq_true_eq, decide_eq_false_iff_not, br_t, gStamp_zero, gOp_zero]
      refine ⟨fun hlt => ?_, fun hge => ?_⟩
      · have hil : i < pB.ds.length := by omega
        obtain ⟨bb, oo, rfl, _, _, hse⟩ := fy.spot (by simp; omega)
        have hil2 : i < lB.length := by rw [← hlB]; simpa using hil
        obtain ⟨op, hop⟩ : ∃ op, lB.getD i zOp = op := ⟨_, rfl⟩
        have hopm : op ∈ lB := hop ▸ getD_in hil2 zOp
        have hopK : op ∈ K := hKA.in2 op hopm
        obtain ⟨hoo, hck⟩ := hKA.goods op hopK
        refine ⟨⟨by omega, by omega⟩, ld_of (gOp op) (hse (KN.mem (by simp)) i _ (by rw [List.getElem?_map, ← hop, List.getD_eq_getElem?_getD, List.getElem?_eq_getElem hil2]; rfl)) (gOp_fits _) ?_⟩
        simp (maxSteps := 2000000) only [vc_seq, vc_rg, thenQ_n, kKeep_eq, segs_nil, segs_n, ops_nil, ops_cons, vcOp, ev, evL, gvL, look, updL, put_mk, put_mk0, keep_mk, keepL, Nat.reduceEqDiff, ↓reduceIte, Nat.zero_add, Bool.and_true, Bool.true_and, true_and, and_true, Option.map_some, szAll, List.length_cons, List.length_nil, Int.toNat_natCast, getT_nil, setT_nil, gOp_sz, gOp_fits, gOp_same]
        refine call_split m0 mB rfl rfl rfl hd (Q := StepQ bA L0 LbA p0 0 [op]) (fun w' vs hv _ _ _ => ?_) fun rs m1 _ hq hd1 => ?_
        · obtain ⟨vs, rfl, _, hv⟩ := argsB_g hv
          obtain ⟨v', vs, rfl, hs, hv⟩ := argsB_row (z := 8) (xs := [gOp op]) rfl rfl hv
          obtain rfl := argsB_nil hv
          exact one_split hW0.M hW0.good (by omega) hoo hs
        have hlk := told_look2 hW0 hck
        by_cases hin : op.k ∈ l0.map Op.k
        · rw [if_pos hin] at hlk
          obtain ⟨rfl, hM'⟩ := hq.1 (by rw [hlk]; omega)
          rw [hlk]
          simp (maxSteps := 2000000) only [retS, List.getElem?_cons_succ, List.getElem?_cons_zero, Int.reduceBNe, vc_skip, vc_seq, vc_rg, vc_ite, thenQ_n, blockQ_n, kKeep_eq, segs_nil, segs_n, segs_g, ops_nil, ops_cons, vcOp, ev, look, put_mk, keep_mk, keepL, binV, binC, Value.oneCell', cond_true, Nat.reduceEqDiff, ↓reduceIte, Bool.true_and, true_and, ↓br_tt, ↓br_ft]
          subst hQ; simp only [loopQ_n]; refine ⟨(i + 1, L0, p0, m1, l0), ?_, ?_, ge_of ?_ ?_ rfl rfl rfl⟩
          · exact ⟨by simp only; omega, ⟨hM', hW0.good, hW0.fr, hW0.B, hW0.perm⟩, hd1, hT.had hKA.nod hopK hil2 hop hin, by simp only; omega⟩
          · simp only; omega
          · simp only [frIn, look, Nat.reduceEqDiff, ↓reduceIte, Bool.and_true, Bool.true_and, true_and, and_true]
            rw [wrap_n (by omega)]
            try simp
          · simp [pvIn, look]
        · rw [if_neg hin] at hlk
          obtain ⟨L', p', k, hL1, hL2, rfl, hM', hg', hA'⟩ := hq.2 hlk
          simp (maxSteps := 2000000) only [retS, List.getElem?_cons_succ, List.getElem?_cons_zero, Int.reduceBNe, vc_skip, vc_seq, vc_rg, vc_ite, thenQ_n, blockQ_n, kKeep_eq, segs_nil, segs_n, segs_g, ops_nil, ops_cons, vcOp, RO.isGh, skip_mk, skipL, ev, look, put_mk, keep_mk, keepL, binV, binC, Value.oneCell', cond_true, cond_false, Nat.reduceEqDiff, ↓reduceIte, Bool.true_and, Bool.not_true, true_and, ↓br_ft]
          subst hQ; simp only [loopQ_n]; refine ⟨(i + 1, L', p', m1, l0 ++ [op]), ?_, ?_, ge_of ?_ ?_ rfl rfl rfl⟩
          · exact ⟨by simp only; omega, hW0.add hM' hL2 hg' hA', hd1, hT.more hopK hil2 hop, by simp only [List.length_append, List.length_cons, List.length_nil]; omega⟩
          · simp only; omega
          · simp only [frIn, look, Nat.reduceEqDiff, ↓reduceIte, Bool.and_true, Bool.true_and, true_and, and_true]
            rw [wrap_n (by omega)]
            try simp
          · simp [pvIn, look]
      · subst hQ
        simp (maxSteps := 2000000) only [vc_seq, vc_rg, thenQ_n, blockQ_e, loopQ_e, segs_n, ops_cons, vcOp, ev, look, Nat.reduceEqDiff, ↓reduceIte]
        have hi' : i = pB.ds.length := by omega
        subst hi'
        have hlen : pB.ds.length = lB.length := by rw [← hlB, List.length_map]
        rw [hlen] at hT
        have pmA := hT.all hKA (fun _ h => h) (fun _ h => h) hW0.nod
        have hgA := hl0
        have hWA1 := hW0
        have hAB1 := hd
        clear hi hge hW0 hd hp0 hl0 hT
        generalize m0 = mA1 at hWA1 hAB1 ⊢
        generalize L0 = LA1 at hWA1 ⊢
        generalize p0 = pA1 at hWA1 ⊢
        generalize l0 = lA1 at hWA1 pmA hgA ⊢
        refine ld_of _ s9 rfl ?_
        simp (maxSteps := 2000000) only [vc_block, thenQ_n, kKeep_eq, segs_nil, ops_nil, ops_cons, vcOp, ev, look, put_mk, keep_mk, keepL, Value.oneCell', cond_true, Nat.reduceEqDiff, ↓reduceIte]
        refine vc_loop (ι := Nat × Lay × PL × PH × List Op) (fun x => ⟨[(5, .g (.s (.pointer (some ⟨bA, 0, none⟩)))), (6, .g (.s (.pointer (some ⟨bB, 0, none⟩)))), (7, .g (.s (.pointer (some ⟨b7, 0, none⟩)))), (81, .g (.s (.slice ax pA.ds.length cx))), (82, .g (.s (.int .i64 (pA.ds.length)))), (83, .g (.s (.int .i64 (x.1))))], [], F :: ph3, uni mA1 x.2.2.2.1⟩)
          (fun x => x.1 ≤ pA.ds.length ∧ Way2 bB x.2.2.2.1 x.2.1 LbB x.2.2.1 x.2.2.2.2 ∧ dis mA1 x.2.2.2.1 ∧ Told K lB lA x.2.2.2.2 x.1 ∧ x.2.2.2.2.length ≤ lB.length + x.1) (fun x => pA.ds.length - x.1) (0, LB, pB, mB, lB) ⟨by simp, hWB', hAB1, Told.begin hKB (fun _ h => h), Nat.le_refl _⟩ (ge_of ?_ ?_ rfl rfl rfl) ?_
        · simp [frIn, look]
        · simp [pvIn, look]
        rintro ⟨i, L0, p0, m0, l0⟩ ⟨hi, hW0, hd, hT, hl0⟩
        simp only at hi hW0 hd hT hl0
        have hp0 := hW0.len
        generalize hQ : loopQ _ _ _ _ _ = Q
        simp (maxSteps := 2000000) only [c_law13_OplogMerges_L1, vc_skip, vc_exit, vc_seq, vc_block, vc_rg, vc_ite, thenQ_n, thenQ_e, kKeep_eq, segs_nil, segs_n, ops_nil, ops_cons, vcOp, ev, look, put_mk, keep_mk, keepL, rowE, binV, binC, Nat.reduceEqDiff, ↓reduceIte, Bool.true_and, true_and, decide_eq_true_eq, decide_eq_false_iff_not, br_t, gStamp_zero, gOp_zero]
        refine ⟨fun hlt => ?_, fun hge => ?_⟩
        · have hil : i < pA.ds.length := by omega
          obtain ⟨bb, oo, rfl, _, _, hse⟩ := fx.spot (by simp; omega)
          have hil2 : i < lA.length := by rw [← hlA]; simpa using hil
          obtain ⟨op, hop⟩ : ∃ op, lA.getD i zOp = op := ⟨_, rfl⟩
          have hopm : op ∈ lA := hop ▸ getD_in hil2 zOp
          have hopK : op ∈ K := hKB.in2 op hopm
          obtain ⟨hoo, hck⟩ := hKB.goods op hopK
          refine ⟨⟨by omega, by omega⟩, ld_of (gOp op) (hse (KN.mem (by simp)) i _ (by rw [List.getElem?_map, ← hop, List.getD_eq_getElem?_getD, List.getElem?_eq_getElem hil2]; rfl)) (gOp_fits _) ?_⟩
          simp (maxSteps := 2000000) only [vc_seq, vc_rg, thenQ_n, kKeep_eq, segs_nil, segs_n, ops_nil, ops_cons, vcOp, ev, evL, gvL, look, updL, put_mk, put_mk0, keep_mk, keepL, Nat.reduceEqDiff, ↓reduceIte, Nat.zero_add, Bool.and_true, Bool.true_and, true_and, and_true, Option.map_some, szAll, List.length_cons, List.length_nil, Int.toNat_natCast, getT_nil, setT_nil, gOp_sz, gOp_fits, gOp_same]
          refine call_split m0 mA1 rfl rfl (uni_comm hd) (dis_comm hd) (Q := StepQ bB L0 LbB p0 0 [op]) (fun w' vs hv _ _ _ => ?_) fun rs m1 _ hq hd1 => ?_
          · obtain ⟨vs, rfl, _, hv⟩ := argsB_g hv
            obtain ⟨v', vs, rfl, hs, hv⟩ := argsB_row (z := 8) (xs := [gOp op]) rfl rfl hv
            obtain rfl := argsB_nil hv
            exact one_split hW0.M hW0.good (by omega) hoo hs
          rw [uni_comm hd1]
          have hlk := told_look2 hW0 hck
          by_cases hin : op.k ∈ l0.map Op.k
          · rw [if_pos hin] at hlk
            obtain ⟨rfl, hM'⟩ := hq.1 (by rw [hlk]; omega)
            rw [hlk]
            simp (maxSteps := 2000000) only [retS, List.getElem?_cons_succ, List.getElem?_cons_zero, Int.reduceBNe, vc_skip, vc_seq, vc_rg, vc_ite, thenQ_n, blockQ_n, kKeep_eq, segs_nil, segs_n, segs_g, ops_nil, ops_cons, vcOp, ev, look, put_mk, keep_mk, keepL, binV, binC, Value.oneCell', cond_true, Nat.reduceEqDiff, ↓reduceIte, Bool.true_and, true_and, ↓br_tt, ↓br_ft]
            subst hQ; simp only [loopQ_n]; refine ⟨(i + 1, L0, p0, m1, l0), ?_, ?_, ge_of ?_ ?_ rfl rfl rfl⟩
            · exact ⟨by simp only; omega, ⟨hM', hW0.good, hW0.fr, hW0.B, hW0.perm⟩, (dis_comm hd1), hT.had hKB.nod hopK hil2 hop hin, by simp only; omega⟩
            · simp only; omega
            · simp only [frIn, look, Nat.reduceEqDiff, ↓reduceIte, Bool.and_true, Bool.true_and, true_and, and_true]
              rw [wrap_n (by omega)]
              try simp
            · simp [pvIn, look]
          · rw [if_neg hin] at hlk
            obtain ⟨L', p', k, hL1, hL2, rfl, hM', hg', hA'⟩ := hq.2 hlk
            simp (maxSteps := 2000000) only [retS, List.getElem?_cons_succ, List.getElem?_cons_zero, Int.reduceBNe, vc_skip, vc_seq, vc_rg, vc_ite, thenQ_n, blockQ_n, kKeep_eq, segs_nil, segs_n, segs_g, ops_nil, ops_cons, vcOp, RO.isGh, skip_mk, skipL, ev, look, put_mk, keep_mk, keepL, binV, binC, Value.oneCell', cond_true, cond_false, Nat.reduceEqDiff, ↓reduceIte, Bool.true_and, Bool.not_true, true_and, ↓br_ft]
            subst hQ; simp only [loopQ_n]; refine ⟨(i + 1, L', p', m1, l0 ++ [op]), ?_, ?_, ge_of ?_ ?_ rfl rfl rfl⟩
            · exact ⟨by simp only; omega, hW0.add hM' hL2 hg' hA', (dis_comm hd1), hT.more hopK hil2 hop, by simp only [List.length_append, List.length_cons, List.length_nil]; omega⟩
            · simp only; omega
            · simp only [frIn, look, Nat.reduceEqDiff, ↓reduceIte, Bool.and_true, Bool.true_and, true_and, and_true]
              rw [wrap_n (by omega)]
              try simp
            · simp [pvIn, look]
        · subst hQ
          simp (maxSteps := 2000000) only [vc_seq, vc_rg, thenQ_n, blockQ_e, loopQ_e, segs_n, ops_cons, vcOp, ev, look, put_mk, ↓reduceIte]
          have hi' : i = pA.ds.length := by omega
          subst hi'
          have hlen : pA.ds.length = lA.length := by rw [← hlA, List.length_map]
          rw [hlen] at hT
          have pmB := hT.all hKB (fun _ h => h) (fun _ h => h) hW0.nod
          have hview := hWA1.same hW0 (pmA.trans pmB.symm)
          have nA1 : pA1.ds.length = K.length := by rw [hWA1.len, pmA.length_eq]
          have nB1 : p0.ds.length = K.length := by rw [hW0.len, pmB.length_eq]
          have hsmall : K.length ≤ 1048576 + 1048576 := by
            have := pmA.length_eq
            omega
          have hqA : tri pA1.ds.length + 4 < 1099511627776 := by have := tri_le (n := pA1.ds.length) (by omega); omega
          have hqB : tri p0.ds.length + 4 < 1099511627776 := by have := tri_le (n := p0.ds.length) (by omega); omega
          refine call_frzm rfl rfl (Q := fun rs m' => ∃ L' T', rs = [.s (ptr (L' .t))] ∧ TM m' L' T' ∧ T'.ok (tri pA1.ds.length + 2) ∧ VGood T'.view ∧ T'.kidsOk ∧ T'.view = pA1.T.view) (fun w' vs hv _ _ hm => ?_) fun rs mX _ hq => ?_
          · obtain ⟨vs, rfl, _, hv⟩ := argsV_g hv
            obtain rfl := argsV_nil hv
            exact logTree_spec (u := mA1) (fun b o h => hm b o (sub_uni_l _ _ b o h)) hWA1.M hWA1.good hqA
          obtain ⟨LX, TX, rfl, hTX, hokX, _, _, hvX⟩ := hq
          simp (maxSteps := 2000000) only [retS, ops_cons, vcOp, ev, look, put_mk, Nat.reduceEqDiff, ↓reduceIte, ptr]
          refine call_frzm rfl rfl (Q := fun rs m' => ∃ L' T', rs = [.s (ptr (L' .t))] ∧ TM m' L' T' ∧ T'.ok (tri p0.ds.length + 2) ∧ VGood T'.view ∧ T'.kidsOk ∧ T'.view = p0.T.view) (fun w' vs hv _ _ hm => ?_) fun rs mY _ hq => ?_
          · obtain ⟨vs, rfl, _, hv⟩ := argsV_g hv
            obtain rfl := argsV_nil hv
            exact logTree_spec (u := m0) (fun b o h => hm b o (sub_uni_r hd b o h)) hW0.M hW0.good hqB
          obtain ⟨LY, TY, rfl, hTY, hokY, _, _, hvY⟩ := hq
          have htold := (told_eq hokX hokY (hvX.trans (hview.trans hvY.symm))).1
          have lenA : ∀ w' : World, (uni mA1 m0).le w' → Spec Tryz.prog f_oplog_Log_Len [ptr bA] PH.no w' fun rs _ => rs = [.s (.int .i64 K.length)] := fun w' hm => by
            have := logLen_spec (u := mA1) (w := w') (fun b o h => hm b o (sub_uni_l _ _ b o h)) hWA1.M
            rwa [nA1] at this
          have lenB : ∀ w' : World, (uni mA1 m0).le w' → Spec Tryz.prog f_oplog_Log_Len [ptr bB] PH.no w' fun rs _ => rs = [.s (.int .i64 K.length)] := fun w' hm => by
            have := logLen_spec (u := m0) (w := w') (fun b o h => hm b o (sub_uni_r hd b o h)) hW0.M
            rwa [nB1] at this
          simp (maxSteps := 2000000) only [retS, vc_seq, vc_rga, thenQ_n, kKeep_eq, segs_nil, segs_n, ops_nil, ops_cons, ot_op, vcOp, ev, look, put_mk, keep_mk, keepL, Nat.reduceEqDiff, ↓reduceIte, ptr]
          refine call_ism _ [.s (.int .i64 K.length)] rfl rfl (fun w' vs hv _ _ hm => ?_) ?_
          · obtain ⟨vs, rfl, _, hv⟩ := argsV_g hv
            obtain rfl := argsV_nil hv
            exact lenA w' hm
          simp (maxSteps := 2000000) only [retS, segs_nil, segs_n, ops_nil, ops_cons, ot_op, vcOp, put_mk]
          refine call_ism _ [.s (.int .i64 K.length)] rfl rfl (fun w' vs hv _ _ hm => ?_) ?_
          · obtain ⟨vs, rfl, _, hv⟩ := argsV_g hv
            obtain rfl := argsV_nil hv
            exact lenB w' hm
          simp (maxSteps := 2000000) only [retS, beq_self_eq_true, segs_nil, segs_n, segs_g, ops_nil, ops_cons, ot_op, ot_or, vcOp, ev, look, put_mk, binV, binC, Nat.reduceEqDiff, ↓reduceIte, Bool.true_and, true_and, ↓br_tt]
          have hs7 : ∀ {m : PH}, Seen ⟨Tryz.prog, 132, w, PH.no⟩ (mY :: mX :: F :: ph3) m b7 0 (.s (.map (some bm))) := seen_cell (KN.mem (List.mem_cons_of_mem _ (List.mem_cons_of_mem _ (List.mem_cons_of_mem _ (List.mem_cons_of_mem _ h7'))))) g7 rfl rfl
          have hsm : ∀ {m : PH}, SeenO ⟨Tryz.prog, 132, w, PH.no⟩ (mY :: mX :: F :: ph3) m bm o2 := .inr (.inl ⟨F, by simp, fm⟩)
          have hkl : (gkn K).length = K.length := by simp [gkn]
          have hlx := nodesTold_len TX
          have hmx := hokX.many
          refine ⟨?_, ?_⟩
          · refine call_ism _ [.s (.int .i64 K.length)] rfl rfl (fun w' vs hv _ _ hm => ?_) ?_
            · obtain ⟨vs, rfl, _, hv⟩ := argsV_g hv
              obtain rfl := argsV_nil hv
              exact lenA w' hm
            simp (maxSteps := 2000000) only [retS, segs_nil, segs_g, ops_nil, ops_cons, ot_op, vcOp, ev, look, put_mk, Nat.reduceEqDiff, ↓reduceIte, ↓br_tt]
            refine ld_of _ hs7 rfl ?_
            simp (maxSteps := 2000000) only [segs_nil, segs_g, ops_nil, ops_cons, ot_op, vcOp, ev, look, put_mk, Nat.reduceEqDiff, ↓reduceIte, ↓br_tt]
            refine ⟨o2, gkn K, hsm, hM2, ?_⟩
            rw [hkl]
            simp (maxSteps := 2000000) only [beq_self_eq_true, segs_nil, segs_n, segs_g, ops_nil, ops_cons, ot_op, vcOp, ev, look, put_mk, binV, binC, Value.oneCell', cond_true, Nat.reduceEqDiff, ↓reduceIte, Bool.true_and, true_and, ↓br_tt]
            refine eq_of (eqTree _) ?_
            simp (maxSteps := 2000000) only [segs_nil, segs_n, segs_g, ops_nil, ops_cons, ot_op, vcOp, ev, look, put_mk, Value.oneCell', cond_true, Nat.reduceEqDiff, ↓reduceIte, Bool.not_false, ↓br_tt, Bool.bne_true]
            refine eq_of (eqTree _) ?_
            simp (maxSteps := 2000000) only [segs_nil, segs_n, segs_g, ops_nil, ops_cons, ot_op, vcOp, ev, look, put_mk, Value.oneCell', cond_true, Nat.reduceEqDiff, ↓reduceIte, Bool.not_false, ↓br_tt, Bool.bne_true]
            refine call_frzm rfl rfl (Q := fun rs m' => ∃ v ts, rs = [.s v] ∧ SlR m' v 4 (ts.map gTreeNode) ∧ TsOk m' ts (nodesTold TX)) (fun w' vs hv _ hph _ => ?_) fun rs m5 _ hq => ?_
            · obtain ⟨vs, rfl, _, hv⟩ := argsV_g hv
              obtain rfl := argsV_nil hv
              exact nodesT (hph mX (by simp)) hTX hokX (by omega)
            obtain ⟨vx, tx, rfl, hsx, htx⟩ := hq
            simp (maxSteps := 2000000) only [retS, segs_nil, segs_g, ops_nil, ops_cons, ot_op, vcOp, look, put_mk, Nat.reduceEqDiff, ↓reduceIte, ↓br_tt]
            refine call_frzm rfl rfl (Q := fun rs m' => ∃ v ts, rs = [.s v] ∧ SlR m' v 4 (ts.map gTreeNode) ∧ TsOk m' ts (nodesTold TY)) (fun w' vs hv _ hph _ => ?_) fun rs m6 _ hq => ?_
            · obtain ⟨vs, rfl, _, hv⟩ := argsV_g hv
              obtain rfl := argsV_nil hv
              exact nodesT (hph mY (by simp)) hTY hokY (by omega)
            obtain ⟨vy, ty, rfl, hsy, hty⟩ := hq
            simp (maxSteps := 2000000) only [retS, segs_nil, segs_g, ops_nil, ops_cons, ot_op, vcOp, look, put_mk, Nat.reduceEqDiff, ↓reduceIte, ↓br_tt]
            refine call_ism _ [.s (.bool true)] rfl rfl (fun w' vs hv _ hph _ => ?_) ?_
            · obtain ⟨vs, rfl, _, hv⟩ := argsV_g hv
              obtain ⟨vs, rfl, _, hv⟩ := argsV_g hv
              obtain rfl := argsV_nil hv
              have s1 : PH.sub m5 w'.ph := hph m5 (by simp)
              have s2 : PH.sub m6 w'.ph := hph m6 (by simp)
              have := rSame_spec w' vx vy tx ty _ _ w'.ph (fun _ _ h => h) (hsx.up s1) (hsy.up s2) (htx.up s1) (hty.up s2) (by rw [htx.len]; omega) (fun t ht => by have := nodesTold_few hokX ht; omega)
              rw [decide_eq_true htold] at this
              exact this
            simp (maxSteps := 2000000) only [retS, vc_ret, thenQ_n, kKeep_eq, segs_nil, segs_n, ops_nil, ops_cons, ot_done, ot_op, vcOp, ev, look, put_mk, keep_mk, keepL, Value.oneCell', cond_true, Nat.reduceEqDiff, ↓reduceIte, finW_r, resL, resOne, ↓br_tt]
          · refine ld_of _ hs7 rfl ?_
            simp (maxSteps := 2000000) only [segs_nil, segs_g, ops_nil, ops_cons, ot_op, vcOp, look, put_mk, Nat.reduceEqDiff, ↓reduceIte, ↓br_tt]
            refine call_ism _ [.s (.int .i64 K.length)] rfl rfl (fun w' vs hv _ _ hm => ?_) ?_
            · obtain ⟨vs, rfl, _, hv⟩ := argsV_g hv
              obtain rfl := argsV_nil hv
              exact lenA w' hm
            simp (maxSteps := 2000000) only [retS, segs_nil, segs_g, ops_nil, ops_cons, ot_op, vcOp, ev, look, put_mk, Nat.reduceEqDiff, ↓reduceIte, ↓br_tt]
            refine ⟨o2, gkn K, hsm, hM2, ?_⟩
            rw [hkl]
            simp (maxSteps := 2000000) only [beq_self_eq_true, segs_nil, segs_n, segs_g, ops_nil, ops_cons, ot_op, vcOp, ev, look, put_mk, binV, binC, Value.oneCell', cond_true, Nat.reduceEqDiff, ↓reduceIte, Bool.true_and, true_and, ↓br_tt]
            refine eq_of (eqTree _) ?_
            simp (maxSteps := 2000000) only [segs_nil, segs_n, segs_g, ops_nil, ops_cons, ot_op, vcOp, ev, look, put_mk, Value.oneCell', cond_true, Nat.reduceEqDiff, ↓reduceIte, Bool.not_false, ↓br_tt, Bool.bne_true]
            refine eq_of (eqTree _) ?_
            simp (maxSteps := 2000000) only [segs_nil, segs_n, segs_g, ops_nil, ops_cons, ot_op, vcOp, ev, look, put_mk, Value.oneCell', cond_true, Nat.reduceEqDiff, ↓reduceIte, Bool.not_false, ↓br_tt, Bool.bne_true]
            refine call_frzm rfl rfl (Q := fun rs m' => ∃ v ts, rs = [.s v] ∧ SlR m' v 4 (ts.map gTreeNode) ∧ TsOk m' ts (nodesTold TX)) (fun w' vs hv _ hph _ => ?_) fun rs m5 _ hq => ?_
            · obtain ⟨vs, rfl, _, hv⟩ := argsV_g hv
              obtain rfl := argsV_nil hv
              exact nodesT (hph mX (by simp)) hTX hokX (by omega)
            obtain ⟨vx, tx, rfl, hsx, htx⟩ := hq
            simp (maxSteps := 2000000) only [retS, segs_nil, segs_g, ops_nil, ops_cons, ot_op, vcOp, look, put_mk, Nat.reduceEqDiff, ↓reduceIte, ↓br_tt]
            refine call_frzm rfl rfl (Q := fun rs m' => ∃ v ts, rs = [.s v] ∧ SlR m' v 4 (ts.map gTreeNode) ∧ TsOk m' ts (nodesTold TY)) (fun w' vs hv _ hph _ => ?_) fun rs m6 _ hq => ?_
            · obtain ⟨vs, rfl, _, hv⟩ := argsV_g hv
              obtain rfl := argsV_nil hv
              exact nodesT (hph mY (by simp)) hTY hokY (by omega)
            obtain ⟨vy, ty, rfl, hsy, hty⟩ := hq
            simp (maxSteps := 2000000) only [retS, segs_nil, segs_g, ops_nil, ops_cons, ot_op, vcOp, look, put_mk, Nat.reduceEqDiff, ↓reduceIte, ↓br_tt]
            refine call_ism _ [.s (.bool true)] rfl rfl (fun w' vs hv _ hph _ => ?_) ?_
            · obtain ⟨vs, rfl, _, hv⟩ := argsV_g hv
              obtain ⟨vs, rfl, _, hv⟩ := argsV_g hv
              obtain rfl := argsV_nil hv
              have s1 : PH.sub m5 w'.ph := hph m5 (by simp)
              have s2 : PH.sub m6 w'.ph := hph m6 (by simp)
              have := rSame_spec w' vx vy tx ty _ _ w'.ph (fun _ _ h => h) (hsx.up s1) (hsy.up s2) (htx.up s1) (hty.up s2) (by rw [htx.len]; omega) (fun t ht => by have := nodesTold_few hokX ht; omega)
              rw [decide_eq_true htold] at this
              exact this
            simp (maxSteps := 2000000) only [retS, vc_ret, thenQ_n, kKeep_eq, segs_nil, segs_n, ops_nil, ops_cons, ot_done, ot_op, vcOp, ev, look, put_mk, keep_mk, keepL, Value.oneCell', cond_true, Nat.reduceEqDiff, ↓reduceIte, finW_r, resL, resOne, ↓br_tt]
    · intro e c u ph m _ _ h
      exact h.elim
  · intro e c u ph m _ _ h
    exact h.elim
end Go.Proofs.YtmjiojflncffeaaGreat.Vc

/- OplogMerges: where what is read is of bulk at most the row's bound, the law answers true and leaves its arguments as they were. -/
set_option linter.unusedVariables false
set_option linter.unusedSimpArgs false
set_option maxRecDepth 100000
namespace Go.Proofs.YtmjiojflncffeaaGreat.Vc
open Go Go.Proofs Go.Proofs.YtmjiojflncffeaaGreat Go.ChangeShapes Go.WideShapes Go.ChangeAt

theorem OplogMerges_open {H : Type} (enc : TypeId × Value → H) (W : World) (base : Nat) (vs : List Value) (h : RdBs enc Tryz.prog W base [22, 22] vs 1048576) (_ : W.ShapedOpen Tryz.prog) : Spec Tryz.prog f_law13_OplogMerges vs PH.no W fun rs _ => rs = [.s (.bool true)] := by
  obtain ⟨v1, vs, a, b, rfl, hab, h1, g1, h⟩ := rdbs_cons h
  obtain ⟨v2, vs, a2, b2, rfl, hab2, h2, g2, h⟩ := rdbs_cons h
  obtain rfl := rdbs_nil h
  obtain ⟨ops, k1, l1, o1⟩ := open_OpsIn h1 g1
  obtain ⟨two, k2, l2, o2⟩ := open_OpsIn h2 g2
  exact merges_spec W v1 v2 ops two (by omega) o1 o2 k1 k2

theorem OplogMerges_reads (os : Os) {H : Type} (enc : TypeId × Value → H) : ∃ places, DataW.whole enc Tryz.prog ((World.holding Tryz.prog os ⟨#[], #[], []⟩).forCall (fun _ _ => 0) ⟨#[], #[.slice none 0 0, .slice none 0 0], []⟩).memory Tryz.f8.params.toList Rows.oplogMergesSpec.vars false (#[.slice none 0 0, .slice none 0 0] : Array Value).toList 8 = some ([.nil, .nil], [], places) :=
  ⟨[], by kernel_rfl⟩
theorem OplogMerges_lifted (os : Os) (started : os.Started) (H : Type) (enc : TypeId × Value → H) (F : Stop.Interp) :
    ReturnsInHanded {} Tryz.checked os f_law13_OplogMerges .any ((Rows.OpenSpec.upto Rows.oplogMergesSpec).preRow enc Tryz.prog Tryz.f8 Rows.oplogMergesUptoRow.domain false Rows.oplogMergesUptoRow.laid) (((Rows.OpenSpec.upto Rows.oplogMergesSpec).at F).post enc Tryz.prog Tryz.f8 false true false false) := by
  obtain ⟨places, hx⟩ := OplogMerges_reads os enc
  exact law_lifted_upto (C := Tryz.checked) Try_own Try_laidOut started (by kernel_rfl) Tryz.func8
    (witness_row_at (enc := enc) (C := Tryz.checked) false (World.holding Tryz.prog os ⟨#[], #[], []⟩) #[.slice none 0 0, .slice none 0 0] rfl (by kernel_rfl) (by kernel_rfl) (by kernel_rfl)
      (OpenSpec.preRow_of_cond 8 hx (by kernel_rfl) (fun k hk => by cases hk; kernel_rfl) (by kernel_rfl) (laidMet_of_run' 8 (by kernel_rfl) (by kernel_rfl))))
    (by kernel_rfl) rfl (tb := 4) (by kernel_rfl) (by kernel_rfl) (ts := [22, 22]) (by kernel_rfl) (fun ds h => by match ds, h with | [d0, d1], _ => rfl) (OplogMerges_open enc)
theorem OplogMerges_upto : Rows.OplogMergesUptoSaid :=
  OpenClaim.holds_of_cond f_law13_OplogMerges Tryz.f8 rfl rfl rfl rfl rfl rfl rfl ⟨rfl, rfl, rfl, rfl, rfl⟩ rfl rfl rfl rfl rfl (by kernel_rfl) Tryz.func8 (by kernel_rfl)
    (of_decide_eq_true (by kernel_rfl)) (by unfold Func.isWrapper; first | (rw [if_pos (by decide +kernel)]; kernel_rfl) | (rw [if_neg (by decide +kernel)]; exact ⟨rfl, rfl⟩))
    (fun os started H enc _ F => by rw [OpenClaim.pre_eq_preRow]; exact OplogMerges_lifted os started H enc F)
#print axioms OplogMerges_upto
end Go.Proofs.YtmjiojflncffeaaGreat.Vc

