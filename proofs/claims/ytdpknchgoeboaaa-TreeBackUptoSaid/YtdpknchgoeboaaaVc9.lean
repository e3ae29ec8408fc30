/- Contracts: how one is used at a call. -/
import Derived.Test.YtdpknchgoeboaaaVc8
set_option linter.unusedVariables false
set_option linter.unusedSimpArgs false
namespace Go.Proofs.Ytdpknchgoeboaaa.Vc
open Go

section
variable {C : Ctx} {loc : Loc} {pv : List (Nat × PV)} {ph : List PH} {m m1 mr m' : PH} {w w' : World}

/-- Behind a call that had m1 at its disposal: what is private stands. -/
theorem HR.after (hH : HR C loc pv ph m w) (hm : m = uni m1 mr) (hd : dis m1 mr) (hle : m'.le w') (hdom : ∀ b, m' b ≠ none → m1 b ≠ none ∨ w.heap.size ≤ b) (hk : Kept m1 w w') :
    HR C loc pv ph (uni m' mr) w' ∧ HR C loc pv (m' :: ph) mr w' ∧ HR C loc pv ph mr w' ∧ dis m' mr := by
  have hm1 : ∀ b, m b = none → m1 b = none := fun b hb => by
    rw [hm] at hb
    simp only [uni] at hb
    cases h1 : m1 b with
    | none => rfl
    | some o => simp [h1] at hb
  have hmr : ∀ b, m b = none → mr b = none := fun b hb => by
    rw [hm] at hb
    simp only [uni] at hb
    cases h1 : mr b with
    | none => rfl
    | some o => simp [h1] at hb
  have hsame : ∀ b, b < w.heap.size → m b = none → w'.heap[b]? = w.heap[b]? := fun b hb hn => hk.2.2.2.2 b hb (hm1 b hn)
  have hm'no : ∀ b, b < w.heap.size → m b = none → m' b = none := fun b hb hn => by
    cases h : m' b with
    | none => rfl
    | some o =>
      rcases hdom b (by simp [h]) with h1 | h1
      · exact absurd (hm1 b hn) h1
      · omega
  have hmle : ∀ b o, mr b = some o → b < w.heap.size ∧ w'.heap[b]? = some o := fun b o hb => by
    have hn : m1 b = none := (hd b).resolve_right (by simp [hb])
    have h1 : w.heap[b]? = some o := hH.mle b o (by rw [hm]; simp [uni, hn, hb])
    have hlt : b < w.heap.size := (Array.getElem?_eq_some_iff.1 h1).1
    exact ⟨hlt, by rw [hk.2.2.2.2 b hlt hn]; exact h1⟩
  have hrmine : ∀ b, mr b ≠ none → C.mine b := fun b hb => hH.mmine b (fun e => hb (hmr b e))
  have h'mine : ∀ b, m' b ≠ none → C.mine b := fun b hb => by
    rcases hdom b hb with h1 | h1
    · exact hH.mmine b (fun e => h1 (hm1 b e))
    · exact .inl (Nat.le_trans hH.kept.2.2.2.1 h1)
  have hphlt : ∀ u ∈ ph, ∀ b, u b ≠ none → b < w.heap.size ∧ m b = none := fun u hu b hb => by
    cases h : u b with
    | none => exact absurd h hb
    | some o => exact ⟨(Array.getElem?_eq_some_iff.1 ((hH.phs u hu).1 b o h)).1, (hH.phs u hu).2 b hb |>.2⟩
  have kept : Kept C.m0 C.w0 w' := by
    obtain ⟨h1, h2, h3, h4, h5⟩ := hH.kept
    obtain ⟨k1, k2, k3, k4, k5⟩ := hk
    refine ⟨k1.trans h1, k2.trans h2, k3.trans h3, Nat.le_trans h4 k4, fun b hb hn => ?_⟩
    have hmb : m b = none := by
      cases h : m b with
      | none => rfl
      | some o =>
        rcases hH.mmine b (by simp [h]) with h6 | h6
        · omega
        · exact absurd hn h6
    rw [hsame b (by omega) hmb]
    exact h5 b hb hn
  have pvs : ∀ ph', (∀ u, u ∈ ph → u ∈ ph') → ∀ k y, look pv k = some y → PVr C loc ph' w' k y := fun ph' hph k y hy => by
    have hp := hH.pvs k y hy
    cases y with
    | box g =>
      obtain ⟨h0, b, c, e, hl, hb⟩ := hp
      exact ⟨h0, b, c, e, hl, by rw [hsame b (hH.own_lt hy rfl hl) (hH.priv k _ b 0 c hy rfl hl).2.1]; exact hb⟩
    | row e z df xs =>
      refine ⟨hp.1, ?_⟩
      have hp2 := hp.2
      cases hl : loc k with
      | none => rw [hl] at hp2; exact hp2
      | some l =>
        obtain ⟨b, o, c⟩ := l
        rw [hl] at hp2
        obtain ⟨cs, hb, hr⟩ := hp2
        exact ⟨cs, by rw [hsame b (hH.own_lt hy rfl hl) (hH.priv k _ b o c hy rfl hl).2.1]; exact hb, hr⟩
    | ro z df xs =>
      refine ⟨hp.1, ?_⟩
      have hp2 := hp.2
      cases hl : loc k with
      | none => rw [hl] at hp2; exact hp2
      | some l =>
        obtain ⟨b, o, c⟩ := l
        rw [hl] at hp2
        obtain ⟨h1, hp3⟩ := hp2
        refine ⟨h1, fun hc => ?_⟩
        obtain ⟨u, cs, e, fz, hu, hr⟩ := hp3 hc
        exact ⟨u, cs, e, fz, hu.imp id (hph u), hr⟩
  have hphs : ∀ u ∈ ph, u.le w' := fun u hu b o hb => by
    obtain ⟨h1, h2⟩ := hphlt u hu b (by simp [hb])
    rw [hsame b h1 h2]
    exact (hH.phs u hu).1 b o hb
  have huni : ∀ b, uni m' mr b ≠ none → m' b ≠ none ∨ mr b ≠ none := fun b hb => by
    cases h : m' b with
    | some o => exact .inl (by simp)
    | none => exact .inr (fun e => hb (by simp [uni, h, e]))
  have disj : ∀ b, m' b ≠ none → mr b = none := fun b hb => by
    cases h : mr b with
    | none => rfl
    | some o =>
      rcases hdom b hb with h1 | h1
      · exact absurd ((hd b).resolve_left h1) (by simp [h])
      · have := (hmle b o h).1; omega
  refine ⟨⟨kept, pvs ph fun _ h => h, hH.apart, fun k y b o c h1 h2 h3 => ?_, fun b o hb => ?_, fun b hb => ?_, fun u hu => ⟨hphs u hu, fun b hb => ?_⟩⟩,
    ⟨kept, pvs _ fun _ h => List.mem_cons_of_mem _ h, hH.apart, fun k y b o c h1 h2 h3 => ?_, fun b o hb => (hmle b o hb).2, hrmine, fun u hu => ?_⟩,
    ⟨kept, pvs ph fun _ h => h, hH.apart, fun k y b o c h1 h2 h3 => ?_, fun b o hb => (hmle b o hb).2, hrmine, fun u hu => ⟨hphs u hu, fun b hb => ?_⟩⟩, fun b => (Classical.em (m' b = none)).imp id (disj b)⟩
  · obtain ⟨e1, e2, e3⟩ := hH.priv k y b o c h1 h2 h3
    have hlt := hH.own_lt h1 h2 h3
    exact ⟨e1, by simp [uni, hm'no b hlt e2, hmr b e2], e3⟩
  · simp only [uni] at hb
    cases h : m' b with
    | some o' =>
      simp [h] at hb
      subst hb
      exact hle b _ h
    | none =>
      simp [h] at hb
      exact (hmle b o hb).2
  · exact (huni b hb).elim (h'mine b) (hrmine b)
  · obtain ⟨h1, h2⟩ := hphlt u hu b hb
    exact ⟨((hH.phs u hu).2 b hb).1, by simp [uni, hm'no b h1 h2, hmr b h2]⟩
  · obtain ⟨e1, e2, e3⟩ := hH.priv k y b o c h1 h2 h3
    have hlt := hH.own_lt h1 h2 h3
    refine ⟨e1, hmr b e2, fun u hu => ?_⟩
    rcases List.mem_cons.1 hu with rfl | hu
    · exact hm'no b hlt e2
    · exact e3 u hu
  · rcases List.mem_cons.1 hu with rfl | hu
    · exact ⟨hle, fun b hb => ⟨h'mine b hb, disj b hb⟩⟩
    · refine ⟨hphs u hu, fun b hb => ?_⟩
      obtain ⟨h1, h2⟩ := hphlt u hu b hb
      exact ⟨((hH.phs u hu).2 b hb).1, hmr b h2⟩
  · obtain ⟨e1, e2, e3⟩ := hH.priv k y b o c h1 h2 h3
    exact ⟨e1, hmr b e2, e3⟩
  · obtain ⟨h1, h2⟩ := hphlt u hu b hb
    exact ⟨((hH.phs u hu).2 b hb).1, hmr b h2⟩

end

/-- What an argument is, for who is called. -/
def ArgV (C : Ctx) (σ : SS) (w : World) : SV → Value → Prop
  | .g x, v => x.ok ∧ v = x.val
  | .row k o n, v => ∃ z xs, rowE σ.pv k = some (z, xs) ∧ o + n ≤ xs.length ∧ SlR w.ph v z ((xs.drop o).take n)
  | _, _ => True

def ArgsV (C : Ctx) (σ : SS) (w : World) : List SV → List Value → Prop
  | [], [] => True
  | x :: xs, v :: vs => ArgV C σ w x v ∧ ArgsV C σ w xs vs
  | _, _ => False

section
variable {C : Ctx} {σ : SS} {a : Act} {w : World} {loc : Loc}

theorem HR.slr (hH : HR C loc σ.pv σ.ph σ.m w) {k z s n : Nat} {xs : List GV} {v : Value} (hr : rowE σ.pv k = some (z, xs)) (hn : s + n ≤ xs.length) (hv : SlcV (loc k) z s n v) : SlR w.ph v z ((xs.drop s).take n) := by
  have hrow := hH.row hr
  have hlen : ((xs.drop s).take n).length = n := by simp; omega
  refine ⟨hrow.1.part s n, ?_⟩
  have hblk : ∀ b f c, loc k = some (b, f, c) → xs.length ≤ c ∧ (0 < c → ∃ cs e fz, w.heap[b]? = some (.cells cs e fz) ∧ RowAt cs f (flats xs)) := by
    intro b f c hc
    unfold rowE at hr
    cases hl : look σ.pv k with
    | none => simp [hl] at hr
    | some y =>
      have hp := hH.pvs k y hl
      cases y with
      | box g => simp [hl] at hr
      | row e z' df xs' =>
        simp [hl] at hr
        obtain ⟨rfl, rfl⟩ := hr
        have hp2 := hp.2
        rw [hc] at hp2
        obtain ⟨cs, hb, h1, h2, h3⟩ := hp2
        exact ⟨h1, fun _ => ⟨cs, e, (0, 0), hb, h3⟩⟩
      | ro z' df xs' =>
        simp [hl] at hr
        obtain ⟨rfl, rfl⟩ := hr
        have hp2 := hp.2
        rw [hc] at hp2
        obtain ⟨h1, hp3⟩ := hp2
        refine ⟨h1, fun hc0 => ?_⟩
        obtain ⟨u, cs, e, fz, hu, hb, h3⟩ := hp3 hc0
        have hle : u.le w := by
          rcases hu with rfl | hu
          · exact hH.u0le
          · exact (hH.phs u hu).1
        exact ⟨cs, e, fz, hle b _ hb, h3⟩
  cases hc : loc k with
  | none =>
    rw [hc] at hv hrow
    have h2 := hrow.2
    simp only at h2
    subst h2
    obtain ⟨base, hv⟩ := hv
    have hn0 : n = 0 := by simp at hn; omega
    subst hn0
    cases base with
    | none => exact .inl ⟨hv, by simp⟩
    | some ad => exact .inr ⟨ad, 0, by rw [hv]; simp, by simp, fun h => absurd h (by omega)⟩
  | some L =>
    obtain ⟨b, f, c⟩ := L
    rw [hc] at hv
    obtain ⟨ad, rfl, had⟩ := hv
    obtain ⟨h1, hb0⟩ := hblk b f c hc
    refine .inr ⟨ad, c - s, by rw [hlen], by rw [hlen]; omega, fun hcs => ?_⟩
    obtain ⟨cs, e, fz, hb, hat⟩ := hb0 (by omega)
    rw [had (by omega)]
    refine ⟨cs, e, fz, rfl, hb, fun j v hj => ?_⟩
    rw [Nat.add_assoc]
    exact hat _ _ (flats_part hrow.1 hn j v hj)

theorem argsV_of (hF : FR loc C.N σ.fr σ.pv a) (hH : HR C loc σ.pv σ.ph σ.m w) : ∀ {args : List Opd} {svs : List SV}, evL σ args = some svs → ArgsV C σ w svs (args.map (evO a))
  | [], svs, h => by simp [evL] at h; subst h; trivial
  | x :: l, svs, h => by
    simp only [evL] at h
    split at h
    · rename_i y r hy hr
      simp at h; subst h
      refine ⟨?_, argsV_of hF hH hr⟩
      have hs := hF.ev rfl hy
      cases y with
      | g x => exact hs
      | row k s n =>
        obtain ⟨z, xs, h1, h2, h3⟩ := hs
        exact ⟨z, xs, h1, h2, hH.slr h1 h2 h3⟩
      | _ => trivial
    · cases h

theorem retS_ok {rs : List GV} (h : ∀ r ∈ rs, r.ok) {pv : List (Nat × PV)} : SVr loc pv (retS rs) (retV rs) := by
  unfold retS retV
  split
  · rename_i x
    exact ⟨h x (by simp), rfl⟩
  · exact ⟨h, rfl⟩

theorem call_anym {f : Nat} {args : List Opd} {d : Option Nat} {K : KT} {svs : List SV} {m1 mr : PH} {Q : List GV → PH → Prop} (hd : ∀ t, d = some t → t < C.N) (ha : evL σ args = some svs) (hm : σ.m = uni m1 mr) (hdis : dis m1 mr)
    (hs : ∀ w vs, ArgsV C σ w svs vs → C.u0.le w → (∀ u ∈ σ.ph, u.le w) → σ.m.le w → Spec C.P f vs m1 w Q)
    (hK : ∀ rs m', (∀ r ∈ rs, r.ok) → Q rs m' → dis m' mr → K ({ σ with m := uni m' mr }.put d (retS rs)) ∨ K ({ σ with ph := m' :: σ.ph, m := mr }.put d (retS rs)) ∨ K ({ σ with m := mr }.put d (retS rs))) : vcCall C f args d K σ := by
  constructor
  rintro a w ⟨loc, hF, hH⟩
  have hle1 : m1.le w := fun b o hb => hH.mle b o (by rw [hm]; simp [uni, hb])
  refine (hs w _ (argsV_of hF hH ha) hH.u0le (fun u hu => (hH.phs u hu).1) hH.mle hle1).mono fun e w' he => ?_
  obtain ⟨rs, m', rfl, hrs, hq, hle, hdom, hk⟩ := he
  refine ⟨_, rfl, ?_⟩
  obtain ⟨h1, h2, h3, hdd⟩ := hH.after hm hdis hle hdom hk
  rcases hK rs m' hrs hq hdd with hK | hK | hK
  · obtain ⟨q1, q2, q3⟩ := ({ σ with m := uni m' mr } : SS).put_pv d (retS rs)
    exact ⟨_, hK, loc, by rw [q1]; exact hF.put (σ := { σ with m := uni m' mr }) hd rfl (retS_ok hrs), by rw [q1, q2, q3]; exact h1⟩
  · obtain ⟨q1, q2, q3⟩ := ({ σ with ph := m' :: σ.ph, m := mr } : SS).put_pv d (retS rs)
    exact ⟨_, hK, loc, by rw [q1]; exact hF.put (σ := { σ with ph := m' :: σ.ph, m := mr }) hd rfl (retS_ok hrs), by rw [q1, q2, q3]; exact h2⟩
  · obtain ⟨q1, q2, q3⟩ := ({ σ with m := mr } : SS).put_pv d (retS rs)
    exact ⟨_, hK, loc, by rw [q1]; exact hF.put (σ := { σ with m := mr }) hd rfl (retS_ok hrs), by rw [q1, q2, q3]; exact h3⟩

theorem call_any {f : Nat} {args : List Opd} {d : Option Nat} {K : KT} {svs : List SV} {m1 mr : PH} {Q : List GV → PH → Prop} (hd : ∀ t, d = some t → t < C.N) (ha : evL σ args = some svs) (hm : σ.m = uni m1 mr) (hdis : dis m1 mr)
    (hs : ∀ w vs, ArgsV C σ w svs vs → C.u0.le w → (∀ u ∈ σ.ph, u.le w) → Spec C.P f vs m1 w Q)
    (hK : ∀ rs m', (∀ r ∈ rs, r.ok) → Q rs m' → dis m' mr → K ({ σ with m := uni m' mr }.put d (retS rs)) ∨ K ({ σ with ph := m' :: σ.ph, m := mr }.put d (retS rs)) ∨ K ({ σ with m := mr }.put d (retS rs))) : vcCall C f args d K σ :=
  call_anym hd ha hm hdis (fun w vs h1 h2 h3 _ => hs w vs h1 h2 h3) hK

/-- A call that only reads; what it makes is not looked at. -/
theorem call_val {f : Nat} {args : List Opd} {d : Option Nat} {K : KT} {svs : List SV} {Q : List GV → PH → Prop} (hd : ∀ t, d = some t → t < C.N) (ha : evL σ args = some svs)
    (hs : ∀ w vs, ArgsV C σ w svs vs → C.u0.le w → (∀ u ∈ σ.ph, u.le w) → Spec C.P f vs PH.no w Q)
    (hK : ∀ rs m', (∀ r ∈ rs, r.ok) → Q rs m' → K (σ.put d (retS rs))) : vcCall C f args d K σ :=
  call_any hd ha (uni_no σ.m).symm (dis_no _) hs fun rs m' h1 h2 _ => .inr (.inr (hK rs m' h1 h2))

/-- A call that only reads; what it makes is read from then on. -/
theorem call_frz {f : Nat} {args : List Opd} {d : Option Nat} {K : KT} {svs : List SV} {Q : List GV → PH → Prop} (hd : ∀ t, d = some t → t < C.N) (ha : evL σ args = some svs)
    (hs : ∀ w vs, ArgsV C σ w svs vs → C.u0.le w → (∀ u ∈ σ.ph, u.le w) → Spec C.P f vs PH.no w Q)
    (hK : ∀ rs m', (∀ r ∈ rs, r.ok) → Q rs m' → K ({ σ with ph := m' :: σ.ph }.put d (retS rs))) : vcCall C f args d K σ :=
  call_any hd ha (uni_no σ.m).symm (dis_no _) hs fun rs m' h1 h2 _ => .inr (.inl (hK rs m' h1 h2))

/-- A call that only reads; what it makes may be written from then on. -/
theorem call_own {f : Nat} {args : List Opd} {d : Option Nat} {K : KT} {svs : List SV} {Q : List GV → PH → Prop} (hd : ∀ t, d = some t → t < C.N) (ha : evL σ args = some svs)
    (hs : ∀ w vs, ArgsV C σ w svs vs → C.u0.le w → (∀ u ∈ σ.ph, u.le w) → Spec C.P f vs PH.no w Q)
    (hK : ∀ rs m', (∀ r ∈ rs, r.ok) → Q rs m' → K ({ σ with m := uni m' σ.m }.put d (retS rs))) : vcCall C f args d K σ :=
  call_any hd ha (uni_no σ.m).symm (dis_no _) hs fun rs m' h1 h2 _ => .inl (hK rs m' h1 h2)

/-- The same; and what it makes lies apart. -/
theorem call_ownd {f : Nat} {args : List Opd} {d : Option Nat} {K : KT} {svs : List SV} {Q : List GV → PH → Prop} (hd : ∀ t, d = some t → t < C.N) (ha : evL σ args = some svs)
    (hs : ∀ w vs, ArgsV C σ w svs vs → C.u0.le w → (∀ u ∈ σ.ph, u.le w) → Spec C.P f vs PH.no w Q)
    (hK : ∀ rs m', (∀ r ∈ rs, r.ok) → Q rs m' → dis m' σ.m → K ({ σ with m := uni m' σ.m }.put d (retS rs))) : vcCall C f args d K σ :=
  call_any hd ha (uni_no σ.m).symm (dis_no _) hs fun rs m' h1 h2 h3 => .inl (hK rs m' h1 h2 h3)

/-- A call that has memory m1 at its disposal. -/
theorem call_with {f : Nat} {args : List Opd} {d : Option Nat} {K : KT} {svs : List SV} {Q : List GV → PH → Prop} (m1 mr : PH) (hd : ∀ t, d = some t → t < C.N) (ha : evL σ args = some svs) (hm : σ.m = uni m1 mr) (hdis : dis m1 mr)
    (hs : ∀ w vs, ArgsV C σ w svs vs → C.u0.le w → (∀ u ∈ σ.ph, u.le w) → Spec C.P f vs m1 w Q)
    (hK : ∀ rs m', (∀ r ∈ rs, r.ok) → Q rs m' → dis m' mr → K ({ σ with m := uni m' mr }.put d (retS rs))) : vcCall C f args d K σ :=
  call_any hd ha hm hdis hs fun rs m' h1 h2 h3 => .inl (hK rs m' h1 h2 h3)

end
end Go.Proofs.Ytdpknchgoeboaaa.Vc
