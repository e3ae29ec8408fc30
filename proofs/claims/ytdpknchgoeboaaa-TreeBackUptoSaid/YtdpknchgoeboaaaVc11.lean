/- Structs behind pointers, handed out and taken in; what is known of memory. -/
import Derived.Test.YtdpknchgoeboaaaVc10
set_option linter.unusedVariables false
set_option linter.unusedSimpArgs false
namespace Go.Proofs.Ytdpknchgoeboaaa.Vc
open Go

section
variable {C : Ctx} {loc : Loc} {pv : List (Nat × PV)} {ph : List PH} {m : PH} {w : World}

/-- What is one's own becomes memory at one's disposal. -/
theorem HR.release (hH : HR C loc pv ph m w) {k b o c : Nat} {y : PV} {ob : Obj} (hk : look pv k = some y) (ho : y.own = true) (hl : loc k = some (b, o, c)) (hb : w.heap[b]? = some ob) :
    HR C loc (dropK k pv) ph (uni (one b ob) m) w ∧ dis (one b ob) m := by
  obtain ⟨q1, q2, q3⟩ := hH.priv k _ b o c hk ho hl
  have hdis : dis (one b ob) m := fun j => by
    by_cases hj : j = b
    · subst hj; exact .inr q2
    · exact .inl (by simp [one, hj])
  have hun : ∀ j o', uni (one b ob) m j = some o' → (j = b ∧ o' = ob) ∨ (j ≠ b ∧ m j = some o') := fun j o' hj => by
    by_cases hjb : j = b
    · subst hjb; simp [uni, one] at hj; exact .inl ⟨rfl, hj.symm⟩
    · simp [uni, one, hjb] at hj; exact .inr ⟨hjb, hj⟩
  have hnb : ∀ j, j ≠ b → uni (one b ob) m j = m j := fun j hj => by simp [uni, one, hj]
  refine ⟨⟨hH.kept, fun j y hj => ?_, fun j j' y y' b o c o' c' h1 h2 h3 h4 => ?_, fun j y b' o' c' h1 h2 h3 => ?_, fun j o' hj => ?_, fun j hj => ?_, fun u hu => ⟨(hH.phs u hu).1, fun j hj => ?_⟩⟩, hdis⟩
  · rw [look_dropK] at hj; split at hj
    · cases hj
    · exact hH.pvs j y hj
  · rw [look_dropK] at h1 h4
    split at h1
    · cases h1
    · split at h4
      · cases h4
      · exact hH.apart j j' y y' b o c o' c' h1 h2 h3 h4
  · rw [look_dropK] at h1
    split at h1
    · cases h1
    · rename_i hjk
      obtain ⟨e1, e2, e3⟩ := hH.priv j y b' o' c' h1 h2 h3
      have hbb : b' ≠ b := fun e => hjk (hH.apart j k y _ b' o' c' o c h1 h2 h3 hk ho (e ▸ hl))
      exact ⟨e1, by rw [hnb _ hbb]; exact e2, e3⟩
  · rcases hun j o' hj with ⟨rfl, rfl⟩ | ⟨_, h5⟩
    · exact hb
    · exact hH.mle j o' h5
  · by_cases hjb : j = b
    · subst hjb; exact q1
    · rw [hnb j hjb] at hj
      exact hH.mmine j hj
  · have hjb : j ≠ b := fun e => by subst e; exact hj (q3 u hu)
    obtain ⟨e1, e2⟩ := (hH.phs u hu).2 j hj
    exact ⟨e1, by rw [hnb _ hjb]; exact e2⟩

theorem look_kill_dom {k : Nat} : ∀ (l : List (Nat × SV)) {t : Nat}, look l t = none → look (kill k l) t = none
  | [], _, _ => rfl
  | (j, y) :: l, t, hl => by
    simp only [look] at hl
    split at hl
    · cases hl
    · rename_i e
      simp only [kill]
      cases y.mentions k <;> simp only [cond_true, cond_false, look, if_neg e] <;> exact look_kill_dom l hl

/-- The slots, where k is let go. -/
theorem FR.dropK {N : Nat} {fr : List (Nat × SV)} {a : Act} (hF : FR loc N fr pv a) (k t : Nat) {v : Value} (hv : a.tmps[t]? = some v) (ho : v.oneCell' = true) : FR loc N ((t, .g (.s v)) :: kill k fr) (dropK k pv) a := by
  refine ⟨hF.defers, hF.size, fun u x hx => ?_⟩
  simp only [look] at hx
  split at hx
  · rename_i e; subst e
    simp at hx; subst hx
    exact ⟨v, hv, ho, rfl⟩
  · rcases look_kill _ _ _ hx with rfl | ⟨h1, h2⟩
    · cases hc : look fr u with
      | none => rw [look_kill_dom _ hc] at hx; cases hx
      | some y =>
        obtain ⟨v2, hv2, _⟩ := hF.slots u y hc
        exact ⟨v2, hv2, trivial⟩
    · obtain ⟨v2, hv2, hr2⟩ := hF.slots u x h1
      exact ⟨v2, hv2, hr2.weaken fun j hj => ⟨rfl, by rw [look_dropK, if_neg (fun e => by subst e; rw [hj] at h2; cases h2)]⟩⟩
end

theorem uni_no_r (m : PH) : uni m PH.no = m := by funext k; simp only [uni, PH.no]; cases m k <;> rfl
theorem uni_comm {a b : PH} (h : dis a b) : uni a b = uni b a := by
  funext k
  simp only [uni]
  rcases h k with e | e
  · rw [e]; cases b k <;> rfl
  · rw [e]; cases a k <;> rfl
theorem dis_comm {a b : PH} (h : dis a b) : dis b a := fun k => (h k).symm
theorem dis_no_r (a : PH) : dis a PH.no := fun k => .inr rfl
theorem uni_assoc (a b c : PH) : uni (uni a b) c = uni a (uni b c) := by
  funext k
  simp only [uni]
  cases a k <;> rfl
theorem dis_uni_r {a b c : PH} (h1 : dis a b) (h2 : dis a c) : dis a (uni b c) := fun k => by
  rcases h1 k with e | e
  · exact .inl e
  · rcases h2 k with e2 | e2
    · exact .inl e2
    · exact .inr (by simp [uni, e, e2])
theorem dis_uni_l {a b c : PH} (h1 : dis a c) (h2 : dis b c) : dis (uni a b) c := dis_comm (dis_uni_r (dis_comm h1) (dis_comm h2))
theorem dis_of_uni_r {a b c : PH} (h : dis a (uni b c)) : dis a b ∧ dis a c := by
  refine ⟨fun k => ?_, fun k => ?_⟩
  · rcases h k with e | e
    · exact .inl e
    · simp only [uni] at e
      cases hb : b k with
      | none => exact .inr rfl
      | some o => rw [hb] at e; cases e
  · rcases h k with e | e
    · exact .inl e
    · simp only [uni] at e
      cases hb : b k with
      | none => rw [hb] at e; exact .inr (by simpa using e)
      | some o => rw [hb] at e; cases e
theorem dis_sub {a b c : PH} (h : dis a b) (hs : PH.sub c b) : dis a c := fun k => by
  rcases h k with e | e
  · exact .inl e
  · cases hc : c k with
    | none => exact .inr rfl
    | some o => rw [hs k o hc] at e; cases e

/-- A part of a row as an argument. -/
theorem argsV_part {C : Ctx} {σ : SS} {w : World} {k n o z : Nat} {xs : List GV} {svs : List SV} {vs : List Value} (hr : rowE σ.pv k = some (z, xs)) (h : ArgsV C σ w (.row k o n :: svs) vs) : ∃ v vs', vs = v :: vs' ∧ SlR w.ph v z ((xs.drop o).take n) ∧ ArgsV C σ w svs vs' := by
  cases vs with
  | nil => exact h.elim
  | cons v vs =>
    obtain ⟨⟨z', xs', e1, e2, e3⟩, h⟩ := h
    rw [hr] at e1
    obtain ⟨rfl, rfl⟩ : z = z' ∧ xs = xs' := by simpa using e1
    exact ⟨v, vs, rfl, e3, h⟩

/-- A call that only reads, one's own memory too; what it makes lies apart. -/
theorem call_ownm {C : Ctx} {σ : SS} {f : Nat} {args : List Opd} {d : Option Nat} {K : KT} {svs : List SV} {Q : List GV → PH → Prop} (hd : dOk d C.N = true) (ha : evL σ args = some svs)
    (hs : ∀ w vs, ArgsV C σ w svs vs → C.u0.le w → (∀ u ∈ σ.ph, u.le w) → σ.m.le w → Spec C.P f vs PH.no w Q)
    (hK : ∀ rs m', (∀ r ∈ rs, r.ok) → Q rs m' → dis m' σ.m → K ({ σ with m := uni m' σ.m }.put d (retS rs))) : vcCall C f args d K σ :=
  call_anym (dOk_spec hd) ha (uni_no σ.m).symm (dis_no _) hs fun rs m' h1 h2 h3 => .inl (hK rs m' h1 h2 h3)
/-- The same; what it makes is only read. -/
theorem call_frzm {C : Ctx} {σ : SS} {f : Nat} {args : List Opd} {d : Option Nat} {K : KT} {svs : List SV} {Q : List GV → PH → Prop} (hd : dOk d C.N = true) (ha : evL σ args = some svs)
    (hs : ∀ w vs, ArgsV C σ w svs vs → C.u0.le w → (∀ u ∈ σ.ph, u.le w) → σ.m.le w → Spec C.P f vs PH.no w Q)
    (hK : ∀ rs m', (∀ r ∈ rs, r.ok) → Q rs m' → K ({ σ with ph := m' :: σ.ph }.put d (retS rs))) : vcCall C f args d K σ :=
  call_anym (dOk_spec hd) ha (uni_no σ.m).symm (dis_no _) hs fun rs m' h1 h2 h3 => .inr (.inl (hK rs m' h1 h2))

/-- A call that reads, one's own memory too, with results that are known. -/
theorem call_ism {C : Ctx} {σ : SS} {f : Nat} {args : List Opd} {d : Option Nat} {K : KT} (svs : List SV) (rs : List GV) (hd : dOk d C.N = true) (ha : evL σ args = some svs)
    (hs : ∀ w vs, ArgsV C σ w svs vs → C.u0.le w → (∀ u ∈ σ.ph, u.le w) → σ.m.le w → Spec C.P f vs PH.no w fun rs' _ => rs' = rs) (hK : K (σ.put d (retS rs))) : vcCall C f args d K σ :=
  call_anym (dOk_spec hd) ha (uni_no σ.m).symm (dis_no _) hs fun rs' m' _ h2 _ => by subst h2; exact .inr (.inr hK)

theorem eqG_ptr {P : Program} {t e : TypeId} (ht : P.underlying t = some (.pointer e)) (ad : Addr) : EqG P t (.s (.pointer (some ad))) (.s (.pointer none)) false := by
  intro x y w
  exact ⟨by simp [eqGuard, binOp, Sem.run_bind, GV.val, run_eq_ptr ht], by simp [eqGuard, binOp, Sem.run_bind, GV.val, run_eq_ptr ht]⟩
theorem eqG_nilp {P : Program} {t e : TypeId} (ht : P.underlying t = some (.pointer e)) : EqG P t (.s (.pointer none)) (.s (.pointer none)) true := by
  have h0 : ∀ d w, (Op.equalIn (d + 1) t (.pointer none) (.pointer none)).run P w = .ok true w := fun d w => by
    simp [Op.equalIn, Sem.run_bind, run_underlying' ht]
  have h : ∀ w, (Op.equal t (.pointer none) (.pointer none)).run P w = .ok true w := fun w => h0 9999 w
  intro x y w
  exact ⟨by simp [eqGuard, binOp, Sem.run_bind, GV.val, h], by simp [eqGuard, binOp, Sem.run_bind, GV.val, h]⟩

/-- A pointer to a struct, in memory of its own. -/
def PtO (u : PH) (v : Value) (g : GV) : Prop := g.ok ∧ ∃ b e, v = .pointer (some ⟨b, 0, none⟩) ∧ u = one b (.cells g.flat.toArray e (0, 0))

section
variable {C : Ctx} {σ : SS} {a : Act} {w : World} {K : KT}

theorem Rel.pubBox (h : Rel C σ a w) {t k : Nat} {g : GV} (ht : look σ.fr t = some (.ref k [])) (hk : look σ.pv k = some (.box g)) :
    ∃ v u, v.oneCell' = true ∧ PtO u v g ∧ dis u σ.m ∧ Rel C ⟨(t, .g (.s v)) :: kill k σ.fr, dropK k σ.pv, σ.ph, uni u σ.m⟩ a w := by
  obtain ⟨loc, hF, hH⟩ := h
  obtain ⟨v, hv, g', b, c, y, e1, e2, e3, e4⟩ := hF.slots t _ ht
  rw [hk] at e1
  obtain rfl : g = g' := by simpa using e1
  obtain ⟨hok, b', c', e, hl, hb⟩ := hH.pvs k _ hk
  rw [e2] at hl
  obtain ⟨rfl, rfl⟩ : b = b' ∧ c = c' := by simpa using hl
  have hoff : g.offs [] = 0 := by cases g <;> rfl
  rw [hoff] at e4
  obtain ⟨h1, h2⟩ := hH.release hk rfl e2 hb
  subst e4
  exact ⟨_, _, rfl, ⟨hok, b, e, rfl, rfl⟩, h2, loc, hF.dropK k t hv rfl, h1⟩

/-- A variable of one's own, handed out. -/
theorem gh_pubBox (t k : Nat) {g : GV} (ht : look σ.fr t = some (.ref k [])) (hk : look σ.pv k = some (.box g))
    (hK : ∀ v u, v.oneCell' = true → PtO u v g → dis u σ.m → K ⟨(t, .g (.s v)) :: kill k σ.fr, dropK k σ.pv, σ.ph, uni u σ.m⟩) : ghC C K σ := by
  constructor
  intro a w hR
  obtain ⟨v, u, h1, h2, h3, h4⟩ := hR.pubBox ht hk
  exact ⟨_, h4, hK v u h1 h2 h3⟩

theorem flats_take {z : Nat} {xs : List GV} (h : Els z xs) (n : Nat) {j : Nat} {v : Value} (hj : (flats (xs.take n))[j]? = some v) : (flats xs)[j]? = some v := by
  have e : flats xs = flats (xs.take n) ++ flats (xs.drop n) := by rw [← flats_append, List.take_append_drop]
  rw [e]
  have hl : j < (flats (xs.take n)).length := by
    rcases Nat.lt_or_ge j (flats (xs.take n)).length with h | h
    · exact h
    · rw [List.getElem?_eq_none h] at hj; cases hj
  rw [List.getElem?_append_left hl]
  exact hj

/-- The tail of an own row is let go. -/
theorem Rel.trunc (h : Rel C σ a w) {t k n : Nat} {e : TypeId} {z : Nat} {df : GV} {xs : List GV} (ht : look σ.fr t = some (.row k 0 n)) (hk : look σ.pv k = some (.row e z df xs)) :
    Rel C ⟨(t, .row k 0 n) :: kill k σ.fr, updL σ.pv k (.row e z df (xs.take n)), σ.ph, σ.m⟩ a w := by
  obtain ⟨loc, hF, hH⟩ := h
  obtain ⟨v, hv, z', xs', hr, hle, hs⟩ := hF.slots t _ ht
  have hr' : rowE σ.pv k = some (z, xs) := by simp [rowE, hk]
  rw [hr'] at hr
  obtain ⟨rfl, rfl⟩ : z = z' ∧ xs = xs' := by simpa using hr
  have hlen : (xs.take n).length = n := by simp; omega
  obtain ⟨hels, hp⟩ := hH.pvs k _ hk
  refine ⟨loc, ⟨hF.defers, hF.size, fun q x hx => ?_⟩, ⟨hH.kept, fun q y hq => ?_, fun q q' y1 y2 b o1 c1 o2 c2 r1 r2 r3 r4 r5 r6 => ?_, fun q y1 b o1 c1 r1 r2 r3 => ?_, hH.mle, hH.mmine, hH.phs⟩⟩
  · simp only [look] at hx
    split at hx
    · rename_i e1; subst e1
      simp at hx; subst hx
      exact ⟨v, hv, z, xs.take n, by simp [rowE, look_upd], by rw [hlen]; omega, hs⟩
    · rcases look_kill _ _ _ hx with rfl | ⟨h1, h2⟩
      · cases hc : look σ.fr q with
        | none => rw [look_kill_dom _ hc] at hx; cases hx
        | some y =>
          obtain ⟨v2, hv2, _⟩ := hF.slots q y hc
          exact ⟨v2, hv2, trivial⟩
      · obtain ⟨v2, hv2, hr2⟩ := hF.slots q x h1
        exact ⟨v2, hv2, hr2.weaken fun j hj => ⟨rfl, by rw [look_upd, if_neg (fun e => by subst e; rw [hj] at h2; cases h2)]⟩⟩
  · rw [look_upd] at hq
    split at hq
    · rename_i e1; subst e1
      simp at hq; subst hq
      refine ⟨fun x hx => hels x (List.mem_of_mem_take hx), ?_⟩
      cases hl : loc q with
      | none => rw [hl] at hp; simp only at hp ⊢; subst hp; simp
      | some L =>
        obtain ⟨b, o, c⟩ := L
        rw [hl] at hp
        obtain ⟨cs, hb, h1, h2, h3⟩ := hp
        exact ⟨cs, hb, by rw [hlen]; omega, h2, fun j v hj => h3 j v (flats_take hels n hj)⟩
    · exact hH.pvs q y hq
  · rw [look_upd] at r1 r4
    have own1 : ∃ y, look σ.pv q = some y ∧ y.own = true := by
      split at r1
      · rename_i e1; subst e1; exact ⟨_, hk, rfl⟩
      · exact ⟨y1, r1, r2⟩
    have own2 : ∃ y, look σ.pv q' = some y ∧ y.own = true := by
      split at r4
      · rename_i e1; subst e1; exact ⟨_, hk, rfl⟩
      · exact ⟨y2, r4, r5⟩
    obtain ⟨u1, a1, a2⟩ := own1
    obtain ⟨u2, b1, b2⟩ := own2
    exact hH.apart q q' u1 u2 b o1 c1 o2 c2 a1 a2 r3 b1 b2 r6
  · rw [look_upd] at r1
    have own1 : ∃ y, look σ.pv q = some y ∧ y.own = true := by
      split at r1
      · rename_i e1; subst e1; exact ⟨_, hk, rfl⟩
      · exact ⟨y1, r1, r2⟩
    obtain ⟨u1, a1, a2⟩ := own1
    exact hH.priv q u1 b o1 c1 a1 a2 r3

/-- The beginning of an own row, handed out. -/
theorem gh_pubT (t k n : Nat) {e : TypeId} {z : Nat} {df : GV} {xs : List GV} (ht : look σ.fr t = some (.row k 0 n)) (hk : look σ.pv k = some (.row e z df xs)) (hn : n ≤ xs.length)
    (hK : ∀ v u, v.oneCell' = true → SlO u v e z (xs.take n) → dis u σ.m → K ⟨(t, .g (.s v)) :: kill k ((t, .row k 0 n) :: kill k σ.fr), dropK k (updL σ.pv k (.row e z df (xs.take n))), σ.ph, uni u σ.m⟩) : ghC C K σ := by
  constructor
  intro a w hR
  obtain ⟨v, u, h1, h2, h3, h4⟩ := (hR.trunc ht hk).pub (t := t) (k := k) (n := n) (e := e) (z := z) (df := df) (xs := xs.take n) (by simp [look]) (by simp [look_upd]) (by simp; omega)
  exact ⟨_, h4, hK v u h1 h2 h3⟩

/-- All of it is known. -/
def KN (u0 : PH) (L : List PH) (U : PH) : Prop := ∀ b o, U b = some o → u0 b = some o ∨ ∃ u ∈ L, u b = some o

theorem KN.u0 (u0 : PH) (L : List PH) : KN u0 L u0 := fun b o h => .inl h
theorem KN.mem {u0 : PH} {L : List PH} {u : PH} (h : u ∈ L) : KN u0 L u := fun b o hb => .inr ⟨u, h, hb⟩
theorem KN.cons {u0 : PH} {L : List PH} {U u : PH} (h : KN u0 L U) : KN u0 (u :: L) U := fun b o hb => (h b o hb).imp id fun ⟨v, hv, e⟩ => ⟨v, List.mem_cons_of_mem _ hv, e⟩
theorem KN.uni {u0 : PH} {L : List PH} {U V : PH} (h : KN u0 L U) (h' : KN u0 L V) : KN u0 L (uni U V) := fun b o hb => by
  simp only [Vc.uni] at hb
  cases hU : U b with
  | some x =>
    rw [hU] at hb
    simp at hb
    subst hb
    exact h b _ hU
  | none =>
    rw [hU] at hb
    simp at hb
    exact h' b o hb
theorem KN.le {u0 : PH} {L : List PH} {U : PH} {w : World} (h : KN u0 L U) (h1 : u0.le w) (h2 : ∀ u ∈ L, u.le w) : U.le w := fun b o hb => by
  rcases h b o hb with h | ⟨u, hu, h⟩
  · exact h1 b o h
  · exact h2 u hu b o h

/-- A slice that reads so, out of what is known. -/
theorem Rel.rk (h : Rel C σ a w) {t : Nat} (k : Nat) {v : Value} {z : Nat} (df : GV) {xs : List GV} {u : PH} (ht : look σ.fr t = some (.g (.s v))) (hk : look σ.pv k = none) (hs : SlR u v z xs) (hu : KN C.u0 σ.ph u) :
    Rel C ⟨(t, .row k 0 xs.length) :: σ.fr, (k, .ro z df xs) :: σ.pv, σ.ph, σ.m⟩ a w := by
  obtain ⟨hels, hs'⟩ := hs
  rcases hs' with ⟨rfl, rfl⟩ | ⟨ad, c, rfl, h1, h2⟩
  · exact h.ro k df ht hk ⟨hels, .inl ⟨rfl, rfl⟩⟩ (.inl rfl)
  · rcases Nat.eq_zero_or_pos c with hc | hc
    · exact h.ro k df ht hk ⟨hels, .inr ⟨ad, c, rfl, h1, fun hc' => absurd hc' (by omega)⟩⟩ (.inl rfl)
    · obtain ⟨cs, e, fz, g1, g2, g3⟩ := h2 hc
      rcases hu _ _ g2 with h3 | ⟨u', hu', h3⟩
      · exact h.ro k df ht hk ⟨hels, .inr ⟨ad, c, rfl, h1, fun _ => ⟨cs, e, fz, g1, h3, g3⟩⟩⟩ (.inl rfl)
      · exact h.ro k df ht hk ⟨hels, .inr ⟨ad, c, rfl, h1, fun _ => ⟨cs, e, fz, g1, h3, g3⟩⟩⟩ (.inr hu')

theorem gh_rk (t k : Nat) {v : Value} {z : Nat} (df : GV) {xs : List GV} {u : PH} (ht : look σ.fr t = some (.g (.s v))) (hk : look σ.pv k = none) (hs : SlR u v z xs) (hu : KN C.u0 σ.ph u)
    (hK : K ⟨(t, .row k 0 xs.length) :: σ.fr, (k, .ro z df xs) :: σ.pv, σ.ph, σ.m⟩) : ghC C K σ :=
  ⟨fun a w hR => ⟨_, hR.rk k df ht hk hs hu, hK⟩⟩

/-- Bytes out of what is known. -/
theorem bytesAt_kn {v : Value} {bs : List UInt8} {u : PH} (hs : SlR u v 1 (bs.map gb)) (hu : KN C.u0 σ.ph u) : BytesAt C σ (.g (.s v)) bs := by
  obtain ⟨hels, hs'⟩ := hs
  rcases hs' with ⟨rfl, h0⟩ | ⟨ad, c, rfl, h1, h2⟩
  · exact ⟨C.u0, .inl rfl, hels, .inl ⟨rfl, h0⟩⟩
  · rcases Nat.eq_zero_or_pos c with hc | hc
    · exact ⟨C.u0, .inl rfl, hels, .inr ⟨ad, c, rfl, h1, fun hc' => absurd hc' (by omega)⟩⟩
    · obtain ⟨cs, e, fz, g1, g2, g3⟩ := h2 hc
      rcases hu _ _ g2 with h3 | ⟨u', hu', h3⟩
      · exact ⟨C.u0, .inl rfl, hels, .inr ⟨ad, c, rfl, h1, fun _ => ⟨cs, e, fz, g1, h3, g3⟩⟩⟩
      · exact ⟨u', .inr (.inl hu'), hels, .inr ⟨ad, c, rfl, h1, fun _ => ⟨cs, e, fz, g1, h3, g3⟩⟩⟩

theorem slr_len {u : PH} {v : Value} {z : Nat} {xs : List GV} (h : SlR u v z xs) : ∃ a c, v = .slice a xs.length c := by
  rcases h.2 with ⟨rfl, rfl⟩ | ⟨a, c, rfl, _⟩
  · exact ⟨none, 0, rfl⟩
  · exact ⟨_, _, rfl⟩
end
end Go.Proofs.Ytdpknchgoeboaaa.Vc
