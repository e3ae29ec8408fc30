/- Rows handed out and taken in; an element put behind a slice of one's own memory. -/
import Derived.Test.YtdpknchgoeboaaaVc5b
import Derived.Laws.BytesString
set_option linter.unusedVariables false
set_option linter.unusedSimpArgs false
namespace Go.Proofs.Ytdpknchgoeboaaa.Vc
open Go

theorem uni_no (m : PH) : uni PH.no m = m := by funext k; simp [uni, PH.no]
theorem dis_no (m : PH) : dis PH.no m := fun k => .inl rfl

theorem Oper.wp_put {P : Program} {o : Oper} {a : Act} {w : World} {K : Act → World → Prop} {Q : Exit → Act → World → Prop} (h : o.wp P a w K Q) :
    o.wp P a w (fun a' w' => K a' w' ∧ ∀ t, o.dst ≠ some t → a'.tmps[t]? = a.tmps[t]?) Q := by
  have put : ∀ (b : Act) v t, b.tmps = a.tmps → o.dst ≠ some t → (b.put o.dst v).tmps[t]? = a.tmps[t]? := fun b v t hb ht => by
    rw [← hb]
    cases hd : o.dst with
    | none => rfl
    | some d => simp only [Act.put]; rw [Array.getElem?_setIfInBounds_ne (fun e => ht (by rw [hd, e]))]
  unfold Oper.wp at *
  generalize (execOp a.eval o).run P w = r at *
  cases r with
  | ok n w' =>
    cases n <;> simp only [Oper.upon] at h ⊢
    case value v => exact ⟨h, fun t ht => put a _ t rfl ht⟩
    case skip => exact ⟨h, fun t ht => put a _ t rfl ht⟩
    case defer d => exact ⟨h, fun t ht => put { a with defers := d :: a.defers } _ t rfl ht⟩
    case enter f args =>
      refine Calls.mono h fun e w'' he => ?_
      cases e with
      | returned u => exact ⟨he, fun t ht => put a _ t rfl ht⟩
      | panicked c => exact he
      | outgrown => exact he
    case row row args => exact Rows.mono h fun u w'' he => ⟨he, fun t ht => put a _ t rfl ht⟩
  | halt x w' => cases x <;> simp only [Oper.upon] at h ⊢ <;> exact h

/-! ### Rows handed out and taken in -/
def dropK (k : Nat) : List (Nat × PV) → List (Nat × PV)
  | [] => []
  | (j, x) :: l => if j = k then dropK k l else (j, x) :: dropK k l

theorem look_dropK {k : Nat} : ∀ (l : List (Nat × PV)) (t : Nat), look (dropK k l) t = if t = k then none else look l t
  | [], t => by simp [dropK, look]
  | (j, x) :: l, t => by
    simp only [dropK]
    by_cases h : j = k
    · subst h
      simp only [if_true, look, look_dropK l t]
      split <;> rfl
    · simp only [h, if_false, look, look_dropK l t]
      by_cases ht : t = j
      · subst ht; simp [h]
      · simp [ht]

theorem look_kill {k : Nat} : ∀ (l : List (Nat × SV)) (t : Nat) (x : SV), look (kill k l) t = some x → x = .any ∨ (look l t = some x ∧ x.mentions k = false)
  | [], t, x, h => by cases h
  | (j, y) :: l, t, x, h => by
    simp only [kill] at h
    cases hm : y.mentions k with
    | true =>
      simp only [hm, cond_true, look] at h
      simp only [look]
      split at h
      · rename_i e; simp at h; exact .inl h.symm
      · rename_i e; rw [if_neg e]; exact look_kill l t x h
    | false =>
      simp only [hm, cond_false, look] at h
      simp only [look]
      split at h
      · rename_i e; simp at h; subst h; rw [if_pos e]; exact .inr ⟨rfl, hm⟩
      · rename_i e; rw [if_neg e]; exact look_kill l t x h

section
variable {C : Ctx} {σ : SS} {a : Act} {w : World}


/-- An own row becomes memory at one's disposal. -/
theorem Rel.pub (h : Rel C σ a w) {t k n : Nat} {e : TypeId} {z : Nat} {df : GV} {xs : List GV} (ht : look σ.fr t = some (.row k 0 n)) (hk : look σ.pv k = some (.row e z df xs)) (hn : n = xs.length) :
    ∃ v u, v.oneCell' = true ∧ SlO u v e z xs ∧ dis u σ.m ∧ Rel C ⟨(t, .g (.s v)) :: kill k σ.fr, dropK k σ.pv, σ.ph, uni u σ.m⟩ a w := by
  obtain ⟨loc, hF, hH⟩ := h
  obtain ⟨v, hv, z', xs', hr, hle, hs⟩ := hF.slots t _ ht
  have hr' : rowE σ.pv k = some (z, xs) := by simp [rowE, hk]
  rw [hr'] at hr
  obtain ⟨rfl, rfl⟩ : z = z' ∧ xs = xs' := by simpa using hr
  subst hn
  have hp := hH.pvs k _ hk
  obtain ⟨hels, hp⟩ := hp
  have frs : ∀ v', v' = v → v'.oneCell' = true → FR loc C.N ((t, .g (.s v')) :: kill k σ.fr) (dropK k σ.pv) a := fun v' e hv1 => by
    subst e
    refine ⟨hF.defers, hF.size, fun u x hx => ?_⟩
    simp only [look] at hx
    split at hx
    · rename_i e; subst e
      simp at hx; subst hx
      exact ⟨v', hv, hv1, rfl⟩
    · rcases look_kill _ _ _ hx with rfl | ⟨h1, h2⟩
      · exact ⟨a.tmps.getD u undef, by
          cases hc : look σ.fr u with
          | none =>
            have : ∀ (l : List (Nat × SV)), look l u = none → look (kill k l) u = none := by
              intro l
              induction l with
              | nil => intro _; rfl
              | cons y l ih =>
                obtain ⟨j, y⟩ := y
                intro hl
                simp only [look] at hl
                split at hl
                · cases hl
                · rename_i e
                  simp only [kill]
                  cases y.mentions k <;> simp only [cond_true, cond_false, look, if_neg e] <;> exact ih hl
            rw [this _ hc] at hx; cases hx
          | some y =>
            obtain ⟨v2, hv2, _⟩ := hF.slots u y hc
            simp [hv2], trivial⟩
      · obtain ⟨v2, hv2, hr2⟩ := hF.slots u x h1
        exact ⟨v2, hv2, hr2.weaken fun j hj => ⟨rfl, by rw [look_dropK, if_neg (fun e => by subst e; rw [hj] at h2; cases h2)]⟩⟩
  cases hl : loc k with
  | none =>
    rw [hl] at hp hs
    simp only at hp
    subst hp
    obtain ⟨base, hs'⟩ : ∃ base, v = .slice base 0 0 := hs
    subst hs'
    refine ⟨_, PH.no, rfl, ⟨hels, ?_⟩, dis_no _, loc, frs _ rfl rfl, ?_⟩
    · cases base with
      | none => exact .inl ⟨rfl, rfl⟩
      | some ad => exact .inr ⟨ad, 0, rfl, Nat.le_refl _, fun h => absurd h (by omega)⟩
    rw [show (⟨(t, .g (.s (.slice base 0 0))) :: kill k σ.fr, dropK k σ.pv, σ.ph, uni PH.no σ.m⟩ : SS).m = σ.m from uni_no _]
    refine ⟨hH.kept, fun j y hj => ?_, fun j j' y y' b o c o' c' h1 h2 h3 h4 => ?_, fun j y b o c h1 h2 h3 => ?_, hH.mle, hH.mmine, hH.phs⟩
    · rw [look_dropK] at hj; split at hj
      · cases hj
      · exact hH.pvs j y hj
    · rw [look_dropK] at h1 h4
      split at h1
      · cases h1
      · split at h4
        · cases h4
        · exact hH.apart j j' y y' b o c o' c' h1 h2 h3 h4
    · rw [look_dropK] at h1
      split at h1
      · cases h1
      · exact hH.priv j y b o c h1 h2 h3
  | some L =>
    obtain ⟨b, o, c⟩ := L
    rw [hl] at hp hs
    obtain ⟨cs, hb, h1, h2, h3⟩ := hp
    obtain ⟨ad, hs, hsad⟩ := hs
    subst hs
    obtain ⟨q1, q2, q3⟩ := hH.priv k _ b o c hk rfl hl
    have hru : SlO (one b (.cells cs e (0, 0))) (.slice (some ad) xs.length (c - 0)) e z xs := by
      refine ⟨hels, .inr ⟨ad, c, by simp, h1, fun hc => ?_⟩⟩
      rw [hsad hc]
      exact ⟨cs, rfl, by simpa using h2, by simp [one], by simpa using h3⟩
    have hdis : dis (one b (.cells cs e (0, 0))) σ.m := fun j => by
      by_cases hj : j = b
      · subst hj; exact .inr q2
      · exact .inl (by simp [one, hj])
    have hun : ∀ j o', uni (one b (.cells cs e (0, 0))) σ.m j = some o' → (j = b ∧ o' = .cells cs e (0, 0)) ∨ (j ≠ b ∧ σ.m j = some o') := fun j o' hj => by
      by_cases hjb : j = b
      · subst hjb; simp [uni, one] at hj; exact .inl ⟨rfl, hj.symm⟩
      · simp [uni, one, hjb] at hj; exact .inr ⟨hjb, hj⟩
    have hnb : ∀ j, j ≠ b → uni (one b (.cells cs e (0, 0))) σ.m j = σ.m j := fun j hj => by simp [uni, one, hj]
    refine ⟨_, one b (.cells cs e (0, 0)), rfl, hru, hdis, loc, frs _ rfl rfl, ⟨hH.kept, fun j y hj => ?_, fun j j' y y' b o c o' c' h1 h2 h3 h4 => ?_, fun j y b' o' c' h1 h2 h3 => ?_, fun j o' hj => ?_, fun j hj => ?_, fun u hu => ⟨(hH.phs u hu).1, fun j hj => ?_⟩⟩⟩
    · rw [look_dropK] at hj; split at hj
      · cases hj
      · exact hH.pvs j y hj
    · rw [look_dropK] at h1 h4
      split at h1
      · cases h1
      · split at h4
        · cases h4
        · exact hH.apart j j' y y' b o c o' c' h1 h2 h3 h4
    · rw [look_dropK] at h1
      split at h1
      · cases h1
      · rename_i hjk
        obtain ⟨e1, e2, e3⟩ := hH.priv j y b' o' c' h1 h2 h3
        have hbb : b' ≠ b := fun e => hjk (hH.apart j k y _ b' o' c' o c h1 h2 h3 hk rfl (e ▸ hl))
        exact ⟨e1, by show uni _ _ _ = _; rw [hnb _ hbb]; exact e2, e3⟩
    · rcases hun j o' hj with ⟨rfl, rfl⟩ | ⟨_, h5⟩
      · exact hb
      · exact hH.mle j o' h5
    · by_cases hjb : j = b
      · subst hjb; exact q1
      · rw [show (⟨(t, .g (.s (.slice (some ad) xs.length (c - 0)))) :: kill k σ.fr, dropK k σ.pv, σ.ph, uni (one b (.cells cs e (0, 0))) σ.m⟩ : SS).m j = σ.m j from hnb j hjb] at hj
        exact hH.mmine j hj
    · have hjb : j ≠ b := fun e => by subst e; exact hj (q3 u hu)
      obtain ⟨e1, e2⟩ := (hH.phs u hu).2 j hj
      exact ⟨e1, by show uni _ _ _ = _; rw [hnb _ hjb]; exact e2⟩

/-- A slice in memory at one's disposal becomes an own row. -/
theorem Rel.own (h : Rel C σ a w) {t : Nat} (k : Nat) {v : Value} {e : TypeId} {z : Nat} (df : GV) {xs : List GV} {u m' : PH} (ht : look σ.fr t = some (.g (.s v))) (hk : look σ.pv k = none) (hs : SlO u v e z xs) (hm : σ.m = uni u m') (hd : dis u m') :
    Rel C ⟨(t, .row k 0 xs.length) :: σ.fr, (k, .row e z df xs) :: σ.pv, σ.ph, m'⟩ a w := by
  obtain ⟨loc, hF, hH⟩ := h
  obtain ⟨v', hv, hvs⟩ := hF.slots t _ ht
  have hvv : v' = v := hvs.2
  subst hvv
  have hmle : ∀ j, σ.m j = none → m' j = none := fun j hj => by
    rw [hm] at hj
    cases h1 : m' j with
    | none => rfl
    | some o => simp [uni, h1] at hj
  have hm'le : ∀ j o, m' j = some o → σ.m j = some o := fun j o hj => by
    rw [hm]; exact sub_uni_r hd j o hj
  obtain ⟨hels, hs⟩ := hs
  -- the new place
  have key : ∀ (L : Option (Nat × Nat × Nat)), SlcV L z 0 xs.length v' → (match L with
      | none => xs = []
      | some (b, o, c) => ∃ cs, w.heap[b]? = some (.cells cs e (0, 0)) ∧ xs.length ≤ c ∧ o + c * z ≤ cs.size ∧ RowAt cs o (flats xs)) → (∀ b o c, L = some (b, o, c) → u b ≠ none) →
      Rel C ⟨(t, .row k 0 xs.length) :: σ.fr, (k, .row e z df xs) :: σ.pv, σ.ph, m'⟩ a w := by
    intro L h1 h2 h3
    refine ⟨fun j => if j = k then L else loc j, ⟨hF.defers, hF.size, fun s x hx => ?_⟩, ⟨hH.kept, fun j y hj => ?_, fun j j' y y' b o c o' c' g1 g2 g3 g4 g5 g6 => ?_, fun j y b o c g1 g2 g3 => ?_, fun j o hj => hH.mle j o (hm'le j o hj), fun j hj => hH.mmine j (fun e => hj (hmle j e)), fun u' hu => ⟨(hH.phs u' hu).1, fun j hj => ⟨((hH.phs u' hu).2 j hj).1, hmle j ((hH.phs u' hu).2 j hj).2⟩⟩⟩⟩
    · simp only [look] at hx
      split at hx
      · rename_i e; subst e
        simp at hx; subst hx
        exact ⟨v', hv, z, xs, by simp [rowE, look], by simp, by simpa using h1⟩
      · obtain ⟨v2, hv2, hr2⟩ := hF.slots s x hx
        refine ⟨v2, hv2, hr2.weaken fun j hj => ?_⟩
        have hjk : j ≠ k := fun e => hr2.there j hj (e ▸ hk)
        exact ⟨by simp [hjk], by simp [look, hjk]⟩
    · simp only [look] at hj
      split at hj
      · rename_i e; subst e
        simp at hj; subst hj
        refine ⟨hels, ?_⟩
        simp only [if_true]
        cases L with
        | none => exact h2
        | some l => exact h2
      · rename_i hjk
        have hp := hH.pvs j y hj
        cases y with
        | box g => simpa [PVr, hjk] using hp
        | row e' z' df' xs' => simpa [PVr, hjk] using hp
        | ro z' df' xs' => simpa [PVr, hjk] using hp
    · simp only [look] at g1 g4
      by_cases hj : j = k
      · by_cases hj' : j' = k
        · rw [hj, hj']
        · simp only [hj, if_true] at g3
          simp only [hj', if_false] at g4 g6
          have e2 := (hH.priv j' y' b o' c' g4 g5 g6).2.1
          have := h3 b o c g3
          rw [hm] at e2
          cases hub : u b with
          | none => exact absurd hub this
          | some x => simp [uni, hub] at e2
      · simp only [hj, if_false] at g1 g3
        by_cases hj' : j' = k
        · simp only [hj', if_true] at g6
          have e2 := (hH.priv j y b o c g1 g2 g3).2.1
          have := h3 b o' c' g6
          rw [hm] at e2
          cases hub : u b with
          | none => exact absurd hub this
          | some x => simp [uni, hub] at e2
        · simp only [hj', if_false] at g4 g6
          exact hH.apart j j' y y' b o c o' c' g1 g2 g3 g4 g5 g6
    · simp only [look] at g1
      by_cases hj : j = k
      · simp only [hj, if_true] at g3
        have hub := h3 b o c g3
        have hmb : σ.m b ≠ none := fun e => by
          rw [hm] at e
          cases hu : u b with
          | none => exact hub hu
          | some x => simp [uni, hu] at e
        refine ⟨hH.mmine b hmb, (hd b).resolve_left hub, fun u' hu => ?_⟩
        cases hub' : u' b with
        | none => rfl
        | some x => exact absurd ((hH.phs u' hu).2 b (by simp [hub'])).2 hmb
      · simp only [hj, if_false] at g1 g3
        obtain ⟨e1, e2, e3⟩ := hH.priv j y b o c g1 g2 g3
        exact ⟨e1, hmle b e2, e3⟩
  rcases hs with ⟨rfl, rfl⟩ | ⟨ad, c, rfl, h1, h2⟩
  · exact key none ⟨none, rfl⟩ rfl (fun _ _ _ e => by cases e)
  · rcases Nat.eq_zero_or_pos c with hc0 | hc0
    · subst hc0
      have : xs = [] := List.length_eq_zero_iff.mp (by omega)
      subst this
      exact key none ⟨some ad, rfl⟩ rfl (fun _ _ _ e => by cases e)
    · obtain ⟨cs, g1, g2, g3, g4⟩ := h2 hc0
      obtain ⟨b, o, sp⟩ := ad
      simp only at g1 g2 g3 g4
      subst g1
      have hb : w.heap[b]? = some (.cells cs e (0, 0)) := hH.mle b _ (by rw [hm]; simp [uni, g3])
      exact key (some (b, o, c)) ⟨⟨b, o, none⟩, by simp, fun _ => by simp⟩ ⟨cs, hb, h1, g2, g4⟩ (fun _ _ _ e => by simp at e; rw [← e.1, g3]; simp)

end

/-! ### Bytes as a string -/
section
variable {C : Ctx} {loc : Loc} {σ : SS} {a : Act} {o : Oper} {w : World} {K : KT} {Q : Exit → Act → World → Prop}

theorem flats_gb : ∀ (bs : List UInt8), flats (bs.map gb) = bs.map fun b => .int .u8 b.toNat
  | [] => rfl
  | b :: bs => by
    have := flats_gb bs
    simp only [flats, List.map_cons, List.flatMap_cons] at this ⊢
    rw [this]; rfl

theorem push_bytes : ∀ (bs : List UInt8) (s : ByteArray), (bs.map fun b => (b.toNat : Int)).foldl (fun r n => r.push (UInt8.ofNat n.toNat)) s = ⟨s.data ++ bs.toArray⟩
  | [], s => by simp
  | b :: bs, s => by
    simp only [List.map_cons, List.foldl_cons, push_bytes bs]
    simp [ByteArray.push]

theorem run_b2s {P : Program} {ad : Addr} {n c : Nat} {bs : List UInt8} {w : World} (hn : bs.length = n) (h : ∀ j v, (flats (bs.map gb))[j]? = some v → w.cell? (ad.add j) = some v) : (Conv.bytesToString (.slice (some ad) n c)).run P w = .ok (.string ⟨bs.toArray⟩) w := by
  have hl := run_loadCells_list (P := P) w ad (flats (bs.map gb)) h
  rw [flats_gb, List.length_map, hn] at hl
  have := run_bytesToString (P := P) w ad n c (bs.map fun b => (b.toNat : Int)) (by rw [hl, List.map_map]; rfl)
  rw [this, push_bytes]
  simp [ByteArray.empty, ByteArray.emptyWithCapacity]
  rfl

theorem flatsgb_len (bs : List UInt8) : (flats (bs.map gb)).length = bs.length := by rw [flats_gb, List.length_map]

theorem rd_b2s {s t e : TypeId} {x : Operand} {y : Opd} (ho : o.op = .convert s t x) (hs : C.P.underlying s = some (.slice e)) (ht : C.P.underlying t = some .string) (he : C.P.underlying e = some (.int .u8)) (hx : cOpd x = some y) (hF : FR loc C.N σ.fr σ.pv a) {v : SV}
    (hv : ev σ y = some v) {bs : List UInt8} (hb : BytesAt C σ v bs) : Reads C loc σ o a (.g (.s (.string ⟨bs.toArray⟩))) := by
  have hev := hF.ev rfl hv
  refine rd_valL (isPure_b2s ho hs) (s := convert s t (evO a y)) (v := .string ⟨bs.toArray⟩) ⟨rfl, rfl⟩ (by simp only [execOp, ho, cOpd_eval hx a]) fun w hw => ?_
  have key : ∀ (ad : Option Addr) (n c : Nat), evO a y = .slice ad n c → (Conv.bytesToString (.slice ad n c)).run C.P w = .ok (.string ⟨bs.toArray⟩) w → (convert s t (evO a y)).run C.P w = .ok (.string ⟨bs.toArray⟩) w := by
    intro ad n c h1 h2
    rw [h1]
    cases ad <;> simp [convert, Sem.run_bind, run_underlying' hs, run_underlying' ht, run_underlying' he, h2]
  match v, hev, hb with
  | .row k s0 n, hev, hb =>
    obtain ⟨z, xs, h1, h2, h3⟩ := hev
    obtain ⟨xs', h4, h5⟩ := hb
    rw [h1] at h4
    obtain ⟨rfl, rfl⟩ : z = 1 ∧ xs = xs' := by simpa using h4
    have hlen : bs.length = n := by
      have := congrArg List.length h5
      simp at this; omega
    obtain ⟨hels, hrow⟩ := hw.row h1
    cases hl : loc k with
    | none =>
      rw [hl] at h3 hrow
      obtain ⟨base, h3⟩ := h3
      simp only at hrow
      subst hrow
      have : bs = [] := by simpa using h5.symm
      subst this
      cases base with
      | none => exact key none 0 0 h3 (by simp [Conv.bytesToString]; rfl)
      | some ad => exact key (some ad) 0 0 h3 (run_b2s rfl (fun j v hj => by simp [flats] at hj))
    | some L =>
      obtain ⟨b, f, c⟩ := L
      rw [hl] at h3 hrow
      obtain ⟨ad, h3, had⟩ := h3
      refine key (some ad) n (c - s0) h3 (run_b2s hlen fun j v hj => ?_)
      rw [← h5] at hj
      have hn0 : 0 < n := by
        rcases Nat.eq_zero_or_pos n with e | e
        · subst e; simp [flats] at hj
        · exact e
      have := hrow.1
      rw [had (by omega), addr_add, Nat.add_assoc]
      exact hrow.2 _ _ (flats_part hels h2 j v hj)
  | .g (.s v), hev, hb =>
    obtain ⟨u, hu, hels, hs'⟩ := hb
    have hle : u.le w := by
      rcases hu with rfl | hu | rfl
      · exact hw.u0le
      · exact (hw.phs u hu).1
      · exact hw.mle
    have hval : evO a y = v := hev.2
    rcases hs' with ⟨rfl, h2⟩ | ⟨ad, c, rfl, h2, h3⟩
    · have : bs = [] := by simpa using h2
      subst this
      exact key none 0 0 hval (by simp [Conv.bytesToString]; rfl)
    · refine key (some ad) _ c hval (run_b2s (by simp) fun j v hj => ?_)
      have hc : 0 < c := by
        have : 0 < bs.length := by
          rcases Nat.eq_zero_or_pos bs.length with e | e
          · rw [List.length_eq_zero_iff.mp e] at hj; simp [flats] at hj
          · exact e
        simp at h2; omega
      obtain ⟨cs, e', fz, g1, g2, g3⟩ := h3 hc
      obtain ⟨b, off, sp⟩ := ad
      simp only at g1 g2 g3
      subst g1
      rw [addr_add, cell_of (hle b _ g2)]
      exact g3 j v hj

theorem rd_cap {c : Call} {x : Operand} {y : Opd} {t e : TypeId} (ho : o.op = .call c) (hc : c.callee = .builtin .cap) (ha : c.args.toList = [x]) (h0 : c.argTypes[0]? = some t) (ht : C.P.underlying t = some (.slice e)) (hx : cOpd x = some y) (hF : FR loc C.N σ.fr σ.pv a)
    {ad : Option Addr} {n m : Nat} (hv : ev σ y = some (.g (.s (.slice ad n m)))) : Reads C loc σ o a (.g (.s (.int .i64 m))) := by
  have he := (hF.ev rfl hv).s
  have hargs : c.args = #[x] := by
    apply Array.toList_inj.mp; simpa using ha
  refine rd_val (s := Builtin.cap_ c.argTypes o.type #[evO a y]) (v := .int .i64 m) ⟨rfl, rfl⟩ ?_ fun w => ?_
  · obtain ⟨dst, op, type, pos, after, guard⟩ := o
    obtain ⟨callee, cargs, argTypes⟩ := c
    simp only at ho hc hargs
    subst ho; subst hc; subst hargs
    simp [execOp, resolve, invoke, builtin, cOpd_eval hx a]
  · rw [he]
    simp [Builtin.cap_, h0, Sem.run_bind, run_underlying' ht, goInt]

theorem rd_slNil {t e : TypeId} {z : TypeInfo} {x : Operand} {lo hi : Option Operand} {y : Opd} {lo' hi' : Option Opd} (ho : o.op = .slice t x lo hi none) (ht : C.P.underlying t = some (.slice e)) (hz : C.P.info? e = some z) (hx : cOpd x = some y)
    (hlo : cOpdO lo = some lo') (hhi : cOpdO hi = some hi')
    (hF : FR loc C.N σ.fr σ.pv a) (hv : ev σ y = some (.g (.s (.slice none 0 0)))) (hl : bndN σ lo' 0 = some 0) (hh : bndN σ hi' 0 = some 0) : Reads C loc σ o a (.g (.s (.slice none 0 0))) := by
  have he := (hF.ev rfl hv).s
  refine rd_val (v := .slice none 0 0) ⟨rfl, rfl⟩ (by simp only [execOp, ho, cOpd_eval hx a, he]; rfl) fun w => ?_
  have r1 := bnd_run (P := C.P) (y := 0) (code := .sliceAcap) hhi hF hh (by omega) (by omega) (by omega) w
  have r2 := bnd_run (P := C.P) (y := 0) (code := .sliceB) hlo hF hl (by omega) (by omega) (by omega) w
  simp only [Instr.sliceAt, Instr.slice, Instr.sliceBounds, Sem.run_bind, run_underlying' ht, Result.andThen_ok, Option.map_none, Sem.run_pure, if_true, Option.isSome_none]
  cases hi with
  | none =>
    cases lo with
    | none => simp [run_sizeOf' hz]
    | some u => simp only [Option.map_some] at r2; simp [r2, run_sizeOf' hz, Sem.run_bind]
  | some v =>
    simp only [Option.map_some] at r1
    cases lo with
    | none => simp [r1, run_sizeOf' hz, Sem.run_bind]
    | some u => simp only [Option.map_some] at r2; simp [r1, r2, run_sizeOf' hz, Sem.run_bind]

/-! ### Rows of zeros -/
theorem wrapc {x : Int} (h1 : 0 ≤ x) (h2 : x ≤ 9223372036854775807) : IntKind.i64.wrap x = x := by
  simp only [IntKind.wrap, IntKind.bits, IntKind.signed]
  have : (2 : Int) ^ 64 = 18446744073709551616 := by decide
  have : (2 : Int) ^ 63 = 9223372036854775808 := by decide
  have h3 : x % 18446744073709551616 = x := Int.emod_eq_of_lt h1 (by omega)
  simp_all
  try omega

theorem rep_get {df : GV} {z : Nat} (hz : df.flat.length = z) (h0 : 0 < z) : ∀ (k j : Nat) (v : Value), (flats (List.replicate k df))[j]? = some v → j < k * z ∧ df.flat[j % z]? = some v
  | 0, j, v, h => by simp [flats] at h
  | k + 1, j, v, h => by
    have e : flats (List.replicate (k + 1) df) = df.flat ++ flats (List.replicate k df) := by simp [List.replicate_succ, flats]
    rw [e] at h
    rcases Nat.lt_or_ge j df.flat.length with hj | hj
    · rw [List.getElem?_append_left hj] at h
      rw [hz] at hj
      exact ⟨by rw [Nat.add_mul]; omega, by rw [Nat.mod_eq_of_lt hj]; exact h⟩
    · rw [List.getElem?_append_right hj] at h
      obtain ⟨h1, h2⟩ := rep_get hz h0 k _ v h
      rw [hz] at h1 h2 hj
      refine ⟨by rw [Nat.add_mul]; omega, ?_⟩
      rw [← h2]
      congr 1
      conv => lhs; rw [show j = (j - z) + z by omega]
      rw [Nat.add_mod_right]

theorem zero_row {df : GV} {z : Nat} {zv : Array Value} (hf : zv = df.flat.toArray) (hz : df.flat.length = z) (h0 : 0 < z) {cs : Array Value} {k : Nat} (hc : ∀ j, j < k * z → cs[j]? = some (zv[j % z]!)) : RowAt cs 0 (flats (List.replicate k df)) := by
  intro j v hj
  obtain ⟨h1, h2⟩ := rep_get hz h0 k j v hj
  rw [Nat.zero_add, hc j h1, hf]
  rw [show (df.flat.toArray[j % z]!) = v by
    have : df.flat.toArray[j % z]? = some v := by simpa using h2
    rw [getElem!_def, this]]

theorem els_rep {df : GV} {z : Nat} (hok : df.ok) (hz : df.sz = z) (k : Nat) : Els z (List.replicate k df) := by
  intro x hx
  obtain rfl := (List.mem_replicate.1 hx).2
  exact ⟨hok, hz⟩

theorem wp_mks {t e : TypeId} {n c : Operand} {n' c' : Opd} {i : TypeInfo} {zv : Value} {df : GV} (ho : o.op = .makeSlice t n c) (ht : C.P.underlying t = some (.slice e)) (hn : cOpd n = some n') (hc : cOpd c = some c') (hi : C.P.info? e = some i) (hzv : i.zero = some zv)
    (hok : df.ok) (hfl : df.flat = zv.cells.toList) (hsz : df.sz = i.size) (hby : i.bytes ≠ 0)
    (hd : ∀ t, o.dst = some t → t < C.N) (hF : FR loc C.N σ.fr σ.pv a) (hH : HR C loc σ.pv σ.ph σ.m w) {k : Nat} (hdst : o.dst = some k) {kd kd' : IntKind} {m : Int} (e1 : ev σ n' = some (.g (.s (.int kd m)))) (e2 : ev σ c' = some (.g (.s (.int kd' m))))
    (hk : look σ.pv k = none) (h0 : 0 ≤ m) (hb : m * i.bytes ≤ 140737488355328)
    (hK : K { σ with fr := (k, .row k 0 m.toNat) :: σ.fr, pv := updL σ.pv k (.row e i.size df (List.replicate m.toNat df)) }) : o.wp C.P a w (liftK C K) Q := by
  have v1 := (hF.ev rfl e1).s
  have v2 := (hF.ev rfl e2).s
  have hlen : df.flat.length = i.size := by rw [← hsz]; exact GV.flat_len df hok
  have hm : m ≤ 140737488355328 := by
    have : m * 1 ≤ m * i.bytes := Int.mul_le_mul_of_nonneg_left (by omega) h0
    omega
  have hw := wrapc h0 (by omega : m ≤ 9223372036854775807)
  have hzr : (zeroValue e).run C.P w = .ok zv w := by simp [zeroValue, Sem.run_bind, run_typeInfo hi, hzv]
  have hzs : zv.cells.size = i.size := by rw [← hlen, hfl]; simp
  obtain ⟨cs, hrun, hcs, hcg⟩ : ∃ cs : Array Value, (Instr.makeSlice t (evO a n') (evO a c')).run C.P w = .ok (.slice (some ⟨w.heap.size, 0, none⟩) m.toNat m.toNat) (w.alloc (.cells cs e)) ∧ cs.size = m.toNat * i.size ∧ ∀ j, j < m.toNat * i.size → cs[j]? = some (zv.cells[j % i.size]!) := by
    rw [v1, v2]
    unfold Instr.makeSlice
    have hge : ¬ (m < 0) := by omega
    have hge2 : ¬ (281474976710656 < (i.bytes : Int) * m) := by rw [Int.mul_comm]; omega
    simp [Sem.run_bind, run_underlying' ht, asInt, asIntOf, run_typeInfo hi, hw, hge, hge2, run_askRoom, run_sizeOf' hi]
    by_cases h0 : m.toNat * i.size = 0
    · simp only [h0, if_true, newRow, run_newObj]
      exact ⟨_, rfl, by simp, fun j hj => by omega⟩
    · simp only [h0, if_false, hzr, Result.andThen_ok, newRow, run_newObj]
      refine ⟨_, rfl, by simp, fun j hj => ?_⟩
      rw [hzs]
      simp [hj]
  have hex : (execOp a.eval o).run C.P w = .ok (.value (.slice (some ⟨w.heap.size, 0, none⟩) (List.replicate m.toNat df).length m.toNat)) (w.alloc (.cells cs e)) := by
    simp only [execOp, ho, cOpd_eval hn a, cOpd_eval hc a, List.length_replicate]
    simp [Sem.run_bind, hrun]
  refine wp_newrow (w' := w) hdst hd hex hH (els_rep hok hsz _) (by simp) (by rw [hcs]; exact Nat.le_refl _) ?_ hF hk (by simpa using hK)
  rcases Nat.eq_zero_or_pos i.size with hz0 | hz0
  · intro j v hj
    have e0 : flats (List.replicate m.toNat df) = [] := List.length_eq_zero_iff.mp (by rw [flats_len (els_rep hok hsz _)]; simp [hz0])
    rw [e0] at hj
    simp at hj
  · exact zero_row (zv := zv.cells) (by rw [hfl]) hlen hz0 hcg

theorem run_append_zeros {P : Program} {ats : Array TypeId} {ty t t2 e : TypeId} {kd : IntKind} {i : TypeInfo} {zv : Value} (h0 : ats[0]? = some t) (h1 : ats[1]? = some t2) (ht : P.underlying t = some (.slice e)) (ht2 : P.underlying t2 = some (.int kd)) (hi : P.info? e = some i)
    (hzv : i.zero = some zv) (hzs : zv.cells.size = i.size) (hby : i.bytes ≠ 0) (hz0 : i.size ≠ 0) {kd' : IntKind} {m : Int} {w : World} (hm : 0 < m) (hsize : m * i.bytes ≤ 140737488355328) :
    ∃ c' rest, m.toNat ≤ c' ∧ rest.size = (c' - m.toNat) * i.size ∧ (Builtin.append_ ats ty #[.slice none 0 0, .int kd' m]).run P w = .ok (.slice (some ⟨w.heap.size, 0, none⟩) m.toNat c') (w.drew.alloc (.cells (Builtin.zeroCells zv.cells m.toNat ++ rest) e)) := by
  have hz : (underlying t2).run P w = .ok (.int kd) w := run_underlying' ht2 w
  have hmb : m ≤ 140737488355328 := by
    have : m * 1 ≤ m * i.bytes := Int.mul_le_mul_of_nonneg_left (by omega) (by omega)
    omega
  have hw := wrapc (by omega : 0 ≤ m) (by omega : m ≤ 9223372036854775807)
  have hge : ¬ (m < 0) := by omega
  have hge2 : ¬ (281474976710656 < m * (i.bytes : Int)) := by omega
  have hmn : (m.toNat : Int) = m := Int.toNat_of_nonneg (by omega)
  have hnb : (m.toNat : Int) * i.bytes = m * i.bytes := by rw [hmn]
  have hfit : ¬ (Builtin.nextslicecap m.toNat 0 * i.bytes > 2 ^ 48) := by
    have h := Nat.mul_le_mul_right i.bytes (nextslicecap_le (need := m.toNat) (old := 0) (by omega))
    rw [Nat.mul_assoc] at h
    omega
  have hfit' : ¬ (281474976710656 < Builtin.nextslicecap m.toNat 0 * i.bytes) := by simpa using hfit
  have hq : (Question.appendCap m.toNat 0 e).forced = false := rfl
  have hroom : ¬ m.toNat ≤ 0 := by omega
  have hnz : ¬ (m.toNat * i.size = 0) := by
    intro e
    rcases Nat.mul_eq_zero.1 e with e | e <;> omega
  have hbig : ¬ (9223372036854775807 < (m.toNat : Int)) := by omega
  refine ⟨(Question.appendCap m.toNat 0 e).cut (w.tape w.drawn (.appendCap m.toNat 0 e)), Builtin.zeroCells zv.cells ((Question.appendCap m.toNat 0 e).cut (w.tape w.drawn (.appendCap m.toNat 0 e)) - m.toNat), by simp [Question.cut], by rw [zeroCells_size, hzs], ?_⟩
  have hzr : (zeroValue e).run P w.drew = .ok zv w.drew := by simp [zeroValue, Sem.run_bind, run_typeInfo hi, hzv]
  have hzr0 : (zeroValue e).run P w = .ok zv w := by simp [zeroValue, Sem.run_bind, run_typeInfo hi, hzv]
  unfold Builtin.append_
  simp only [List.getElem?_toArray, List.getElem?_cons_zero, List.getElem?_cons_succ, h0, h1, Sem.run_bind, run_underlying' ht, Result.andThen_ok, run_sizeOf' hi, hz, Sem.run_pure, if_true]
  simp [asInt, asIntOf, Sem.run_bind, hw, hge, run_typeInfo hi, hge2, hroom, hnz, hby, hfit', hbig, IntKind.max, IntKind.signed, IntKind.bits, run_choose, hq, run_askRoom, Builtin.firstCells, hzr, newRow, run_newObj]
  rw [if_neg (by omega), if_neg (by omega)]

theorem wp_appZ {c : Call} {x y : Operand} {x' y' : Opd} {t t2 e : TypeId} {kd : IntKind} {i : TypeInfo} {zv : Value} {df : GV} (ho : o.op = .call c) (hc : c.callee = .builtin .append) (ha : c.args.toList = [x, y]) (hx : cOpd x = some x') (hy : cOpd y = some y')
    (h0 : c.argTypes[0]? = some t) (h1 : c.argTypes[1]? = some t2) (ht : C.P.underlying t = some (.slice e)) (ht2 : C.P.underlying t2 = some (.int kd)) (hi : C.P.info? e = some i) (hzv : i.zero = some zv) (hby : i.bytes ≠ 0) (hz0 : i.size ≠ 0)
    (hok : df.ok) (hfl : df.flat = zv.cells.toList) (hsz : df.sz = i.size)
    (hd : ∀ t, o.dst = some t → t < C.N) (hF : FR loc C.N σ.fr σ.pv a) (hH : HR C loc σ.pv σ.ph σ.m w) {k : Nat} (hdst : o.dst = some k) {kd' : IntKind} {m : Int} (e1 : ev σ x' = some (.g (.s (.slice none 0 0)))) (e2 : ev σ y' = some (.g (.s (.int kd' m))))
    (hk : look σ.pv k = none) (hm : 0 < m) (hb : m * i.bytes ≤ 140737488355328)
    (hK : K { σ with fr := (k, .row k 0 m.toNat) :: σ.fr, pv := updL σ.pv k (.row e i.size df (List.replicate m.toNat df)) }) : o.wp C.P a w (liftK C K) Q := by
  have v1 := (hF.ev rfl e1).s
  have v2 := (hF.ev rfl e2).s
  have hlen : df.flat.length = i.size := by rw [← hsz]; exact GV.flat_len df hok
  have hzs : zv.cells.size = i.size := by rw [← hlen, hfl]; simp
  obtain ⟨c', rest, g1, g2, g3⟩ := run_append_zeros (ats := c.argTypes) (ty := o.type) (kd' := kd') (w := w) h0 h1 ht ht2 hi hzv hzs hby hz0 hm hb
  have hex : (execOp a.eval o).run C.P w = .ok (.value (.slice (some ⟨w.drew.heap.size, 0, none⟩) (List.replicate m.toNat df).length c')) (w.drew.alloc (.cells (Builtin.zeroCells zv.cells m.toNat ++ rest) e)) := by
    rw [append_exec (t := t) (t2 := t2) (e := e) (d2 := .int kd) (i := i) ho hc ha hx hy, v1, v2]
    simp only [List.length_replicate]
    simp [Sem.run_bind, g3]
  have hzc : (Builtin.zeroCells zv.cells m.toNat).size = m.toNat * i.size := by rw [zeroCells_size, hzs]
  refine wp_newrow (w' := w.drew) hdst hd hex hH.drew' (els_rep hok hsz _) (by simpa using g1) ?_ ?_ hF hk (by simpa using hK)
  · rw [Array.size_append, hzc, g2]
    have : (c' - m.toNat) * i.size + m.toNat * i.size = c' * i.size := by rw [← Nat.add_mul]; congr 1; omega
    omega
  · refine zero_row (zv := zv.cells) (by rw [hfl]) hlen (by omega) fun j hj => ?_
    rw [Array.getElem?_append_left (by rw [hzc]; exact hj)]
    unfold Builtin.zeroCells
    rw [hzs]
    simp [hj]

/-! ### An element put behind a slice of one's own memory -/
theorem fresh_key : ∀ (pv : List (Nat × PV)), ∃ k, ∀ j, k ≤ j → look pv j = none
  | [] => ⟨0, fun _ _ => rfl⟩
  | (k0, y) :: pv => by
    obtain ⟨k, h⟩ := fresh_key pv
    refine ⟨max k (k0 + 1), fun j hj => ?_⟩
    simp only [look]
    rw [if_neg (by omega)]
    exact h j (by omega)

theorem look_dropK_upd {k : Nat} {pv : List (Nat × PV)} {y y' : PV} (hk : look pv k = none) (t : Nat) : look (dropK k (updL ((k, y) :: pv) k y')) t = look pv t := by
  rw [look_dropK]
  by_cases h : t = k
  · rw [if_pos h, h, hk]
  · rw [if_neg h]
    simp [updL, look, h]

theorem HR.congr {C : Ctx} {loc : Loc} {pv pv' : List (Nat × PV)} {ph : List PH} {m : PH} {w : World} (h : HR C loc pv ph m w) (he : ∀ t, look pv' t = look pv t) : HR C loc pv' ph m w :=
  ⟨h.kept, fun k y hk => h.pvs k y (by rw [← he]; exact hk), fun k k' y y' b o c o' c' h1 h2 h3 h4 => h.apart k k' y y' b o c o' c' (by rw [← he]; exact h1) h2 h3 (by rw [← he]; exact h4),
    fun k y b o c h1 => h.priv k y b o c (by rw [← he]; exact h1), h.mle, h.mmine, h.phs⟩

theorem wp_appK {c : Call} {x y : Operand} {x' y' : Opd} {e : TypeId} {i : TypeInfo} {zv : Value} {df : GV} (ho : o.op = .call c) (hc : c.callee = .builtin .append) (ha : c.args.toList = [x, y]) (hx : cOpd x = some x') (hy : cOpd y = some y') (hok : AppOk C.P c.argTypes e i zv)
    (hd : ∀ t, o.dst = some t → t < C.N) (hF : FR loc C.N σ.fr σ.pv a) (hH : HR C loc σ.pv σ.ph σ.m w) {v : Value} {j s n' : Nat} {ys : List GV} (e1 : ev σ x' = some (.g (.s v))) (e2 : ev σ y' = some (.row j s n')) (hj : rowE σ.pv j = some (i.size, ys))
    (h : appK x' e i.size i.bytes v ((ys.drop s).take n') o.dst K σ) : o.wp C.P a w (liftK C K) Q := by
  obtain ⟨⟨t, rfl⟩, u, m', xs, hs, hm, hdis, hb, hdn, hK⟩ := h
  obtain ⟨d, hdst⟩ := Option.ne_none_iff_exists'.1 hdn
  obtain ⟨k, hk⟩ := fresh_key σ.pv
  have hk0 := hk k (Nat.le_refl _)
  have ht : look σ.fr t = some (.g (.s v)) := e1
  obtain ⟨loc1, hF1, hH1⟩ := Rel.own (C := C) (σ := σ) (a := a) (w := w) ⟨loc, hF, hH⟩ k df ht hk0 hs hm hdis
  obtain ⟨z2, ys2, q3, q4, hyv⟩ := hF.ev rfl e2
  rw [hj] at q3
  obtain ⟨hz2, rfl⟩ : i.size = z2 ∧ ys = ys2 := by simpa using q3
  have hlen' : ((ys.drop s).take n').length = n' := by simp; omega
  rw [hlen'] at hb
  have hjk : j ≠ k := by
    rintro rfl
    simp [rowE, hk0] at hj
  have hty : y' ≠ .t t := by
    rintro rfl
    have : look σ.fr t = some (.row j s n') := e2
    rw [ht] at this; cases this
  have e2' : ev (⟨(t, .row k 0 xs.length) :: σ.fr, (k, .row e i.size df xs) :: σ.pv, σ.ph, m'⟩ : SS) y' = some (.row j s n') := by
    cases y' with
    | c v => simp only [ev] at e2; cases h : v.oneCell' <;> rw [h] at e2 <;> cases e2
    | t q =>
      have hq : q ≠ t := fun e => hty (by rw [e])
      simp only [ev, look, hq, if_false]
      exact e2
  have main := wp_app_row (σ := ⟨(t, .row k 0 xs.length) :: σ.fr, (k, .row e i.size df xs) :: σ.pv, σ.ph, m'⟩) (K := fun τ => τ = (({ fr := kill k ((t, .row k 0 xs.length) :: σ.fr), pv := updL ((k, .row e i.size df xs) :: σ.pv) k (.row e i.size df (xs ++ (ys.drop s).take n')), ph := σ.ph, m := m' } : SS).put o.dst (.row k 0 (xs.length + n'))))
    (Q := Q) (w := w) (k := k) (j := j) (s := s) (n' := n') (df := df) (xs := xs) (ys := ys) ho hc ha hx hy hok hd hF1 hH1 (by simp [ev, look]) e2' (Ne.symm hjk) (by simp [look]) (by simpa [rowE, look, hjk] using hj) hb rfl
  refine Oper.wp_mono ?_ (Oper.wp_put main)
  rintro a' w' ⟨⟨τ, rfl, hR⟩, htmps⟩
  rw [hdst] at hR htmps
  obtain ⟨v', u', ho', hs', hd', hR'⟩ := Rel.pub (t := d) (k := k) (n := xs.length + n') (e := e) (z := i.size) (df := df) (xs := xs ++ (ys.drop s).take n') hR (by simp [SS.put, look]) (by simp [SS.put, updL, look]) (by simp only [List.length_append, hlen'])
  obtain ⟨loc2, hF2, hH2⟩ := hR'
  refine ⟨_, hK v' u' ho' hs' hd', loc2, ?_, ?_⟩
  · rw [hdst]
    have hdl := hd d hdst
    refine ⟨hF2.defers, hF2.size, fun q z hz => ?_⟩
    simp only [SS.put, look] at hz
    by_cases hqd : q = d
    · rw [if_pos hqd] at hz
      obtain rfl : SV.g (.s v') = z := by simpa using hz
      obtain ⟨vv, h1, h2⟩ := hF2.slots d (.g (.s v')) (by simp [look])
      exact ⟨vv, by rw [hqd]; exact h1, h2⟩
    · rw [if_neg hqd] at hz
      obtain ⟨vv, h1, h2⟩ := hF.slots q z hz
      by_cases hqt : q = t
      · subst hqt
        rw [ht] at hz
        obtain rfl : SV.g (.s v) = z := by simpa using hz
        exact ⟨vv, by rw [htmps q (fun e => hqd (by simpa using e.symm))]; exact h1, h2⟩
      · have hzk : z.mentions k = false := by
          cases hzm : z.mentions k with
          | false => rfl
          | true => exact absurd hk0 (h2.there k hzm)
        have kl : ∀ (fr : List (Nat × SV)), look fr q = some z → look (kill k fr) q = some z := by
          intro fr
          induction fr with
          | nil => intro h; cases h
          | cons y fr ih =>
            obtain ⟨j, y⟩ := y
            intro h
            simp only [look] at h
            by_cases hqj : q = j
            · rw [if_pos hqj] at h
              obtain rfl : y = z := by simpa using h
              simp only [kill, hzk, cond_false, look, if_pos hqj]
            · rw [if_neg hqj] at h
              simp only [kill]
              cases y.mentions k <;> simp only [cond_true, cond_false, look, if_neg hqj] <;> exact ih h
        have e0 : look ((t, SV.row k 0 xs.length) :: σ.fr) q = some z := by simp only [look, if_neg hqt]; exact hz
        have e1 := kl _ e0
        have e2 : look ((d, SV.row k 0 (xs.length + n')) :: kill k ((t, SV.row k 0 xs.length) :: σ.fr)) q = some z := by rw [look, if_neg hqd]; exact e1
        obtain ⟨vv2, k1, k2⟩ := hF2.slots q z (by rw [look, if_neg hqd]; exact kl _ e2)
        exact ⟨vv2, k1, k2.weaken fun p hp => ⟨rfl, (look_dropK_upd hk0 p).symm⟩⟩
  · rw [hdst]
    show HR C loc2 σ.pv σ.ph (uni u' m') w'
    exact HR.congr (pv := dropK k (updL ((k, PV.row e i.size df xs) :: σ.pv) k (PV.row e i.size df (xs ++ List.take n' (List.drop s ys))))) hH2 fun q => (look_dropK_upd hk0 q).symm
end

end Go.Proofs.Ytdpknchgoeboaaa.Vc
