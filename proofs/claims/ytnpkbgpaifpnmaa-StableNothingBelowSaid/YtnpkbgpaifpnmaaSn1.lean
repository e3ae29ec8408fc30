/- StableNothingBelow, in plain words: what a world of sites keeps to. And eight slices in memory. -/
import Derived.Test.YtnpkbgpaifpnmaaSt3
import Derived.Test.YtnpkbgpaifpnmaaVc11
set_option linter.unusedVariables false
set_option linter.unusedSimpArgs false
namespace Go.Proofs.Ytnpkbgpaifpnmaa.Vc
open Go

/-! ### Eight slices -/
/-- Memory of eight owners. -/
def bigU (us : Nat → PH) : Nat → PH
  | 0 => PH.no
  | n + 1 => uni (us n) (bigU us n)
def apartU (us : Nat → PH) : Prop := ∀ i j, i ≠ j → dis (us i) (us j)

theorem bigU_some {us : Nat → PH} (hd : apartU us) : ∀ (n b : Nat) (o : Obj), bigU us n b = some o ↔ ∃ i, i < n ∧ us i b = some o
  | 0, b, o => by simp [bigU, PH.no]
  | n + 1, b, o => by
    have ih := bigU_some hd n b o
    simp only [bigU, uni]
    cases h : us n b with
    | some o' =>
      simp only [Option.some_or, Option.some.injEq]
      constructor
      · rintro rfl; exact ⟨n, by omega, h⟩
      · rintro ⟨i, hi, hio⟩
        by_cases hin : i = n
        · subst hin; rw [h] at hio; simpa using hio
        · rcases hd i n hin b with e | e
          · rw [e] at hio; cases hio
          · rw [e] at h; cases h
    | none =>
      simp only [Option.none_or]
      rw [ih]
      constructor
      · rintro ⟨i, hi, hio⟩; exact ⟨i, by omega, hio⟩
      · rintro ⟨i, hi, hio⟩
        by_cases hin : i = n
        · subst hin; rw [h] at hio; cases hio
        · exact ⟨i, by omega, hio⟩

theorem bigU_none {us : Nat → PH} {n b : Nat} (h : ∀ i, i < n → us i b = none) : bigU us n b = none := by
  induction n with
  | zero => rfl
  | succ n ih => simp only [bigU, uni, h n (by omega), Option.none_or]; exact ih fun i hi => h i (by omega)

theorem bigU_no {us : Nat → PH} (hd : apartU us) {n b : Nat} (h : bigU us n b = none) {i : Nat} (hi : i < n) : us i b = none := by
  cases hu : us i b with
  | none => rfl
  | some o => rw [(bigU_some hd n b o).2 ⟨i, hi, hu⟩] at h; cases h

theorem apart_upd {us : Nat → PH} (hd : apartU us) {j : Nat} {u : PH} (hu : ∀ i, i ≠ j → dis u (us i)) : apartU (upd us j u) := by
  intro i k hik
  simp only [upd]
  by_cases h1 : i = j
  · subst h1
    rw [if_pos rfl, if_neg (Ne.symm hik)]
    exact hu k (Ne.symm hik)
  · rw [if_neg h1]
    by_cases h2 : k = j
    · subst h2
      rw [if_pos rfl]
      exact dis_comm (hu i h1)
    · rw [if_neg h2]
      exact hd i k hik

/-- One owner's memory, and the others'. -/
theorem bigU_split {us : Nat → PH} (hd : apartU us) {n j : Nat} (hj : j < n) : bigU us n = uni (us j) (bigU (upd us j PH.no) n) ∧ dis (us j) (bigU (upd us j PH.no) n) := by
  have hd' : apartU (upd us j PH.no) := apart_upd hd fun i _ => fun k => .inl rfl
  have hdis : dis (us j) (bigU (upd us j PH.no) n) := by
    intro b
    cases h : us j b with
    | none => exact .inl rfl
    | some o =>
      refine .inr (bigU_none fun i hi => ?_)
      simp only [upd]
      split
      · rfl
      · rename_i hij
        rcases hd i j hij b with e | e
        · exact e
        · rw [h] at e; cases e
  refine ⟨?_, hdis⟩
  funext b
  cases h : bigU us n b with
  | some o =>
    obtain ⟨i, hi, hio⟩ := (bigU_some hd n b o).1 h
    simp only [uni]
    by_cases hij : i = j
    · subst hij; simp [hio]
    · have h1 : us j b = none := by
        rcases hd i j hij b with e | e
        · rw [e] at hio; cases hio
        · exact e
      rw [h1, Option.none_or]
      exact ((bigU_some hd' n b o).2 ⟨i, hi, by simpa [upd, hij] using hio⟩).symm
  | none =>
    simp only [uni, bigU_no hd h hj, Option.none_or]
    refine (bigU_none fun i hi => ?_).symm
    simp only [upd]
    split
    · rfl
    · exact bigU_no hd h hi

theorem bigU_join {us : Nat → PH} (hd : apartU us) {n j : Nat} (hj : j < n) {u : PH} (hn : ∀ i, n ≤ i → us i = PH.no) (hu : dis u (bigU (upd us j PH.no) n)) : apartU (upd us j u) ∧ uni u (bigU (upd us j PH.no) n) = bigU (upd us j u) n := by
  have hd' : apartU (upd us j PH.no) := apart_upd hd fun i _ => fun k => .inl rfl
  have hu' : ∀ i, i ≠ j → dis u (us i) := fun i hij b => by
    rcases hu b with e | e
    · exact .inl e
    · rcases Nat.lt_or_ge i n with hi | hi
      · have := bigU_no hd' e hi
        exact .inr (by simpa [upd, hij] using this)
      · rw [hn i hi]; exact .inr rfl
  have ha := apart_upd hd hu'
  refine ⟨ha, ?_⟩
  have h1 := (bigU_split ha hj).1
  rw [h1]
  congr 1
  · simp [upd]
  · congr 1
    funext k
    simp only [upd]
    split <;> rfl

/-- A slice's address, or none, its length, its capacity. -/
def gSl (ad : Nat → Option Addr) (ln cp : Nat → Nat) : GV := .ar 8 1 fun j => .s (.slice (ad j) (ln j) (cp j))
theorem gSl_ok (ad : Nat → Option Addr) (ln cp : Nat → Nat) : (gSl ad ln cp).ok := by intro j _; exact ⟨rfl, rfl⟩
theorem gSl_get (ad : Nat → Option Addr) (ln cp : Nat → Nat) (j : Nat) : (gSl ad ln cp).getT [j] = .s (.slice (ad j) (ln j) (cp j)) := by simp [gSl, GV.getT]
theorem gSl_arr (ad : Nat → Option Addr) (ln cp : Nat → Nat) : (gSl ad ln cp).arr 8 1 = true := rfl
theorem gSl_set (ad : Nat → Option Addr) (ln cp : Nat → Nat) (j : Nat) (a : Option Addr) (n c : Nat) : (gSl ad ln cp).setT [j] (.s (.slice a n c)) = gSl (upd ad j a) (upd ln j n) (upd cp j c) := by
  simp only [gSl, GV.setT]
  congr 1
  funext k
  simp only [upd]
  split <;> rfl
theorem gSl_zero : GV.ar 8 1 (fun _ => .s (.slice none 0 0)) = gSl (fun _ => none) (fun _ => 0) fun _ => 0 := rfl

theorem gEvent_sameZ (x : Event) : (gEvent x).same (.c (.s (.int .i64 0)) (.c (.s (.int .i64 0)) (gStamp zStamp))) = True := eq_true ⟨trivial, trivial, trivial, trivial, trivial⟩
theorem upd_len (made : Nat → List Int) (j : Nat) (l : List Int) : upd (fun i => (made i).length) j l.length = fun i => (upd made j l i).length := by
  funext k
  simp only [upd]
  split <;> rfl

/-- Eight slices of numbers, each in memory of its own. -/
def MadeO (e : TypeId) (m : PH) (ad : Nat → Option Addr) (cp : Nat → Nat) (made : Nat → List Int) : Prop :=
  ∃ us : Nat → PH, apartU us ∧ (∀ i, 8 ≤ i → us i = PH.no) ∧ m = bigU us 8 ∧ ∀ i, i < 8 → SlO (us i) (.slice (ad i) (made i).length (cp i)) e 1 ((made i).map gi)

theorem made_nil (e : TypeId) : MadeO e PH.no (fun _ => none) (fun _ => 0) fun _ => [] :=
  ⟨fun _ => PH.no, fun _ _ _ _ => .inl rfl, fun _ _ => rfl, (by funext b; exact (bigU_none fun _ _ => rfl).symm), fun i _ => ⟨fun x hx => by simp at hx, .inl ⟨rfl, rfl⟩⟩⟩

/-- One of them, for growing. -/
theorem MadeO.at {e : TypeId} {m : PH} {ad : Nat → Option Addr} {cp : Nat → Nat} {made : Nat → List Int} (h : MadeO e m ad cp made) {j : Nat} (hj : j < 8) :
    ∃ u m', SlO u (.slice (ad j) (made j).length (cp j)) e 1 ((made j).map gi) ∧ m = uni u m' ∧ dis u m' ∧
      ∀ (x : Int) (v' : Value) (u' : PH), SlO u' v' e 1 ((made j).map gi ++ [gi x]) → dis u' m' → ∃ a c, v' = .slice a ((made j).length + 1) c ∧ MadeO e (uni u' m') (upd ad j a) (upd cp j c) (upd made j (made j ++ [x])) := by
  obtain ⟨us, h1, h2, rfl, h3⟩ := h
  obtain ⟨s1, s2⟩ := bigU_split h1 hj
  refine ⟨us j, bigU (upd us j PH.no) 8, h3 j hj, s1, s2, fun x v' u' hv' hd' => ?_⟩
  obtain ⟨a, c, rfl⟩ := slr_len hv'.toR
  have hl : ((made j).map gi ++ [gi x]).length = (made j).length + 1 := by simp
  rw [hl] at hv' ⊢
  obtain ⟨g1, g2⟩ := bigU_join h1 hj h2 hd'
  refine ⟨a, c, rfl, upd us j u', g1, fun i hi => ?_, g2, fun i hi => ?_⟩
  · simp only [upd]
    rw [if_neg (by omega)]
    exact h2 i hi
  · simp only [upd]
    by_cases hij : i = j
    · subst hij
      simp only [if_true]
      simpa using hv'
    · simp only [hij, if_false]
      exact h3 i hi

/-- One number of them. -/
theorem MadeO.num {e : TypeId} {m : PH} {ad : Nat → Option Addr} {cp : Nat → Nat} {made : Nat → List Int} (h : MadeO e m ad cp made) {j n : Nat} (hj : j < 8) (hn : n < (made j).length) :
    ∃ b o cs, ad j = some ⟨b, o, none⟩ ∧ m b = some (.cells cs e (0, 0)) ∧ RowAt cs (o + n) [.int .i64 ((made j).getD n 0)] := by
  obtain ⟨us, h1, h2, rfl, h3⟩ := h
  obtain ⟨hels, hs⟩ := h3 j hj
  rcases hs with ⟨_, h0⟩ | ⟨⟨b, o, sp⟩, c, hv, hc, hs⟩
  · have : (made j).length = 0 := by simpa using congrArg List.length h0
    omega
  · simp only [Value.slice.injEq, List.length_map] at hv hc
    obtain ⟨ha, _, rfl⟩ := hv
    obtain ⟨cs, rfl, g2, g3, g4⟩ := hs (by omega)
    simp only at g2 g3 g4
    refine ⟨b, o, cs, ha, (bigU_some h1 8 b _).2 ⟨j, hj, g3⟩, fun i v hi => ?_⟩
    cases i with
    | succ i => simp at hi
    | zero =>
      simp only [List.getElem?_cons_zero, Option.some.injEq] at hi
      subst hi
      have hx : ((made j).map gi)[n]? = some (gi ((made j).getD n 0)) := by
        rw [List.getElem?_map, List.getElem?_eq_getElem hn, List.getD_eq_getElem?_getD, List.getElem?_eq_getElem hn]; rfl
      have := flats_at hels hx 0 (.int .i64 ((made j).getD n 0)) rfl
      simpa using g4 _ _ this

/-! ### What the sites keep to -/
structure Keeps (st : Nat → Int) (i : Nat) (made : Nat → List Int) (clock have_ told clocks sure : Nat → Int) : Prop where
  k_me : st 0 = 1
  k_two : ∀ j, j < 8 → st j = 0 ∨ st j = 1
  k_none_ : ∀ j, j < 8 → st j ≠ 1 → made j = []
  k_len : ∀ j, j < 8 → (made j).length ≤ i
  k_clock : ∀ j, j < 8 → 0 ≤ clock j ∧ clock j ≤ 1099511627785
  k_below : ∀ j, j < 8 → ∀ x ∈ made j, x ≤ clock j
  k_have_ : ∀ j, j < 8 → 0 ≤ have_ j ∧ have_ j ≤ (made j).length
  k_mine : have_ 0 = (made 0).length
  k_told : ∀ j, j < 8 → 0 ≤ told j ∧ told j ≤ (made j).length
  k_clocks : ∀ j, j < 8 → clocks j ≤ clock j
  k_later : ∀ j, j < 8 → ∀ n, told j ≤ (n : Nat) → n < (made j).length → clocks j < (made j).getD n 0
  k_sure : ∀ j, j < 8 → sure j ≤ clock j
  k_open_ : ∀ j, j < 8 → ∀ n, have_ j ≤ (n : Nat) → n < (made j).length → sure j < (made j).getD n 0

theorem Keeps.start {st : Nat → Int} (h0 : st 0 = 1) (h1 : ∀ j, j < 8 → st j = 0 ∨ st j = 1) : Keeps st 0 (fun _ => []) (fun _ => 0) (fun _ => 0) (fun _ => 0) (fun _ => 0) fun _ => 0 :=
  ⟨h0, h1, fun _ _ _ => rfl, fun _ _ => Nat.le_refl _, fun _ _ => by omega, fun _ _ x hx => by simp at hx, fun _ _ => by simp, rfl, fun _ _ => by simp, fun _ _ => by omega, fun _ _ n _ hn => by simp at hn, fun _ _ => by omega, fun _ _ n _ hn => by simp at hn⟩

variable {st : Nat → Int} {i : Nat} {made : Nat → List Int} {clock have_ told clocks sure : Nat → Int}

theorem Keeps.next (h : Keeps st i made clock have_ told clocks sure) : Keeps st (i + 1) made clock have_ told clocks sure :=
  { h with k_len := fun j hj => by have := h.k_len j hj; omega }

theorem getD_app {l : List Int} {x : Int} {n : Nat} (hn : n < (l ++ [x]).length) : (n < l.length ∧ (l ++ [x]).getD n 0 = l.getD n 0) ∨ (n = l.length ∧ (l ++ [x]).getD n 0 = x) := by
  simp only [List.length_append, List.length_cons, List.length_nil] at hn
  by_cases h : n < l.length
  · refine .inl ⟨h, ?_⟩
    rw [List.getD_eq_getElem?_getD, List.getElem?_append_left h, List.getD_eq_getElem?_getD]
  · have : n = l.length := by omega
    subst this
    exact .inr ⟨rfl, by rw [List.getD_eq_getElem?_getD, List.getElem?_append_right (Nat.le_refl _)]; simp⟩

/-- An operation is made. -/
theorem Keeps.make (h : Keeps st i made clock have_ told clocks sure) {j : Nat} (hj : j < 8) (hs : st j = 1) {c : Int} (hc : clock j < c) (hc2 : c ≤ 1099511627785) (hj0 : j ≠ 0) :
    Keeps st (i + 1) (upd made j (made j ++ [c])) (upd clock j c) have_ told clocks sure := by
  constructor
  · exact h.k_me
  · exact h.k_two
  all_goals first
    | (intro k hk
       by_cases hkj : k = j
       · subst hkj
         simp only [upd, if_true]
         first
           | (intro hn; exact absurd hs hn)
           | (have := h.k_len k hk; simp; omega)
           | (have := h.k_clock k hk; omega)
           | (intro x hx; have := h.k_below k hk; rcases List.mem_append.1 hx with hx | hx
              · have := this x hx; omega
              · simp at hx; omega)
           | (have := h.k_have_ k hk; simp; omega)
           | (have := h.k_told k hk; simp; omega)
           | (have := h.k_clocks k hk; omega)
           | (have := h.k_sure k hk; omega)
           | (intro n h1 h2
              have hck := h.k_clocks k hk
              have hsk := h.k_sure k hk
              rcases getD_app h2 with ⟨h3, h4⟩ | ⟨h3, h4⟩
              · rw [h4]
                first | exact h.k_later k hk n h1 h3 | exact h.k_open_ k hk n h1 h3
              · rw [h4]; omega)
       · simp only [upd, hkj, if_false]
         first | exact h.k_none_ k hk | (have := h.k_len k hk; omega) | exact h.k_clock k hk | exact h.k_below k hk | exact h.k_have_ k hk | exact h.k_told k hk | exact h.k_clocks k hk | exact h.k_later k hk | exact h.k_sure k hk | exact h.k_open_ k hk)
    | (simp only [upd]; rw [if_neg (Ne.symm hj0)]; exact h.k_mine)

/-- The first site makes one. -/
theorem Keeps.make0 (h : Keeps st i made clock have_ told clocks sure) {c n : Int} (hc : clock 0 < c) (hc2 : c ≤ 1099511627785) (hn : n = ((made 0).length + 1 : Nat)) :
    Keeps st (i + 1) (upd made 0 (made 0 ++ [c])) (upd clock 0 c) (upd have_ 0 n) told clocks sure := by
  subst hn
  constructor
  · exact h.k_me
  · exact h.k_two
  all_goals first
    | (intro k hk
       by_cases hkj : k = 0
       · subst hkj
         simp only [upd, if_true]
         first
           | (intro hn; exact absurd h.k_me hn)
           | (have := h.k_len 0 hk; simp; omega)
           | (have := h.k_clock 0 hk; omega)
           | (intro x hx; have := h.k_below 0 hk; rcases List.mem_append.1 hx with hx | hx
              · have := this x hx; omega
              · simp at hx; omega)
           | (have := h.k_have_ 0 hk; simp; omega)
           | (have := h.k_told 0 hk; simp; omega)
           | (have := h.k_clocks 0 hk; omega)
           | (have := h.k_sure 0 hk; omega)
           | (intro n h1 h2; simp at h2; omega)
           | (intro n h1 h2
              have hck := h.k_clocks 0 hk
              rcases getD_app h2 with ⟨h3, h4⟩ | ⟨h3, h4⟩
              · rw [h4]; exact h.k_later 0 hk n h1 h3
              · rw [h4]; omega)
       · simp only [upd, hkj, if_false]
         first | exact h.k_none_ k hk | (have := h.k_len k hk; omega) | exact h.k_clock k hk | exact h.k_below k hk | exact h.k_have_ k hk | exact h.k_told k hk | exact h.k_clocks k hk | exact h.k_later k hk | exact h.k_sure k hk | exact h.k_open_ k hk)
    | (simp [upd])

/-- A site tells. -/
theorem Keeps.tell (h : Keeps st i made clock have_ told clocks sure) {j : Nat} (hj : j < 8) : Keeps st (i + 1) made clock have_ (upd told j (made j).length) (upd clocks j (clock j)) sure := by
  constructor
  · exact h.k_me
  · exact h.k_two
  all_goals first
    | exact h.k_mine
    | (intro k hk
       by_cases hkj : k = j
       · subst hkj
         (try simp only [upd, if_true])
         first
           | exact h.k_none_ k hk | (have := h.k_len k hk; omega) | exact h.k_clock k hk | exact h.k_below k hk | exact h.k_have_ k hk | exact h.k_sure k hk | exact h.k_open_ k hk | omega | (intro n h1 h2; omega)
       · (try simp only [upd, hkj, if_false])
         first | exact h.k_none_ k hk | (have := h.k_len k hk; omega) | exact h.k_clock k hk | exact h.k_below k hk | exact h.k_have_ k hk | exact h.k_told k hk | exact h.k_clocks k hk | exact h.k_later k hk | exact h.k_sure k hk | exact h.k_open_ k hk)

/-- Some come. -/
theorem Keeps.get (h : Keeps st i made clock have_ told clocks sure) {j : Nat} (hj : j < 8) {n : Int} (h1 : have_ j ≤ n) (h2 : n ≤ (made j).length) : Keeps st (i + 1) made clock (upd have_ j n) told clocks sure := by
  constructor
  · exact h.k_me
  · exact h.k_two
  all_goals first
    | (intro k hk
       by_cases hkj : k = j
       · subst hkj
         (try simp only [upd, if_true])
         first
           | exact h.k_none_ k hk | (have := h.k_len k hk; omega) | exact h.k_clock k hk | exact h.k_below k hk | exact h.k_told k hk | exact h.k_clocks k hk | exact h.k_later k hk | exact h.k_sure k hk | (have := h.k_have_ k hk; omega) | (intro x h3 h4; exact h.k_open_ k hk x (by omega) h4)
       · (try simp only [upd, hkj, if_false])
         first | exact h.k_none_ k hk | (have := h.k_len k hk; omega) | exact h.k_clock k hk | exact h.k_below k hk | exact h.k_have_ k hk | exact h.k_told k hk | exact h.k_clocks k hk | exact h.k_later k hk | exact h.k_sure k hk | exact h.k_open_ k hk)
    | (have := h.k_mine
       simp only [upd]
       split
       · rename_i e; subst e; omega
       · exact this)

/-- What is sure is reckoned anew. -/
theorem Keeps.settle (h : Keeps st i made clock have_ told clocks sure) : Keeps st i made clock have_ told clocks (settleL have_ told clocks sure) := by
  refine { h with k_sure := fun j hj => ?_, k_open_ := fun j hj n h1 h2 => ?_ }
  · have := h.k_sure j hj
    have := h.k_clocks j hj
    simp only [settleL, settleN]
    split <;> omega
  · have a1 := h.k_open_ j hj n h1 h2
    simp only [settleL, settleN]
    split
    · rename_i hc
      have a2 := h.k_later j hj n (by omega) h2
      omega
    · exact a1

theorem leastL_le : ∀ (l : List Int) (a x : Int), x ∈ l → leastL a l ≤ x
  | y :: l, a, x, h => by
    have key : ∀ (l : List Int) (a : Int), leastL a l ≤ a := by
      intro l
      induction l with
      | nil => intro a; exact Int.le_refl _
      | cons z l ih => intro a; have := ih (min a z); simp only [leastL, List.foldl_cons] at *; omega
    rcases List.mem_cons.1 h with rfl | h
    · have := key l (min a x)
      simp only [leastL, List.foldl_cons] at *
      omega
    · exact leastL_le l (min a y) x h

/-- Nothing is at or below the frontier. -/
theorem Keeps.nothing (h : Keeps st i made clock have_ told clocks sure) {e : Epoch} (he : e.st = st) {k n : Nat} (hk : k < 8) (h1 : have_ k ≤ (n : Nat)) (h2 : n < (made k).length) {c : Int} : frontL e 0 have_ sure c < (made k).getD n 0 := by
  have hst : st k = 1 := Decidable.byContradiction fun hn => by rw [h.k_none_ k hk hn] at h2; simp at h2
  have hk0 : k ≠ 0 := fun e0 => by subst e0; have := h.k_mine; omega
  have h3 := h.k_open_ k hk n h1 h2
  have hw : waits e 0 have_ k = true := by
    simp only [waits, isMem, he, hst]
    simp
    omega
  have := leastL_le (frontN e 0 have_ sure c 8) c (sure k) (by
    simp only [frontN, List.mem_cons, List.mem_map, List.mem_filter, List.mem_range]
    exact .inr ⟨k, ⟨hk, hw⟩, rfl⟩)
  simp only [frontL]
  omega
end Go.Proofs.Ytnpkbgpaifpnmaa.Vc
