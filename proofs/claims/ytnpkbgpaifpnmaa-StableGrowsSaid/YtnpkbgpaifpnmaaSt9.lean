/- What StableGrows says, of plain values. -/
import Derived.Test.YtnpkbgpaifpnmaaSt7
set_option linter.unusedVariables false
set_option linter.unusedSimpArgs false
set_option maxRecDepth 100000
namespace Go.Proofs.Ytnpkbgpaifpnmaa.Vc
open Go Go.Proofs

theorem le_leastL (c : Int) : ∀ (l : List Int) (a : Int), c ≤ leastL a l ↔ c ≤ a ∧ ∀ x ∈ l, c ≤ x
  | [], a => by simp [leastL]
  | y :: l, a => by
    have := le_leastL c l (min a y)
    simp only [leastL, List.foldl_cons] at this ⊢
    rw [this]
    simp only [List.mem_cons, forall_eq_or_imp]
    constructor
    · rintro ⟨h1, h2⟩; exact ⟨by omega, by omega, h2⟩
    · rintro ⟨h1, h2, h3⟩; exact ⟨by omega, h3⟩

theorem frontL_mono {e : Epoch} {self : Int} {vec vec' sure sure' : Nat → Int} {clock clock' : Int} (h1 : ∀ i, i < 8 → vec i ≤ vec' i) (h2 : ∀ i, i < 8 → sure i ≤ sure' i) (h3 : clock ≤ clock') :
    frontL e self vec sure clock ≤ frontL e self vec' sure' clock' := by
  have h := (le_leastL (frontL e self vec sure clock) _ _).1 (Int.le_refl (frontL e self vec sure clock))
  rw [show frontL e self vec' sure' clock' = leastL clock' (frontN e self vec' sure' clock' 8) from rfl, le_leastL]
  refine ⟨by have := h.1; omega, fun x hx => ?_⟩
  simp only [frontN, List.mem_cons, List.mem_map, List.mem_filter, List.mem_range] at hx
  rcases hx with rfl | ⟨i, ⟨hi, hw⟩, rfl⟩
  · have := h.1; omega
  · have hw' : waits e self vec i = true := by
      simp only [waits, Bool.and_eq_true, Bool.or_eq_true, decide_eq_true_eq] at hw ⊢
      have := h1 i hi
      exact ⟨hw.1, hw.2.imp id fun h => ⟨h.1, by omega⟩⟩
    have := h.2 (sure i) (by simp only [frontN, List.mem_cons, List.mem_map, List.mem_filter, List.mem_range]; exact .inr ⟨i, ⟨hi, hw'⟩, rfl⟩)
    have := h2 i hi
    omega

theorem le_meetF {c : Int} {j : Nat} (hj : j < 8) : ∀ (l : List (Nat → Int)) (a : Nat → Int), c ≤ l.foldl (mnN 8) a j ↔ c ≤ a j ∧ ∀ x ∈ l, c ≤ x j
  | [], a => by simp
  | y :: l, a => by
    rw [List.foldl_cons, le_meetF hj l]
    simp only [mnN, hj, if_true, List.mem_cons, forall_eq_or_imp]
    constructor
    · rintro ⟨h1, h2⟩; exact ⟨by omega, by omega, h2⟩
    · rintro ⟨h1, h2, h3⟩; exact ⟨by omega, h3⟩

theorem le_keep {e : Epoch} {self : Int} {vec : Nat → Int} {known : Nat → Nat → Int} {c : Int} {j : Nat} (hj : j < 8) (h : membs e self 8 ≠ []) : c ≤ keepL' e self vec known j ↔ ∀ m ∈ membs e self 8, c ≤ known m j := by
  rw [keepL', if_neg h]
  cases hm : membs e self 8 with
  | nil => exact absurd hm h
  | cons m l =>
    rw [List.map_cons, meetF, le_meetF hj]
    simp

theorem mem_membs {e : Epoch} {self : Int} {m : Nat} : m ∈ membs e self 8 ↔ m < 8 ∧ isMb e self m = true := by simp [membs]

theorem keep_mono {e : Epoch} {self : Int} {vec vec' : Nat → Int} {known known' : Nat → Nat → Int} {j : Nat} (hj : j < 8) (h1 : vec j ≤ vec' j) (h2 : ∀ m, m < 8 → known m j ≤ known' m j) : keepL' e self vec known j ≤ keepL' e self vec' known' j := by
  by_cases h : membs e self 8 = []
  · simpa [keepL', h] using h1
  · rw [le_keep hj h]
    intro m hm
    have := (le_keep (vec := vec) hj h).1 (Int.le_refl (keepL' e self vec known j)) m hm
    have := h2 m (mem_membs.1 hm).1
    omega

theorem keep_le {e : Epoch} {self : Int} {vec : Nat → Int} {known : Nat → Nat → Int} {j m : Nat} (hj : j < 8) (hm : m < 8) (hb : isMb e self m = true) : keepL' e self vec known j ≤ known m j := by
  have h : m ∈ membs e self 8 := mem_membs.2 ⟨hm, hb⟩
  exact (le_keep (vec := vec) hj (List.ne_nil_of_mem h)).1 (Int.le_refl _) m h

theorem below_split (time : Int) (l : List Op) (i : Nat) : below time l = below time (l.take i) ++ below time (l.drop i) := by
  rw [below, below, below, ← List.filter_append, List.take_append_drop]
theorem above_split (time : Int) (l : List Op) (i : Nat) : above time l = above time (l.take i) ++ above time (l.drop i) := by
  rw [above, above, above, ← List.filter_append, List.take_append_drop]
theorem drop_s {l : List Op} {i : Nat} (h : i < l.length) : l.drop i = l.getD i zOp :: l.drop (i + 1) := by
  rw [List.drop_eq_getElem_cons h]
  simp [List.getD, h]
theorem below_at {time : Int} {l : List Op} {i : Nat} (h : i < l.length) (ht : (l.getD i zOp).stamp.time ≤ time) : (below time (l.take i)).length < (below time l).length ∧ (below time l).getD (below time (l.take i)).length zOp = l.getD i zOp := by
  have e : below time (l.drop i) = l.getD i zOp :: below time (l.drop (i + 1)) := by
    rw [drop_s h, below, List.filter_cons, if_pos (by simpa using ht)]; rfl
  rw [below_split time l i, e]
  generalize below time (l.take i) = a
  generalize l.getD i zOp = x
  simp [List.getD]
theorem above_at {time : Int} {l : List Op} {i : Nat} (h : i < l.length) (ht : ¬ (l.getD i zOp).stamp.time ≤ time) : (above time (l.take i)).length < (above time l).length ∧ (above time l).getD (above time (l.take i)).length zOp = l.getD i zOp := by
  have e : above time (l.drop i) = l.getD i zOp :: above time (l.drop (i + 1)) := by
    rw [drop_s h, above, List.filter_cons, if_pos (by simpa using ht)]; rfl
  rw [above_split time l i, e]
  generalize above time (l.take i) = a
  generalize l.getD i zOp = x
  simp [List.getD]

/-- What is known, grown. -/
def growN (v w : View) (i : Nat) : View := ⟨v.epoch, v.self, fun j => if j < i then max (v.vector j) (w.vector j) else v.vector j, v.told, v.clocks, fun j => if j < i then max (v.sure j) (w.sure j) else v.sure j, max v.clock w.clock,
  fun m j => if m < 8 ∧ j < i then max (v.known m j) (w.known m j) else v.known m j⟩
def growK (v w : View) (i k : Nat) : View := ⟨v.epoch, v.self, fun j => if j < i + 1 then max (v.vector j) (w.vector j) else v.vector j, v.told, v.clocks, fun j => if j < i + 1 then max (v.sure j) (w.sure j) else v.sure j, max v.clock w.clock,
  fun m j => if (m < 8 ∧ j < i) ∨ (m < k ∧ j = i) then max (v.known m j) (w.known m j) else v.known m j⟩

theorem gView_set7e (x : View) (k j : Nat) (v : Int) : (gView x).setT [7, k, j] (.s (.int .i64 v)) = gView { x with known := upd x.known k (upd (x.known k) j v) } := by simp [gView, GV.setT, gVec2_set]

theorem growK_0 (v w : View) (i : Nat) (hi : i < 8) : ({ growN v w i with sure := upd (growN v w i).sure i (max (v.sure i) (w.sure i)), vector := upd (growN v w i).vector i (max (v.vector i) (w.vector i)) } : View) = growK v w i 0 := by
  simp only [growN, growK, View.mk.injEq, true_and]
  refine ⟨?_, ?_, ?_⟩
  · funext j
    by_cases h : j = i
    · subst h; simp [upd]
    · simp [upd, h, show j < i + 1 ↔ j < i by omega]
  · funext j
    by_cases h : j = i
    · subst h; simp [upd]
    · simp [upd, h, show j < i + 1 ↔ j < i by omega]
  · funext m j
    simp

theorem growK_s (v w : View) (i k : Nat) : ({ growK v w i k with known := upd (growK v w i k).known k (upd ((growK v w i k).known k) i (max (v.known k i) (w.known k i))) } : View) = growK v w i (k + 1) := by
  simp only [growK, View.mk.injEq, true_and]
  funext m j
  by_cases hm : m = k
  · subst hm
    by_cases hj : j = i
    · subst hj; simp [upd]
    · simp [upd, hj]
  · by_cases hj : j = i
    · subst hj; simp [upd, hm, show m < k + 1 ↔ m < k by omega]
    · simp [upd, hm, hj]

theorem growK_8 (v w : View) (i : Nat) : growK v w i 8 = growN v w (i + 1) := by
  simp only [growK, growN, View.mk.injEq, true_and]
  funext m j
  have : (m < 8 ∧ j < i ∨ m < 8 ∧ j = i) ↔ (m < 8 ∧ j < i + 1) := by omega
  simp [this]
theorem growN_0 (v w : View) : growN v w 0 = { v with clock := max v.clock w.clock } := by
  simp [growN]
end Go.Proofs.Ytnpkbgpaifpnmaa.Vc
