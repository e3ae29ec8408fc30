/- Parts, plain: what is cut goes on, and is kept part by part. -/
import Derived.Test.YtgkdipfmhjlbhaaBt6
set_option linter.unusedVariables false
set_option linter.unusedSimpArgs false
namespace Go.Proofs.Ytgkdipfmhjlbhaa.Vc
open Go

/-- Add, one behind the other. -/
def addAll (al : List AP) : List AP → List AP
  | [] => al
  | a :: l => addAll (addA al a).1 l
theorem addAll_snoc (a : AP) : ∀ (l : List AP) (al : List AP), addAll al (l ++ [a]) = (addA (addAll al l) a).1
  | [], al => rfl
  | b :: l, al => by simp [addAll, addAll_snoc a l]
theorem addAll_take (al l : List AP) {i : Nat} (h : i < l.length) : addAll al (l.take (i + 1)) = (addA (addAll al (l.take i)) (l.getD i zAP)).1 := by
  rw [take_s l i zAP h, addAll_snoc]

section
variable {data : List UInt8} {number : Int}
theorem part_len (i : Nat) : (partA data number i).data.length = min 512 (data.length - i * 512) := by simp [partA]
theorem part_check (h1 : 1 ≤ number) (h2 : number ≤ 1099511627776) (h3 : manyN data.length ≤ 2048) {i : Nat} (hi : i < manyN data.length) : checkA (partA data number i) = true := by
  unfold checkA
  rw [part_len]
  show (decide (1 ≤ number ∧ number ≤ 1099511627776 ∧ 1 ≤ (manyN data.length : Int) ∧ (manyN data.length : Int) ≤ 2048 ∧ 0 ≤ (i : Int) ∧ (i : Int) < (manyN data.length : Int)) &&
    if (i : Int) = (manyN data.length : Int) - 1 then decide (1 ≤ min 512 (data.length - i * 512) ∧ min 512 (data.length - i * 512) ≤ 512) else decide (min 512 (data.length - i * 512) = 512)) = true
  have e1 : decide (1 ≤ number ∧ number ≤ 1099511627776 ∧ 1 ≤ (manyN data.length : Int) ∧ (manyN data.length : Int) ≤ 2048 ∧ 0 ≤ (i : Int) ∧ (i : Int) < (manyN data.length : Int)) = true := decide_eq_true (by omega)
  rw [e1, Bool.true_and]
  unfold manyN at *
  split
  · exact decide_eq_true (by omega)
  · exact decide_eq_true (by omega)
theorem take_at {k i : Nat} (hi : i < k) (hk : k ≤ manyN data.length) : ((cutL data number).take k).getD i zAP = partA data number i := by
  rw [← cutL_at (data := data) (number := number) (i := i) (by omega)]
  simp only [List.getD_eq_getElem?_getD]
  rw [List.getElem?_take_of_lt hi]
theorem cutt_len {k : Nat} (hk : k ≤ manyN data.length) : ((cutL data number).take k).length = k := by
  rw [List.length_take, cutL_len]; omega
theorem cut_goes (h1 : 1 ≤ number) (h2 : number ≤ 1099511627776) (h3 : manyN data.length ≤ 2048) {k : Nat} (hk : k ≤ manyN data.length) : goesA ((cutL data number).take k) = true := by
  rw [goes_all]
  intro i hi
  rw [cutt_len hk] at hi
  rw [goesAt, take_at hi hk, take_at (by omega) hk, part_check h1 h2 h3 (by omega)]
  simp [partA]
theorem add_next (h1 : 1 ≤ number) (h2 : number ≤ 1099511627776) (h3 : manyN data.length ≤ 2048) {k : Nat} (hk : k < manyN data.length) (hk0 : 0 < k) :
    addA ((cutL data number).take k) (partA data number k) = ((cutL data number).take (k + 1), true) := by
  rw [take_s _ k zAP (by rw [cutL_len]; exact hk), cutL_at hk]
  refine addA_app (part_check h1 h2 h3 hk) (cut_goes h1 h2 h3 (by omega)) ?_ ?_
  · rintro ⟨h, _⟩
    have : (k : Int) = 0 := h
    omega
  · rw [take_at hk0 (by omega), cutt_len (by omega)]
    exact ⟨by omega, rfl, rfl, rfl⟩
theorem add_first (h1 : 1 ≤ number) (h2 : number ≤ 1099511627776) (h3 : manyN data.length ≤ 2048) (h0 : 0 < manyN data.length) {al : List AP} (hg : goesA al = true) (h : (al.length : Int) = 0 ∨ (al.getD 0 zAP).snap < number) :
    addA al (partA data number 0) = ((cutL data number).take 1, true) := by
  rw [take_s _ 0 zAP (by rw [cutL_len]; exact h0), cutL_at h0]
  exact addA_one (part_check h1 h2 h3 h0) hg ⟨rfl, h⟩
/-- All parts, one behind the other, take the place of what is less. -/
theorem all_cut (h1 : 1 ≤ number) (h2 : number ≤ 1099511627776) (h3 : manyN data.length ≤ 2048) {al : List AP} (hg : goesA al = true) (h : (al.length : Int) = 0 ∨ (al.getD 0 zAP).snap < number) : ∀ k, k < manyN data.length → addAll al ((cutL data number).take (k + 1)) = (cutL data number).take (k + 1)
  | 0, hk => by
    rw [addAll_take _ _ (by rw [cutL_len]; exact hk), cutL_at hk]
    show (addA al (partA data number 0)).1 = _
    rw [add_first h1 h2 h3 hk hg h]
  | k + 1, hk => by
    rw [addAll_take _ _ (by rw [cutL_len]; exact hk), cutL_at hk, all_cut h1 h2 h3 hg h k (by omega), add_next h1 h2 h3 hk (by omega)]
theorem all_cut' (h1 : 1 ≤ number) (h2 : number ≤ 1099511627776) (h3 : manyN data.length ≤ 2048) {k : Nat} (hk : k ≤ manyN data.length) : addAll [] ((cutL data number).take k) = (cutL data number).take k := by
  cases k with
  | zero => rfl
  | succ k => exact all_cut h1 h2 h3 (by rfl) (.inl rfl) k (by omega)
/-- Parts of a lesser number are let go. -/
theorem stay {al : List AP} (hg : goesA al = true) (h0 : 0 < al.length) (hs : number < (al.getD 0 zAP).snap) (i : Nat) : (addA al (partA data number i)).1 = al := by
  rw [addA_no hg]
  · rintro ⟨_, h | h⟩
    · omega
    · have : (al.getD 0 zAP).snap < number := h
      omega
  · rintro ⟨_, h, _⟩
    have : number = (al.getD 0 zAP).snap := h
    omega
theorem stays {al : List AP} (hg : goesA al = true) (h0 : 0 < al.length) (hs : number < (al.getD 0 zAP).snap) : ∀ k, k ≤ manyN data.length → addAll al ((cutL data number).take k) = al
  | 0, _ => rfl
  | k + 1, hk => by
    rw [addAll_take _ _ (by rw [cutL_len]; omega), cutL_at (by omega), stays hg h0 hs k (by omega), stay hg h0 hs]

/-- The parts' bytes, one behind the other. -/
theorem chunks : ∀ (m : Nat) (l : List UInt8), l.length ≤ m * 512 → ((List.range m).map fun i => (l.drop (i * 512)).take 512).flatten = l
  | 0, l, h => by
    have : l = [] := List.eq_nil_of_length_eq_zero (by omega)
    subst this; rfl
  | m + 1, l, h => by
    rw [List.range_succ_eq_map, List.map_cons, List.flatten_cons, List.map_map]
    have e : ((fun i => (l.drop (i * 512)).take 512) ∘ Nat.succ) = fun i => ((l.drop 512).drop (i * 512)).take 512 := by
      funext i
      simp only [Function.comp, List.drop_drop]
      rw [show i.succ * 512 = 512 + i * 512 by omega]
    rw [e, chunks m (l.drop 512) (by simp; omega)]
    simp
theorem cut_flat : (cutL data number).flatMap (·.data) = data := by
  rw [List.flatMap_def, cutL, List.map_map]
  exact chunks (manyN data.length) data (by unfold manyN; omega)
theorem whole_cut (h1 : 1 ≤ number) (h2 : number ≤ 1099511627776) (h3 : manyN data.length ≤ 2048) (h0 : 0 < manyN data.length) : wholeA (cutL data number) = some data := by
  have hg := cut_goes h1 h2 h3 (k := manyN data.length) (data := data) (by omega)
  rw [List.take_of_length_le (by rw [cutL_len]; omega)] at hg
  rw [wholeA, if_neg, cut_flat]
  rintro (h | h | h)
  · have := cutL_len data number
    rw [h] at this; simp at this; omega
  · rw [hg] at h; cases h
  · rw [cutL_len, cutL_at h0] at h
    exact h rfl
theorem want_cut (h1 : 1 ≤ number) (h2 : number ≤ 1099511627776) (h3 : manyN data.length ≤ 2048) {k : Nat} (hk : k ≤ manyN data.length) (h0 : 0 < k) : wantA ((cutL data number).take k) = (number, (k : Int)) := by
  rw [wantA, if_neg, take_at h0 hk, cutt_len hk]
  · rfl
  · rintro (h | h)
    · have := cutt_len (data := data) (number := number) hk
      rw [h] at this; simp at this; omega
    · rw [cut_goes h1 h2 h3 hk] at h; cases h
/-- All that a sponsor gives. -/
theorem give_all : giveA data number 0 2048 = cutA data number := by
  have hc := cut_len data number
  rw [giveA, someA]
  split
  · have : (cutA data number).length = 0 := by omega
    exact (List.eq_nil_of_length_eq_zero this).symm
  · rw [show (0 : Int).toNat = 0 from rfl, List.drop_zero, List.take_of_length_le (by omega)]
theorem cut_some (h : cutA data number ≠ []) : 1 ≤ number ∧ number ≤ 1099511627776 ∧ manyN data.length ≤ 2048 ∧ 0 < manyN data.length ∧ cutA data number = cutL data number := by
  unfold cutA at *
  split at h
  · exact absurd rfl h
  · rename_i hc
    rw [if_neg hc]
    have : 0 < manyN data.length := by
      rcases Nat.eq_zero_or_pos (manyN data.length) with h0 | h0
      · exfalso; apply h
        exact List.eq_nil_of_length_eq_zero (by rw [cutL_len, h0])
      · exact h0
    exact ⟨by omega, by omega, by omega, this, rfl⟩
end

/-- What a joiner has in the end. -/
def freshA (one two : List UInt8) (a b : Int) : List AP := addAll (addAll [] ((cutA one a).take ((cutA one a).length - 1))) (cutA two b)
theorem fresh_less {one two : List UInt8} {a b : Int} (h1 : cutA one a ≠ []) (h2 : cutA two b ≠ []) (hl : 1 < (cutA one a).length) (hab : b < a) :
    wantA (freshA one two a b) = (a, ((cutA one a).length : Int) - 1) ∧ ((freshA one two a b).length : Int) = ((cutA one a).length : Int) - 1 := by
  obtain ⟨a1, a2, a3, a4, a5⟩ := cut_some h1
  obtain ⟨b1, b2, b3, b4, b5⟩ := cut_some h2
  rw [freshA, a5, b5]
  rw [a5, cutL_len] at hl
  rw [cutL_len, all_cut' a1 a2 a3 (by omega)]
  have e := stays (data := two) (number := b) (al := (cutL one a).take (manyN one.length - 1)) (cut_goes a1 a2 a3 (by omega)) (by rw [cutt_len (by omega)]; omega) (by rw [take_at (by omega) (by omega)]; exact hab) (manyN two.length) (by omega)
  rw [List.take_of_length_le (show (cutL two b).length ≤ manyN two.length by rw [cutL_len]; omega)] at e
  rw [e, want_cut a1 a2 a3 (by omega) (by omega), cutt_len (by omega)]
  have : ((manyN one.length - 1 : Nat) : Int) = (manyN one.length : Int) - 1 := by omega
  exact ⟨by rw [this], this⟩
theorem fresh_more {one two : List UInt8} {a b : Int} (h1 : cutA one a ≠ []) (h2 : cutA two b ≠ []) (hne : a ≠ b) (hl : ¬ (1 < (cutA one a).length ∧ b < a)) :
    (wantA (freshA one two a b)).1 = b ∧ wholeA (freshA one two a b) = some two := by
  obtain ⟨a1, a2, a3, a4, a5⟩ := cut_some h1
  obtain ⟨b1, b2, b3, b4, b5⟩ := cut_some h2
  rw [freshA, a5, b5]
  rw [a5, cutL_len] at hl
  rw [cutL_len, all_cut' a1 a2 a3 (by omega)]
  have e := all_cut (data := two) (number := b) b1 b2 b3 (al := (cutL one a).take (manyN one.length - 1)) (cut_goes a1 a2 a3 (by omega)) (by
    rw [cutt_len (by omega)]
    rcases Nat.eq_zero_or_pos (manyN one.length - 1) with h | h
    · exact .inl (by omega)
    · refine .inr ?_
      rw [take_at h (by omega)]
      show a < b
      omega) (manyN two.length - 1) (by omega)
  rw [show manyN two.length - 1 + 1 = manyN two.length by omega, List.take_of_length_le (show (cutL two b).length ≤ manyN two.length by rw [cutL_len]; omega)] at e
  rw [e, whole_cut b1 b2 b3 b4]
  have := want_cut b1 b2 b3 (k := manyN two.length) (data := two) (by omega) b4
  rw [List.take_of_length_le (show (cutL two b).length ≤ manyN two.length by rw [cutL_len]; omega)] at this
  rw [this]
  exact ⟨rfl, rfl⟩
end Go.Proofs.Ytgkdipfmhjlbhaa.Vc
