/- A joiner that asks again and again, plain. -/
import Derived.Test.YtgkdipfmhjlbhaaBf1
set_option linter.unusedVariables false
set_option linter.unusedSimpArgs false
namespace Go.Proofs.Ytgkdipfmhjlbhaa.Vc
open Go

theorem addAll_app : ∀ (l m al : List AP), addAll al (l ++ m) = addAll (addAll al l) m
  | [], m, al => rfl
  | a :: l, m, al => by simp [addAll, addAll_app l m]

section
variable {data : List UInt8} {number : Int}
theorem keep_part (h1 : 1 ≤ number) (h2 : number ≤ 1099511627776) (h3 : manyN data.length ≤ 2048) {k j : Nat} (hk : k ≤ manyN data.length) (hj : j < k) : (addA ((cutL data number).take k) (partA data number j)).1 = (cutL data number).take k := by
  rw [addA_no (cut_goes h1 h2 h3 hk)]
  · rw [take_at (by omega) hk, cutt_len hk]
    rintro ⟨_, h | h⟩
    · omega
    · have : number < number := h
      omega
  · rw [cutt_len hk]
    rintro ⟨_, _, _, h⟩
    have : (j : Int) = (k : Int) := h
    omega
theorem drop_at {a b : Nat} (h : a + b < manyN data.length) : ((cutL data number).drop a).getD b zAP = partA data number (a + b) := by
  rw [← cutL_at (data := data) (number := number) (i := a + b) h]
  simp only [List.getD_eq_getElem?_getD]
  rw [List.getElem?_drop]
/-- Parts that come twice, or late. -/
theorem add_chunk (h1 : 1 ≤ number) (h2 : number ≤ 1099511627776) (h3 : manyN data.length ≤ 2048) {k a : Nat} (hk : k ≤ manyN data.length) (ha : a ≤ k) : ∀ b, a + b ≤ manyN data.length → addAll ((cutL data number).take k) (((cutL data number).drop a).take b) = (cutL data number).take (max k (a + b))
  | 0, _ => by rw [List.take_zero, show max k (a + 0) = k by omega]; rfl
  | b + 1, hb => by
    rw [addAll_take _ _ (by rw [List.length_drop, cutL_len]; omega), drop_at (by omega), add_chunk h1 h2 h3 hk ha b (by omega)]
    rcases Nat.lt_or_ge (a + b) k with h | h
    · rw [show max k (a + b) = k by omega, show max k (a + (b + 1)) = k by omega, keep_part h1 h2 h3 hk h]
    · rw [show max k (a + b) = a + b by omega, show max k (a + (b + 1)) = a + b + 1 by omega]
      rcases Nat.eq_zero_or_pos (a + b) with h0 | h0
      · rw [h0, add_first h1 h2 h3 (by omega) (by rfl) (.inl rfl)]
      · rw [add_next h1 h2 h3 (by omega) h0]

/-- Some of the parts, none of them far ahead. -/
def Chunk (data : List UInt8) (number : Int) (k : Nat) (l : List AP) : Prop := ∃ a b, a ≤ k ∧ a + b ≤ manyN data.length ∧ l = ((cutL data number).drop a).take b
theorem Chunk.nil (k : Nat) : Chunk data number k [] := ⟨0, 0, by omega, by omega, by simp⟩
theorem Chunk.mono {k k' : Nat} {l : List AP} (h : Chunk data number k l) (hk : k ≤ k') : Chunk data number k' l := by
  obtain ⟨a, b, h1, h2, h3⟩ := h
  exact ⟨a, b, by omega, h2, h3⟩
theorem Chunk.len {k : Nat} {l : List AP} (h : Chunk data number k l) : l.length ≤ manyN data.length := by
  obtain ⟨a, b, h1, h2, h3⟩ := h
  rw [h3, List.length_take, List.length_drop, cutL_len]; omega
theorem Chunk.mem {k : Nat} {l : List AP} (h : Chunk data number k l) : ∀ x ∈ l, x.data.length ≤ 512 := by
  obtain ⟨a, b, h1, h2, rfl⟩ := h
  intro x hx
  have := List.mem_of_mem_drop (List.mem_of_mem_take hx)
  simp only [cutL, List.mem_map] at this
  obtain ⟨i, _, rfl⟩ := this
  rw [part_len]; omega
/-- What is asked for next. -/
theorem next_chunk (h0 : 1 ≤ number) {k : Nat} {limit : Int} (hk : k < manyN data.length) (hl : 1 ≤ limit) (h2 : number ≤ 1099511627776) (h3 : manyN data.length ≤ 2048) :
    ∃ b, 1 ≤ b ∧ k + b ≤ manyN data.length ∧ someA (cutL data number) (if (wantA ((cutL data number).take k)).1 = number then (wantA ((cutL data number).take k)).2 else 0) limit = ((cutL data number).drop k).take b := by
  have e : (if (wantA ((cutL data number).take k)).1 = number then (wantA ((cutL data number).take k)).2 else 0) = (k : Int) := by
    rcases Nat.eq_zero_or_pos k with hz | hz
    · subst hz
      rw [List.take_zero]
      show (if (0 : Int) = number then (0 : Int) else 0) = _
      rw [if_neg (by omega)]; rfl
    · rw [want_cut h0 h2 h3 (by omega) hz]
      simp
  rw [e]
  refine ⟨(min limit ((manyN data.length : Int) - k)).toNat, by omega, by omega, ?_⟩
  rw [someA, if_neg (by rw [cutL_len]; omega), cutL_len]
  rfl
theorem want_le (h0 : 1 ≤ number) (h2 : number ≤ 1099511627776) (h3 : manyN data.length ≤ 2048) {k : Nat} (hk : k ≤ manyN data.length) : True := trivial
/-- A round that is not lost. -/
theorem round_add (h1 : 1 ≤ number) (h2 : number ≤ 1099511627776) (h3 : manyN data.length ≤ 2048) {k b : Nat} {late : List AP} (hk : k ≤ manyN data.length) (hc : Chunk data number k late) (hb : 1 ≤ b) (hkb : k + b ≤ manyN data.length) :
    ∃ k', k + 1 ≤ k' ∧ k' ≤ manyN data.length ∧ addAll ((cutL data number).take k) (late ++ ((cutL data number).drop k).take b) = (cutL data number).take k' := by
  obtain ⟨a, c, q1, q2, rfl⟩ := hc
  refine ⟨max (max k (a + c)) (k + b), by omega, by omega, ?_⟩
  rw [addAll_app, add_chunk h1 h2 h3 hk q1 c q2, add_chunk h1 h2 h3 (by omega) (by omega) b hkb]
theorem whole_part (h1 : 1 ≤ number) (h2 : number ≤ 1099511627776) (h3 : manyN data.length ≤ 2048) {k : Nat} (hk : k < manyN data.length) : wholeA ((cutL data number).take k) = none := by
  rw [wholeA, if_pos]
  rcases Nat.eq_zero_or_pos k with hz | hz
  · subst hz; exact .inl rfl
  · refine .inr (.inr ?_)
    rw [cutt_len (by omega), take_at hz (by omega)]
    show (k : Int) ≠ (manyN data.length : Int)
    omega
theorem whole_all (h1 : 1 ≤ number) (h2 : number ≤ 1099511627776) (h3 : manyN data.length ≤ 2048) (h0 : 0 < manyN data.length) : wholeA ((cutL data number).take (manyN data.length)) = some data := by
  rw [List.take_of_length_le (by rw [cutL_len]; omega)]
  exact whole_cut h1 h2 h3 h0
end
end Go.Proofs.Ytgkdipfmhjlbhaa.Vc
