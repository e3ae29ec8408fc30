/- A region whose order is open: what only looks, in whatever order; what acts behind it, in the order of the text. -/
import Derived.Test.YtdpknchgoeboaaaVc6
set_option linter.unusedVariables false
set_option linter.unusedSimpArgs false
namespace Go.Proofs.Ytdpknchgoeboaaa.Vc
open Go

section
variable {P : Program} {ops : Array Oper} {C : World → Prop}

/-- The first n operations come up in whatever order; then L. -/
def HeadQ (P : Program) (ops : Array Oper) (C : World → Prop) (n : Nat) (L : Array Bool → Act → Prop) : Nat → Array Bool → Act → Prop
  | 0, lst, a => L lst a
  | f + 1, lst, a => Region.ready .any ops lst ≠ [] ∧ ∀ i ∈ Region.ready .any ops lst, i < n ∧ qOp P ops C i (HeadQ P ops C n L f (lst.setIfInBounds i true)) a

theorem HeadQ.any {n g : Nat} {L : Array Bool → Act → Prop} {Q : Exit → Act → World → Prop} (hL : ∀ lst a w, C w → L lst a → wpAny P .any ops Q g lst a w) : ∀ (f : Nat) (lst : Array Bool) (a : Act) (w : World), C w → HeadQ P ops C n L f lst a → wpAny P .any ops Q (g + f) lst a w := by
  intro f
  induction f with
  | zero => exact fun lst a w hw h => hL lst a w hw h
  | succ f ih =>
    intro lst a w hw ⟨h0, h⟩
    show wpAny P .any ops Q ((g + f) + 1) lst a w
    exact ⟨fun e => absurd e h0, fun i hi => wpOp_of_qOp hw (fun a' w' hw' h' => ih _ a' w' hw' h') (h i hi).2⟩

/-- One that looks, and that may come up now, may be taken first. -/
theorem HeadQ.first {n i : Nat} {o : Oper} {v : Value} {L : Array Bool → Act → Prop} (ho : ops[i]? = some o) (hns : Region.noSelect ops = true) (hsk : Region.sinkB .any ops n = true) (hch : Region.chainB .any ops n = true) (hn : n < ops.size) (hi : i < n)
    (hend : ∀ lst a, L lst a → ∀ j ∈ Region.ready .any ops lst, n ≤ j) (f : Nat) : ∀ (lst : Array Bool) (a : Act), HeadInv .any ops n lst →
      (∀ j oj, ops[j]? = some oj → j ≠ i → lst.getD j true = false → (∀ e ∈ oj.after, Region.binds .any e = true → e.on ≠ i) → o.apart ops oj = true) →
      i ∈ Region.ready .any ops lst → YieldsIn P ops C o v a → HeadQ P ops C n L f (lst.setIfInBounds i true) (a.put o.dst v) → HeadQ P ops C n L (f + 1) lst a := by
  have hsel := Region.noSelect_spec hns
  induction f with
  | zero =>
    intro lst a inv hap hr hy h
    refine ⟨List.ne_nil_of_mem hr, fun j hj => ?_⟩
    by_cases hji : j = i
    · subst hji; exact ⟨hi, hy.qOp ho h⟩
    · have h1 := hend _ _ h j (ready_mono hj hji)
      exact absurd hj (tail_waits hsk hch hn inv _ i rfl hi (mem_ready.1 hr).1 j h1)
  | succ f ih =>
    intro lst a inv hap hr hy h
    have hun := (mem_ready.1 hr).1
    refine ⟨List.ne_nil_of_mem hr, fun j hj => ?_⟩
    have hjn : j < n := Nat.lt_of_not_le fun hle => tail_waits hsk hch hn inv _ i rfl hi hun j hle hj
    refine ⟨hjn, ?_⟩
    by_cases hji : j = i
    · subst hji; exact hy.qOp ho h
    · obtain ⟨hjun, oj, hoj, hall⟩ := mem_ready.1 hj
      have hnot : ∀ e ∈ oj.after, Region.binds .any e = true → e.on ≠ i := fun e he hb heq => by
        have h3 := hall e he hb
        rw [heq, getD_both hun] at h3
        cases h3
      have hq := qOp_put hoj (hap j oj hoj hji hjun hnot) (fun cs b => hsel i o cs b ho) (fun cs b => hsel j oj cs b hoj) hy (h.2 j (ready_mono hj hji)).2
      refine qOp_mono (fun a' h3 => ?_) hq
      refine ih _ a' (inv.set hj hjn) (fun k ok hk hki hu hno => hap k ok hk hki ?_ hno) (ready_mono hr (Ne.symm hji)) h3.1 ?_
      · by_cases hjk : j = k
        · subst hjk; exact hjun
        · rw [getD_set_ne true hjk] at hu; exact hu
      · rw [Array.setIfInBounds_comm _ _ hji]; exact h3.2

theorem HeadQ.lex {n g : Nat} {A : Act → Prop} (hns : Region.noSelect ops = true) (hsk : Region.sinkB .any ops n = true) (hch : Region.chainB .any ops n = true) (hn : n < ops.size) : ∀ (l : List Oper) (k : Nat) (lst : Array Bool) (a : Act),
    (∀ j, j < l.length → l[j]? = ops[k + j]?) → k + l.length = n → HeadInv .any ops n lst → Region.lexHead .any ops g l.length k lst = true → wpQuiet P ops C A l a →
    HeadQ P ops C n (fun lst' a' => Region.seqB .any ops g n lst' = true ∧ A a') l.length lst a := by
  intro l
  induction l with
  | nil =>
    intro k lst a hl hk inv hB h
    simp only [List.length_nil, Nat.add_zero] at hk
    subst hk
    exact ⟨hB, h⟩
  | cons o l ih =>
    intro k lst a hl hk inv hB h
    have h0 : ops[k]? = some o := by simpa using (hl 0 (by simp)).symm
    simp only [List.length_cons] at hk
    simp only [List.length_cons, Region.lexHead, Bool.and_eq_true] at hB
    have hr : k ∈ Region.ready .any ops lst := by simpa using hB.1.1
    have hq : qOp P ops C k (wpQuiet P ops C A l) a := by unfold qOp; simp only [h0]; exact h
    obtain ⟨v, hy, hK⟩ := yieldsIn_of_qOp h0 hq
    refine HeadQ.first h0 hns hsk hch hn (by omega) (fun lst' a' hL => seqB_ready hL.1) l.length lst a inv (Region.free_spec h0 hB.1.2) hr hy ?_
    exact ih (k + 1) _ _ (fun j hj => by
      have := hl (j + 1) (by simp; omega)
      simpa [Nat.add_assoc, Nat.add_comm 1 j] using this) (by omega) (inv.set hr (by omega)) hB.2 hK

/-- The head looks (in every world of the class alike), the tail acts. -/
theorem wp_region_qt {id : Nat} {Q : Exit → Act → World → Prop} {a : Act} {w : World} (n : Nat) (hm : P.follows .mixedOrders = true) (hB : Region.lexTailB .any ops n = true) (hC : C { w with drawn := w.drawn + 1 })
    (h : wpQuiet P ops C (fun a' => ∀ w', C w' → wpList P ops Q (ops.toList.drop n) a' w') (ops.toList.take n) a) : (Code.region id ops true).wp P Q a w := by
  simp only [Region.lexTailB, Bool.and_eq_true, decide_eq_true_eq] at hB
  obtain ⟨⟨⟨⟨hns, hn⟩, hsk⟩, hch⟩, hlex⟩ := hB
  have htl : (ops.toList.take n).length = n := by simp; omega
  have hdl : (ops.toList.drop n).length = ops.size - n := by simp
  have inv0 : HeadInv .any ops n (Array.replicate ops.size false) :=
    ⟨by simp, fun j oj _ hl => (by rw [getD_replicate_false] at hl; cases hl), fun t _ ht => getD_in (by simpa using ht) (getD_replicate_false _ _)⟩
  have H := HeadQ.lex (P := P) (C := C) (g := ops.size - n) hns hsk hch hn (ops.toList.take n) 0 _ a (fun j hj => by
    rw [htl] at hj
    simp [hj]) (by omega) inv0 (by rw [htl]; exact hlex) h
  refine wp_region_any hm ?_
  have := HeadQ.any (Q := Q) (g := ops.size - n) (fun lst a' w' hw' hL => by
    have h2 := wpAny_of_seq (md := .any) (Q' := Q) (ops.toList.drop n) n lst a' w' (fun j => by simp [List.getElem?_drop]) (by rw [hdl]; exact hL.1) (hL.2 w' hw')
    rwa [hdl] at h2) _ _ _ _ hC H
  rw [htl, show ops.size - n + n = ops.size by omega] at this
  exact this

end
end Go.Proofs.Ytdpknchgoeboaaa.Vc
