/- strings.Split at a slash, strings.Join with a slash: the kit's contracts as contracts of these texts. -/
import Derived.Test.YtgjgbpnjodhhiaaDoorPp1
import Derived.Test.YtgjgbpnjodhhiaaDoorShelfD
set_option linter.unusedVariables false
set_option linter.unusedSimpArgs false
namespace Go.Proofs.YtgjgbpnjodhhiaaDoor.Vc
open Go Go.Proofs Go.RowKit

def mkS (l : List UInt8) : ByteArray := ⟨l.toArray⟩
theorem mkS_list (l : List UInt8) : (mkS l).data.toList = l := rfl
theorem mkS_of (b : ByteArray) : mkS b.data.toList = b := rfl
theorem mkS_inj {a b : List UInt8} (h : mkS a = mkS b) : a = b := by
  have := congrArg (fun x : ByteArray => x.data.toList) h
  simpa [mkS] using this
theorem mkS_size (l : List UInt8) : (mkS l).size = l.length := by simp [mkS, ByteArray.size]
def gN (n : List UInt8) : GV := .s (.string (mkS n))
theorem gN_ok (n : List UInt8) : (gN n).ok := rfl
theorem gN_els (ns : List (List UInt8)) : Els 1 (ns.map gN) := fun x hx => by
  simp only [List.mem_map] at hx
  obtain ⟨n, _, rfl⟩ := hx
  exact ⟨rfl, rfl⟩
theorem gN_flats : ∀ ns : List (List UInt8), flats (ns.map gN) = ns.map fun n => .string (mkS n)
  | [] => rfl
  | n :: ns => by
    have := gN_flats ns
    simp only [flats, List.map_cons, List.flatMap_cons] at this ⊢
    rw [this]; rfl
theorem getD_gN (ns : List (List UInt8)) (i : Nat) : (ns.map gN).getD i (.s (.string ⟨#[]⟩)) = .s (.string (mkS (ns.getD i []))) := by
  rw [List.getD_eq_getElem?_getD, List.getElem?_map, List.getD_eq_getElem?_getD]
  cases ns[i]? <;> rfl

/-- The one package variable that strings.Split reads. -/
def GlobI (u : PH) : Prop := ∃ cs e fz m, u 0 = some (.cells cs e fz) ∧ cs[0]? = some (.int .i64 m)
theorem GlobI.cell {u : PH} {w : World} (h : GlobI u) (hu : u.le w) : ∃ m, w.cell? ⟨0, 0, none⟩ = some (.int .i64 m) := by
  obtain ⟨cs, e, fz, m, h1, h2⟩ := h
  exact ⟨m, by rw [cell_of (hu _ _ h1)]; exact h2⟩

theorem splitB_segs (s : ByteArray) : Lib.splitB ⟨#[47]⟩ 0 (Lib.countB s ⟨#[47]⟩) s = (segs s.data.toList).map mkS := by
  have h := Lib.splitB_data ⟨#[47]⟩ 0 (Lib.countB s ⟨#[47]⟩) s
  rw [show Lib.splitK (⟨#[47]⟩ : ByteArray).data.toList 0 (Lib.countB s ⟨#[47]⟩) s.data.toList = segs s.data.toList from split_segs _] at h
  rw [← h, List.map_map]
  conv => lhs; rw [← List.map_id (Lib.splitB ⟨#[47]⟩ 0 (Lib.countB s ⟨#[47]⟩) s)]
  rfl

def SplitQ (ns : List (List UInt8)) (rs : List GV) (m' : PH) : Prop := ∃ v, rs = [.s v] ∧ SlO m' v 9 1 (ns.map gN)

theorem Split_spec (w : World) (s : ByteArray) (hs : s.size < 4294967281) (u : PH) (hu : u.le w) (hG : GlobI u) : Spec Tryd.prog 17 [.string s, .string ⟨#[47]⟩] PH.no w (SplitQ (segs s.data.toList)) := by
  intro _
  obtain ⟨m, hm⟩ := hG.cell hu
  refine (Tryd.strings_Split s ⟨#[47]⟩ m w hs hm (by decide)).mono fun e w' h => ?_
  obtain ⟨he, hw⟩ := h
  rw [splitB_segs] at hw
  have hl : Lib.countB s ⟨#[47]⟩ + 1 = (segs s.data.toList).length := by
    have := Lib.splitB_all ⟨#[47]⟩ (by decide) 0 _ s rfl
    rw [splitB_segs] at this
    simpa using this.symm
  subst hw
  refine ⟨[.s (.slice (some ⟨w.heap.size, 0, none⟩) (segs s.data.toList).length (segs s.data.toList).length)], one w.heap.size (.cells (((segs s.data.toList).map mkS).map Value.string).toArray 9), ?_, ?_, ⟨_, rfl, gN_els _, .inr ⟨⟨w.heap.size, 0, none⟩, (segs s.data.toList).length, by simp, by simp, fun _ => ⟨(((segs s.data.toList).map mkS).map Value.string).toArray, rfl, ?_, if_pos rfl, ?_⟩⟩⟩, ?_, ?_, ⟨rfl, rfl, rfl, by simp, fun k hk _ => alloc_old hk⟩⟩
  · rw [he, hl]; rfl
  · intro r hr
    simp only [List.mem_singleton] at hr
    subst hr; rfl
  · simp
  · intro j v hj
    rw [gN_flats] at hj
    simpa [List.map_map, Function.comp_def] using hj
  · intro b o hb
    simp only [one] at hb
    split at hb
    · rename_i e; subst e
      simp only [Option.some.injEq] at hb
      subst hb
      exact alloc_new
    · cases hb
  · intro b hb
    right
    simp only [one] at hb
    split at hb
    · rename_i e; omega
    · exact absurd rfl hb

theorem join_len (ns : List (List UInt8)) : (Lib.join ns [47]).length ≤ (ns.map List.length).sum + ns.length := by
  cases ns with
  | nil => simp [Lib.join_nil]
  | cons x r =>
    rw [Lib.join_cons]
    have key : ∀ r : List (List UInt8), (Lib.joinTail [47] r).length = (r.map List.length).sum + r.length := by
      intro r
      induction r with
      | nil => rfl
      | cons y r ih =>
        simp only [Lib.joinTail, List.map_cons, List.flatten_cons, List.length_append, List.length_cons, List.length_nil, List.sum_cons] at ih ⊢
        omega
    have := key r
    simp only [List.length_append, List.map_cons, List.sum_cons, List.length_cons]
    omega

theorem Join_spec (w : World) (v : Value) (ns : List (List UInt8)) (hb : (ns.map List.length).sum + ns.length ≤ 140737488355328) (u : PH) (hu : u.le w) (h : SlR u v 1 (ns.map gN)) :
    Spec Tryd.prog 20 [v, .string ⟨#[47]⟩] PH.no w fun rs _ => rs = [.s (.string (mkS (Lib.join ns [47])))] := by
  intro _
  have fin : ∀ {e : Ending} {w' : World}, e = .returned (.string (mkS (Lib.join ns [47]))) → Below w.heap.size w w' → ∃ (rs : List GV) (m' : PH), e = .returned (retV rs) ∧ (∀ r ∈ rs, r.ok) ∧ rs = [.s (.string (mkS (Lib.join ns [47])))] ∧ m'.le w' ∧ (∀ b, m' b ≠ none → PH.no b ≠ none ∨ w.heap.size ≤ b) ∧ Kept PH.no w w' := by
    intro e w' he hbl
    exact ⟨[.s (.string (mkS (Lib.join ns [47])))], PH.no, he, by simp [GV.ok, Value.oneCell'], rfl, (fun _ _ h => by cases h), (fun b hb => absurd rfl hb), hbl.os, hbl.tape, hbl.output, hbl.size, fun k hk _ => hbl.block k hk⟩
  obtain ⟨hels, hs⟩ := h
  rcases hs with ⟨rfl, h0⟩ | ⟨⟨b, o, sp⟩, c, rfl, hc, hs⟩
  · have : ns = [] := by simpa using h0
    subst this
    refine (Tryd.strings_Join_none none 0 ⟨#[47]⟩ w).mono fun e w' h => ?_
    obtain ⟨he, hw⟩ := h
    subst hw
    exact fin (by rw [he]; rfl) (Below.refl _ _)
  · simp only [List.length_map] at hc hs ⊢
    rcases Nat.eq_zero_or_pos c with hc0 | hc0
    · subst hc0
      have : ns = [] := List.length_eq_zero_iff.mp (by omega)
      subst this
      refine (Tryd.strings_Join_none (some ⟨b, o, sp⟩) 0 ⟨#[47]⟩ w).mono fun e w' h => ?_
      obtain ⟨he, hw⟩ := h
      subst hw
      exact fin (by rw [he]; rfl) (Below.refl _ _)
    · obtain ⟨cs, e, fz, rfl, g2, g3⟩ := hs hc0
      have hblk := hu _ _ g2
      have := Tryd.strings_Join b o c (ns.map mkS) ⟨#[47]⟩ w (fun j x hj => by
        rw [cell_of hblk]
        refine g3 j _ ?_
        rw [gN_flats]
        rw [List.getElem?_map] at hj ⊢
        cases hn : ns[j]? with
        | none => rw [hn] at hj; cases hj
        | some n => rw [hn] at hj; simp at hj; subst hj; rfl) (Array.getElem?_eq_some_iff.1 hblk).1 (by simp; omega) (by simpa using hc) (by
          rw [List.map_map]
          have := join_len ns
          simp only [Function.comp_def, mkS_list, List.map_id'] at this ⊢
          exact Nat.le_trans this hb)
      simp only [List.length_map, List.map_map, Function.comp_def, mkS_list, List.map_id'] at this
      exact this.mono fun e w' h => fin h.1 h.2
end Go.Proofs.YtgjgbpnjodhhiaaDoor.Vc
