/- What is told hangs on what is seen; a history. -/
import Derived.Test.YtdpknchgoeboaaaTb3
set_option linter.unusedVariables false
set_option linter.unusedSimpArgs false
namespace Go.Proofs.Ytdpknchgoeboaaa.Vc
open Go

theorem keys_perm {a b : List (ByteArray × ByteArray)} (ha : AttrOk a) (hb : AttrOk b) (h : getS a = getS b) : (a.map (·.1)).Perm (b.map (·.1)) := by
  rw [List.perm_ext_iff_of_nodup ha.nod hb.nod]
  intro k
  have h1 := getS_none (l := a) (j := k)
  have h2 := getS_none (l := b) (j := k)
  rw [h] at h1
  constructor
  · intro hk
    refine Classical.byContradiction fun hc => ?_
    exact (h1.1 (h2.2 hc)) hk
  · intro hk
    refine Classical.byContradiction fun hc => ?_
    exact (h2.1 (h1.2 hc)) hk
theorem attrsOf_eq {x y : PN} (hx : AttrOk x.attrs) (hy : AttrOk y.attrs) (h : getS x.attrs = getS y.attrs) : attrsOf x = attrsOf y := by
  have hp := (keys_perm hx hy h).map fun b : ByteArray => b.data.toList
  have hk : attrKeys x = attrKeys y := by
    have := mergeSort_of_perm hp
    simpa [attrKeys, sortB, List.map_map, Function.comp_def] using this
  rw [attrsOf, attrsOf, hk, h]
theorem told_eq {T T' : PT} {k k' : Nat} (h : T.ok k) (h' : T'.ok k') (hv : T.view = T'.view) : nodesTold T = nodesTold T' ∧ T.nodes.length = T'.nodes.length := by
  have hp : (T.nodes.map (·.1)).Perm (T'.nodes.map (·.1)) := by
    rw [List.perm_ext_iff_of_nodup h.nod h'.nod]
    intro n
    have e : T.get n = none ↔ T'.get n = none := by rw [← PT.view_none, ← PT.view_none, hv]
    have h1 : T.get n = none ↔ n ∉ T.nodes.map (·.1) := getA_none
    have h2 : T'.get n = none ↔ n ∉ T'.nodes.map (·.1) := getA_none
    constructor
    · intro hk
      refine Classical.byContradiction fun hc => ?_
      exact (h1.1 (e.2 (h2.2 hc))) hk
    · intro hk
      refine Classical.byContradiction fun hc => ?_
      exact (h2.1 (e.1 (h1.2 hc))) hk
  have hk : nodesK T = nodesK T' := mergeSort_of_perm_i hp
  refine ⟨?_, by simpa using hp.length_eq⟩
  have hf : (fun n => (T.get n).map fun x => toldOf n x) = fun n => (T'.get n).map fun x => toldOf n x := by
    funext n
    cases hg : T.get n with
    | none =>
      have : T'.get n = none := by rw [← PT.view_none, ← hv, PT.view_none]; exact hg
      rw [this]
    | some x =>
      obtain ⟨y, hy, he⟩ := get_of_view (T := T') (n := n) (a := x.view) (by rw [← hv]; exact PT.view_get hg)
      rw [hy]
      simp only [Option.map_some, Option.some.injEq]
      have e1 : y.parent = x.parent := congrArg AN.parent he
      have e2 : y.name = x.name := congrArg AN.name he
      have e3 : getS y.attrs = getS x.attrs := congrArg AN.attr he
      rw [toldOf, toldOf, e1, e2, attrsOf_eq (h.attrs _ _ hg).1 (h'.attrs _ _ hy).1 e3.symm]
  rw [nodesTold, nodesTold, hk, toldL, toldL, hf]

/-- A tree that may be told, by its measure. -/
theorem ok_tells {T : PT} {k : Nat} (h : T.ok k) (hk : k ≤ 1099511627776) : T.tells := by
  refine ⟨by have := h.many; omega, h.keys, fun n x hx => ?_⟩
  obtain ⟨h1, h2⟩ := h.attrs n x hx
  exact ⟨by omega, fun p hp => by have := h1.key p.1 (List.mem_map.2 ⟨p, hp, rfl⟩); omega⟩
theorem ok_fits {T : PT} {k : Nat} (h : T.ok k) (hk : k < 1099511627776) : T.fits := ⟨by have := h.many; omega, h.last0, by have := h.lastk; omega, by have := h.ids; omega⟩
theorem T0_ok : T0.ok 0 := by
  refine ⟨by decide, by decide, by decide, by decide, by decide, fun n x hx => ?_, fun n x hx => ?_⟩
  · have : n = 1 ∨ n = 2 := by
      have hm : n ∈ T0.nodes.map (·.1) := Classical.byContradiction fun hc => by
        have : T0.get n = none := getA_none.2 hc
        rw [this] at hx; cases hx
      simpa [T0] using hm
    rcases this with rfl | rfl <;> decide
  · have := getA_mem hx
    simp only [T0, List.mem_cons, List.not_mem_nil, or_false, Prod.mk.injEq] at this
    rcases this with ⟨_, rfl⟩ | ⟨_, rfl⟩ <;> exact ⟨AttrOk.nil, by simp [PN.bare]⟩

/-- What was done to a tree, from one that was. -/
inductive Hist (mk : Value) (T0 : PT) : List Undo → PT → Prop
  | nil : Hist mk T0 [] T0
  | snoc {us : List Undo} {T : PT} {op : Op} : Hist mk T0 us T → mayA T op = true → (∃ k, T.ok k) → Hist mk T0 (us ++ [T.undo mk op]) (T.does op)
theorem undo_ix (T : PT) (mk : Value) (op : Op) : (T.undo mk op).ix = T.last + 1 := by
  unfold PT.undo
  split
  · rfl
  · split
    · rfl
    · split <;> rfl
theorem undo_of (T : PT) (mk : Value) (op : Op) : (T.undo mk op).of = mk := by
  unfold PT.undo
  split
  · rfl
  · split
    · rfl
    · split <;> rfl
theorem undo_op (T : PT) (mk : Value) (op : Op) : (T.undo mk op).op = op := by
  unfold PT.undo
  split
  · rfl
  · split
    · rfl
    · split <;> rfl
theorem Hist.last {mk : Value} {T0 T : PT} {us : List Undo} {u : Undo} (h : Hist mk T0 (us ++ [u]) T) : ∃ T' op, Hist mk T0 us T' ∧ mayA T' op = true ∧ (∃ k, T'.ok k) ∧ u = T'.undo mk op ∧ T = T'.does op := by
  generalize hl : us ++ [u] = l at h
  cases h with
  | nil => simp at hl
  | snoc h1 h2 h3 =>
    obtain ⟨rfl, e⟩ := List.append_inj' hl rfl
    simp only [List.cons.injEq, and_true] at e
    exact ⟨_, _, h1, h2, h3, e, rfl⟩
theorem Hist.none {mk : Value} {T0 T : PT} (h : Hist mk T0 [] T) : T = T0 := by
  generalize hl : ([] : List Undo) = l at h
  cases h with
  | nil => rfl
  | snoc h1 h2 h3 => simp at hl
end Go.Proofs.Ytdpknchgoeboaaa.Vc
