/- What is done is taken back: plain, the whole. -/
import Derived.Test.YtdpknchgoeboaaaTb2
import Derived.Lib.SlKeysI
set_option linter.unusedVariables false
set_option linter.unusedSimpArgs false
namespace Go.Proofs.Ytdpknchgoeboaaa.Vc
open Go

theorem may_make {T : PT} {op : Op} (h : mayA T op = true) (k : op.kind = 1) : T.get op.node = none ∧ ∃ x, T.get op.parent = some x := by
  rw [mayA, if_pos k] at h
  simp only [Bool.and_eq_true, Bool.not_eq_true', PT.has] at h
  exact ⟨Option.isNone_iff_eq_none.1 (by rw [← Option.not_isSome, h.1.1.2]; rfl), Option.isSome_iff_exists.1 h.1.2⟩
theorem may_there {T : PT} {op : Op} (h : mayA T op = true) (k : op.kind ≠ 1) : ∃ x, T.get op.node = some x := by
  rw [mayA, if_neg k] at h
  split at h
  · simp only [Bool.and_eq_true, PT.has] at h
    exact Option.isSome_iff_exists.1 h.1.1.1.1
  · split at h
    · simp only [Bool.and_eq_true, PT.has] at h
      exact Option.isSome_iff_exists.1 h.1
    · cases h
theorem may_key {T : PT} {op : Op} (h : mayA T op = true) (k : op.kind ≠ 1) (k2 : op.kind ≠ 2) : op.key.size ≤ 255 := by
  rw [mayA, if_neg k, if_neg k2] at h
  split at h
  · simp only [Bool.and_eq_true, pairB, decide_eq_true_eq] at h
    exact h.2.1.2
  · cases h

theorem does_ids (T : PT) (op : Op) : (T.does op).ids = T.ids ++ [T.last + 1] := rfl
theorem acts_last (T : PT) (op : Op) : (T.acts op).last = T.last := by
  unfold PT.acts
  split
  · rw [put_last]; rfl
  · split
    · rw [put_last]
    · rfl
theorem does_last (T : PT) (op : Op) : (T.does op).last = T.last + 1 := by
  show (({ T with last := T.last + 1 } : PT).acts op).last = _
  rw [acts_last]
theorem does_view1 {T : PT} {op : Op} (h : mayA T op = true) (k : op.kind = 1) : (T.does op).view = updV T.view op.node (some ⟨op.parent, op.name, fun _ => none⟩) := by
  have hn := (may_make h k).1
  have h1 : (({ T with last := T.last + 1 } : PT).add op.node).get op.node = some PN.bare := by rw [PT.get_add (T := { T with last := T.last + 1 }) hn, if_pos rfl]
  show (({ T with last := T.last + 1 } : PT).acts op).view = _
  rw [PT.acts, if_pos k, put_view h1, add_view (T := { T with last := T.last + 1 }) hn, updV_updV]
  rfl
theorem does_view2 {T : PT} {op : Op} {x : PN} (hx : T.get op.node = some x) (k : op.kind = 2) : (T.does op).view = updV T.view op.node (some ⟨op.parent, op.name, getS x.attrs⟩) := by
  show (({ T with last := T.last + 1 } : PT).acts op).view = _
  rw [PT.acts, if_neg (by omega), if_pos k]
  exact put_view (T := { T with last := T.last + 1 }) hx
theorem does_view3 {T : PT} {op : Op} {x : PN} (hx : T.get op.node = some x) (ha : AttrOk x.attrs) (k : op.kind ≠ 1) (k2 : op.kind ≠ 2) : (T.does op).view = updV T.view op.node (some ⟨x.parent, x.name, fun j => if j = op.key then (if op.value = empty then none else some op.value) else getS x.attrs j⟩) := by
  show (({ T with last := T.last + 1 } : PT).acts op).view = _
  rw [PT.acts, if_neg k, if_neg k2]
  exact attr_view (T := { T with last := T.last + 1 }) hx ha
theorem acts_ok {T : PT} {op : Op} {k : Nat} (h : T.ok k) (hm : mayA T op = true) (hw : (Lit.int .i64 op.node).wf = true) : (T.acts op).ok (k + 1) := by
  unfold PT.acts
  split
  · rename_i k1; exact put_ok (add_ok h (may_make hm k1).1 hw)
  · split
    · exact (put_ok h).up (by omega)
    · rename_i k1 k2; exact attr_ok h (may_key hm k1 k2)
theorem does_ok {T : PT} {op : Op} {k : Nat} (h : T.ok k) (hm : mayA T op = true) (hw : (Lit.int .i64 op.node).wf = true) : (T.does op).ok (k + 1) := by
  have h0 : ({ T with last := T.last + 1 } : PT).acts op = { T.acts op with last := T.last + 1 } := by
    unfold PT.acts PT.put
    split
    · show (match (T.add op.node).get op.node with | _ => _) = _
      have e : (({ T with last := T.last + 1 } : PT).add op.node).get op.node = (T.add op.node).get op.node := rfl
      rw [e]
      cases (T.add op.node).get op.node <;> rfl
    · split
      · have e : (({ T with last := T.last + 1 } : PT)).get op.node = T.get op.node := rfl
        rw [e]
        cases T.get op.node <;> rfl
      · rfl
  obtain ⟨h1, h2, h3, h4, h5, h6, h7⟩ := acts_ok h hm hw
  have hl := h.lastk
  have hl0 := h.last0
  have hi := h.ids
  unfold PT.does
  rw [h0]
  exact ⟨h1, h2, by show 0 ≤ T.last + 1; omega, by show T.last + 1 ≤ ((k + 1 : Nat) : Int); omega, by show (T.ids ++ [T.last + 1]).length ≤ _; simp; omega, h6, h7⟩

theorem undo_does {T B : PT} {op : Op} {mk : Value} {k k' : Nat} (hm : mayA T op = true) (hT : T.ok k) (hB : B.ok k') (hv : B.view = (T.does op).view) : (B.undone (T.undo mk op)).view = T.view ∧ (B.undone (T.undo mk op)).ok (k' + 1) := by
  have hB1 : ({ B with ids := B.ids.dropLast } : PT).ok k' := ⟨hB.nod, hB.many, hB.last0, hB.lastk, by have := hB.ids; simp; omega, hB.keys, hB.attrs⟩
  by_cases k1 : op.kind = 1
  · obtain ⟨hn, x, hx⟩ := may_make hm k1
    have hu : T.undo mk op = ⟨mk, T.last + 1, op, zPlace, ⟨#[]⟩⟩ := by rw [PT.undo, hn]
    have h1 : (({ B with ids := B.ids.dropLast } : PT).unkid op.parent op.node).ok k' := ok_mod hB1 (Nat.le_refl _) fun x hx => hx
    have h2 : (({ B with ids := B.ids.dropLast } : PT).unkid op.parent op.node).view = B.view := view_mod (T := { B with ids := B.ids.dropLast }) fun _ => rfl
    rw [hu, PT.undone]
    simp only
    rw [if_pos k1]
    refine ⟨?_, (del_ok h1).up (by omega)⟩
    rw [del_view h1.nod, h2, hv, does_view1 hm k1, updV_updV]
    exact updV_self (PT.view_none.2 hn)
  · obtain ⟨x, hx⟩ := may_there hm k1
    by_cases k2 : op.kind = 2
    · have hu : T.undo mk op = ⟨mk, T.last + 1, op, ⟨x.parent, x.name⟩, ⟨#[]⟩⟩ := by rw [PT.undo, hx]; simp only; rw [if_neg k1, if_pos k2]
      have hd := does_view2 hx k2
      have hbv : B.view op.node = some ⟨op.parent, op.name, getS x.attrs⟩ := by rw [hv, hd]; simp [updV]
      obtain ⟨xb, hxb, he⟩ := get_of_view hbv
      rw [hu, PT.undone]
      simp only
      rw [if_neg k1, if_pos k2]
      refine ⟨?_, (put_ok hB1).up (by omega)⟩
      rw [put_view (T := { B with ids := B.ids.dropLast }) hxb]
      show updV B.view op.node _ = _
      have ha : getS xb.attrs = getS x.attrs := congrArg AN.attr he
      rw [hv, hd, updV_updV, ha]
      exact updV_self (PT.view_get hx)
    · have hu : T.undo mk op = ⟨mk, T.last + 1, op, zPlace, (getS x.attrs op.key).getD ⟨#[]⟩⟩ := by rw [PT.undo, hx]; simp only; rw [if_neg k1, if_neg k2]
      obtain ⟨hax, _⟩ := hT.attrs _ _ hx
      have hd := does_view3 hx hax k1 k2
      have hbv : B.view op.node = some ⟨x.parent, x.name, fun j => if j = op.key then (if op.value = empty then none else some op.value) else getS x.attrs j⟩ := by rw [hv, hd]; simp [updV]
      obtain ⟨xb, hxb, he⟩ := get_of_view hbv
      obtain ⟨hab, _⟩ := hB.attrs _ _ hxb
      rw [hu, PT.undone]
      simp only
      rw [if_neg k1, if_neg k2]
      refine ⟨?_, attr_ok hB1 (may_key hm k1 k2)⟩
      rw [attr_view (T := { B with ids := B.ids.dropLast }) hxb hab]
      show updV B.view op.node _ = _
      rw [hv, hd, updV_updV]
      refine updV_self ?_
      rw [PT.view_get hx]
      have e1 : xb.parent = x.parent := congrArg AN.parent he
      have e2 : xb.name = x.name := congrArg AN.name he
      have e3 : getS xb.attrs = fun j => if j = op.key then (if op.value = empty then none else some op.value) else getS x.attrs j := congrArg AN.attr he
      rw [e1, e2]
      congr 1
      show AN.mk x.parent x.name (getS x.attrs) = _
      congr 1
      funext j
      by_cases hj : j = op.key
      · subst hj
        rw [if_pos rfl]
        cases hg : getS x.attrs op.key with
        | none => rfl
        | some v =>
          have := hax.val _ _ hg
          rw [Option.getD_some, if_neg this]
      · rw [if_neg hj, e3]; simp [hj]
end Go.Proofs.Ytdpknchgoeboaaa.Vc
