/- What is done is taken back: plain, the steps. -/
import Derived.Test.YtdpknchgoeboaaaTb1
set_option linter.unusedVariables false
set_option linter.unusedSimpArgs false
namespace Go.Proofs.Ytdpknchgoeboaaa.Vc
open Go

def updV (v : Int → Option AN) (n : Int) (a : Option AN) : Int → Option AN := fun j => if j = n then a else v j
theorem updV_updV (v : Int → Option AN) (n : Int) (a b : Option AN) : updV (updV v n a) n b = updV v n b := by
  funext j; unfold updV; split <;> rfl
theorem updV_self {v : Int → Option AN} {n : Int} {a : Option AN} (h : v n = a) : updV v n a = v := by
  funext j; unfold updV
  split
  · rename_i e; rw [e, h]
  · rfl

theorem PT.view_get {T : PT} {n : Int} {x : PN} (h : T.get n = some x) : T.view n = some x.view := by unfold PT.view; rw [h]; rfl
theorem PT.view_none {T : PT} {n : Int} : T.view n = none ↔ T.get n = none := by
  unfold PT.view; cases T.get n <;> simp
theorem get_of_view {T : PT} {n : Int} {a : AN} (h : T.view n = some a) : ∃ x, T.get n = some x ∧ x.view = a := by
  unfold PT.view at h
  cases hg : T.get n with
  | none => rw [hg] at h; cases h
  | some x => rw [hg] at h; exact ⟨x, rfl, by simpa using h⟩

/-! ### put -/
theorem put_view {T : PT} {n : Int} {p : Place} {x : PN} (hx : T.get n = some x) : (T.put n p).view = updV T.view n (some ⟨p.parent, p.name, getS x.attrs⟩) := by
  unfold PT.put
  rw [hx]
  simp only
  rw [show (((T.unkid x.parent n).place n p.parent p.name).kid p.parent n).view = ((T.unkid x.parent n).place n p.parent p.name).view from view_mod fun _ => rfl]
  funext j
  unfold updV
  by_cases hj : j = n
  · subst hj
    obtain ⟨x1, hx1, he⟩ : ∃ x1, (T.unkid x.parent j).get j = some x1 ∧ x1.attrs = x.attrs := by
      rw [get_unkid, hx]
      split <;> exact ⟨_, rfl, rfl⟩
    have h1 : ((T.unkid x.parent j).place j p.parent p.name).get j = some { x1 with parent := p.parent, name := p.name } := by rw [get_place, if_pos rfl, hx1]; rfl
    rw [PT.view_get h1, if_pos rfl]
    simp [PN.view, he]
  · rw [if_neg hj]
    have h1 : ((T.unkid x.parent n).place n p.parent p.name).get j = (T.unkid x.parent n).get j := by rw [get_place, if_neg hj]
    have h2 : (T.unkid x.parent n).view = T.view := view_mod fun _ => rfl
    rw [← h2]
    unfold PT.view
    rw [h1]
theorem put_ok {T : PT} {n : Int} {p : Place} {k : Nat} (h : T.ok k) : (T.put n p).ok k := by
  unfold PT.put
  cases T.get n with
  | none => exact h
  | some x => exact ok_mod (ok_mod (ok_mod h (Nat.le_refl _) fun x hx => hx) (Nat.le_refl _) fun x hx => hx) (Nat.le_refl _) fun x hx => hx
theorem put_last (T : PT) (n : Int) (p : Place) : (T.put n p).last = T.last := by
  unfold PT.put
  cases T.get n <;> rfl
theorem put_len (T : PT) (n : Int) (p : Place) : (T.put n p).nodes.length = T.nodes.length := by
  have hm : ∀ (T : PT) (k : Int) (f : PN → PN), (T.mod k f).nodes.length = T.nodes.length := fun T k f => by
    have := congrArg List.length (keys_mod f T.nodes k)
    simpa [PT.mod] using this
  unfold PT.put
  cases T.get n with
  | none => rfl
  | some x => simp only [PT.kid, PT.place, PT.unkid, hm]

/-! ### add, del, attr -/
theorem add_view {T : PT} {n : Int} (hn : T.get n = none) : (T.add n).view = updV T.view n (some PN.bare.view) := by
  funext j
  unfold updV PT.view
  rw [PT.get_add hn]
  split <;> rfl
theorem add_ok {T : PT} {n : Int} {k : Nat} (h : T.ok k) (hn : T.get n = none) (hw : (Lit.int .i64 n).wf = true) : (T.add n).ok (k + 1) := by
  refine ⟨?_, by have := h.many; simp [PT.add]; omega, h.last0, by have := h.lastk; show T.last ≤ _; omega, by have := h.ids; show T.ids.length ≤ _; omega, fun j x hx => ?_, fun j x hx => ?_⟩
  · show ((T.nodes ++ [(n, PN.bare)]).map (·.1)).Nodup
    rw [List.map_append, List.nodup_append]
    refine ⟨h.nod, by simp, fun x hx y hy => ?_⟩
    simp only [List.map_cons, List.map_nil, List.mem_singleton] at hy
    subst hy
    exact fun e => (getA_none.1 hn) (e ▸ hx)
  · rw [PT.get_add hn] at hx
    split at hx
    · rename_i e; rw [e]; exact hw
    · exact h.keys j x hx
  · rw [PT.get_add hn] at hx
    split at hx
    · cases hx; exact ⟨AttrOk.nil, by simp [PN.bare]⟩
    · obtain ⟨h1, h2⟩ := h.attrs j x hx
      exact ⟨h1, by omega⟩
theorem get_del {T : PT} (hn : (T.nodes.map (·.1)).Nodup) (n j : Int) : (T.del n).get j = if j = n then none else T.get j := getA_del hn n j
theorem del_view {T : PT} {n : Int} (hn : (T.nodes.map (·.1)).Nodup) : (T.del n).view = updV T.view n none := by
  funext j
  unfold updV PT.view
  rw [get_del hn]
  split <;> rfl
theorem del_ok {T : PT} {n : Int} {k : Nat} (h : T.ok k) : (T.del n).ok k := by
  have hl : (T.del n).nodes.length ≤ T.nodes.length := by
    have := congrArg List.length (keys_del T.nodes n)
    have h2 := List.length_erase_le (a := n) (l := T.nodes.map (·.1))
    simp only [List.length_map] at this h2
    show (delA T.nodes n).length ≤ _
    omega
  refine ⟨by show ((delA T.nodes n).map (·.1)).Nodup; rw [keys_del]; exact h.nod.erase _, by have := h.many; omega, h.last0, h.lastk, h.ids, fun j x hx => ?_, fun j x hx => ?_⟩
  · rw [get_del h.nod] at hx
    split at hx
    · cases hx
    · exact h.keys j x hx
  · rw [get_del h.nod] at hx
    split at hx
    · cases hx
    · exact h.attrs j x hx
theorem attr_view {T : PT} {n : Int} {key value : ByteArray} {x : PN} (hx : T.get n = some x) (ha : AttrOk x.attrs) : (T.attr n key value).view = updV T.view n (some ⟨x.parent, x.name, fun j => if j = key then (if value = empty then none else some value) else getS x.attrs j⟩) := by
  funext j
  unfold updV PT.view
  rw [PT.attr, PT.get_mod]
  split
  · rename_i e
    rw [e, hx]
    simp only [Option.map_some, PN.view, Option.some.injEq, AN.mk.injEq, true_and]
    funext i
    exact getS_set ha key value i
  · rfl
theorem attr_ok {T : PT} {n : Int} {key value : ByteArray} {k : Nat} (h : T.ok k) (hk : key.size ≤ 255) : (T.attr n key value).ok (k + 1) :=
  ok_mod h (by omega) fun x ⟨h1, h2⟩ => ⟨h1.set (k := key) (v := value) hk, by have := len_set x.attrs key value; show (setS x.attrs key value).length ≤ _; omega⟩
end Go.Proofs.Ytdpknchgoeboaaa.Vc
