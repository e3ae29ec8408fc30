/- What is done is taken back: plain. -/
import Derived.Test.YtdpknchgoeboaaaTm14
set_option linter.unusedVariables false
set_option linter.unusedSimpArgs false
namespace Go.Proofs.Ytdpknchgoeboaaa.Vc
open Go

theorem getS_put (y : ByteArray) : ∀ (l : List (ByteArray × ByteArray)) (k j : ByteArray), getS (putS l k y) j = if j = k then some y else getS l j
  | [], k, j => by
    by_cases h : k = j
    · subst h; simp [getS, putS]
    · simp [getS, putS, h, Ne.symm h]
  | (a, b) :: l, k, j => by
    by_cases h1 : a = k
    · subst h1
      by_cases h2 : a = j
      · subst h2; simp [getS, putS]
      · simp [getS, putS, h2, Ne.symm h2]
    · by_cases h2 : a = j
      · subst h2; simp [getS, putS, h1]
      · simp [getS, putS, h1, h2, getS_put y l k j]
theorem getS_none {l : List (ByteArray × ByteArray)} {j : ByteArray} : getS l j = none ↔ j ∉ l.map (·.1) := by
  induction l with
  | nil => simp [getS]
  | cons p l ih =>
    obtain ⟨k, x⟩ := p
    by_cases hk : k = j
    · simp [getS, hk]
    · simp only [getS, hk, if_false, List.map_cons, List.mem_cons, not_or, ih]
      exact ⟨fun h => ⟨fun e => hk e.symm, h⟩, fun h => h.2⟩
theorem getS_mem : ∀ {l : List (ByteArray × ByteArray)} {j x : ByteArray}, getS l j = some x → (j, x) ∈ l
  | [], j, x, h => by simp [getS] at h
  | (k, y) :: l, j, x, h => by
    by_cases hk : k = j
    · simp [getS, hk] at h; subst h; subst hk; simp
    · simp [getS, hk] at h; exact List.mem_cons_of_mem _ (getS_mem h)
theorem getS_del {l : List (ByteArray × ByteArray)} (hn : (l.map (·.1)).Nodup) (k j : ByteArray) : getS (delS l k) j = if j = k then none else getS l j := by
  induction l with
  | nil => simp [getS, delS]
  | cons p l ih =>
    obtain ⟨a, y⟩ := p
    simp only [List.map_cons, List.nodup_cons] at hn
    by_cases h1 : a = k
    · subst h1
      by_cases h2 : j = a
      · subst h2; simp only [delS, if_true]; exact getS_none.2 hn.1
      · simp [delS, getS, h2, Ne.symm h2]
    · by_cases h2 : a = j
      · subst h2; simp [delS, getS, h1]
      · simp [delS, getS, h1, h2, ih hn.2]
theorem keys_delS : ∀ (l : List (ByteArray × ByteArray)) (n : ByteArray), ((delS l n).map (·.1)).Sublist (l.map (·.1))
  | [], n => List.Sublist.refl _
  | (k, x) :: l, n => by
    by_cases h1 : k = n
    · rw [delS, if_pos h1]; exact List.sublist_cons_self _ _
    · rw [delS, if_neg h1]; exact (keys_delS l n).cons_cons _
theorem mem_putS (y : ByteArray) : ∀ (l : List (ByteArray × ByteArray)) (n j : ByteArray), j ∈ (putS l n y).map (·.1) ↔ j = n ∨ j ∈ l.map (·.1)
  | [], n, j => by simp [putS]
  | (k, x) :: l, n, j => by
    by_cases h1 : k = n
    · subst h1; simp [putS]
    · have ih := mem_putS y l n j
      rw [putS, if_neg h1, List.map_cons, List.mem_cons, ih, List.map_cons, List.mem_cons]
      constructor
      · rintro (h | h | h)
        · exact .inr (.inl h)
        · exact .inl h
        · exact .inr (.inr h)
      · rintro (h | h | h)
        · exact .inr (.inl h)
        · exact .inl h
        · exact .inr (.inr h)
theorem nod_putS (y : ByteArray) : ∀ (l : List (ByteArray × ByteArray)) (n : ByteArray), (l.map (·.1)).Nodup → ((putS l n y).map (·.1)).Nodup
  | [], n, _ => by simp [putS]
  | (k, x) :: l, n, h => by
    rw [List.map_cons, List.nodup_cons] at h
    by_cases h1 : k = n
    · subst h1; rw [putS, if_pos rfl, List.map_cons, List.nodup_cons]; exact h
    · rw [putS, if_neg h1, List.map_cons, List.nodup_cons]
      refine ⟨fun hm => ?_, nod_putS y l n h.2⟩
      rcases (mem_putS y l n k).1 hm with h2 | h2
      · exact h1 h2
      · exact h.1 h2
theorem len_putS (y : ByteArray) : ∀ (l : List (ByteArray × ByteArray)) (n : ByteArray), (putS l n y).length ≤ l.length + 1
  | [], n => by simp [putS]
  | (k, x) :: l, n => by
    by_cases h1 : k = n
    · simp [putS, h1]
    · have := len_putS y l n
      simp only [putS, h1, if_false, List.length_cons]; omega

def empty : ByteArray := ⟨#[]⟩
/-- Attributes as they may be. -/
structure AttrOk (l : List (ByteArray × ByteArray)) : Prop where
  nod : (l.map (·.1)).Nodup
  val : ∀ k v, getS l k = some v → v ≠ empty
  key : ∀ k ∈ l.map (·.1), k.size ≤ 255
theorem AttrOk.nil : AttrOk [] := ⟨by simp, fun k v h => by simp [getS] at h, by simp⟩
def setS (l : List (ByteArray × ByteArray)) (k v : ByteArray) : List (ByteArray × ByteArray) := if v = ⟨#[]⟩ then delS l k else putS l k v
theorem getS_set {l : List (ByteArray × ByteArray)} (h : AttrOk l) (k v j : ByteArray) : getS (setS l k v) j = if j = k then (if v = empty then none else some v) else getS l j := by
  unfold setS
  by_cases hv : v = ⟨#[]⟩
  · rw [if_pos hv, getS_del h.nod, if_pos (show v = empty from hv)]
  · rw [if_neg hv, getS_put, if_neg (show ¬ v = empty from hv)]
theorem AttrOk.set {l : List (ByteArray × ByteArray)} (h : AttrOk l) {k v : ByteArray} (hk : k.size ≤ 255) : AttrOk (setS l k v) := by
  refine ⟨?_, fun j w hw => ?_, fun j hj => ?_⟩
  · unfold setS
    split
    · exact (keys_delS l k).nodup h.nod
    · exact nod_putS v l k h.nod
  · rw [getS_set h] at hw
    split at hw
    · split at hw
      · cases hw
      · rename_i hv; cases hw; exact hv
    · exact h.val j w hw
  · unfold setS at hj
    split at hj
    · exact h.key j ((keys_delS l k).subset hj)
    · rcases (mem_putS v l k j).1 hj with h1 | h1
      · subst h1; exact hk
      · exact h.key j h1
theorem len_set (l : List (ByteArray × ByteArray)) (k v : ByteArray) : (setS l k v).length ≤ l.length + 1 := by
  unfold setS
  split
  · have := (keys_delS l k).length_le
    simp at this; omega
  · exact len_putS v l k

/-- What is seen of a tree. -/
structure AN where
  parent : Int
  name : ByteArray
  attr : ByteArray → Option ByteArray
def PN.view (x : PN) : AN := ⟨x.parent, x.name, getS x.attrs⟩
def PT.view (T : PT) (n : Int) : Option AN := (T.get n).map PN.view

structure PT.ok (T : PT) (k : Nat) : Prop where
  nod : (T.nodes.map (·.1)).Nodup
  many : T.nodes.length ≤ k + 2
  last0 : 0 ≤ T.last
  lastk : T.last ≤ k
  ids : T.ids.length ≤ k
  keys : ∀ n x, T.get n = some x → (Lit.int .i64 n).wf = true
  attrs : ∀ n x, T.get n = some x → AttrOk x.attrs ∧ x.attrs.length ≤ k
theorem PT.ok.up {T : PT} {k k' : Nat} (h : T.ok k) (hk : k ≤ k') : T.ok k' :=
  ⟨h.nod, by have := h.many; omega, h.last0, by have := h.lastk; omega, by have := h.ids; omega, h.keys, fun n x hx => ⟨(h.attrs n x hx).1, by have := (h.attrs n x hx).2; omega⟩⟩

theorem view_mod {T : PT} {n : Int} {f : PN → PN} (hf : ∀ x, (f x).view = x.view) : (T.mod n f).view = T.view := by
  funext j
  unfold PT.view
  rw [PT.get_mod]
  split
  · cases T.get j <;> simp [hf]
  · rfl
theorem ok_mod {T : PT} {n : Int} {f : PN → PN} {k k' : Nat} (h : T.ok k) (hk : k ≤ k') (hf : ∀ x, AttrOk x.attrs ∧ x.attrs.length ≤ k → AttrOk (f x).attrs ∧ (f x).attrs.length ≤ k') : (T.mod n f).ok k' := by
  have hlen : (T.mod n f).nodes.length = T.nodes.length := by
    have := congrArg List.length (keys_mod f T.nodes n)
    simpa [PT.mod] using this
  refine ⟨by rw [PT.mod, keys_mod]; exact h.nod, by rw [hlen]; have := h.many; omega, h.last0, by have := h.lastk; show T.last ≤ _; omega, by have := h.ids; show T.ids.length ≤ _; omega, fun j x hx => ?_, fun j x hx => ?_⟩
  · rw [PT.get_mod] at hx
    split at hx
    · cases hg : T.get j with
      | none => rw [hg] at hx; cases hx
      | some y => exact h.keys j y hg
    · exact h.keys j x hx
  · rw [PT.get_mod] at hx
    split at hx
    · cases hg : T.get j with
      | none => rw [hg] at hx; cases hx
      | some y =>
        rw [hg] at hx; cases hx
        exact hf y (h.attrs j y hg)
    · obtain ⟨h1, h2⟩ := h.attrs j x hx
      exact ⟨h1, by omega⟩
end Go.Proofs.Ytdpknchgoeboaaa.Vc
