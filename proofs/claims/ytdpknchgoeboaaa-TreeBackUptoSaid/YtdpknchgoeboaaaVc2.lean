/- Trees: what is read and written at a path is read and written at a place of the flat cells. -/
import Derived.Test.YtdpknchgoeboaaaVc1
set_option linter.unusedVariables false
set_option linter.unusedSimpArgs false
namespace Go.Proofs.Ytdpknchgoeboaaa.Vc
open Go
namespace GV

theorem flatMap_len {α : Type} (n e : Nat) (F : Nat → List α) (h : ∀ j, j < n → (F j).length = e) : ((List.range n).flatMap F).length = n * e := by
  induction n with
  | zero => simp
  | succ n ih => rw [List.range_succ, List.flatMap_append, List.length_append, ih fun j hj => h j (by omega)]; simp [h n (by omega), Nat.succ_mul]

theorem flat_len : ∀ (g : GV), g.ok → (flat g).length = sz g
  | s _, _ => rfl
  | u, _ => rfl
  | c h t, ⟨a, b⟩ => by simp [flat, sz, flat_len h a, flat_len t b]
  | ar n e f, h => by
    simp only [flat, sz]
    exact flatMap_len n e _ fun j hj => by rw [flat_len (f j) (h j hj).1, (h j hj).2]

theorem flat_one : ∀ (g : GV), g.ok → ∀ v ∈ flat g, v.oneCell' = true
  | s w, h, v, hv => by simp [flat] at hv; subst hv; exact h
  | u, _, v, hv => by simp [flat] at hv
  | c h t, ⟨a, b⟩, v, hv => by
    simp [flat] at hv
    exact hv.elim (flat_one h a v) (flat_one t b v)
  | ar n e f, h, v, hv => by
    simp [flat] at hv
    obtain ⟨j, hj, hv⟩ := hv
    exact flat_one (f j) (h j hj).1 v hv

theorem flatMap_same {α β : Type} (l : List α) (F G : α → List β) (h : ∀ x ∈ l, F x = G x) : l.flatMap F = l.flatMap G := by
  induction l with
  | nil => rfl
  | cons x l ih => simp only [List.flatMap_cons]; rw [h x (by simp), ih fun y hy => h y (by simp [hy])]

theorem range_split (n j : Nat) (hj : j < n) : List.range n = List.range j ++ (j :: (List.range' (j + 1) (n - j - 1))) := by
  rw [List.range_eq_range', List.range_eq_range']
  have h1 : n = j + (1 + (n - j - 1)) := by omega
  conv => lhs; rw [h1, ← List.range'_append_1]
  rw [← List.range'_append_1 (s := 0 + j) (m := 1)]
  simp [List.range'_one]

theorem get_at : ∀ (g : GV) (p : List Nat) (y : GV), g.ok → get g p = some y → y.ok ∧ ∃ pre post, flat g = pre ++ (flat y ++ post) ∧ pre.length = offs g p
  | g, [], y, h, e => by
    have e' : g = y := by cases g <;> simpa [get] using e
    subst e'
    exact ⟨h, [], [], by simp, by cases g <;> simp [offs]⟩
  | s _, _ :: _, y, _, e => by simp [get] at e
  | u, _ :: _, y, _, e => by simp [get] at e
  | c h t, 0 :: p, y, ⟨a, b⟩, e => by
    obtain ⟨h1, pre, post, h2, h3⟩ := get_at h p y a (by simpa [get] using e)
    exact ⟨h1, pre, post ++ flat t, by simp [flat, h2], by simpa [offs] using h3⟩
  | c h t, (i + 1) :: p, y, ⟨a, b⟩, e => by
    obtain ⟨h1, pre, post, h2, h3⟩ := get_at t (i :: p) y b (by simpa [get] using e)
    exact ⟨h1, flat h ++ pre, post, by simp [flat, h2], by simp [offs, h3, flat_len h a]⟩
  | ar n d f, j :: p, y, h, e => by
    simp only [get] at e
    split at e
    · rename_i hj
      obtain ⟨h1, pre, post, h2, h3⟩ := get_at (f j) p y (h j hj).1 e
      refine ⟨h1, ((List.range j).flatMap fun k => flat (f k)) ++ pre, post ++ ((List.range' (j + 1) (n - j - 1)).flatMap fun k => flat (f k)), ?_, ?_⟩
      · simp [flat, range_split n j hj, h2]
      · rw [List.length_append, h3, flatMap_len j d _ fun k hk => by rw [flat_len (f k) (h k (by omega)).1, (h k (by omega)).2]]
        simp [offs]
    · cases e

theorem same_refl : ∀ (g : GV), same g g
  | s _ => trivial
  | u => trivial
  | c h t => ⟨same_refl h, same_refl t⟩
  | ar _ _ f => ⟨rfl, rfl, fun j _ => same_refl (f j)⟩

theorem same_sz : ∀ (g h : GV), same g h → sz g = sz h
  | s _, s _, _ => rfl
  | u, u, _ => rfl
  | c h t, c h' t', ⟨a, b⟩ => by simp [sz, same_sz h h' a, same_sz t t' b]
  | ar n e f, ar n' e' f', ⟨a, b, _⟩ => by simp [sz, a, b]
  | s _, u, h | s _, c _ _, h | s _, ar _ _ _, h | u, s _, h | u, c _ _, h | u, ar _ _ _, h | c _ _, s _, h | c _ _, u, h | c _ _, ar _ _ _, h | ar _ _ _, s _, h | ar _ _ _, u, h | ar _ _ _, c _ _, h => h.elim

theorem same_get : ∀ (g h : GV) (p : List Nat) (y : GV), same g h → get g p = some y → offs g p = offs h p ∧ ∃ z, get h p = some z ∧ same y z
  | g, h, [], y, hs, e => by
    have e' : g = y := by cases g <;> simpa [get] using e
    exact ⟨by cases g <;> cases h <;> rfl, h, by cases h <;> rfl, e' ▸ hs⟩
  | s _, _, _ :: _, y, _, e => by simp [get] at e
  | u, _, _ :: _, y, _, e => by simp [get] at e
  | c h t, c h' t', 0 :: p, y, ⟨a, b⟩, e => by simpa [get, offs] using same_get h h' p y a (by simpa [get] using e)
  | c h t, c h' t', (i + 1) :: p, y, ⟨a, b⟩, e => by
    have := same_get t t' (i :: p) y b (by simpa [get] using e)
    simpa [get, offs, same_sz h h' a] using this
  | ar n e f, ar n' e' f', j :: p, y, ⟨a, b, hs⟩, he => by
    subst a; subst b
    by_cases hj : j < n
    · have := same_get (f j) (f' j) p y (hs j hj) (by simpa [get, hj] using he)
      simpa [get, offs, hj] using this
    · simp [get, hj] at he
  | c _ _, s _, _ :: _, y, h, _ => h.elim
  | c _ _, u, _ :: _, y, h, _ => h.elim
  | c _ _, ar _ _ _, _ :: _, y, h, _ => h.elim
  | ar _ _ _, s _, _ :: _, y, h, _ => h.elim
  | ar _ _ _, u, _ :: _, y, h, _ => h.elim
  | ar _ _ _, c _ _, _ :: _, y, h, _ => h.elim

theorem same_symm : ∀ (a b : GV), same a b → same b a
  | s _, s _, _ => trivial
  | u, u, _ => trivial
  | c h t, c h' t', ⟨a, b⟩ => ⟨same_symm _ _ a, same_symm _ _ b⟩
  | ar n e f, ar n' e' f', ⟨a, b, hs⟩ => ⟨a.symm, b.symm, fun j hj => same_symm _ _ (hs j (a ▸ hj))⟩
  | s _, u, h => h.elim
  | s _, c _ _, h => h.elim
  | s _, ar _ _ _, h => h.elim
  | u, s _, h => h.elim
  | u, c _ _, h => h.elim
  | u, ar _ _ _, h => h.elim
  | c _ _, s _, h => h.elim
  | c _ _, u, h => h.elim
  | c _ _, ar _ _ _, h => h.elim
  | ar _ _ _, s _, h => h.elim
  | ar _ _ _, u, h => h.elim
  | ar _ _ _, c _ _, h => h.elim

theorem same_trans : ∀ (a b d : GV), same a b → same b d → same a d
  | s _, s _, s _, _, _ => trivial
  | u, u, u, _, _ => trivial
  | c h t, c h' t', c h2 t2, ⟨a, b⟩, ⟨a', b'⟩ => ⟨same_trans _ _ _ a a', same_trans _ _ _ b b'⟩
  | ar n e f, ar n' e' f', ar n2 e2 f2, ⟨a, b, hs⟩, ⟨a', b', hs'⟩ => ⟨a.trans a', b.trans b', fun j hj => same_trans _ _ _ (hs j hj) (hs' j (a ▸ hj))⟩
  | s _, u, _, h, _ => h.elim
  | s _, c _ _, _, h, _ => h.elim
  | s _, ar _ _ _, _, h, _ => h.elim
  | u, s _, _, h, _ => h.elim
  | u, c _ _, _, h, _ => h.elim
  | u, ar _ _ _, _, h, _ => h.elim
  | c _ _, s _, _, h, _ => h.elim
  | c _ _, u, _, h, _ => h.elim
  | c _ _, ar _ _ _, _, h, _ => h.elim
  | ar _ _ _, s _, _, h, _ => h.elim
  | ar _ _ _, u, _, h, _ => h.elim
  | ar _ _ _, c _ _, _, h, _ => h.elim
  | s _, s _, u, _, h => h.elim
  | s _, s _, c _ _, _, h => h.elim
  | s _, s _, ar _ _ _, _, h => h.elim
  | u, u, s _, _, h => h.elim
  | u, u, c _ _, _, h => h.elim
  | u, u, ar _ _ _, _, h => h.elim
  | c _ _, c _ _, s _, _, h => h.elim
  | c _ _, c _ _, u, _, h => h.elim
  | c _ _, c _ _, ar _ _ _, _, h => h.elim
  | ar _ _ _, ar _ _ _, s _, _, h => h.elim
  | ar _ _ _, ar _ _ _, u, _, h => h.elim
  | ar _ _ _, ar _ _ _, c _ _, _, h => h.elim

theorem set_at : ∀ (g : GV) (p : List Nat) (x y h : GV), g.ok → x.ok → get g p = some y → same x y → set g p x = some h →
    h.ok ∧ same h g ∧ ∃ pre post, flat g = pre ++ (flat y ++ post) ∧ flat h = pre ++ (flat x ++ post) ∧ pre.length = offs g p
  | g, [], x, y, h, hg, hx, e, hs, e2 => by
    have e' : g = y := by cases g <;> simpa [get] using e
    have e3 : x = h := by cases g <;> simpa [set] using e2
    subst e'; subst e3
    exact ⟨hx, hs, [], [], by simp, by simp, by cases g <;> simp [offs]⟩
  | s _, _ :: _, x, y, h, _, _, e, _, _ => by simp [get] at e
  | u, _ :: _, x, y, h, _, _, e, _, _ => by simp [get] at e
  | c a t, 0 :: p, x, y, h, ⟨ha, ht⟩, hx, e, hs, e2 => by
    simp only [set, Option.map_eq_some_iff] at e2
    obtain ⟨a', e3, rfl⟩ := e2
    obtain ⟨h1, h2, pre, post, h3, h4, h5⟩ := set_at a p x y a' ha hx (by simpa [get] using e) hs e3
    exact ⟨⟨h1, ht⟩, ⟨h2, same_refl t⟩, pre, post ++ flat t, by simp [flat, h3], by simp [flat, h4], by simpa [offs] using h5⟩
  | c a t, (i + 1) :: p, x, y, h, ⟨ha, ht⟩, hx, e, hs, e2 => by
    simp only [set, Option.map_eq_some_iff] at e2
    obtain ⟨t', e3, rfl⟩ := e2
    obtain ⟨h1, h2, pre, post, h3, h4, h5⟩ := set_at t (i :: p) x y t' ht hx (by simpa [get] using e) hs e3
    exact ⟨⟨ha, h1⟩, ⟨same_refl a, h2⟩, flat a ++ pre, post, by simp [flat, h3], by simp [flat, h4], by simp [offs, h5, flat_len a ha]⟩
  | ar n d f, j :: p, x, y, h, hg, hx, e, hs, e2 => by
    simp only [get] at e
    simp only [set] at e2
    split at e
    · rename_i hj
      simp only [hj, if_true, Option.map_eq_some_iff] at e2
      obtain ⟨y', e3, rfl⟩ := e2
      obtain ⟨h1, h2, pre, post, h3, h4, h5⟩ := set_at (f j) p x y y' (hg j hj).1 hx e hs e3
      have hlen : ∀ k, k < j → (flat (f k)).length = d := fun k hk => by rw [flat_len (f k) (hg k (by omega)).1, (hg k (by omega)).2]
      refine ⟨fun k hk => ?_, ⟨rfl, rfl, fun k hk => ?_⟩, ((List.range j).flatMap fun k => flat (f k)) ++ pre, post ++ ((List.range' (j + 1) (n - j - 1)).flatMap fun k => flat (f k)), ?_, ?_, ?_⟩
      · by_cases hkj : k = j
        · simp only [hkj, if_true]; exact ⟨h1, by rw [same_sz _ _ h2]; exact (hg j hj).2⟩
        · simp only [hkj, if_false]; exact hg k hk
      · by_cases hkj : k = j
        · simp only [hkj, if_true]; exact h2
        · simp only [hkj, if_false]; exact same_refl _
      · simp [flat, range_split n j hj, h3]
      · simp only [flat, range_split n j hj, List.flatMap_append, List.flatMap_cons, if_true, h4]
        have e1 : ((List.range j).flatMap fun k => flat (if k = j then y' else f k)) = (List.range j).flatMap fun k => flat (f k) := by
          apply flatMap_same
          intro k hk
          have : k < j := by simpa using hk
          simp [show k ≠ j by omega]
        have e2 : ((List.range' (j + 1) (n - j - 1)).flatMap fun k => flat (if k = j then y' else f k)) = (List.range' (j + 1) (n - j - 1)).flatMap fun k => flat (f k) := by
          apply flatMap_same
          intro k hk
          have : j + 1 ≤ k := by simp [List.mem_range'_1] at hk; omega
          simp [show k ≠ j by omega]
        rw [e1, e2]
        simp
      · rw [List.length_append, h5, flatMap_len j d _ hlen]
        simp [offs]
    · cases e

theorem getT_of : ∀ (g : GV) (p : List Nat) (y : GV), get g p = some y → getT g p = y
  | g, [], y, e => by
    have e' : g = y := by cases g <;> simpa [get] using e
    subst e'
    cases g <;> rfl
  | s _, _ :: _, y, e => by simp [get] at e
  | u, _ :: _, y, e => by simp [get] at e
  | c h t, 0 :: p, y, e => getT_of h p y (by simpa [get] using e)
  | c h t, (i + 1) :: p, y, e => getT_of t (i :: p) y (by simpa [get] using e)
  | ar n d f, j :: p, y, e => by
    simp only [get] at e
    split at e
    · simpa [getT] using getT_of (f j) p y e
    · cases e

theorem setT_of : ∀ (g : GV) (p : List Nat) (x y : GV), get g p = some y → set g p x = some (setT g p x)
  | g, [], x, y, e => by cases g <;> rfl
  | s _, _ :: _, x, y, e => by simp [get] at e
  | u, _ :: _, x, y, e => by simp [get] at e
  | c h t, 0 :: p, x, y, e => by simp [set, setT, setT_of h p x y (by simpa [get] using e)]
  | c h t, (i + 1) :: p, x, y, e => by simp [set, setT, setT_of t (i :: p) x y (by simpa [get] using e)]
  | ar n d f, j :: p, x, y, e => by
    simp only [get] at e
    split at e
    · rename_i hj
      simp [set, setT, hj, setT_of (f j) p x y e]
    · cases e

theorem get_append : ∀ (g : GV) (p q : List Nat), get g (p ++ q) = (get g p).bind fun y => get y q
  | g, [], q => by cases g <;> simp [get]
  | s _, _ :: _, q => by simp [get]
  | u, _ :: _, q => by simp [get]
  | c h t, 0 :: p, q => by simpa [get] using get_append h p q
  | c h t, (i + 1) :: p, q => by simpa [get] using get_append t (i :: p) q
  | ar n e f, j :: p, q => by
    simp only [List.cons_append, get]
    split
    · exact get_append (f j) p q
    · rfl

theorem offs_append : ∀ (g : GV) (p q : List Nat) (y : GV), get g p = some y → offs g (p ++ q) = offs g p + offs y q
  | g, [], q, y, e => by
    have e' : g = y := by cases g <;> simpa [get] using e
    subst e'
    cases g <;> simp [offs]
  | s _, _ :: _, q, y, e => by simp [get] at e
  | u, _ :: _, q, y, e => by simp [get] at e
  | c h t, 0 :: p, q, y, e => by simpa [offs] using offs_append h p q y (by simpa [get] using e)
  | c h t, (i + 1) :: p, q, y, e => by
    have := offs_append t (i :: p) q y (by simpa [get] using e)
    simp only [List.cons_append] at this
    simp only [List.cons_append, offs, this]
    omega
  | ar n d f, j :: p, q, y, e => by
    simp only [get] at e
    split at e
    · have := offs_append (f j) p q y e
      simp only [List.cons_append, offs, this]
      omega
    · cases e

theorem cells_val (g : GV) (h : g.ok) : g.val.cells = (flat g).toArray := by
  cases g with
  | s v => simp only [ok] at h; cases v <;> simp_all [val, flat, Value.cells, Value.oneCell']
  | u => rfl
  | c _ _ => rfl
  | ar _ _ _ => rfl

theorem fits_no {g : GV} {n : Nat} (h : g.fits n false = true) : ∃ v, g = s v := by
  cases g <;> simp [fits] at h
  exact ⟨_, rfl⟩

theorem fits_agg {g : GV} {n : Nat} (hg : g.ok) (h : g.fits n true = true) : g.val = .agg (flat g).toArray ∧ (flat g).length = n := by
  cases g with
  | s v => simp [fits] at h
  | u => simp [fits] at h; exact ⟨rfl, by rw [flat_len _ hg]; exact h⟩
  | c a b => simp [fits] at h; exact ⟨rfl, by rw [flat_len _ hg]; exact h⟩
  | ar a b f => simp [fits] at h; exact ⟨rfl, by rw [flat_len _ hg]; exact h⟩

theorem fld_at : ∀ (g : GV) (i o : Nat), g.fld i o = true → (∃ y, get g [i] = some y) ∧ offs g [i] = o
  | c h t, 0, o, e => by
    simp [fld] at e
    subst e
    exact ⟨⟨h, by cases h <;> rfl⟩, by cases h <;> rfl⟩
  | c h t, i + 1, o, e => by
    simp [fld] at e
    obtain ⟨⟨y, h1⟩, h2⟩ := fld_at t i (o - sz h) e.2
    exact ⟨⟨y, by simpa [get] using h1⟩, by simp [offs, h2]; omega⟩
  | s _, _, _, e => by simp [fld] at e
  | u, _, _, e => by simp [fld] at e
  | ar _ _ _, _, _, e => by simp [fld] at e

theorem arr_at {g : GV} {n e : Nat} (h : g.arr n e = true) : ∃ f, g = ar n e f := by
  cases g <;> simp [arr] at h
  obtain ⟨rfl, rfl⟩ := h
  exact ⟨_, rfl⟩

theorem get_ar (n e : Nat) (f : Nat → GV) (j : Nat) (hj : j < n) : get (ar n e f) [j] = some (f j) ∧ offs (ar n e f) [j] = j * e := by
  refine ⟨?_, ?_⟩
  · simp only [get, hj, if_true]
  · simp [offs]

/-- The cell at a place of a tree that is one value. -/
theorem get_s {g : GV} {p : List Nat} {v : Value} (hg : g.ok) (h : get g p = some (s v)) : (flat g)[offs g p]? = some v := by
  obtain ⟨_, pre, post, h2, h3⟩ := get_at g p _ hg h
  rw [h2, ← h3]
  simp [flat]

theorem get_cells {g y : GV} {p : List Nat} (hg : g.ok) (h : get g p = some y) : ∀ j v, (flat y)[j]? = some v → (flat g)[offs g p + j]? = some v := by
  intro j v hv
  obtain ⟨_, pre, post, h2, h3⟩ := get_at g p _ hg h
  rw [h2, ← h3]
  have hj : j < (flat y).length := by
    rcases Nat.lt_or_ge j (flat y).length with h' | h'
    · exact h'
    · simp [List.getElem?_eq_none h'] at hv
  rw [List.getElem?_append_right (by omega), Nat.add_sub_cancel_left, List.getElem?_append_left hj]
  exact hv

end GV
end Go.Proofs.Ytdpknchgoeboaaa.Vc
