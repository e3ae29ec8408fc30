/- Part 4 of what a law of this seat rests on. -/
import Derived.Test.YtnoeabmpdjpfaaaGreatDoorProg
import Derived.ChangeSame
import Derived.JoinedOf
import Derived.JoinedAt
import Derived.JoinedStill
import Derived.WideKeyArgs
import Derived.OpenShut
import Derived.Deep.Slices
import Derived.SizedLaws
import Derived.HandedShaped
import Derived.Test.YtnoeabmpdjpfaaaGreatDoorRows
import Derived.Deep.DeepHandedRow
import Derived.LaidLaws
import Derived.Lib.SplitLaws
import Derived.Lib.Join
import Derived.Shelf.LaysM
import Derived.Shelf.Strings.OnBuilder
import Derived.Shelf.Strings.Split
import Derived.Test.YtnoeabmpdjpfaaaGreatDoorZPathLeadsU3
/- What is true of every tree that was made: names, attributes, children: plain. -/
set_option linter.unusedVariables false
set_option linter.unusedSimpArgs false
namespace Go.Proofs.YtnoeabmpdjpfaaaGreatDoor.Vc
open Go

/-- A tree as it may be seen. -/
structure VGood (v : Int → Option AN) : Prop where
  pos : ∀ n a, v n = some a → 0 < n
  one : v 1 ≠ none
  two : v 2 ≠ none
  top : ∀ n a, v n = some a → topB n = true → a.parent = 0 ∧ a.name = empty
  name : ∀ n a, v n = some a → topB n = false → nameB a.name = true
  pairs : ∀ n a k w, v n = some a → a.attr k = some w → pairB k w = true ∧ w ≠ empty
  led : ∀ n, v n ≠ none → ∃ k, LeadsN v k n

theorem topB_iff {n : Int} : topB n = true ↔ n = 1 ∨ n = 2 := by simp [topB]
theorem T0_keys {n : Int} {a : AN} (h : T0.view n = some a) : topB n = true ∧ a = PN.bare.view := by
  obtain ⟨x, hx, rfl⟩ := get_of_view h
  have := getA_mem hx
  simp only [T0, List.mem_cons, List.not_mem_nil, or_false, Prod.mk.injEq] at this
  rcases this with ⟨rfl, rfl⟩ | ⟨rfl, rfl⟩ <;> exact ⟨by decide, rfl⟩
theorem T0_good : VGood T0.view := by
  refine ⟨fun n a h => ?_, ?_, ?_, fun n a h _ => ?_, fun n a h ht => ?_, fun n a k w h hk => ?_, T0_led⟩
  · have := topB_iff.1 (T0_keys h).1; omega
  · rw [show T0.view 1 = some PN.bare.view from rfl]; simp
  · rw [show T0.view 2 = some PN.bare.view from rfl]; simp
  · rw [(T0_keys h).2]; exact ⟨rfl, rfl⟩
  · rw [(T0_keys h).1] at ht; cases ht
  · rw [(T0_keys h).2] at hk; cases hk

theorem updV_ne {v : Int → Option AN} {n j : Int} {a : Option AN} (h : j ≠ n) : updV v n a j = v j := if_neg h
theorem updV_eq {v : Int → Option AN} {n : Int} {a : Option AN} : updV v n a n = a := if_pos rfl

theorem does_good {T : PT} {op : Op} {k : Nat} (h : VGood T.view) (hok : T.ok k) (hm : mayA T op = true) : VGood (T.does op).view := by
  have hled := does_led h.led hok hm
  unfold PT.led at hled
  have build : ∀ (n0 : Int) (a0 : AN), (T.does op).view = updV T.view n0 (some a0) → 0 < n0 → (topB n0 = true → a0.parent = 0 ∧ a0.name = empty) → (topB n0 = false → nameB a0.name = true) →
      (∀ k w, a0.attr k = some w → pairB k w = true ∧ w ≠ empty) → VGood (T.does op).view := by
    intro n0 a0 hv h1 h2 h3 h4
    rw [hv] at hled ⊢
    refine ⟨fun n a hn => ?_, ?_, ?_, fun n a hn => ?_, fun n a hn => ?_, fun n a k w hn => ?_, hled⟩
    · by_cases e : n = n0
      · rw [e]; exact h1
      · rw [updV_ne e] at hn; exact h.pos n a hn
    · by_cases e : (1 : Int) = n0
      · rw [e, updV_eq]; simp
      · rw [updV_ne e]; exact h.one
    · by_cases e : (2 : Int) = n0
      · rw [e, updV_eq]; simp
      · rw [updV_ne e]; exact h.two
    · by_cases e : n = n0
      · rw [e, updV_eq] at hn; cases hn; rw [e]; exact h2
      · rw [updV_ne e] at hn; exact h.top n a hn
    · by_cases e : n = n0
      · rw [e, updV_eq] at hn; cases hn; rw [e]; exact h3
      · rw [updV_ne e] at hn; exact h.name n a hn
    · by_cases e : n = n0
      · rw [e, updV_eq] at hn; cases hn; exact h4 k w
      · rw [updV_ne e] at hn; exact h.pairs n a k w hn
  by_cases k1 : op.kind = 1
  · have hm' := hm
    rw [mayA, if_pos k1] at hm
    simp only [Bool.and_eq_true, decide_eq_true_eq] at hm
    have ht : topB op.node = false := by simp only [topB]; simp; omega
    exact build _ _ (does_view1 hm' k1) (by omega) (fun e => by rw [ht] at e; cases e) (fun _ => hm.2) (fun k w e => by cases e)
  · obtain ⟨x, hx⟩ := may_there hm k1
    have hxv := PT.view_get hx
    by_cases k2 : op.kind = 2
    · have hv := does_view2 hx k2
      rw [mayA, if_neg k1, if_pos k2] at hm
      simp only [Bool.and_eq_true, Bool.not_eq_true'] at hm
      exact build _ _ hv (h.pos _ _ hxv) (fun e => by rw [hm.1.1.1.2] at e; cases e) (fun _ => hm.2) (fun k w e => h.pairs _ _ k w hxv e)
    · have hv := does_view3 hx (hok.attrs _ _ hx).1 k1 k2
      have hp : pairB op.key op.value = true := by
        rw [mayA, if_neg k1, if_neg k2] at hm
        split at hm
        · simp only [Bool.and_eq_true] at hm; exact hm.2
        · cases hm
      refine build _ _ hv (h.pos _ _ hxv) (fun e => h.top _ x.view hxv e) (fun e => h.name _ x.view hxv e) fun k w e => ?_
      simp only at e
      split at e
      · split at e
        · cases e
        · cases e
          rename_i e1 e2
          rw [e1]; exact ⟨hp, e2⟩
      · exact h.pairs _ _ k w hxv e

/-! ### Children -/
structure PT.kidsOk (T : PT) : Prop where
  nod : ∀ n x, T.get n = some x → x.kids.Nodup
  mem : ∀ n x c, T.get n = some x → (c ∈ x.kids ↔ topB c = false ∧ ∃ y, T.get c = some y ∧ y.parent = n)
theorem T0_kids : T0.kidsOk := by
  have key : ∀ n x, T0.get n = some x → topB n = true ∧ x = PN.bare := fun n x hx => by
    have := getA_mem hx
    simp only [T0, List.mem_cons, List.not_mem_nil, or_false, Prod.mk.injEq] at this
    rcases this with ⟨rfl, rfl⟩ | ⟨rfl, rfl⟩ <;> exact ⟨by decide, rfl⟩
  refine ⟨fun n x hx => ?_, fun n x c hx => ?_⟩
  · rw [(key n x hx).2]; exact List.nodup_nil
  · rw [(key n x hx).2]
    refine ⟨fun h => by simp [PN.bare] at h, fun ⟨h1, y, h2, _⟩ => ?_⟩
    rw [(key c y h2).1] at h1; cases h1
theorem putK_nodup {l : List Int} (h : l.Nodup) (n : Int) : (putK l n).Nodup := by
  unfold putK
  split
  · exact h
  · rename_i hn
    rw [List.nodup_append]
    refine ⟨h, by simp, fun a ha b hb => ?_⟩
    simp only [List.mem_singleton] at hb
    subst hb
    exact fun e => hn (e ▸ ha)
theorem mem_putK {l : List Int} {n c : Int} : c ∈ putK l n ↔ c = n ∨ c ∈ l := by
  unfold putK
  split
  · rename_i hn
    constructor
    · exact .inr
    · rintro (rfl | h)
      · exact hn
      · exact h
  · simp [or_comm]
/-- What is there after a node was put. -/
theorem get_put {T : PT} {n : Int} {p : Place} {x : PN} (hx : T.get n = some x) (j : Int) :
    (T.put n p).get j = (T.get j).map fun y => ⟨if j = n then p.parent else y.parent, if j = n then p.name else y.name, y.attrs,
      if j = p.parent then putK (if j = x.parent then y.kids.erase n else y.kids) n else if j = x.parent then y.kids.erase n else y.kids⟩ := by
  unfold PT.put
  rw [hx]
  simp only
  rw [get_kid, get_place, get_unkid]
  cases T.get j with
  | none => simp
  | some y =>
    rcases Classical.em (j = x.parent) with h1 | h1 <;> rcases Classical.em (j = n) with h2 | h2 <;> rcases Classical.em (j = p.parent) with h3 | h3
    all_goals
      first | have e1 := eq_false h1 | have e1 := eq_true h1
      first | have e2 := eq_false h2 | have e2 := eq_true h2
      first | have e3 := eq_false h3 | have e3 := eq_true h3
      simp only [e1, e2, e3, if_true, if_false, Option.map_some]
theorem put_kids {T : PT} {n : Int} {p : Place} {x : PN} (hx : T.get n = some x) (ht : topB n = false) (h : T.kidsOk) : (T.put n p).kidsOk := by
  refine ⟨fun j y' hy' => ?_, fun j y' c hy' => ?_⟩
  · rw [get_put hx] at hy'
    obtain ⟨y, hy, rfl⟩ := Option.map_eq_some_iff.1 hy'
    have h1 := h.nod j y hy
    simp only
    split
    · refine putK_nodup ?_ n
      split
      · exact h1.erase _
      · exact h1
    · split
      · exact h1.erase _
      · exact h1
  · rw [get_put hx] at hy'
    obtain ⟨y, hy, rfl⟩ := Option.map_eq_some_iff.1 hy'
    have h1 := h.nod j y hy
    have h2 := h.mem j y c hy
    have e1 : ∀ d, d ∈ (if j = x.parent then y.kids.erase n else y.kids) ↔ d ∈ y.kids ∧ ¬ (j = x.parent ∧ d = n) := fun d => by
      split
      · rename_i hj
        rw [h1.mem_erase_iff]
        constructor
        · rintro ⟨a, b⟩; exact ⟨b, fun q => a q.2⟩
        · rintro ⟨a, b⟩; exact ⟨fun q => b ⟨hj, q⟩, a⟩
      · rename_i hj
        exact ⟨fun a => ⟨a, fun q => hj q.1⟩, fun a => a.1⟩
    have e2 : c ∈ (if j = p.parent then putK (if j = x.parent then y.kids.erase n else y.kids) n else if j = x.parent then y.kids.erase n else y.kids) ↔ (j = p.parent ∧ c = n) ∨ (c ∈ y.kids ∧ ¬ (j = x.parent ∧ c = n)) := by
      by_cases hj : j = p.parent
      · rw [if_pos hj, mem_putK, e1]
        constructor
        · rintro (a | a)
          · exact .inl ⟨hj, a⟩
          · exact .inr a
        · rintro (a | a)
          · exact .inl a.2
          · exact .inr a
      · rw [if_neg hj, e1]
        exact ⟨.inr, fun a => a.elim (fun q => absurd q.1 hj) id⟩
    simp only
    rw [e2, h2]
    by_cases hc : c = n
    · subst hc
      rw [get_put hx]
      constructor
      · rintro (a | ⟨⟨_, z, hz, hp⟩, b⟩)
        · exact ⟨ht, _, Option.map_eq_some_iff.2 ⟨x, hx, rfl⟩, by simp only [if_true]; exact a.1.symm⟩
        · rw [hx] at hz; cases hz; exact absurd ⟨hp.symm, rfl⟩ b
      · rintro ⟨_, z, hz, hp⟩
        obtain ⟨z', hz', rfl⟩ := Option.map_eq_some_iff.1 hz
        simp only [if_true] at hp
        exact .inl ⟨hp.symm, rfl⟩
    · rw [get_put hx]
      simp only [hc, and_false, false_or, not_false_eq_true, and_true, if_false]
      refine and_congr_right fun _ => ?_
      constructor
      · rintro ⟨z, hz, hp⟩
        exact ⟨_, Option.map_eq_some_iff.2 ⟨z, hz, rfl⟩, hp⟩
      · rintro ⟨z, hz, hp⟩
        obtain ⟨z', hz', rfl⟩ := Option.map_eq_some_iff.1 hz
        exact ⟨z', hz', hp⟩
theorem add_kids {T : PT} {n : Int} (hn : T.get n = none) (hg : VGood T.view) (hn0 : n ≠ 0) (ht : topB n = false) (h : T.kidsOk) : (T.add n).kidsOk := by
  have hpar : ∀ c y, T.get c = some y → topB c = false → y.parent ≠ n := fun c y hy hc e => by
    obtain ⟨k, hk⟩ := hg.led c (by rw [PT.view_get hy]; simp)
    cases k with
    | zero => rw [show topB c = true from hk] at hc; cases hc
    | succ k =>
      obtain ⟨_, a, h1, h2⟩ := hk
      rw [PT.view_get hy] at h1; cases h1
      have h2' : LeadsN T.view k y.parent := h2
      rw [e] at h2'
      cases k with
      | zero => rw [show topB n = true from h2'] at ht; cases ht
      | succ k =>
        obtain ⟨_, a, h1, _⟩ := h2'
        rw [PT.view_none.2 hn] at h1; cases h1
  have h0 : T.get 0 = none := by
    cases h0 : T.get 0 with
    | none => rfl
    | some y => have := hg.pos 0 _ (PT.view_get h0); omega
  refine ⟨fun j y hy => ?_, fun j y c hy => ?_⟩
  · rw [PT.get_add hn] at hy
    split at hy
    · cases hy; exact List.nodup_nil
    · exact h.nod j y hy
  · rw [PT.get_add hn] at hy
    split at hy
    · rename_i e
      cases hy
      refine ⟨fun q => by simp [PN.bare] at q, fun ⟨hc, z, hz, hp⟩ => ?_⟩
      rw [PT.get_add hn] at hz
      split at hz
      · rename_i e2
        cases hz
        have hp : (0 : Int) = j := hp
        exact absurd (e.symm.trans hp.symm) hn0
      · exact absurd (hp.trans e) (hpar c z hz hc)
    · rename_i e
      rw [h.mem j y c hy]
      refine and_congr_right fun hc => ?_
      constructor
      · rintro ⟨z, hz, hp⟩
        refine ⟨z, ?_, hp⟩
        rw [PT.get_add hn, if_neg (fun q => by rw [q, hn] at hz; cases hz)]
        exact hz
      · rintro ⟨z, hz, hp⟩
        rw [PT.get_add hn] at hz
        split at hz
        · cases hz
          have hp : (0 : Int) = j := hp
          rw [← hp, h0] at hy; cases hy
        · exact ⟨z, hz, hp⟩
theorem attr_kids {T : PT} {n : Int} {key value : ByteArray} (h : T.kidsOk) : (T.attr n key value).kidsOk := by
  have hg : ∀ j, (T.attr n key value).get j = (T.get j).map fun y => if j = n then { y with attrs := if value = ⟨#[]⟩ then delS y.attrs key else putS y.attrs key value } else y := fun j => by
    unfold PT.attr
    rw [PT.get_mod]
    cases T.get j with
    | none => split <;> rfl
    | some y => split <;> rfl
  have hk : ∀ j y', (T.attr n key value).get j = some y' → ∃ y, T.get j = some y ∧ y'.kids = y.kids ∧ y'.parent = y.parent := fun j y' hy' => by
    rw [hg] at hy'
    obtain ⟨y, hy, rfl⟩ := Option.map_eq_some_iff.1 hy'
    refine ⟨y, hy, ?_, ?_⟩ <;> split <;> rfl
  have hk' : ∀ j y, T.get j = some y → ∃ y', (T.attr n key value).get j = some y' ∧ y'.parent = y.parent := fun j y hy => by
    refine ⟨_, by rw [hg, hy]; rfl, ?_⟩
    split <;> rfl
  refine ⟨fun j y hy => ?_, fun j y c hy => ?_⟩
  · obtain ⟨z, hz, e, _⟩ := hk j y hy
    rw [e]; exact h.nod j z hz
  · obtain ⟨z, hz, e, _⟩ := hk j y hy
    rw [e, h.mem j z c hz]
    refine and_congr_right fun _ => ?_
    constructor
    · rintro ⟨q, hq, hp⟩
      obtain ⟨q', hq', e'⟩ := hk' c q hq
      exact ⟨q', hq', e'.trans hp⟩
    · rintro ⟨q, hq, hp⟩
      obtain ⟨q', hq', _, e'⟩ := hk c q hq
      exact ⟨q', hq', e'.symm.trans hp⟩
theorem kids_nodes {T T' : PT} (e : T.nodes = T'.nodes) (h : T.kidsOk) : T'.kidsOk := by
  have hg : ∀ n, T'.get n = T.get n := fun n => by unfold PT.get; rw [e]
  exact ⟨fun n x hx => h.nod n x (by rw [← hg]; exact hx), fun n x c hx => by
    rw [h.mem n x c (by rw [← hg]; exact hx)]
    simp only [hg]⟩
theorem does_kids {T : PT} {op : Op} (hg : VGood T.view) (hm : mayA T op = true) (h : T.kidsOk) : (T.does op).kidsOk := by
  have h1 : (({ T with last := T.last + 1 } : PT).acts op).kidsOk := by
    have h0 : ({ T with last := T.last + 1 } : PT).kidsOk := kids_nodes (T := T) rfl h
    unfold PT.acts
    split
    · rename_i k1
      have hn := (may_make hm k1).1
      rw [mayA, if_pos k1] at hm
      simp only [Bool.and_eq_true, decide_eq_true_eq] at hm
      have ht : topB op.node = false := by simp only [topB]; simp; omega
      refine put_kids (x := PN.bare) (by rw [PT.get_add (T := { T with last := T.last + 1 }) hn, if_pos rfl]) ht (add_kids (T := { T with last := T.last + 1 }) hn hg (by omega) ht h0)
    · split
      · rename_i k1 k2
        obtain ⟨x, hx⟩ := may_there hm k1
        rw [mayA, if_neg k1, if_pos k2] at hm
        simp only [Bool.and_eq_true, Bool.not_eq_true'] at hm
        exact put_kids (T := { T with last := T.last + 1 }) hx hm.1.1.1.2 h0
      · exact attr_kids h0
  exact kids_nodes (T := ({ T with last := T.last + 1 } : PT).acts op) rfl h1
end Go.Proofs.YtnoeabmpdjpfaaaGreatDoor.Vc

/- A tree of rows: plain. -/
set_option linter.unusedVariables false
set_option linter.unusedSimpArgs false
namespace Go.Proofs.YtnoeabmpdjpfaaaGreatDoor.Vc
open Go

def leB (a b : ByteArray) : Bool := _root_.Go.Op.bytesLess a.data.toList b.data.toList || decide (a = b)
/-- Attributes that rise. -/
def attrsA : ByteArray → List Attr → Bool
  | _, [] => true
  | k, a :: l => !leB a.key k && !decide (a.value = ⟨#[]⟩) && pairB a.key a.value && attrsA a.key l
def rowA (last : Int) (r : TN) : Bool := !decide (r.node ≤ last) && (topB r.node == (decide (r.parent = 0) && decide (r.name = ⟨#[]⟩))) && (topB r.node || nameB r.name)
def PT.sure (T : PT) (n : Int) : PT := match T.get n with
  | .none => T.add n
  | .some _ => T
def PT.row (T : PT) (r : TN) : PT := (T.sure r.node).place r.node r.parent r.name
def PT.putAll (T : PT) (n : Int) (l : List Attr) : PT := l.foldl (fun T a => T.attr n a.key a.value) T
def rowsA : PT → Int → List TN → Option PT
  | T, _, [] => .some T
  | T, last, r :: l => if (rowA last r && attrsA ⟨#[]⟩ r.attrs) = true then rowsA ((T.row r).putAll r.node r.attrs) r.node l else .none

def laidA (l : List Attr) : List (ByteArray × ByteArray) := l.foldl (fun s a => setS s a.key a.value) []
def rowN (r : TN) : PN := ⟨r.parent, r.name, laidA r.attrs, []⟩
def rowGet : List TN → Int → Option PN
  | [], n => T0.get n
  | r :: l, n => if r.node = n then .some (rowN r) else rowGet l n

theorem get_sure {T : PT} {n : Int} (j : Int) : (T.sure n).get j = if j = n then .some ((T.get n).getD PN.bare) else T.get j := by
  unfold PT.sure
  cases h : T.get n with
  | none => simp only; rw [PT.get_add h]; rfl
  | some x =>
    simp only
    by_cases e : j = n
    · rw [if_pos e, e, h]; rfl
    · rw [if_neg e]
theorem get_putAll {n : Int} : ∀ (l : List Attr) (T : PT) (j : Int), (T.putAll n l).get j = if j = n then (T.get j).map fun x => { x with attrs := l.foldl (fun s a => setS s a.key a.value) x.attrs } else T.get j
  | [], T, j => by
    unfold PT.putAll
    simp
  | a :: l, T, j => by
    have ih := get_putAll (n := n) l (T.attr n a.key a.value) j
    show ((T.attr n a.key a.value).putAll n l).get j = _
    rw [ih]
    unfold PT.attr
    rw [PT.get_mod]
    by_cases e : j = n
    · simp only [e, if_true, List.foldl_cons]
      cases T.get n with
      | none => rfl
      | some x => rfl
    · simp only [e, if_false]
theorem get_row {T : PT} {r : TN} (h : ∀ x, T.get r.node = .some x → x.attrs = [] ∧ x.kids = []) (j : Int) : ((T.row r).putAll r.node r.attrs).get j = if j = r.node then .some (rowN r) else T.get j := by
  rw [get_putAll, PT.row, get_place, get_sure]
  by_cases e : j = r.node
  · simp only [e, if_true, Option.map_some, rowN, laidA, Option.some.injEq]
    cases hg : T.get r.node with
    | none => rfl
    | some x =>
      obtain ⟨h1, h2⟩ := h x hg
      simp only [Option.getD_some, h1, h2]
  · simp only [e, if_false]
theorem rowA_last {last : Int} {r : TN} (h : rowA last r = true) : last < r.node := by
  simp only [rowA, Bool.and_eq_true, Bool.not_eq_true', decide_eq_false_iff_not] at h
  omega
theorem rowsA_cons {T T' : PT} {last : Int} {r : TN} {l : List TN} (h : rowsA T last (r :: l) = .some T') : rowA last r = true ∧ attrsA ⟨#[]⟩ r.attrs = true ∧ rowsA ((T.row r).putAll r.node r.attrs) r.node l = .some T' := by
  rw [rowsA] at h
  split at h
  · rename_i e
    rw [Bool.and_eq_true] at e
    exact ⟨e.1, e.2, h⟩
  · cases h
theorem rowsA_rise : ∀ {l : List TN} {T T' : PT} {last : Int}, rowsA T last l = .some T' → ∀ r ∈ l, last < r.node
  | [], _, _, _, _, r, hr => by simp at hr
  | r0 :: l, T, T', last, h, r, hr => by
    obtain ⟨h1, _, h3⟩ := rowsA_cons h
    have := rowA_last h1
    rcases List.mem_cons.1 hr with rfl | hr
    · exact this
    · have := rowsA_rise h3 r hr; omega
theorem rowGet_none : ∀ {l : List TN} {n : Int}, (∀ r ∈ l, r.node ≠ n) → rowGet l n = T0.get n
  | [], n, _ => rfl
  | r :: l, n, h => by
    rw [rowGet, if_neg (h r (by simp))]
    exact rowGet_none fun r hr => h r (by simp [hr])
theorem T0_get {n : Int} {x : PN} (h : T0.get n = .some x) : x = PN.bare := by
  have := getA_mem h
  simp only [T0, List.mem_cons, List.not_mem_nil, or_false, Prod.mk.injEq] at this
  rcases this with ⟨_, rfl⟩ | ⟨_, rfl⟩ <;> rfl
theorem rowsA_get : ∀ {l : List TN} {T T' : PT} {last : Int}, rowsA T last l = .some T' → (∀ n, last < n → T.get n = T0.get n) → ∀ n, T'.get n = if n ≤ last then T.get n else rowGet l n
  | [], T, T', last, h, h0, n => by
    cases h
    split
    · rfl
    · exact h0 n (by omega)
  | r :: l, T, T', last, h, h0, n => by
    obtain ⟨h1, _, h3⟩ := rowsA_cons h
    have hl := rowA_last h1
    have hg := fun j => get_row (T := T) (r := r) (fun x hx => by rw [h0 _ hl] at hx; rw [T0_get hx]; exact ⟨rfl, rfl⟩) j
    have ih := rowsA_get h3 (fun n hn => by rw [hg, if_neg (by omega)]; exact h0 n (by omega)) n
    rw [ih, hg]
    by_cases e1 : n ≤ last
    · rw [if_pos (show n ≤ r.node by omega), if_neg (show ¬ n = r.node by omega), if_pos e1]
    · rw [if_neg e1, rowGet]
      by_cases e2 : n = r.node
      · rw [if_pos (show n ≤ r.node by omega), if_pos e2, if_pos e2.symm]
      · rw [if_neg (show ¬ r.node = n from fun e => e2 e.symm)]
        by_cases e3 : n ≤ r.node
        · rw [if_pos e3, if_neg e2, h0 n (by omega)]
          exact (rowGet_none fun q hq => by have := rowsA_rise h3 q hq; omega).symm
        · rw [if_neg e3]
theorem mod_len (T : PT) (k : Int) (f : PN → PN) : (T.mod k f).nodes.map (·.1) = T.nodes.map (·.1) := by rw [PT.mod, keys_mod]
theorem putAll_keys {n : Int} : ∀ (l : List Attr) (T : PT), (T.putAll n l).nodes.map (·.1) = T.nodes.map (·.1) ∧ (T.putAll n l).ids = T.ids ∧ (T.putAll n l).last = T.last
  | [], T => ⟨rfl, rfl, rfl⟩
  | a :: l, T => by
    obtain ⟨h1, h2, h3⟩ := putAll_keys (n := n) l (T.attr n a.key a.value)
    refine ⟨?_, h2, h3⟩
    show ((T.attr n a.key a.value).putAll n l).nodes.map (·.1) = _
    rw [h1]
    exact mod_len T _ _
theorem row_keys {T : PT} {r : TN} (hn : (T.nodes.map (·.1)).Nodup) : ((T.row r).nodes.map (·.1)).Nodup ∧ (T.row r).nodes.length ≤ T.nodes.length + 1 ∧ (T.row r).ids = T.ids ∧ (T.row r).last = T.last := by
  have hk : (T.row r).nodes.map (·.1) = (T.sure r.node).nodes.map (·.1) := mod_len _ _ _
  have hl : (T.row r).nodes.length = (T.sure r.node).nodes.length := by simpa using congrArg List.length hk
  rw [hk, hl]
  have e1 : (T.row r).ids = (T.sure r.node).ids := rfl
  have e2 : (T.row r).last = (T.sure r.node).last := rfl
  rw [e1, e2]
  unfold PT.sure
  cases h : T.get r.node with
  | some x => exact ⟨hn, Nat.le_succ _, rfl, rfl⟩
  | none =>
    refine ⟨?_, by simp [PT.add], rfl, rfl⟩
    show ((T.nodes ++ [(r.node, PN.bare)]).map (·.1)).Nodup
    rw [List.map_append, List.nodup_append]
    refine ⟨hn, by simp, fun x hx y hy => ?_⟩
    simp only [List.map_cons, List.map_nil, List.mem_singleton] at hy
    subst hy
    exact fun e => (getA_none.1 h) (e ▸ hx)
theorem rowsA_keys : ∀ {l : List TN} {T T' : PT} {last : Int}, rowsA T last l = .some T' → (T.nodes.map (·.1)).Nodup → (T'.nodes.map (·.1)).Nodup ∧ T'.nodes.length ≤ T.nodes.length + l.length ∧ T'.ids = T.ids ∧ T'.last = T.last
  | [], T, T', last, h, hn => by cases h; exact ⟨hn, by simp, rfl, rfl⟩
  | r :: l, T, T', last, h, hn => by
    obtain ⟨_, _, h3⟩ := rowsA_cons h
    obtain ⟨a1, a2, a3, a4⟩ := row_keys (r := r) hn
    obtain ⟨b1, b2, b3⟩ := putAll_keys (n := r.node) r.attrs (T.row r)
    have bl : ((T.row r).putAll r.node r.attrs).nodes.length = (T.row r).nodes.length := by simpa using congrArg List.length b1
    obtain ⟨c1, c2, c3, c4⟩ := rowsA_keys h3 (by rw [b1]; exact a1)
    exact ⟨c1, by rw [List.length_cons]; omega, by rw [c3, b2, a3], by rw [c4, b3, a4]⟩
theorem rowsA_each : ∀ {l : List TN} {T T' : PT} {last : Int}, rowsA T last l = .some T' → ∀ r ∈ l, attrsA ⟨#[]⟩ r.attrs = true ∧ topB r.node = (decide (r.parent = 0) && decide (r.name = ⟨#[]⟩)) ∧ (topB r.node = true ∨ nameB r.name = true)
  | [], _, _, _, _, r, hr => by simp at hr
  | r0 :: l, T, T', last, h, r, hr => by
    obtain ⟨h1, h2, h3⟩ := rowsA_cons h
    rcases List.mem_cons.1 hr with rfl | hr
    · simp only [rowA, Bool.and_eq_true, beq_iff_eq, Bool.or_eq_true] at h1
      exact ⟨h2, h1.1.2, h1.2⟩
    · exact rowsA_each h3 r hr
theorem rowGet_cases : ∀ {l : List TN} {n : Int} {x : PN}, rowGet l n = .some x → (∃ r ∈ l, r.node = n ∧ x = rowN r) ∨ (T0.get n = .some x)
  | [], n, x, h => .inr h
  | r :: l, n, x, h => by
    rw [rowGet] at h
    split at h
    · rename_i e; cases h; exact .inl ⟨r, by simp, e, rfl⟩
    · rcases rowGet_cases h with ⟨q, hq, e⟩ | e
      · exact .inl ⟨q, by simp [hq], e⟩
      · exact .inr e

/-! ### Attributes that rise -/
theorem attrsA_cons {k : ByteArray} {a : Attr} {l : List Attr} (h : attrsA k (a :: l) = true) : leB a.key k = false ∧ a.value ≠ ⟨#[]⟩ ∧ pairB a.key a.value = true ∧ attrsA a.key l = true := by
  simp only [attrsA, Bool.and_eq_true, Bool.not_eq_true', decide_eq_false_iff_not] at h
  exact ⟨h.1.1.1, h.1.1.2, h.1.2, h.2⟩
theorem AttrOk.laid : ∀ (l : List Attr) (s : List (ByteArray × ByteArray)) (k : ByteArray), AttrOk s → attrsA k l = true → AttrOk (l.foldl (fun s a => setS s a.key a.value) s) ∧ (l.foldl (fun s a => setS s a.key a.value) s).length ≤ s.length + l.length ∧
    ((∀ j w, getS s j = some w → pairB j w = true) → ∀ j w, getS (l.foldl (fun s a => setS s a.key a.value) s) j = some w → pairB j w = true)
  | [], s, k, hs, _ => ⟨hs, by simp, fun h => h⟩
  | a :: l, s, k, hs, h => by
    obtain ⟨_, hv, hp, h4⟩ := attrsA_cons h
    have hk : a.key.size ≤ 255 := by
      simp only [pairB, Bool.and_eq_true, decide_eq_true_eq] at hp
      exact hp.1.2
    obtain ⟨i1, i2, i3⟩ := AttrOk.laid l (setS s a.key a.value) a.key (hs.set hk) h4
    have := len_set s a.key a.value
    refine ⟨i1, by simp only [List.foldl_cons, List.length_cons]; omega, fun hq => i3 fun j w hj => ?_⟩
    rw [getS_set hs] at hj
    split at hj
    · rename_i e
      split at hj
      · cases hj
      · cases hj; rw [e]; exact hp
    · exact hq j w hj
theorem laidA_ok {l : List Attr} (h : attrsA ⟨#[]⟩ l = true) : AttrOk (laidA l) ∧ (laidA l).length ≤ l.length ∧ ∀ j w, getS (laidA l) j = some w → pairB j w = true := by
  obtain ⟨h1, h2, h3⟩ := AttrOk.laid l [] ⟨#[]⟩ AttrOk.nil h
  exact ⟨h1, by have := h2; simp only [List.length_nil, Nat.zero_add] at this; exact this, h3 fun j w e => by cases e⟩

/-- What rows make, ahead of the children. -/
structure Rowed (l : List TN) (T : PT) : Prop where
  get : ∀ n, T.get n = rowGet l n
  nod : (T.nodes.map (·.1)).Nodup
  many : T.nodes.length ≤ l.length + 2
  ids : T.ids = []
  last : T.last = 0
  each : ∀ r ∈ l, 0 < r.node ∧ attrsA ⟨#[]⟩ r.attrs = true ∧ topB r.node = (decide (r.parent = 0) && decide (r.name = ⟨#[]⟩)) ∧ (topB r.node = true ∨ nameB r.name = true)
theorem rowsA_rowed {l : List TN} {T : PT} (h : rowsA T0 0 l = .some T) : Rowed l T := by
  have hg := rowsA_get h (fun n _ => rfl)
  obtain ⟨h1, h2, h3, h4⟩ := rowsA_keys h (by decide)
  refine ⟨fun n => ?_, h1, by have : T0.nodes.length = 2 := rfl; omega, h3, h4, fun r hr => ⟨rowsA_rise h r hr, rowsA_each h r hr⟩⟩
  rw [hg]
  split
  · rename_i e
    exact (rowGet_none fun r hr => by have := rowsA_rise h r hr; omega).symm
  · rfl
theorem Rowed.ok {l : List TN} {T : PT} {k : Nat} (h : Rowed l T) (hk : l.length ≤ k) (ha : ∀ r ∈ l, r.attrs.length ≤ k) (hw : ∀ r ∈ l, (Lit.int .i64 r.node).wf = true) : T.ok k := by
  refine ⟨h.nod, by have := h.many; omega, by rw [h.last]; omega, by rw [h.last]; omega, by rw [h.ids]; simp, fun n x hx => ?_, fun n x hx => ?_⟩
  · rw [h.get] at hx
    rcases rowGet_cases hx with ⟨r, hr, rfl, _⟩ | e
    · exact hw r hr
    · exact T0_ok.keys n x e
  · rw [h.get] at hx
    rcases rowGet_cases hx with ⟨r, hr, rfl, rfl⟩ | e
    · obtain ⟨h1, h2, _⟩ := laidA_ok (h.each r hr).2.1
      exact ⟨h1, Nat.le_trans h2 (ha r hr)⟩
    · rw [T0_get e]; exact ⟨AttrOk.nil, by simp [PN.bare]⟩
theorem Rowed.good {l : List TN} {T : PT} (h : Rowed l T) (hl : T.led) : VGood T.view := by
  have hc : ∀ n a, T.view n = .some a → (∃ r ∈ l, r.node = n ∧ a = (rowN r).view) ∨ T0.view n = .some a := fun n a ha => by
    obtain ⟨x, hx, rfl⟩ := get_of_view ha
    rw [h.get] at hx
    rcases rowGet_cases hx with ⟨r, hr, e, rfl⟩ | e
    · exact .inl ⟨r, hr, e, rfl⟩
    · exact .inr (PT.view_get e)
  have there : ∀ n, T0.get n ≠ .none → T.view n ≠ .none := fun n hn e => by
    rw [PT.view_none, h.get] at e
    have : ∀ (l : List TN), rowGet l n = .none → T0.get n = .none := by
      intro l
      induction l with
      | nil => exact id
      | cons r l ih =>
        intro e
        rw [rowGet] at e
        split at e
        · cases e
        · exact ih e
    exact hn (this l e)
  refine ⟨fun n a ha => ?_, there 1 (by decide), there 2 (by decide), fun n a ha ht => ?_, fun n a ha ht => ?_, fun n a k w ha hk => ?_, hl⟩
  · rcases hc n a ha with ⟨r, hr, rfl, _⟩ | e
    · exact (h.each r hr).1
    · exact T0_good.pos n a e
  · rcases hc n a ha with ⟨r, hr, rfl, rfl⟩ | e
    · have := (h.each r hr).2.2.1
      rw [ht] at this
      have := this.symm
      simp only [Bool.and_eq_true, decide_eq_true_eq] at this
      exact this
    · exact T0_good.top n a e ht
  · rcases hc n a ha with ⟨r, hr, rfl, rfl⟩ | e
    · exact (h.each r hr).2.2.2.resolve_left (by rw [ht]; simp)
    · exact T0_good.name n a e ht
  · rcases hc n a ha with ⟨r, hr, rfl, rfl⟩ | e
    · obtain ⟨h1, _, h3⟩ := laidA_ok (h.each r hr).2.1
      exact ⟨h3 k w hk, h1.val k w hk⟩
    · exact T0_good.pairs n a k w e hk

/-! ### The children -/
structure KidsUp (T1 T : PT) (s : List Int) : Prop where
  keys : T.nodes.map (·.1) = T1.nodes.map (·.1)
  ids : T.ids = T1.ids
  last : T.last = T1.last
  non : ∀ n, T1.get n = .none → T.get n = .none
  get : ∀ n x, T1.get n = .some x → ∃ ks : List Int, T.get n = .some { x with kids := ks } ∧ ks.Nodup ∧ ∀ c, c ∈ ks ↔ c ∈ s ∧ topB c = false ∧ ∃ y, T1.get c = .some y ∧ y.parent = n
theorem KidsUp.begin {T : PT} (h : ∀ n x, T.get n = .some x → x.kids = []) : KidsUp T T [] :=
  ⟨rfl, rfl, rfl, fun _ h => h, fun n x hx => ⟨[], by rw [hx]; have := h n x hx; cases x; simp only at this; subst this; rfl, List.nodup_nil, fun c => by simp⟩⟩
theorem KidsUp.top {T1 T : PT} {s : List Int} {c : Int} (h : KidsUp T1 T s) (hc : topB c = true) : KidsUp T1 T (s ++ [c]) := by
  refine ⟨h.keys, h.ids, h.last, h.non, fun n x hx => ?_⟩
  obtain ⟨ks, h1, h2, h3⟩ := h.get n x hx
  refine ⟨ks, h1, h2, fun d => ?_⟩
  rw [h3, List.mem_append, List.mem_singleton]
  constructor
  · rintro ⟨a, b⟩; exact ⟨.inl a, b⟩
  · rintro ⟨a | rfl, b, q⟩
    · exact ⟨a, b, q⟩
    · rw [hc] at b; cases b
theorem KidsUp.kid {T1 T : PT} {s : List Int} {c : Int} {y : PN} (h : KidsUp T1 T s) (hc : topB c = false) (hy : T1.get c = .some y) (hs : c ∉ s) : KidsUp T1 (T.kid y.parent c) (s ++ [c]) := by
  refine ⟨by rw [← h.keys]; exact mod_len _ _ _, h.ids, h.last, fun n hn => ?_, fun n x hx => ?_⟩
  · rw [get_kid, h.non n hn]; simp
  · obtain ⟨ks, h1, h2, h3⟩ := h.get n x hx
    rw [get_kid, h1]
    by_cases e : n = y.parent
    · refine ⟨putK ks c, by rw [if_pos e]; rfl, putK_nodup h2 c, fun d => ?_⟩
      rw [mem_putK, h3, List.mem_append, List.mem_singleton]
      constructor
      · rintro (rfl | ⟨a, b⟩)
        · exact ⟨.inr rfl, hc, y, hy, e.symm⟩
        · exact ⟨.inl a, b⟩
      · rintro ⟨a | a, b⟩
        · exact .inr ⟨a, b⟩
        · exact .inl a
    · refine ⟨ks, by rw [if_neg e], h2, fun d => ?_⟩
      rw [h3, List.mem_append, List.mem_singleton]
      constructor
      · rintro ⟨a, b⟩; exact ⟨.inl a, b⟩
      · rintro ⟨a | rfl, b, z, hz, q⟩
        · exact ⟨a, b, z, hz, q⟩
        · rw [hy] at hz; cases hz; exact absurd q.symm e
theorem KidsUp.view {T1 T : PT} {s : List Int} (h : KidsUp T1 T s) : T.view = T1.view := by
  funext n
  cases hg : T1.get n with
  | none => rw [PT.view_none.2 hg, PT.view_none.2 (h.non n hg)]
  | some x =>
    obtain ⟨ks, h1, _⟩ := h.get n x hg
    rw [PT.view_get hg, PT.view_get h1]; rfl
theorem KidsUp.back {T1 T : PT} {s : List Int} (h : KidsUp T1 T s) {n : Int} {x : PN} (hx : T.get n = .some x) : ∃ y, T1.get n = .some y ∧ y.parent = x.parent ∧ y.attrs = x.attrs := by
  cases hg : T1.get n with
  | none => rw [h.non n hg] at hx; cases hx
  | some y =>
    obtain ⟨ks, h1, _⟩ := h.get n y hg
    rw [h1] at hx; cases hx
    exact ⟨y, rfl, rfl, rfl⟩
theorem KidsUp.ok {T1 T : PT} {s : List Int} {k : Nat} (h : KidsUp T1 T s) (hk : T1.ok k) : T.ok k := by
  have hl : T.nodes.length = T1.nodes.length := by simpa using congrArg List.length h.keys
  refine ⟨by rw [h.keys]; exact hk.nod, by rw [hl]; exact hk.many, by rw [h.last]; exact hk.last0, by rw [h.last]; exact hk.lastk, by rw [h.ids]; exact hk.ids, fun n x hx => ?_, fun n x hx => ?_⟩
  · obtain ⟨y, hy, _⟩ := h.back hx
    exact hk.keys n y hy
  · obtain ⟨y, hy, _, e⟩ := h.back hx
    rw [← e]; exact hk.attrs n y hy
theorem KidsUp.kids {T1 T : PT} {s : List Int} (h : KidsUp T1 T s) (hs : ∀ c y, T1.get c = .some y → c ∈ s) : T.kidsOk := by
  refine ⟨fun n x hx => ?_, fun n x c hx => ?_⟩
  · obtain ⟨y, hy, _⟩ := h.back hx
    obtain ⟨ks, h1, h2, _⟩ := h.get n y hy
    rw [h1] at hx; cases hx
    exact h2
  · obtain ⟨y, hy, _⟩ := h.back hx
    obtain ⟨ks, h1, h2, h3⟩ := h.get n y hy
    rw [h1] at hx; cases hx
    show c ∈ ks ↔ _
    rw [h3]
    constructor
    · rintro ⟨_, b, z, hz, q⟩
      obtain ⟨kz, g1, _⟩ := h.get c z hz
      exact ⟨b, _, g1, q⟩
    · rintro ⟨b, z, hz, q⟩
      obtain ⟨z', hz', e, _⟩ := h.back hz
      exact ⟨hs c z' hz', b, z', hz', e.trans q⟩

/-! ### Whether all are reached -/
structure Met (T : PT) (vis wait : List Int) : Prop where
  nod : (vis ++ wait).Nodup
  one : (1 : Int) ∈ vis ++ wait
  two : (2 : Int) ∈ vis ++ wait
  led : ∀ n ∈ vis ++ wait, ∃ k, LeadsN T.view k n
  there : ∀ n ∈ vis ++ wait, ∃ x, T.get n = .some x
  kids : ∀ n ∈ vis, ∀ x, T.get n = .some x → ∀ c ∈ x.kids, c ∈ vis ++ wait
  from_ : ∀ n ∈ vis ++ wait, topB n = true ∨ ∃ p ∈ vis, ∃ x, T.get p = .some x ∧ n ∈ x.kids
theorem Met.few {T : PT} {vis wait : List Int} (h : Met T vis wait) : vis.length + wait.length ≤ T.nodes.length := by
  have := nodup_len (b := T.nodes.map (·.1)) h.nod fun m hm => Classical.byContradiction fun hc => by
    obtain ⟨x, hx⟩ := h.there m hm
    rw [show T.get m = .none from getA_none.2 hc] at hx; cases hx
  simpa using this
theorem Met.begin {T : PT} (h1 : T.get 1 ≠ .none) (h2 : T.get 2 ≠ .none) : Met T [] [1, 2] := by
  refine ⟨by decide, by simp, by simp, fun n hn => ⟨0, ?_⟩, fun n hn => ?_, by simp, fun n hn => .inl ?_⟩
  · simp at hn; exact topB_iff.2 hn
  · simp at hn
    rcases hn with rfl | rfl
    · exact Option.ne_none_iff_exists'.1 h1
    · exact Option.ne_none_iff_exists'.1 h2
  · simp at hn; exact topB_iff.2 hn
/-- A node's children put behind those that wait. -/
theorem Met.step {T : PT} {vis wait : List Int} {n : Int} {x : PN} {ks : List Int} (hk : T.kidsOk) (h : Met T vis (n :: wait)) (hx : T.get n = .some x) (hp : ks.Perm x.kids) : Met T (vis ++ [n]) (wait ++ ks) := by
  have e : vis ++ [n] ++ (wait ++ ks) = (vis ++ n :: wait) ++ ks := by simp
  have hkm : ∀ c, c ∈ ks ↔ c ∈ x.kids := fun c => hp.mem_iff
  obtain ⟨kn, hkn⟩ := h.led n (by simp)
  refine ⟨?_, ?_, ?_, ?_, ?_, ?_, ?_⟩
  · rw [e, List.nodup_append]
    refine ⟨h.nod, hp.nodup_iff.2 (hk.nod n x hx), fun a ha b hb hab => ?_⟩
    subst hab
    obtain ⟨h1, y, hy, hpar⟩ := (hk.mem n x a hx).1 ((hkm a).1 hb)
    rcases h.from_ a ha with ht | ⟨p, hp', z, hz, hc⟩
    · rw [ht] at h1; cases h1
    · obtain ⟨_, y', hy', hpar'⟩ := (hk.mem p z a hz).1 hc
      rw [hy] at hy'; cases hy'
      have : p = n := hpar'.symm.trans hpar
      subst this
      have := (List.nodup_append.1 h.nod).2.2 p hp' p (by simp)
      exact this rfl
  · rw [e]; exact List.mem_append_left _ h.one
  · rw [e]; exact List.mem_append_left _ h.two
  · intro a ha
    rw [e] at ha
    rcases List.mem_append.1 ha with ha | ha
    · exact h.led a ha
    · obtain ⟨h1, y, hy, hpar⟩ := (hk.mem n x a hx).1 ((hkm a).1 ha)
      exact ⟨kn + 1, h1, y.view, PT.view_get hy, by show LeadsN T.view kn y.parent; rw [hpar]; exact hkn⟩
  · intro a ha
    rw [e] at ha
    rcases List.mem_append.1 ha with ha | ha
    · exact h.there a ha
    · obtain ⟨h1, y, hy, hpar⟩ := (hk.mem n x a hx).1 ((hkm a).1 ha)
      exact ⟨y, hy⟩
  · intro a ha y hy c hc
    rw [e]
    rcases List.mem_append.1 ha with ha | ha
    · exact List.mem_append_left _ (h.kids a ha y hy c hc)
    · simp only [List.mem_singleton] at ha
      subst ha
      rw [hx] at hy; cases hy
      exact List.mem_append_right _ ((hkm c).2 hc)
  · intro a ha
    rw [e] at ha
    rcases List.mem_append.1 ha with ha | ha
    · rcases h.from_ a ha with ht | ⟨p, hp', r⟩
      · exact .inl ht
      · exact .inr ⟨p, by simp [hp'], r⟩
    · exact .inr ⟨n, by simp, x, hx, (hkm a).1 ha⟩
theorem Met.all {T : PT} {vis : List Int} (hk : T.kidsOk) (hn : (T.nodes.map (·.1)).Nodup) (h : Met T vis []) : vis.length = T.nodes.length ↔ T.led := by
  have hin : ∀ m, m ∈ T.nodes.map (·.1) ↔ ∃ x, T.get m = .some x := fun m => by
    rw [← Option.ne_none_iff_exists']
    have := getA_none (l := T.nodes) (j := m)
    unfold PT.get
    rw [Ne, this]
    simp
  have hsub : ∀ m ∈ vis, m ∈ T.nodes.map (·.1) := fun m hm => (hin m).2 (h.there m (by simpa using hm))
  have hnd : vis.Nodup := by simpa using h.nod
  constructor
  · intro hl n hv
    have : ∀ m ∈ T.nodes.map (·.1), m ∈ vis := by
      intro m hm
      refine Classical.byContradiction fun hc => ?_
      have := nodup_len (a := m :: vis) (b := T.nodes.map (·.1)) (List.nodup_cons.2 ⟨hc, hnd⟩) fun y hy => by
        rcases List.mem_cons.1 hy with rfl | hy
        · exact hm
        · exact hsub y hy
      simp at this
      omega
    have hget : T.get n ≠ .none := fun e => hv (PT.view_none.2 e)
    exact h.led n (by simpa using this n ((hin n).2 (Option.ne_none_iff_exists'.1 hget)))
  · intro hl
    have : ∀ k n, LeadsN T.view k n → T.get n ≠ .none → n ∈ vis := by
      intro k
      induction k with
      | zero =>
        intro n hn _
        rcases topB_iff.1 hn with rfl | rfl
        · simpa using h.one
        · simpa using h.two
      | succ k ih =>
        rintro n ⟨ht, a, ha, hp⟩ _
        obtain ⟨y, hy, rfl⟩ := get_of_view ha
        have hpv : T.get y.parent ≠ .none := by
          cases k with
          | zero =>
            rcases topB_iff.1 (show topB y.parent = true from hp) with e | e
            · rw [e]
              obtain ⟨z, hz⟩ := h.there 1 h.one
              rw [hz]; simp
            · rw [e]
              obtain ⟨z, hz⟩ := h.there 2 h.two
              rw [hz]; simp
          | succ k =>
            obtain ⟨_, b, hb, _⟩ := hp
            obtain ⟨z, hz, _⟩ := get_of_view hb
            intro e
            have hz' : T.get y.parent = .some z := hz
            rw [e] at hz'; cases hz'
        have hm := ih y.parent hp hpv
        obtain ⟨z, hz⟩ := Option.ne_none_iff_exists'.1 hpv
        have := h.kids y.parent hm z hz n ((hk.mem _ z n hz).2 ⟨ht, y, hy, rfl⟩)
        simpa using this
    have hall : ∀ m ∈ T.nodes.map (·.1), m ∈ vis := fun m hm => by
      obtain ⟨x, hx⟩ := (hin m).1 hm
      obtain ⟨k, hk⟩ := hl m (by rw [PT.view_get hx]; simp)
      exact this k m hk (by rw [hx]; simp)
    have h1 := nodup_len hnd hsub
    have h2 := nodup_len hn hall
    simp at h1 h2
    omega
end Go.Proofs.YtnoeabmpdjpfaaaGreatDoor.Vc

/- Does a node come under the root? -/
set_option linter.unusedVariables false
set_option linter.unusedSimpArgs false
set_option maxRecDepth 100000
namespace Go.Proofs.YtnoeabmpdjpfaaaGreatDoor.Vc
open Go Go.Proofs

def opB : Op := ⟨zStamp, 1, 5, 1, ⟨#[97]⟩, ⟨#[]⟩, ⟨#[]⟩⟩
theorem begun_may : mayA T0 opB = true := by decide
def T1 : PT := ⟨[(1, ⟨0, ⟨#[]⟩, [], [5]⟩), (2, PN.bare), (5, ⟨1, ⟨#[97]⟩, [], []⟩)], [1], 1⟩
theorem begun_does : T0.does opB = T1 := by rfl

end Go.Proofs.YtnoeabmpdjpfaaaGreatDoor.Vc

/- The code of some functions of the program, its types resolved: printed by a program of this claim. -/
set_option linter.unusedVariables false
set_option maxRecDepth 100000
namespace Go.Proofs.YtnoeabmpdjpfaaaGreatDoor.Vc
open Go Go.Proofs

end Go.Proofs.YtnoeabmpdjpfaaaGreatDoor.Vc

/- Whether each node is below the root or the trash: the walk. -/
set_option linter.unusedVariables false
set_option linter.unusedSimpArgs false
set_option maxRecDepth 100000
namespace Go.Proofs.YtnoeabmpdjpfaaaGreatDoor.Vc
open Go Go.Proofs

theorem SlO.drop1 {u : PH} {b o n c : Nat} {e : TypeId} {z : Nat} {x : GV} {xs : List GV} (h : SlO u (.slice (.some ⟨b, o, none⟩) n c) e z (x :: xs)) : SlO u (.slice (.some ⟨b, if c = 1 then o else o + 1 * z, none⟩) (n - 1) (c - 1)) e z xs := by
  obtain ⟨hels, ⟨h1, h2⟩ | ⟨a, c', h1, h2, h3⟩⟩ := h
  · cases h2
  · simp only [Value.slice.injEq, Option.some.injEq] at h1
    obtain ⟨rfl, rfl, rfl⟩ := h1
    refine ⟨fun y hy => hels y (List.mem_cons_of_mem _ hy), .inr ⟨⟨b, if c = 1 then o else o + 1 * z, none⟩, c - 1, by simp, by simp at h2; omega, fun hc => ?_⟩⟩
    obtain ⟨cs, g1, g2, g3, g4⟩ := h3 (by omega)
    have hz := (hels x (by simp)).2
    have hfl : x.flat.length = z := by rw [← hz]; exact GV.flat_len x (hels x (by simp)).1
    simp only at g1 g2 g3 g4
    rw [if_neg (by omega)]
    refine ⟨cs, rfl, ?_, g3, fun j v hj => ?_⟩
    · obtain ⟨k, rfl⟩ : ∃ k, c = k + 1 := ⟨c - 1, by omega⟩
      simp only [Nat.add_sub_cancel]
      rw [Nat.add_mul] at g2
      omega
    · have := g4 (z + j) v (by
        rw [flats, List.flatMap_cons, List.getElem?_append_right (by omega), hfl]
        rw [Nat.add_sub_cancel_left]; exact hj)
      rw [Nat.one_mul, Nat.add_assoc]; exact this
theorem uni_one_upd (r : Nat) (a b : Obj) (m : PH) : (uni (one r a) m).upd r b = uni (one r b) m := by
  funext j
  by_cases h : j = r
  · subst h; simp [PH.upd, uni, one]
  · simp [PH.upd, uni, one, h]
theorem dis_one_of {r : Nat} {a b : Obj} {m : PH} (h : dis (one r a) m) : dis (one r b) m := fun j => by
  by_cases e : j = r
  · subst e
    rcases h j with q | q
    · simp [one] at q
    · exact .inr q
  · exact .inl (by simp [one, e])
theorem uni_one_self (r : Nat) (a : Obj) (m : PH) : uni (one r a) m r = some a := by simp [uni, one]
theorem kids_few {T : PT} (hk : T.kidsOk) {n : Int} {x : PN} (hx : T.get n = some x) : x.kids.length ≤ T.nodes.length := by
  have := nodup_len (b := T.nodes.map (·.1)) (hk.nod n x hx) fun c hc => Classical.byContradiction fun hn => by
    obtain ⟨_, y, hy, _⟩ := (hk.mem n x c hx).1 hc
    rw [show T.get c = none from getA_none.2 hn] at hy; cases hy
  simpa using this
theorem iter_nodup {it mo : Obj} {b : Nat} {ks ls : List Int} (h : IterM it mo b (rawK ks)) (hm : MapI (some .i64) mo (rawK ls)) (hn : ls.Nodup) : ks.length ≤ ls.length := by
  have := h.le hm
  simpa [rawK] using this

end Go.Proofs.YtnoeabmpdjpfaaaGreatDoor.Vc

/- A tree of nodes: the walk. -/
set_option linter.unusedVariables false
set_option linter.unusedSimpArgs false
set_option maxRecDepth 100000
namespace Go.Proofs.YtnoeabmpdjpfaaaGreatDoor.Vc
open Go Go.Proofs

theorem TreeM.ne {e : TypeId} {m : PH} {L : Lay} {T : PT} (h : TreeM e m L T) {r s : Role} (hr : act T r) (hs : act T s) (hne : r ≠ s) : L r ≠ L s := by
  obtain ⟨mi, mt, idsV, rfl, hd, hi, ht⟩ := h
  exact fun q => hne (ht.sep r s trivial trivial hr hs q)
theorem TreeM.kidAt {e : TypeId} {m : PH} {L : Lay} {T : PT} {k n : Int} {x : PN} (h : TreeM e m L T) (hx : T.get k = some x) :
    ∃ o, m (L (.kb k)) = some o ∧ MapI (some .i64) o (rawK x.kids) ∧ ∀ o', MapI (some .i64) o' (mput (rawK x.kids) (.int .i64 n) (.int .i64 1)) → TreeM e (m.upd (L (.kb k)) o') L (T.kid k n) := by
  obtain ⟨o, idsV, h1, h2⟩ := h.at (.kb k) ⟨x, hx⟩
  refine ⟨o, h1, h2 x hx, fun o' ho' => ?_⟩
  rw [mput_rawK] at ho'
  exact h.modKids (f := fun x => { x with kids := putK x.kids n }) hx (fun y => ⟨rfl, rfl, rfl⟩) ho'
/-- Nodes by number, as a map's pairs. -/
def rawS (L : Lay) (s : List Int) : List (Value × Value) := s.map fun n => (.int .i64 n, ptr (L (.nd n)))
theorem rawN_S (L : Lay) (l : List (Int × PN)) : rawN L l = rawS L (l.map (·.1)) := by simp [rawN, rawS, Function.comp_def]
theorem rawS_perm {L : Lay} {a b : List Int} (h : (rawS L a).Perm (rawS L b)) : a.Perm b := by
  have := h.map fun p : Value × Value => match p.1 with | .int _ n => n | _ => 0
  simpa [rawS, List.map_map, Function.comp_def] using this
theorem mem_rawS {L : Lay} {p : Value × Value} {l : List Int} (h : p ∈ rawS L l) : ∃ c ∈ l, p = (.int .i64 c, ptr (L (.nd c))) := by
  obtain ⟨c, hc, rfl⟩ := List.mem_map.1 h
  exact ⟨c, hc, rfl⟩

/-- Rows that are a tree. -/
def viewOf (l : List TN) (n : Int) : Option AN := (rowGet l n).map PN.view
def fromA (l : List TN) : Prop := ∃ T, rowsA T0 0 l = some T ∧ T.led
theorem Rowed.view {l : List TN} {T : PT} (h : Rowed l T) : T.view = viewOf l := by
  funext n
  unfold PT.view viewOf
  rw [h.get]

theorem rowGet_no : ∀ {l : List TN} {n : Int}, rowGet l n = none → T0.get n = none
  | [], _, e => e
  | r :: l, n, e => by
    rw [rowGet] at e
    split at e
    · cases e
    · exact rowGet_no e
theorem led_parent {v : Int → Option AN} {k : Nat} {n : Int} {a : AN} (h : LeadsN v k n) (ht : topB n = false) (ha : v n = some a) (hp : topB a.parent = true → False) (hn : v a.parent = none) : False := by
  cases k with
  | zero => rw [show topB n = true from h] at ht; cases ht
  | succ k =>
    obtain ⟨_, b, h1, h2⟩ := h
    rw [ha] at h1; cases h1
    cases k with
    | zero => exact hp h2
    | succ k =>
      obtain ⟨_, c, h3, _⟩ := h2
      rw [hn] at h3; cases h3

end Go.Proofs.YtnoeabmpdjpfaaaGreatDoor.Vc

/- From what a call computes to the row of a law that answers true and leaves its arguments as they were. -/
set_option linter.unusedVariables false
set_option linter.unusedSimpArgs false
namespace Go.Proofs.YtnoeabmpdjpfaaaGreatDoor.Vc
open Go Go.ChangeShapes Go.WideShapes Go.ChangeAt Go.WideElems

section
variable {H : Type} {enc : TypeId × Value → H} {P : Program} {W W' : World}

theorem Kept.old (h : Kept PH.no W W') {k : Nat} (hk : k < W.heap.size) : W'.heap[k]? = W.heap[k]? := h.2.2.2.2 k hk rfl

theorem Kept.but (h : Kept PH.no W W') (may : MemPlace → Prop) : W.keptBut W' may := by
  refine ⟨h.1, h.2.2.1, fun i hi => ?_⟩
  rw [h.old hi]
  cases W.heap[i]? with
  | none => rfl
  | some o => cases o <;> first | exact ⟨rfl, rfl, rfl, fun _ _ => rfl⟩ | exact .inr ⟨rfl, rfl⟩ | rfl

theorem Kept.at (h : Kept PH.no W W') {p : MemPlace} (hp : p.block < W.heap.size) : W.sameAt W' p := by
  cases p with
  | cell b off =>
    show W'.cell? _ = W.cell? _
    have e : W'.heap[b]? = W.heap[b]? := h.old hp
    unfold World.cell?
    simp only [e]
  | map b => exact h.old hp

theorem trodAll_stays (hl : laidOutB P = true) {sp' : Nat → Bool} : ∀ {ts : List TypeId} {vs : List Value} {ds : List (DataW H)} {ps : List MemPlace}, (∀ t ∈ ts, P.readableRec t = true ∧ t < P.types.size) →
    DataW.TrodAll enc P W 0 (fun _ => true) true ts vs ds ps → (∀ p ∈ ps, W.sameAt W' p) → (∀ p ∈ ps, sp' p.block = true) → DataW.TrodAll enc P W' 0 sp' true ts vs ds ps
  | [], vs, ds, ps, _, h, _, _ => by
    obtain ⟨rfl, rfl, rfl⟩ := trodAll_nil h
    exact rfl
  | t :: ts, vs, ds, ps, hr, h, h1, h2 => by
    obtain ⟨v, vs', d, ds', p, q, rfl, rfl, rfl, h3, h4⟩ := trodAll_cons h
    exact ⟨p, q, Trod_stays hl (hr t (by simp)).1 (hr t (by simp)).2 h3 (fun x hx => h1 x (by simp [hx])) (fun x hx => h2 x (by simp [hx])),
      trodAll_stays hl (fun t ht => hr t (by simp [ht])) h4 (fun x hx => h1 x (by simp [hx])) (fun x hx => h2 x (by simp [hx])), rfl⟩

theorem contract_true {f : Nat} {fn : Func} {s : ChangeSpec} {apart fresh handsOn again : Bool} {args : Array Value} {ds gs : List (DataW H)} {before : List MemPlace} {tb : TypeId} (hl : laidOutB P = true)
    (hr : (fn.params.toList.all fun t => P.readableRec t && decide (t < P.types.size)) = true) (hv : s.vars = []) (hres : fn.resultTypes = #[tb]) (htb : P.underlying tb = some .bool)
    (hs : s.fn H (ds ++ gs) = { results := [.lit (.bool true)], args := ds }) (hW : DataW.Whole enc P fn.params.toList s.vars apart W args.toList ds gs before)
    (h : Spec P f args.toList PH.no W fun rs _ => rs = [.s (.bool true)]) :
    Calls P f args W fun e W' => ∃ v, e = .returned v ∧ s.post enc P fn apart fresh handsOn again W args v W' ∧ W.keptBut W' (fun _ => False) := by
  have h0 := h (fun _ _ e => by cases e)
  rw [show args.toList.toArray = args by simp] at h0
  refine h0.mono fun e W' he => ?_
  obtain ⟨rs, m', rfl, _, rfl, _, _, hk⟩ := he
  refine ⟨.bool true, rfl, ?_, hk.but _⟩
  have hW0 := hW
  obtain ⟨p, q, hA, hV, rfl, hfz, hnd⟩ := hW
  rw [hv] at hV
  obtain ⟨rfl, rfl⟩ := trodVars_none hV
  simp only [List.append_nil] at *
  have hall : ∀ t ∈ fn.params.toList, P.readableRec t = true ∧ t < P.types.size := by
    intro t ht
    have := List.all_eq_true.1 hr t ht
    simpa using this
  have hlt := DataW.TrodAll.lt hA
  have hargs : ∀ sp : Nat → Bool, (∀ x ∈ p, sp x.block = true) → DataW.TrodAll enc P W' 0 sp true fn.params.toList args.toList ds p := fun sp hsp =>
    trodAll_stays hl hall hA (fun x hx => hk.at (hlt x hx)) hsp
  have hbool : ∀ (b : Nat) (sp : Nat → Bool) (hd : Bool), DataW.TrodAll enc P W' b sp hd fn.resultTypes.toList ((Value.bool true).resultList fn.resultTypes.size) [.lit (.bool true)] [] := by
    intro b sp hd
    rw [hres]
    exact ⟨[], [], ⟨1, by simp [DataW.trod, htb, Value.cells]⟩, rfl, rfl⟩
  have hcell : ∀ x ∈ p, x.block < W.heap.size := hlt
  refine ⟨ds, [], p, [], p, [], by simpa using hW0, by rw [List.append_nil, hs]; exact hbool _ _ _, by rw [List.append_nil, hs]; exact hargs _ (fun x hx => by simpa using hlt x hx), by rw [hv]; rw [List.append_nil, hs]; exact rfl, hk.but _, fun _ => ⟨?_, ?_⟩⟩
  · intro j t r hj hr'
    rw [hres] at hj hr'
    match j, hj, hr' with
    | 0, hj, hr' =>
      simp [Value.resultList] at hj hr'
      subst hj; subst hr'
      simp [Value.okWide, htb, Cell.okWide, Cell.ok]
  · refine ⟨_, [], p, ⟨[] ++ p, [], trodAll_append (hargs _ (fun _ _ => rfl)) (hbool _ _ _), by rw [hv]; exact rfl, by simp, ?_, fun ha => by simpa using hnd ha⟩, fun x hx _ => hx⟩
    intro b off hp
    have := hfz b off hp
    unfold World.frozen? at this ⊢
    have e : W'.heap[b]? = W.heap[b]? := hk.old (hlt _ hp)
    simp only [e]
    exact this

end

end Go.Proofs.YtnoeabmpdjpfaaaGreatDoor.Vc

/- What a law's arguments are: plain values, cell by cell. -/
set_option linter.unusedVariables false
set_option linter.unusedSimpArgs false
namespace Go.Proofs.YtnoeabmpdjpfaaaGreatDoor.Vc
open Go

/-- A plain cell's kind. -/
inductive K1 where
  | i (k : IntKind)
  | s
  | b
  | sl (t : TypeId)

def kOf (P : Program) (u : TypeId) : Option K1 := match P.underlying u with
  | some (.int k) => some (.i k)
  | some .string => some .s
  | some .bool => some .b
  | _ => none

def K1.is : K1 → Value → Prop
  | .i k, v => ∃ n, v = .int k n ∧ k.has n
  | .s, v => ∃ s, v = .string s ∧ (s.size : Int) ≤ IntKind.i64.max
  | .b, v => ∃ b, v = .bool b
  | .sl _, v => ∃ a n c, v = .slice a n c

/-- A plain value's content. -/
structure Raw where
  x : Nat → Int
  y : Nat → ByteArray
  z : Nat → Bool
  v : Nat → Value

def Raw.at (r : Raw) (i : Nat) : K1 → Value
  | .i k => .int k (r.x i)
  | .s => .string (r.y i)
  | .b => .bool (r.z i)
  | .sl _ => r.v i

def Raw.cells (r : Raw) : List K1 → Nat → List Value
  | [], _ => []
  | k :: l, i => r.at i k :: r.cells l (i + 1)

/-- Its numbers are numbers of their kind. -/
def Raw.fine (r : Raw) : List K1 → Nat → Prop
  | [], _ => True
  | k :: l, i => (match k with | .i k => k.has (r.x i) | .s => ((r.y i).size : Int) ≤ IntKind.i64.max | .b => True | .sl _ => ∃ a n c, r.v i = .slice a n c) ∧ r.fine l (i + 1)

theorem raw_of : ∀ (ks : List K1) (i : Nat) (cs : List Value), cs.length = ks.length → (∀ (j : Nat) (v : Value) (k : K1), cs[j]? = some v → ks[j]? = some k → k.is v) → ∃ r : Raw, cs = r.cells ks i ∧ r.fine ks i
  | [], i, cs, hl, _ => by
    have : cs = [] := by simpa using hl
    subst this
    exact ⟨⟨fun _ => 0, fun _ => ⟨#[]⟩, fun _ => false, fun _ => undef⟩, rfl, trivial⟩
  | k :: ks, i, cs, hl, h => by
    cases cs with
    | nil => simp at hl
    | cons v cs =>
      obtain ⟨r, hr, hf⟩ := raw_of ks (i + 1) cs (by simpa using hl) (fun j v k hj hk => h (j + 1) v k (by simpa using hj) (by simpa using hk))
      have h0 := h 0 v k rfl rfl
      have key : ∀ (r' : Raw), (∀ j, i < j → r'.x j = r.x j ∧ r'.y j = r.y j ∧ r'.z j = r.z j ∧ r'.v j = r.v j) → (∀ l m, i < m → r'.cells l m = r.cells l m) ∧ (∀ l m, i < m → (r'.fine l m ↔ r.fine l m)) := by
        intro r' hs
        constructor
        · intro l
          induction l with
          | nil => intro m _; rfl
          | cons q l ih =>
            intro m hm
            obtain ⟨e1, e2, e3, e4⟩ := hs m hm
            simp only [Raw.cells, ih (m + 1) (by omega)]
            congr 1
            cases q <;> simp [Raw.at, e1, e2, e3, e4]
        · intro l
          induction l with
          | nil => intro m _; exact Iff.rfl
          | cons q l ih =>
            intro m hm
            obtain ⟨e1, e2, e3, e4⟩ := hs m hm
            simp only [Raw.fine, ih (m + 1) (by omega), e1, e2, e4]
      cases k with
      | i k =>
        obtain ⟨n, rfl, hn⟩ := h0
        refine ⟨⟨fun j => if j = i then n else r.x j, r.y, r.z, r.v⟩, ?_, ?_⟩
        · obtain ⟨g1, g2⟩ := key ⟨fun j => if j = i then n else r.x j, r.y, r.z, r.v⟩ (fun j hj => ⟨by simp; omega, rfl, rfl, rfl⟩)
          simp only [Raw.cells, g1 ks (i + 1) (by omega), ← hr, Raw.at, if_true]
        · obtain ⟨g1, g2⟩ := key ⟨fun j => if j = i then n else r.x j, r.y, r.z, r.v⟩ (fun j hj => ⟨by simp; omega, rfl, rfl, rfl⟩)
          exact ⟨by simpa using hn, (g2 ks (i + 1) (by omega)).2 hf⟩
      | s =>
        obtain ⟨n, rfl, hn⟩ := h0
        refine ⟨⟨r.x, fun j => if j = i then n else r.y j, r.z, r.v⟩, ?_, ?_⟩
        · obtain ⟨g1, g2⟩ := key ⟨r.x, fun j => if j = i then n else r.y j, r.z, r.v⟩ (fun j hj => ⟨rfl, by simp; omega, rfl, rfl⟩)
          simp only [Raw.cells, g1 ks (i + 1) (by omega), ← hr, Raw.at, if_true]
        · obtain ⟨g1, g2⟩ := key ⟨r.x, fun j => if j = i then n else r.y j, r.z, r.v⟩ (fun j hj => ⟨rfl, by simp; omega, rfl, rfl⟩)
          exact ⟨by simpa using hn, (g2 ks (i + 1) (by omega)).2 hf⟩
      | b =>
        obtain ⟨n, rfl⟩ := h0
        refine ⟨⟨r.x, r.y, fun j => if j = i then n else r.z j, r.v⟩, ?_, ?_⟩
        · obtain ⟨g1, g2⟩ := key ⟨r.x, r.y, fun j => if j = i then n else r.z j, r.v⟩ (fun j hj => ⟨rfl, rfl, by simp; omega, rfl⟩)
          simp only [Raw.cells, g1 ks (i + 1) (by omega), ← hr, Raw.at, if_true]
        · obtain ⟨g1, g2⟩ := key ⟨r.x, r.y, fun j => if j = i then n else r.z j, r.v⟩ (fun j hj => ⟨rfl, rfl, by simp; omega, rfl⟩)
          exact ⟨trivial, (g2 ks (i + 1) (by omega)).2 hf⟩
      | sl t =>
        obtain ⟨a, n, c, rfl⟩ := h0
        refine ⟨⟨r.x, r.y, r.z, fun j => if j = i then .slice a n c else r.v j⟩, ?_, ?_⟩
        · obtain ⟨g1, g2⟩ := key ⟨r.x, r.y, r.z, fun j => if j = i then .slice a n c else r.v j⟩ (fun j hj => ⟨rfl, rfl, rfl, by simp; omega⟩)
          simp only [Raw.cells, g1 ks (i + 1) (by omega), ← hr, Raw.at, if_true]
        · obtain ⟨g1, g2⟩ := key ⟨r.x, r.y, r.z, fun j => if j = i then .slice a n c else r.v j⟩ (fun j hj => ⟨rfl, rfl, rfl, by simp; omega⟩)
          exact ⟨⟨a, n, c, by simp⟩, (g2 ks (i + 1) (by omega)).2 hf⟩

section
variable {P : Program} {W : World} {r : Reach} {base : Nat} {t : TypeId} {v : Value}

theorem cell_kind {u : TypeId} {k : K1} (hk : kOf P u = some k) (h : Cell.okWide P W r base u v) : k.is v := by
  unfold kOf at hk
  unfold Cell.okWide Cell.ok at h
  cases hu : P.underlying u with
  | none => simp [hu] at hk
  | some d =>
    rw [hu] at hk h
    cases d <;> simp only [Option.some.injEq, reduceCtorEq] at hk <;> subst hk <;> cases v <;> simp only at h <;> first | exact h.elim | skip
    · exact ⟨_, rfl⟩
    · obtain ⟨rfl, h⟩ := h; exact ⟨_, rfl, h⟩
    · exact ⟨_, rfl, h⟩

theorem row_raw {cs : Array Value} {ts : List TypeId} {ks : List K1} (hts : P.cellTypes P.depth t = some ts) (hks : ts.mapM (kOf P) = some ks) (hsz : cs.size = ts.length) (h : Row.okWide P W r base t cs) : ∃ q : Raw, cs = (q.cells ks 0).toArray ∧ q.fine ks 0 := by
  obtain ⟨ts', e, _, h⟩ := h
  rw [hts] at e
  obtain rfl : ts = ts' := by simpa using e
  have hlen : ∀ {l : List TypeId} {m : List K1}, l.mapM (kOf P) = some m → m.length = l.length ∧ ∀ (j : Nat) (u : TypeId) (k : K1), l[j]? = some u → m[j]? = some k → kOf P u = some k := by
    intro l
    induction l with
    | nil => intro m hm; simp at hm; subst hm; exact ⟨rfl, fun j u k h1 => by simp at h1⟩
    | cons a l ih =>
      intro m hm
      simp only [List.mapM_cons, Option.bind_eq_bind, Option.bind_eq_some_iff, Option.pure_def, Option.some.injEq] at hm
      obtain ⟨k0, h1, m', h2, rfl⟩ := hm
      obtain ⟨g1, g2⟩ := ih h2
      refine ⟨by simp [g1], fun j u k h3 h4 => ?_⟩
      cases j with
      | zero => simp at h3 h4; subst h3; subst h4; exact h1
      | succ j => exact g2 j u k (by simpa using h3) (by simpa using h4)
  obtain ⟨g1, g2⟩ := hlen hks
  obtain ⟨q, hq, hf⟩ := raw_of ks 0 cs.toList (by simp [hsz, g1]) (fun j v k hj hk => by
    have hj' : cs[j]? = some v := by simpa using hj
    have hjlt : j < ts.length := by rw [← hsz]; exact (Array.getElem?_eq_some_iff.1 hj').1
    obtain ⟨u, hu, hc⟩ := h j v hj'
    rw [Nat.mod_eq_of_lt hjlt] at hu
    exact cell_kind (g2 j u k hu hk) hc)
  exact ⟨q, by rw [← hq], hf⟩

def agDo : Option TypeDesc → Bool
  | some (.struct _) | some (.array _ _) => true
  | _ => false

/-- An argument of a struct's or an array's type. -/
theorem open_agg {ts : List TypeId} {ks : List K1} (hu : agDo (P.underlying t) = true) (hts : P.cellTypes P.depth t = some ts) (hks : ts.mapM (kOf P) = some ks) (hsz : P.cellsOf t = ts.length) (h : Value.okWide P W r base t v) :
    ∃ q : Raw, v = .agg (q.cells ks 0).toArray ∧ q.fine ks 0 := by
  unfold Value.okWide at h
  have key : (∃ cs, v = .agg cs ∧ cs.size = P.cellsOf t ∧ Row.okWide P W r base t cs) → ∃ q : Raw, v = .agg (q.cells ks 0).toArray ∧ q.fine ks 0 := by
    rintro ⟨cs, rfl, h1, h2⟩
    obtain ⟨q, rfl, hf⟩ := row_raw hts hks (by rw [h1, hsz]) h2
    exact ⟨q, rfl, hf⟩
  cases hd : P.underlying t with
  | none => rw [hd] at hu; cases hu
  | some d =>
    rw [hd] at h hu
    cases d <;> first | (cases hu; done) | exact key h

theorem open_sc {k : K1} (hk : kOf P t = some k) (h : Value.okWide P W r base t v) : k.is v := by
  refine cell_kind (W := W) (r := r) (base := base) hk ?_
  unfold Value.okWide at h
  unfold kOf at hk
  cases hd : P.underlying t with
  | none => rw [hd] at hk; cases hk
  | some d =>
    rw [hd] at h hk
    cases d <;> first | (cases hk; done) | exact h
end


theorem cells_append (q : Raw) : ∀ (a b : List K1) (o : Nat), q.cells (a ++ b) o = q.cells a o ++ q.cells b (o + a.length)
  | [], b, o => by simp [Raw.cells]
  | k :: a, b, o => by
    simp only [List.cons_append, Raw.cells, cells_append q a b (o + 1), List.length_cons]
    rw [show o + 1 + a.length = o + (a.length + 1) by omega]

def kVec : List K1 := List.replicate 8 (.i .i64)
theorem kVec_len : kVec.length = 8 := rfl
theorem gVec_flat (q : Raw) (o : Nat) : GV.flat (gVec fun j => q.x (o + j)) = q.cells kVec o := by
  simp [gVec, GV.flat, kVec, Raw.cells, Raw.at, List.replicate, List.range, List.range.loop]
def kVec2 : List K1 := kVec ++ kVec ++ kVec ++ kVec ++ kVec ++ kVec ++ kVec ++ kVec
theorem kVec2_len : kVec2.length = 64 := rfl
theorem gVec2_flat (q : Raw) (o : Nat) : GV.flat (gVec2 fun i j => q.x (o + i * 8 + j)) = q.cells kVec2 o := by
  have h : ∀ i, GV.flat (gVec fun j => q.x (o + i * 8 + j)) = q.cells kVec (o + i * 8) := fun i => gVec_flat q (o + i * 8)
  simp only [gVec2, GV.flat, List.range, List.range.loop, List.flatMap_cons, List.flatMap_nil, h, kVec2, cells_append, List.length_append, kVec_len]
  simp [Nat.add_assoc]

end Go.Proofs.YtnoeabmpdjpfaaaGreatDoor.Vc

/- What a law's arguments are: cells of structs, slices, slices in structs; and how large. -/
set_option linter.unusedVariables false
set_option linter.unusedSimpArgs false
namespace Go.Proofs.YtnoeabmpdjpfaaaGreatDoor.Vc
open Go Go.ChangeShapes Go.WideShapes Go.ChangeAt

def kFields (g : TypeId → Option (List K1)) (P : Program) : List Field → Nat → Option (List K1)
  | [], _ => some []
  | f :: fs, o => if f.offset = o then (g f.type).bind fun l => if l.length = P.cellsOf f.type then (kFields g P fs (o + l.length)).map (l ++ ·) else none else none

/-- The kinds of a type's cells. -/
def kAll (P : Program) : Nat → TypeId → Option (List K1)
  | 0, _ => none
  | n + 1, t => match P.underlying t with
    | some .bool => some [.b]
    | some (.int k) => some [.i k]
    | some .string => some [.s]
    | some (.slice _) => some [.sl t]
    | some (.struct fs) => (kFields (kAll P n) P fs.toList 0).bind fun l => if l.length = P.cellsOf t then some l else none
    | some (.array m e) => (kAll P n e).bind fun l => if l.length = P.cellsOf e ∧ m * P.cellsOf e = P.cellsOf t then some ((List.range m).flatMap fun _ => l) else none
    | _ => none

section
variable {H : Type} (enc : TypeId × Value → H) (P : Program) (W : World)

/-- A cell that reads, and is not too large. -/
def RdT (t : TypeId) (v : Value) : Prop := ∃ fuel x, DataW.trod enc P W 0 (fun _ => true) true fuel t [v] = some x ∧ (x.1.weights P t).all (· ≤ reachBytes) = true

def KOk (k : K1) (v : Value) : Prop := k.is v ∧ (∀ s, v = .string s → s.size ≤ reachBytes) ∧ ∀ t, k = .sl t → RdT enc P W t v
end

section
variable {H : Type} {enc : TypeId × Value → H} {P : Program} {W : World}

theorem wf_has {k : IntKind} {n : Int} (h : (Lit.int k n).wf = true) : k.has n := by
  simpa [Lit.wf, IntKind.has] using h

theorem all_sub {a b : List Nat} (h : b.all (· ≤ reachBytes) = true) (hs : ∀ x ∈ a, x ∈ b) : a.all (· ≤ reachBytes) = true := by
  rw [List.all_eq_true] at h ⊢
  exact fun x hx => h x (hs x hx)

theorem weightsEach_mem : ∀ {ts : List TypeId} {ds : List (DataW H)} {i : Nat} {t : TypeId} {d : DataW H}, ts[i]? = some t → ds[i]? = some d → ∀ x ∈ d.weights P t, x ∈ DataW.weightsEach P ts ds
  | [], _, i, _, _, h, _ => by simp at h
  | t :: ts, [], i, _, _, _, h => by simp at h
  | t :: ts, d :: ds, 0, _, _, h1, h2 => by
    simp at h1 h2; subst h1; subst h2
    intro x hx; simp [DataW.weightsEach, hx]
  | t :: ts, d :: ds, i + 1, _, _, h1, h2 => by
    intro x hx
    have := weightsEach_mem (ts := ts) (ds := ds) (i := i) (by simpa using h1) (by simpa using h2) x hx
    simp [DataW.weightsEach, this]
theorem weightsAll_mem {e : TypeId} : ∀ {ds : List (DataW H)} {d : DataW H}, d ∈ ds → ∀ x ∈ d.weights P e, x ∈ DataW.weightsAll P e ds
  | [], _, h => by simp at h
  | d :: ds, d', h => by
    intro x hx
    rcases List.mem_cons.1 h with rfl | h
    · simp [DataW.weightsAll, hx]
    · simp [DataW.weightsAll, weightsAll_mem h x hx]

def Kinds (ks : List K1) (cs : List Value) : Prop := cs.length = ks.length ∧ ∀ (j : Nat) (v : Value) (k : K1), cs[j]? = some v → ks[j]? = some k → KOk enc P W k v

theorem Kinds.app {a b : List K1} {cs : List Value} (h1 : Kinds (enc := enc) (P := P) (W := W) a (cs.take a.length)) (h2 : Kinds (enc := enc) (P := P) (W := W) b (cs.drop a.length)) : Kinds (enc := enc) (P := P) (W := W) (a ++ b) cs := by
  obtain ⟨l1, h1⟩ := h1
  obtain ⟨l2, h2⟩ := h2
  simp only [List.length_take, List.length_drop] at l1 l2
  refine ⟨by simp; omega, fun j v k hj hk => ?_⟩
  rcases Nat.lt_or_ge j a.length with hl | hl
  · rw [List.getElem?_append_left hl] at hk
    exact h1 j v k (by rw [List.getElem?_take_of_lt hl]; exact hj) hk
  · rw [List.getElem?_append_right hl] at hk
    exact h2 (j - a.length) v k (by rw [List.getElem?_drop, show a.length + (j - a.length) = j by omega]; exact hj) hk

theorem trod_kinds : ∀ (n : Nat) (fuel : Nat) (t : TypeId) (ks : List K1) (cs : List Value) (x : DataW H × List MemPlace), kAll P n t = some ks → DataW.trod enc P W 0 (fun _ => true) true fuel t cs = some x →
    (x.1.weights P t).all (· ≤ reachBytes) = true → Kinds (enc := enc) (P := P) (W := W) ks cs := by
  intro n
  induction n with
  | zero => intro fuel t ks cs x hk; cases hk
  | succ n ih =>
    intro fuel t ks cs x hk h hw
    unfold kAll at hk
    have single : ∀ (k : K1) (v : Value), KOk enc P W k v → Kinds (enc := enc) (P := P) (W := W) [k] [v] := fun k v hkv => by
      refine ⟨rfl, fun j v' k' hj hk' => ?_⟩
      cases j with
      | zero => simp at hj hk'; subst hj; subst hk'; exact hkv
      | succ j => simp at hj
    cases hu : P.underlying t with
    | none => rw [hu] at hk; cases hk
    | some d =>
      rw [hu] at hk
      cases d with
      | bool =>
        obtain ⟨b, rfl, rfl⟩ := DataW.trod_bool hu h
        simp at hk; subst hk
        exact single _ _ ⟨⟨b, rfl⟩, (fun s hs => by cases hs), fun t e => by cases e⟩
      | int k =>
        obtain ⟨m, rfl, rfl, hwf⟩ := DataW.trod_int hu h
        simp at hk; subst hk
        exact single _ _ ⟨⟨m, rfl, wf_has hwf⟩, (fun s hs => by cases hs), fun t e => by cases e⟩
      | string =>
        obtain ⟨s, rfl, rfl, hl⟩ := DataW.trod_string hu h
        simp at hk; subst hk
        have : s.size ≤ reachBytes := by simpa [DataW.weights] using hw
        exact single _ _ ⟨⟨s, rfl, by unfold reachBytes at this; show (s.size : Int) ≤ 9223372036854775807; omega⟩, (fun s' hs => by cases hs; exact this), fun t e => by cases e⟩
      | slice e =>
        have hcs : ∃ a n c, cs = [.slice a n c] := by
          rcases DataW.trod_slice hu h with ⟨rfl, _⟩ | ⟨a, len, cap, _, _, _, _, rfl, _⟩
          · exact ⟨_, _, _, rfl⟩
          · exact ⟨_, _, _, rfl⟩
        obtain ⟨a, m, c, rfl⟩ := hcs
        simp at hk; subst hk
        refine single _ _ ⟨⟨a, m, c, rfl⟩, (fun s hs => by cases hs), fun t' e' => ?_⟩
        cases e'
        exact ⟨fuel, x, h, hw⟩
      | struct fs =>
        simp only [Option.bind_eq_some_iff] at hk
        obtain ⟨l, hl, hk⟩ := hk
        split at hk
        · rename_i hlen
          simp at hk; subst hk
          obtain ⟨xs, m, _, rfl, hcl, hxl, hf⟩ := DataW.trod_struct hu h
          simp only [DataW.weights, hu] at hw
          have key : ∀ (gs : List Field) (i o : Nat) (l' : List K1), (∀ k f, gs[k]? = some f → fs[i + k]? = some f) → i + gs.length = fs.size → kFields (kAll P n) P gs o = some l' → (cs.drop o).length = l'.length → Kinds (enc := enc) (P := P) (W := W) l' (cs.drop o) := by
            intro gs
            induction gs with
            | nil =>
              intro i o l' _ _ hl' hlen'
              simp [kFields] at hl'; subst hl'
              have : cs.drop o = [] := List.length_eq_zero_iff.mp (by simpa using hlen')
              rw [this]
              exact ⟨rfl, fun j v k hj => by simp at hj⟩
            | cons f gs ihg =>
              intro i o l' hgs hi hl' hlen'
              simp only [kFields] at hl'
              split at hl'
              · rename_i hoff
                simp only [Option.bind_eq_some_iff] at hl'
                obtain ⟨a, ha, hl'⟩ := hl'
                split at hl'
                · rename_i hal
                  simp only [Option.map_eq_some_iff] at hl'
                  obtain ⟨b, hb, rfl⟩ := hl'
                  have hfi := hgs 0 f rfl
                  rw [Nat.add_zero] at hfi
                  have hlt : i < fs.size := by simp at hi; omega
                  have ht := hf i f hfi
                  rw [List.getElem?_eq_getElem (by omega : i < xs.length)] at ht
                  have hk1 := ih m f.type a _ _ ha ht (all_sub hw (fun y hy => weightsEach_mem (i := i) (t := f.type) (d := xs[i].1) (by simp [hfi]) (by simp [List.getElem?_eq_getElem (by omega : i < xs.length)]) y hy))
                  rw [hoff, ← hal] at hk1
                  refine Kinds.app hk1 ?_
                  rw [List.drop_drop]
                  simp only [List.length_append] at hlen'
                  refine ihg (i + 1) (o + a.length) b (fun k f' hk' => ?_) (by simp at hi; omega) hb (by simp only [List.length_drop] at hlen' ⊢; omega)
                  have := hgs (k + 1) f' (by simpa using hk')
                  rw [show i + (k + 1) = i + 1 + k by omega] at this
                  exact this
                · cases hl'
              · cases hl'
          have := key fs.toList 0 0 l (fun k f hk => by simpa using hk) (by simp) hl (by simp [hcl, hlen])
          simpa using this
        · cases hk
      | array m e =>
        simp only [Option.bind_eq_some_iff] at hk
        obtain ⟨l, hl, hk⟩ := hk
        split at hk
        · rename_i hlen
          simp at hk; subst hk
          obtain ⟨xs, q, _, rfl, hcl, hxl, hf⟩ := DataW.trod_array hu h
          simp only [DataW.weights, hu] at hw
          have key : ∀ (r i : Nat), i + r = m → Kinds (enc := enc) (P := P) (W := W) ((List.range r).flatMap fun _ => l) (cs.drop (i * P.cellsOf e)) := by
            intro r
            induction r with
            | zero =>
              intro i hi
              have : cs.drop (i * P.cellsOf e) = [] := List.drop_eq_nil_of_le (by rw [hcl, ← hlen.2, show i = m by omega]; exact Nat.le_refl _)
              rw [this]
              exact ⟨rfl, fun j v k hj => by simp at hj⟩
            | succ r ihr =>
              intro i hi
              have hlt : i < xs.length := by omega
              have ht := hf i (by omega)
              rw [List.getElem?_eq_getElem hlt] at ht
              have hk1 := ih q e l _ _ hl ht (all_sub hw (fun y hy => weightsAll_mem (d := xs[i].1) (List.mem_map.2 ⟨xs[i], List.getElem_mem hlt, rfl⟩) y hy))
              have hr : (List.range (r + 1)).flatMap (fun _ => l) = l ++ (List.range r).flatMap (fun _ => l) := by
                rw [List.range_succ_eq_map, List.flatMap_cons, List.flatMap_map]
              rw [hr]
              rw [← hlen.1] at hk1
              refine Kinds.app (by rw [← hlen.1]; exact hk1) ?_
              rw [List.drop_drop, ← hlen.1]
              have := ihr (i + 1) (by omega)
              rw [← hlen.1, Nat.add_mul, Nat.one_mul] at this
              exact this
          have := key m 0 (by omega)
          simpa using this
        · cases hk
      | _ => cases hk

theorem cells_get (q : Raw) : ∀ (ks : List K1) (i j : Nat) (k : K1), ks[j]? = some k → (q.cells ks i)[j]? = some (q.at (i + j) k)
  | [], i, j, k, h => by simp at h
  | k0 :: ks, i, 0, k, h => by simp at h; subst h; rfl
  | k0 :: ks, i, j + 1, k, h => by
    have := cells_get q ks (i + 1) j k (by simpa using h)
    simp only [Raw.cells, List.getElem?_cons_succ, this]
    rw [show i + 1 + j = i + (j + 1) by omega]

/-- All about a plain struct's cells. -/
def Fine (enc : TypeId × Value → H) (P : Program) (W : World) (ks : List K1) (q : Raw) : Prop := ∀ (j : Nat) (k : K1), ks[j]? = some k → KOk enc P W k (q.at j k)

theorem kinds_raw {ks : List K1} {cs : List Value} (h : Kinds (enc := enc) (P := P) (W := W) ks cs) : ∃ q : Raw, cs = q.cells ks 0 ∧ Fine enc P W ks q := by
  obtain ⟨q, hq, _⟩ := raw_of ks 0 cs h.1 fun j v k hj hk => (h.2 j v k hj hk).1
  refine ⟨q, hq, fun j k hk => ?_⟩
  have := cells_get q ks 0 j k hk
  rw [Nat.zero_add] at this
  exact h.2 j _ k (by rw [hq]; exact this) hk

theorem Fine.int {ks : List K1} {q : Raw} (h : Fine enc P W ks q) {j : Nat} {k : IntKind} (hk : ks[j]? = some (.i k)) : k.has (q.x j) := by
  obtain ⟨n, h1, h2⟩ := (h j _ hk).1
  simp only [Raw.at, Value.int.injEq, true_and] at h1
  rw [h1]; exact h2
theorem Fine.str {ks : List K1} {q : Raw} (h : Fine enc P W ks q) {j : Nat} (hk : ks[j]? = some .s) : (q.y j).size ≤ reachBytes := (h j _ hk).2.1 _ rfl
theorem Fine.rd {ks : List K1} {q : Raw} (h : Fine enc P W ks q) {j : Nat} {t : TypeId} (hk : ks[j]? = some (.sl t)) : RdT enc P W t (q.v j) := (h j _ hk).2.2 t rfl
theorem Fine.slv {ks : List K1} {q : Raw} (h : Fine enc P W ks q) {j : Nat} {t : TypeId} (hk : ks[j]? = some (.sl t)) : (q.v j).oneCell' = true := by
  obtain ⟨a, n, c, e⟩ := (h j _ hk).1
  simp only [Raw.at] at e
  rw [e]; rfl

theorem choose_le {α : Type} {p : Nat → α → Prop} (d : α) : ∀ n, (∀ i, i < n → ∃ x, p i x) → ∃ f : Nat → α, ∀ i, i < n → p i (f i)
  | 0, _ => ⟨fun _ => d, fun i h => by omega⟩
  | n + 1, h => by
    obtain ⟨f, hf⟩ := choose_le d n fun i hi => h i (by omega)
    obtain ⟨x, hx⟩ := h n (by omega)
    refine ⟨fun i => if i = n then x else f i, fun i hi => ?_⟩
    by_cases e : i = n
    · subst e; simpa using hx
    · simp only [e, if_false]; exact hf i (by omega)

theorem flats_get {z : Nat} {n : Nat} {g : Nat → GV} (hz : ∀ i, i < n → (GV.flat (g i)).length = z) {j : Nat} {v : Value} (h : (flats ((List.range n).map g))[j]? = some v) : ∃ i k, i < n ∧ j = i * z + k ∧ k < z ∧ (GV.flat (g i))[k]? = some v := by
  have key : ∀ (r b j : Nat), b + r = n → (flats ((List.range' b r).map g))[j]? = some v → ∃ i k, i < n ∧ j + b * z = i * z + k ∧ k < z ∧ (GV.flat (g i))[k]? = some v := by
    intro r
    induction r with
    | zero => intro b j _ h; simp [flats] at h
    | succ r ih =>
      intro b j hb h
      have e : flats ((List.range' b (r + 1)).map g) = GV.flat (g b) ++ flats ((List.range' (b + 1) r).map g) := by simp [List.range'_succ, flats]
      rw [e] at h
      have hl := hz b (by omega)
      rcases Nat.lt_or_ge j (GV.flat (g b)).length with hj | hj
      · rw [List.getElem?_append_left hj] at h
        exact ⟨b, j, by omega, by omega, by omega, h⟩
      · rw [List.getElem?_append_right hj] at h
        obtain ⟨i, k, h1, h2, h3, h4⟩ := ih (b + 1) _ (by omega) h
        refine ⟨i, k, h1, ?_, h3, h4⟩
        rw [Nat.add_mul, Nat.one_mul] at h2
        omega
  rw [List.range_eq_range'] at h
  obtain ⟨i, k, h1, h2, h3, h4⟩ := key n 0 j (by omega) h
  exact ⟨i, k, h1, by omega, h3, h4⟩

/-- A slice of plain structs. -/
theorem rd_slice {t e : TypeId} {n0 : Nat} {ks : List K1} {v : Value} {g : Raw → GV} (ht : P.underlying t = some (.slice e)) (hk : kAll P n0 e = some ks) (hn : ks.length = P.cellsOf e) (h0 : 0 < P.cellsOf e) (hflat : ∀ q, (g q).flat = q.cells ks 0)
    (hok : ∀ q, (∀ j t', ks[j]? = some (.sl t') → (q.v j).oneCell' = true) → (g q).ok) (hsz : ∀ q, (g q).sz = P.cellsOf e) (h : RdT enc P W t v) :
    ∃ l : List Raw, SlR W.ph v (P.cellsOf e) (l.map g) ∧ l.length * P.bytesOf e ≤ reachBytes ∧ ∀ q ∈ l, Fine enc P W ks q := by
  obtain ⟨fuel, x, hx, hw⟩ := h
  rcases Go.Deep.open_slice ht hx with ⟨hv, rfl⟩ | ⟨a, len, cap, m, n, D, Pl, hv, _, hlc, _, hm, rfl, hel⟩
  · simp at hv; subst hv
    exact ⟨[], ⟨fun x hx => by simp at hx, .inl ⟨rfl, rfl⟩⟩, by simp, fun q hq => by simp at hq⟩
  · simp at hv; subst hv
    simp only [if_true] at hm
    subst hm
    simp only [DataW.weights, ht, List.all_cons, Bool.and_eq_true, decide_eq_true_eq, List.length_map, List.length_range] at hw
    obtain ⟨q, hq⟩ := choose_le (p := fun i q => W.cells? 0 (a.add (i * P.cellsOf e)) (P.cellsOf e) = some (Raw.cells q ks 0) ∧ Fine enc P W ks q) ⟨fun _ => 0, fun _ => ⟨#[]⟩, fun _ => false, fun _ => undef⟩ len fun i hi => by
      obtain ⟨cs', h1, h2⟩ := hel i (by omega)
      have hw' : ((D i).weights P e).all (· ≤ reachBytes) = true := all_sub hw.2 fun y hy => by
        refine List.mem_append_left _ (weightsAll_mem (d := D i) ?_ y hy)
        exact List.mem_map.2 ⟨i, List.mem_range.2 hi, rfl⟩
      obtain ⟨q, hq, hf⟩ := kinds_raw (trod_kinds n0 n e ks cs' _ hk h2 hw')
      exact ⟨q, by rw [← hq]; exact h1, hf⟩
    refine ⟨(List.range len).map q, ⟨fun y hy => ?_, ?_⟩, ?_, fun y hy => ?_⟩
    · rw [List.map_map] at hy
      obtain ⟨i, hi, rfl⟩ := List.mem_map.1 hy
      exact ⟨hok _ fun j t' hj => (hq i (List.mem_range.1 hi)).2.slv hj, hsz _⟩
    · refine .inr ⟨a, m, by simp, by simpa using hlc, fun hc => ?_⟩
      obtain ⟨cs0, h1, _⟩ := hel 0 hc
      obtain ⟨_, hl0, hc0⟩ := World.cells?_some h1
      have hblk : ∃ cs e' fz, a.spot = none ∧ W.heap[a.block]? = some (.cells cs e' fz) := by
        have h2 := hc0 0 h0
        rw [List.getElem?_eq_getElem (by omega)] at h2
        have hab : (a.add (0 * P.cellsOf e)).add 0 = a := by simp [Addr.add]
        rw [hab] at h2
        unfold World.cell? at h2
        split at h2
        · rename_i c ty fz hb
          split at h2
          · cases h2
          · rename_i hs
            exact ⟨c, ty, fz, by simpa using hs, hb⟩
        · cases h2
      obtain ⟨cs, e', fz, hsp, hb⟩ := hblk
      refine ⟨cs, e', fz, hsp, hb, fun j v hj => ?_⟩
      rw [List.map_map] at hj
      obtain ⟨i, k, hi, rfl, hkz, hv⟩ := flats_get (z := P.cellsOf e) (g := g ∘ q) (fun i hi => by
        simp only [Function.comp, hflat]
        have := (hq i hi).1
        obtain ⟨_, hl, _⟩ := World.cells?_some this
        exact hl) hj
      obtain ⟨h1, _⟩ := hq i hi
      obtain ⟨_, hl, hc⟩ := World.cells?_some h1
      have h2 := hc k hkz
      simp only [Function.comp, hflat] at hv
      rw [hv] at h2
      unfold World.cell? at h2
      obtain ⟨b, o, sp⟩ := a
      simp only at hsp hb
      subst hsp
      rw [addr_add, addr_add] at h2
      simp only [hb] at h2
      simpa [Nat.add_assoc] using h2
    · simp only [List.length_map, List.length_range]
      have := hw.1
      have : len * P.bytesOf e ≤ (len + (m - len)) * P.bytesOf e := Nat.mul_le_mul_right _ (by omega)
      omega
    · obtain ⟨i, hi, rfl⟩ := List.mem_map.1 hy
      exact (hq i (List.mem_range.1 hi)).2

/-! ### A law's arguments -/
/-- An argument that reads. -/
def RdV (enc : TypeId × Value → H) (P : Program) (W : World) (t : TypeId) (v : Value) : Prop := ∃ fuel x, DataW.trod enc P W 0 (fun _ => true) true fuel t v.cells.toList = some x ∧ (x.1.weights P t).all (· ≤ reachBytes) = true

def RdVs (enc : TypeId × Value → H) (P : Program) (W : World) (base : Nat) : List TypeId → List Value → Prop
  | [], [] => True
  | t :: ts, v :: vs => (RdV enc P W t v ∧ Value.okWide P W .any base t v) ∧ RdVs enc P W base ts vs
  | _, _ => False

theorem args_rd {base : Nat} : ∀ {ts : List TypeId} {vs : List Value} {ds : List (DataW H)} {ps : List MemPlace}, (∀ (j : Nat) t v, ts[j]? = some t → vs[j]? = some v → Value.okWide P W .any base t v) →
    DataW.TrodAll enc P W 0 (fun _ => true) true ts vs ds ps → (DataW.weightsEach P ts ds).all (· ≤ reachBytes) = true → RdVs enc P W base ts vs
  | [], vs, ds, ps, _, h, _ => by
    match vs, ds, h with
    | [], [], _ => trivial
  | t :: ts, vs, ds, ps, hv, h, hw => by
    obtain ⟨v, vs', d, ds', p, q, rfl, rfl, rfl, ⟨fuel, h3⟩, h4⟩ := trodAll_cons h
    simp only [DataW.weightsEach, List.all_append, Bool.and_eq_true] at hw
    exact ⟨⟨⟨fuel, _, h3, hw.1⟩, hv 0 t v rfl rfl⟩, args_rd (fun j t v h1 h2 => hv (j + 1) t v (by simpa using h1) (by simpa using h2)) h4 hw.2⟩

theorem rdvs_cons {base : Nat} {t : TypeId} {ts : List TypeId} {vs : List Value} (h : RdVs enc P W base (t :: ts) vs) : ∃ v vs', vs = v :: vs' ∧ RdV enc P W t v ∧ Value.okWide P W .any base t v ∧ RdVs enc P W base ts vs' := by
  cases vs with
  | nil => exact h.elim
  | cons v vs => exact ⟨v, vs, rfl, h.1.1, h.1.2, h.2⟩
theorem rdvs_nil {base : Nat} {vs : List Value} (h : RdVs enc P W base [] vs) : vs = [] := by
  cases vs with
  | nil => rfl
  | cons v vs => exact h.elim

/-- A struct. -/
theorem rdv_agg {base : Nat} {t : TypeId} {v : Value} {n0 : Nat} {ks : List K1} {g : Raw → GV} (hu : agDo (P.underlying t) = true) (hk : kAll P n0 t = some ks) (hflat : ∀ q, (g q).flat = q.cells ks 0) (hs : ∀ q v, g q ≠ .s v)
    (h : RdV enc P W t v) (hv : Value.okWide P W .any base t v) : ∃ q : Raw, v = (g q).val ∧ Fine enc P W ks q := by
  obtain ⟨fuel, x, hx, hw⟩ := h
  obtain ⟨q, hq, hf⟩ := kinds_raw (trod_kinds n0 fuel t ks _ _ hk hx hw)
  refine ⟨q, ?_, hf⟩
  have : ∃ cs, v = .agg cs := by
    unfold Value.okWide at hv
    cases hd : P.underlying t with
    | none => rw [hd] at hu; cases hu
    | some d =>
      rw [hd] at hv hu
      cases d <;> first | (cases hu; done) | (obtain ⟨cs, rfl, _⟩ := hv; exact ⟨cs, rfl⟩)
  obtain ⟨cs, rfl⟩ := this
  simp only [Value.cells] at hq
  rw [show (g q).val = .agg ((g q).flat).toArray by
    have := hs q
    cases hg : g q with
    | s v => exact absurd hg (this v)
    | u => rfl
    | c a b => rfl
    | ar a b c => rfl]
  rw [hflat, ← hq]

theorem cells_one {v w : Value} (h : v.cells.toList = [w]) (hv : ∀ cs, v ≠ .agg cs) : v = w := by
  cases v <;> first | (simpa [Value.cells] using h) | exact absurd rfl (hv _)

theorem ok_noagg {base : Nat} {t : TypeId} {v : Value} {d : TypeDesc} (hu : P.underlying t = some d) (hd : agDo (some d) = false) (hv : Value.okWide P W .any base t v) : ∀ cs, v ≠ .agg cs := by
  intro cs e
  subst e
  unfold Value.okWide at hv
  rw [hu] at hv
  cases d <;> first | (cases hd; done) | (simp only [Cell.okWide, Cell.ok, hu] at hv)

/-- A number, a string, a bool. -/
theorem rdv_sc {base : Nat} {t : TypeId} {v : Value} {k : K1} (hk : kAll P 1 t = some [k]) (ha : agDo (P.underlying t) = false) (h : RdV enc P W t v) (hv : Value.okWide P W .any base t v) : KOk enc P W k v := by
  obtain ⟨fuel, x, hx, hw⟩ := h
  have hK := trod_kinds 1 fuel t [k] _ _ hk hx hw
  have hl := hK.1
  match hc : v.cells.toList, hl with
  | [w], _ =>
    have hu : ∃ d, P.underlying t = some d := by
      cases hd : P.underlying t with
      | none => simp [kAll, hd] at hk
      | some d => exact ⟨d, rfl⟩
    obtain ⟨d, hu⟩ := hu
    rw [hu] at ha
    have := cells_one hc (ok_noagg hu ha hv)
    subst this
    exact hK.2 0 v k (by rw [hc]; rfl) rfl

/-- A slice as an argument. -/
theorem rdv_slice {base : Nat} {t e : TypeId} {v : Value} (ht : P.underlying t = some (.slice e)) (h : RdV enc P W t v) (hv : Value.okWide P W .any base t v) : RdT enc P W t v := by
  obtain ⟨fuel, x, hx, hw⟩ := h
  have hcs : ∃ w, v.cells.toList = [w] := by
    rcases DataW.trod_slice ht hx with ⟨h1, _⟩ | ⟨a, len, cap, _, _, _, _, h1, _⟩
    · exact ⟨_, h1⟩
    · exact ⟨_, h1⟩
  obtain ⟨w, hc⟩ := hcs
  have := cells_one hc (ok_noagg ht rfl hv)
  subst this
  exact ⟨fuel, x, by rw [← hc]; exact hx, hw⟩
end
end Go.Proofs.YtnoeabmpdjpfaaaGreatDoor.Vc

/- A law's row out of its contract. -/
set_option linter.unusedVariables false
set_option linter.unusedSimpArgs false
namespace Go.Proofs.YtnoeabmpdjpfaaaGreatDoor.Vc
open Go Go.ChangeShapes Go.WideShapes Go.ChangeAt

theorem trodAll_len {H : Type} {enc : TypeId × Value → H} {P : Program} {W : World} : ∀ {ts : List TypeId} {vs : List Value} {ds : List (DataW H)} {ps : List MemPlace}, DataW.TrodAll enc P W 0 (fun _ => true) true ts vs ds ps → ds.length = ts.length
  | [], vs, ds, ps, h => by
    match vs, ds, h with
    | [], [], _ => rfl
  | t :: ts, vs, ds, ps, h => by
    obtain ⟨v, vs', d, ds', p, q, rfl, rfl, rfl, _, h4⟩ := trodAll_cons h
    simp [trodAll_len h4]

theorem law_lifted {C : Checked} {os : Os} {f : FuncId} {fn : Func} {s : ChangeSpec} {conds : List PathCond} {H : Type} {enc : TypeId × Value → H} {tb : TypeId} {ts : List TypeId}
    (own : ownKnob C.prog.godebug = none) (hl : laidOutB C.prog = true) (started : os.Started) (noInit : C.prog.inits.idxOf? f = none) (hfn : C.prog.funcs[f]? = some fn)
    (witness : ∃ (w : World) (tape : Tape) (i : Input), w.os = os ∧ (w.forCall tape i).Shaped C.prog ∧ i.vars = [] ∧ Input.okWide C.prog (w.forCall tape i) .any w.heap.size f i ∧
      s.pre6 enc C.prog fn conds false (w.forCall tape i).memory i.args ∧ ({} : Assume).holds C.prog (lone (Frame.enter C.prog f i.args .normal) [] (w.forCall tape i)))
    (hr : (fn.params.toList.all fun t => C.prog.readableRec t && decide (t < C.prog.types.size)) = true) (hv : s.vars = []) (hres : fn.resultTypes = #[tb]) (htb : C.prog.underlying tb = some .bool)
    (hts : fn.params.toList = ts) (hs : ∀ ds : List (DataW H), ds.length = ts.length → s.fn H ds = { results := [.lit (.bool true)], args := ds })
    (h : ∀ W base vs, RdVs enc C.prog W base ts vs → W.ShapedOpen C.prog → Spec C.prog f vs PH.no W fun rs _ => rs = [.s (.bool true)]) :
    ReturnsInHanded {} C os f .any (s.pre6 enc C.prog fn conds false) (s.post enc C.prog fn false true false false) := by
  refine returnsInHanded_of_change_shaped own started noInit hfn witness ?_
  intro W base args ds gs before hval hW hcnd hwt hsh _
  have hW' := hW
  obtain ⟨p, q, hA, hV, rfl, hfz, hnd⟩ := hW'
  rw [hv] at hV
  obtain ⟨rfl, rfl⟩ := trodVars_none hV
  have hvt : s.plain.varTypes C.prog = [] := by
    have : s.plain.vars = [] := hv
    simp [DataSpec.varTypes, this]
  rw [hvt, List.append_nil, List.append_nil] at hwt
  have hlen := trodAll_len hA
  exact (contract_true (again := false) hl hr hv hres htb (by rw [List.append_nil]; exact hs ds (by rw [hlen, hts])) hW (h W base args.toList (hts ▸ args_rd (fun j t v h1 h2 => hval j t v (by simpa using h1) (by simpa using h2)) hA hwt) hsh)).mono fun e W' ⟨v, h1, h2, _⟩ => ⟨v, h1, h2⟩
end Go.Proofs.YtnoeabmpdjpfaaaGreatDoor.Vc

/- A law's row out of its contract, where what is read is of bounded bulk; over listed variables. -/
set_option linter.unusedVariables false
set_option linter.unusedSimpArgs false
namespace Go.Proofs.YtnoeabmpdjpfaaaGreatDoor.Vc
open Go Go.Proofs Go.Proofs.YtnoeabmpdjpfaaaGreatDoor Go.ChangeShapes Go.WideShapes Go.ChangeAt

section
variable {H : Type} {enc : TypeId × Value → H} {P : Program} {W : World}

theorem bulk_one_le (d : DataW H) : 1 ≤ Rows.uptoBulk d := by
  cases d with
  | lit l => cases l <;> simp [Rows.uptoBulk]
  | _ => simp [Rows.uptoBulk]
theorem bulk_app (l r : List (DataW H)) : Rows.uptoBulkAll (l ++ r) = Rows.uptoBulkAll l + Rows.uptoBulkAll r := by
  induction l with
  | nil => simp [Rows.uptoBulkAll]
  | cons x l ih => simp only [List.cons_append, Rows.uptoBulkAll, ih]; omega

/-- An argument that reads, of so much bulk. -/
def RdB (enc : TypeId × Value → H) (P : Program) (W : World) (t : TypeId) (v : Value) (n : Nat) : Prop := ∃ fuel x, DataW.trod enc P W 0 (fun _ => true) true fuel t v.cells.toList = some x ∧ (x.1.weights P t).all (· ≤ reachBytes) = true ∧ Rows.uptoBulk x.1 = n
def RdBs (enc : TypeId × Value → H) (P : Program) (W : World) (base : Nat) : List TypeId → List Value → Nat → Prop
  | [], [], _ => True
  | t :: ts, v :: vs, n => ∃ a b, a + b ≤ n ∧ (RdB enc P W t v a ∧ Value.okWide P W .any base t v) ∧ RdBs enc P W base ts vs b
  | _, _, _ => False
theorem RdB.v {t : TypeId} {v : Value} {n : Nat} (h : RdB enc P W t v n) : RdV enc P W t v := by
  obtain ⟨fuel, x, h1, h2, _⟩ := h
  exact ⟨fuel, x, h1, h2⟩

theorem args_rdb {base : Nat} : ∀ {ts : List TypeId} {vs : List Value} {ds : List (DataW H)} {ps : List MemPlace} {n : Nat}, (∀ (j : Nat) t v, ts[j]? = some t → vs[j]? = some v → Value.okWide P W .any base t v) →
    DataW.TrodAll enc P W 0 (fun _ => true) true ts vs ds ps → (DataW.weightsEach P ts ds).all (· ≤ reachBytes) = true → Rows.uptoBulkAll ds ≤ n → RdBs enc P W base ts vs n
  | [], vs, ds, ps, n, _, h, _, _ => by
    match vs, ds, h with
    | [], [], _ => trivial
  | t :: ts, vs, ds, ps, n, hv, h, hw, hn => by
    obtain ⟨v, vs', d, ds', p, q, rfl, rfl, rfl, ⟨fuel, h3⟩, h4⟩ := trodAll_cons h
    simp only [DataW.weightsEach, List.all_append, Bool.and_eq_true] at hw
    simp only [Rows.uptoBulkAll] at hn
    exact ⟨Rows.uptoBulk d, Rows.uptoBulkAll ds', hn, ⟨⟨fuel, _, h3, hw.1, rfl⟩, hv 0 t v rfl rfl⟩, args_rdb (fun j t v h1 h2 => hv (j + 1) t v (by simpa using h1) (by simpa using h2)) h4 hw.2 (Nat.le_refl _)⟩

theorem rdbs_cons {base : Nat} {t : TypeId} {ts : List TypeId} {vs : List Value} {n : Nat} (h : RdBs enc P W base (t :: ts) vs n) : ∃ v vs' a b, vs = v :: vs' ∧ a + b ≤ n ∧ RdB enc P W t v a ∧ Value.okWide P W .any base t v ∧ RdBs enc P W base ts vs' b := by
  cases vs with
  | nil => exact h.elim
  | cons v vs =>
    obtain ⟨a, b, h1, h2, h3⟩ := h
    exact ⟨v, vs, a, b, rfl, h1, h2.1, h2.2, h3⟩
theorem rdbs_nil {base : Nat} {vs : List Value} {n : Nat} (h : RdBs enc P W base [] vs n) : vs = [] := by
  cases vs with
  | nil => rfl
  | cons v vs => exact h.elim

/-- A string. -/
theorem rdb_str {base : Nat} {t : TypeId} {v : Value} {n : Nat} (ht : P.underlying t = some .string) (h : RdB enc P W t v n) (hv : Value.okWide P W .any base t v) : ∃ s : ByteArray, v = .string s ∧ s.size + 1 = n := by
  obtain ⟨fuel, x, hx, _, hn⟩ := h
  obtain ⟨s, hc, rfl, _⟩ := DataW.trod_string ht hx
  have := cells_one hc (ok_noagg ht rfl hv)
  subst this
  refine ⟨s, rfl, ?_⟩
  rw [← hn]
  simp only [Rows.uptoBulk, Array.length_toList]
  rfl
/-- Strings. -/
theorem rdb_strs {base : Nat} {t e : TypeId} {v : Value} {n : Nat} (ht : P.underlying t = some (.slice e)) (he : P.underlying e = some .string) (hc : P.cellsOf e = 1) (h : RdB enc P W t v n) (hv : Value.okWide P W .any base t v) :
    ∃ ps : List ByteArray, SlR W.ph v 1 (ps.map fun s => .s (.string s)) ∧ (ps.map ByteArray.size).sum + ps.length ≤ n := by
  obtain ⟨fuel, x, hx, _, hn⟩ := h
  have hw1 : ∃ w, v.cells.toList = [w] := by
    rcases DataW.trod_slice ht hx with ⟨h1, _⟩ | ⟨a, len, cap, _, _, _, _, h1, _⟩
    · exact ⟨_, h1⟩
    · exact ⟨_, h1⟩
  obtain ⟨w, hcl⟩ := hw1
  have := cells_one hcl (ok_noagg ht rfl hv)
  subst this
  rw [hcl] at hx
  rcases Go.Deep.open_slice1 ht hc hx with ⟨hv', rfl⟩ | ⟨a, len, cap, m, k, V, D, Pl, hv', _, hlc, _, hm, rfl, hel⟩
  · simp at hv'; subst hv'
    exact ⟨[], ⟨fun x hx => by simp at hx, .inl ⟨rfl, rfl⟩⟩, by simp⟩
  · simp at hv'; subst hv'
    simp only [if_true] at hm
    subst hm
    have hs : ∀ i, i < m → ∃ s : ByteArray, V i = .string s ∧ D i = .lit (.string s.data.toList) := by
      intro i hi
      obtain ⟨s, h1, h2, _⟩ := DataW.trod_string he (hel i hi).2
      simp only [List.cons.injEq, and_true] at h1
      exact ⟨s, h1, by simpa using congrArg Prod.fst h2⟩
    obtain ⟨f, hf⟩ := choose_le (p := fun i s => V i = .string s ∧ D i = .lit (.string s.data.toList)) (⟨#[]⟩ : ByteArray) m hs
    refine ⟨(List.range len).map f, ⟨fun y hy => ?_, .inr ⟨a, m, by simp, by simpa using hlc, fun h0 => ?_⟩⟩, ?_⟩
    · rw [List.map_map] at hy
      obtain ⟨i, _, rfl⟩ := List.mem_map.1 hy
      exact ⟨rfl, rfl⟩
    · obtain ⟨h1, _⟩ := hel 0 h0
      have hblk : ∃ cs e' fz, a.spot = none ∧ W.heap[a.block]? = some (.cells cs e' fz) := by
        have hab : a.add 0 = a := by simp [Addr.add]
        rw [hab] at h1
        unfold World.cell? at h1
        split at h1
        · rename_i c ty fz hb
          split at h1
          · cases h1
          · rename_i hs'
            exact ⟨c, ty, fz, by simpa using hs', hb⟩
        · cases h1
      obtain ⟨cs, e', fz, hsp, hb⟩ := hblk
      refine ⟨cs, e', fz, hsp, hb, fun j y hj => ?_⟩
      rw [List.map_map] at hj
      obtain ⟨i, k', hi, rfl, hk, hy⟩ := flats_get (z := 1) (g := (fun s : ByteArray => GV.s (.string s)) ∘ f) (fun i hi => rfl) hj
      obtain rfl : k' = 0 := by omega
      simp only [Function.comp, GV.flat, List.getElem?_cons_zero, Option.some.injEq] at hy
      subst hy
      have h2 := (hel i (by omega)).1
      rw [(hf i (by omega)).1] at h2
      unfold World.cell? at h2
      obtain ⟨b, o, sp⟩ := a
      simp only at hsp hb
      subst hsp
      rw [addr_add] at h2
      simp only [hb] at h2
      simpa [Nat.add_assoc] using h2
    · rw [← hn]
      have key : ∀ (r b : Nat), b + r ≤ m → Rows.uptoBulkAll ((List.range' b r).map D) = (((List.range' b r).map f).map ByteArray.size).sum + r := by
        intro r
        induction r with
        | zero => intro b _; simp [Rows.uptoBulkAll]
        | succ r ih =>
          intro b hb
          have := ih (b + 1) (by omega)
          rw [List.range'_succ]
          simp only [List.map_cons, Rows.uptoBulkAll, List.sum_cons, this, (hf b (by omega)).2, Rows.uptoBulk]
          have : (f b).data.toList.length = (f b).size := Array.length_toList
          omega
      have := key len 0 (by omega)
      rw [← List.range_eq_range'] at this
      simp only [Rows.uptoBulk, this, List.length_map, List.length_range]
      omega
end

theorem law_lifted_upto {C : Checked} {os : Os} {f : FuncId} {fn : Func} {s : ChangeSpec} {H : Type} {enc : TypeId × Value → H} {tb : TypeId} {ts : List TypeId} {laid : List (String × DataW Unit)} {F : Stop.Interp}
    (own : ownKnob C.prog.godebug = none) (hl : laidOutB C.prog = true) (started : os.Started) (noInit : C.prog.inits.idxOf? f = none) (hfn : C.prog.funcs[f]? = some fn)
    (witness : ∃ (w : World) (tape : Tape) (i : Input), w.os = os ∧ (w.forCall tape i).Shaped C.prog ∧ i.vars = [] ∧ Input.okWide C.prog (w.forCall tape i) .any w.heap.size f i ∧
      (Rows.OpenSpec.upto s).preRow enc C.prog fn [] false laid (w.forCall tape i).memory i.args ∧ ({} : Assume).holds C.prog (lone (Frame.enter C.prog f i.args .normal) [] (w.forCall tape i)))
    (hr : (fn.params.toList.all fun t => C.prog.readableRec t && decide (t < C.prog.types.size)) = true) (hv : s.vars = []) (hres : fn.resultTypes = #[tb]) (htb : C.prog.underlying tb = some .bool)
    (hts : fn.params.toList = ts) (hs : ∀ ds : List (DataW H), ds.length = ts.length → s.fn H ds = { results := [.lit (.bool true)], args := ds })
    (h : ∀ W base vs, RdBs enc C.prog W base ts vs 1048576 → W.ShapedOpen C.prog → Spec C.prog f vs PH.no W fun rs _ => rs = [.s (.bool true)]) :
    ReturnsInHanded {} C os f .any ((Rows.OpenSpec.upto s).preRow enc C.prog fn [] false laid) (((Rows.OpenSpec.upto s).at F).post enc C.prog fn false true false false) := by
  refine returnsInHanded_of_row (C := C) (s := Rows.OpenSpec.upto s) own started noInit hfn witness ?_
  intro W base args ds gs before hval hW _ hcond hwt _ hsh _
  have hW' := hW
  obtain ⟨p, q, hA, hV, rfl, hfz, hnd⟩ := hW'
  have hv' : (Rows.OpenSpec.upto s).vars = [] := hv
  rw [hv'] at hV
  obtain ⟨rfl, rfl⟩ := trodVars_none hV
  have hvt : (Rows.OpenSpec.upto s).bare.plain.varTypes C.prog = [] := by
    have : (Rows.OpenSpec.upto s).bare.plain.vars = [] := hv
    simp [DataSpec.varTypes, this]
  rw [hvt, List.append_nil, List.append_nil] at hwt
  have hk := of_decide_eq_true (hcond _ rfl)
  rw [List.append_nil] at hk
  have hlen := trodAll_len hA
  exact (contract_true (s := s) (again := false) hl hr hv hres htb (by rw [List.append_nil]; exact hs ds (by rw [hlen, hts])) hW (h W base args.toList (hts ▸ args_rdb (fun j t v h1 h2 => hval j t v (by simpa using h1) (by simpa using h2)) hA hwt hk) hsh)).mono fun e W' ⟨v, h1, h2, _⟩ => ⟨v, h1, h2⟩
end Go.Proofs.YtnoeabmpdjpfaaaGreatDoor.Vc

/- Lists of operations that came in. -/
set_option linter.unusedVariables false
set_option linter.unusedSimpArgs false
set_option maxRecDepth 100000
namespace Go.Proofs.YtnoeabmpdjpfaaaGreatDoor.Vc
open Go Go.Proofs Go.Proofs.YtnoeabmpdjpfaaaGreatDoor Go.ChangeShapes Go.WideShapes Go.ChangeAt

def OpOk (op : Op) : Prop := (Lit.int .i64 op.node).wf = true ∧ op.name.size ≤ 140737488355328
def Stamp.ofRaw (q : Raw) (o : Nat) : Stamp := ⟨q.x o, q.x (o + 1)⟩
def kStamp : List K1 := [.i .i64] ++ ([.i .i64])
theorem kStamp_len : kStamp.length = 2 := rfl
theorem gStamp_flat (q : Raw) (o : Nat) : GV.flat (gStamp (Stamp.ofRaw q o)) = q.cells kStamp o := by
  simp only [gStamp, Stamp.ofRaw, kStamp, GV.flat, cells_append, List.length_append, List.length_cons, List.length_nil, kVec_len, kVec2_len, gVec_flat, gVec2_flat]
  simp [Raw.cells, Raw.at, Nat.add_assoc]
def Op.ofRaw (q : Raw) (o : Nat) : Op := ⟨Stamp.ofRaw q o, q.x (o + 2), q.x (o + 3), q.x (o + 4), q.y (o + 5), q.y (o + 6), q.y (o + 7)⟩
def kOp : List K1 := kStamp ++ ([.i .i64] ++ ([.i .i64] ++ ([.i .i64] ++ ([.s] ++ ([.s] ++ ([.s]))))))
theorem kOp_len : kOp.length = 8 := rfl
theorem gOp_flat (q : Raw) (o : Nat) : GV.flat (gOp (Op.ofRaw q o)) = q.cells kOp o := by
  simp only [gOp, Op.ofRaw, kOp, GV.flat, cells_append, List.length_append, List.length_cons, List.length_nil, kVec_len, kVec2_len, kStamp_len, gVec_flat, gVec2_flat, gStamp_flat]
  simp [Raw.cells, Raw.at, Nat.add_assoc]


theorem Try_own : ownKnob Tryz.prog.godebug = none := by kernel_rfl
theorem Try_laidOut : laidOutB Tryz.prog = true := by kernel_rfl
theorem cells_Op : Tryz.prog.cellsOf 70 = 8 := by kernel_rfl

theorem bulk_len {H : Type} (l : List (DataW H)) : l.length ≤ Rows.uptoBulkAll l := by
  induction l with
  | nil => simp
  | cons x l ih => have := bulk_one_le x; simp only [Rows.uptoBulkAll, List.length_cons]; omega

/-- A list of operations that came in. -/
theorem open_Ops {H : Type} {enc : TypeId × Value → H} {W : World} {base n : Nat} {v : Value} (h : RdB enc Tryz.prog W 22 v n) (hv : Value.okWide Tryz.prog W .any base 22 v) : ∃ l : List Op, SlR W.ph v 8 (l.map gOp) ∧ l.length ≤ n ∧ ∀ op ∈ l, OpOk op := by
  have hd := rdv_slice (e := 70) (by kernel_rfl) h.v hv
  obtain ⟨l, h1, _, h3⟩ := rd_slice (t := 22) (e := 70) (n0 := 9) (ks := kOp) (g := fun q => gOp (Op.ofRaw q 0)) (by kernel_rfl) (by kernel_rfl) (by kernel_rfl) (by rw [cells_Op]; omega) (fun q => gOp_flat q 0) (fun q _ => gOp_ok _) (fun q => by rw [gOp_sz, cells_Op]) hd
  rw [cells_Op] at h1
  refine ⟨l.map fun q => Op.ofRaw q 0, by rw [List.map_map]; exact h1, ?_, ?_⟩
  · obtain ⟨fuel, x, hx, _, hn⟩ := h
    obtain ⟨_, h1 | ⟨a, c, h1, _⟩⟩ := h1
    · have : l = [] := by simpa using h1.2
      simp [this]
    · subst h1
      have hx' : DataW.trod enc Tryz.prog W 0 (fun _ => true) true fuel 22 [.slice (some a) (l.map fun q => gOp (Op.ofRaw q 0)).length c] = some x := hx
      rcases Go.Deep.open_slice (e := 70) (by kernel_rfl) hx' with ⟨hv', rfl⟩ | ⟨a', len, cap, m, n', D, Pl, hv', _, hlc, _, hm, rfl, hel⟩
      · simp at hv'
      · simp only [List.cons.injEq, Value.slice.injEq, and_true, List.length_map] at hv'
        have h5 := bulk_len ((List.range len).map D)
        rw [List.length_map, List.length_range] at h5
        simp only [Rows.uptoBulk] at hn
        rw [List.length_map]
        omega
  · intro op hop
    obtain ⟨q, hq, rfl⟩ := List.mem_map.1 hop
    have hf := h3 q hq
    refine ⟨?_, ?_⟩
    · have := hf.int (j := 3) (k := .i64) rfl
      show (decide (IntKind.i64.min ≤ q.x 3) && decide (q.x 3 ≤ IntKind.i64.max)) = true
      rw [Bool.and_eq_true]
      exact ⟨decide_eq_true this.1, decide_eq_true this.2⟩
    · have := hf.str (j := 5) rfl
      exact Nat.le_trans this (by decide)

end Go.Proofs.YtnoeabmpdjpfaaaGreatDoor.Vc

/- The code of some functions of the program, its types resolved: printed by a program of this claim. -/
set_option linter.unusedVariables false
set_option maxRecDepth 100000
namespace Go.Proofs.YtnoeabmpdjpfaaaGreatDoor.Vc
open Go Go.Proofs

abbrev f_law20_made : Nat := 6
def c_law20_made_L0 : Cd :=
 (.seq (.rg [⟨none, [(some 15, .bin .lss (.t 14) (.t 13))]⟩] [4, 5, 12, 13, 14, 15])
 (.seq (.ite (.t 15)
 .skip
 (.exit 0))
 (.seq (.block 1 (.seq (.rg [⟨none, [(some 16, .idxS (.t 12) (.t 14) 8), (some 17, .ld (.t 16) 8 true), (some 7, .new 70 (.c (.c (.s (.int .i64 0)) (.c (.s (.int .i64 0)) .u)) (.c (.s (.int .i64 0)) (.c (.s (.int .i64 0)) (.c (.s (.int .i64 0)) (.c (.s (.string ⟨#[]⟩)) (.c (.s (.string ⟨#[]⟩)) (.c (.s (.string ⟨#[]⟩)) .u)))))))), (none, .st (.t 7) (.t 17) 8)]⟩] [4, 5, 7, 12, 13, 14])
 (.seq (.rg [⟨none, [(some 18, .mv (.t 4)), (some 19, .ld (.t 7) 8 true), (some 20, .call 27 [(.t 18), (.t 19)])]⟩] [4, 5, 7, 12, 13, 14])
 (.rg [⟨none, [(some 21, .mv (.t 5)), (some 22, .ld (.t 7) 8 true), (some 23, .call 28 [(.t 21), (.t 22)])]⟩] [4, 5, 12, 13, 14]))))
 (.rg [⟨none, [(some 24, .bin .add (.t 14) (.c (.int .i64 1))), (some 14, .mv (.t 24))]⟩] [4, 5, 12, 13, 14]))))
def c_law20_made : Cd :=
 (.seq (.rg [⟨none, [(some 2, .mv (.c (.pointer none))), (some 3, .mv (.c (.pointer none)))]⟩] [0])
 (.seq (.rg [⟨none, [(some 8, .call 25 []), (some 4, .mv (.t 8))]⟩] [0, 4])
 (.seq (.rg [⟨none, [(some 9, .call 26 []), (some 5, .mv (.t 9))]⟩] [0, 4, 5])
 (.seq (.seq (.rg [⟨none, [(some 10, .mv (.t 4)), (some 11, .eqA false 23 (.t 10) (.c (.pointer none)))]⟩] [0, 4, 5, 11])
 (.ite (.t 11)
 (.seq (.rg [⟨none, [(some 2, .mv (.c (.pointer none))), (some 3, .mv (.c (.pointer none)))]⟩] [2, 3])
 .ret)
 .skip))
 (.seq (.seq (.rg [⟨none, [(some 12, .mv (.t 0)), (some 13, .len (.t 12)), (some 14, .mv (.c (.int .i64 0)))]⟩] [4, 5, 12, 13, 14])
 (.block 0 (.loop c_law20_made_L0)))
 (.seq (.rg [⟨none, [(some 25, .mv (.t 4)), (some 26, .mv (.t 5)), (some 2, .mv (.t 25)), (some 3, .mv (.t 26))]⟩] [2, 3])
 .ret))))))
theorem k_law20_made : Ok Tryz.prog 6 c_law20_made 27 [] [.tmp 2, .tmp 3] := Ok.mk' Tryz.func6 (by kernel_rfl) (by kernel_rfl) (by kernel_rfl)

end Go.Proofs.YtnoeabmpdjpfaaaGreatDoor.Vc

/- A tree by operations. -/
set_option linter.unusedVariables false
set_option linter.unusedSimpArgs false
set_option maxRecDepth 100000
namespace Go.Proofs.YtnoeabmpdjpfaaaGreatDoor.Vc
open Go Go.Proofs

end Go.Proofs.YtnoeabmpdjpfaaaGreatDoor.Vc

/- TreeBack, the walk. -/
set_option linter.unusedVariables false
set_option linter.unusedSimpArgs false
set_option maxRecDepth 100000
namespace Go.Proofs.YtnoeabmpdjpfaaaGreatDoor.Vc
open Go Go.Proofs

theorem Hist.cut {mk : Value} {Ts T' : PT} {us : List Undo} {r : Nat} (h : Hist mk Ts (us.take r) T') (h0 : 0 < r) (hr : r ≤ us.length) :
    ∃ T'' op, Hist mk Ts (us.take (r - 1)) T'' ∧ mayA T'' op = true ∧ (∃ k, T''.ok k) ∧ us.getD (r - 1) zUndo = T''.undo mk op ∧ T' = T''.does op := by
  have e : us.take r = us.take (r - 1) ++ [us.getD (r - 1) zUndo] := by
    obtain ⟨k, rfl⟩ : ∃ k, r = k + 1 := ⟨r - 1, by omega⟩
    rw [List.take_add_one, Nat.add_sub_cancel, List.getD_eq_getElem?_getD, List.getElem?_eq_getElem (by omega)]
    rfl
  rw [e] at h
  exact h.last
theorem Hist.top {mk : Value} {Ts T' : PT} {us : List Undo} {r : Nat} (h : Hist mk Ts (us.take r) T') (h0 : 0 < r) (hr : r ≤ us.length) :
    T'.ids.getLast? = some (us.getD (r - 1) zUndo).ix ∧ T'.last = (us.getD (r - 1) zUndo).ix := by
  obtain ⟨T'', op, _, _, _, e1, rfl⟩ := h.cut h0 hr
  rw [e1, undo_ix, does_ids, does_last]
  simp

theorem undone_ids (B : PT) (u : Undo) : (B.undone u).ids = B.ids.dropLast := by
  unfold PT.undone
  simp only
  split
  · rfl
  · split
    · rw [put_ids]
    · rfl
theorem back_safe {T B : PT} {op : Op} {k : Nat} (hm : mayA T op = true) (hT : T.ok k) (hv : B.view = (T.does op).view) : (op.kind = 1 → ∃ x, B.get op.parent = some x) ∧ (op.kind ≠ 1 → ∃ x, B.get op.node = some x) := by
  refine ⟨fun k1 => ?_, fun k1 => ?_⟩
  · obtain ⟨hn, x, hx⟩ := may_make hm k1
    have hne : op.parent ≠ op.node := fun e => by rw [e, hn] at hx; cases hx
    have : B.view op.parent = some x.view := by
      rw [hv, does_view1 hm k1]
      simp only [updV, if_neg hne]
      exact PT.view_get hx
    obtain ⟨y, hy, _⟩ := get_of_view this
    exact ⟨y, hy⟩
  · obtain ⟨x, hx⟩ := may_there hm k1
    by_cases k2 : op.kind = 2
    · obtain ⟨a, this⟩ : ∃ a, B.view op.node = some a := ⟨_, by rw [hv, does_view2 hx k2]; exact if_pos rfl⟩
      obtain ⟨y, hy, _⟩ := get_of_view this
      exact ⟨y, hy⟩
    · obtain ⟨a, this⟩ : ∃ a, B.view op.node = some a := ⟨_, by rw [hv, does_view3 hx (hT.attrs _ _ hx).1 k1 k2]; exact if_pos rfl⟩
      obtain ⟨y, hy, _⟩ := get_of_view this
      exact ⟨y, hy⟩

theorem nodesTold_len (T : PT) : (nodesTold T).length ≤ T.nodes.length := by
  refine Nat.le_trans (List.length_filter_le _ _) (Nat.le_trans (List.length_filterMap_le _ _) ?_)
  simp [nodesK, sortZ]
theorem nodesTold_few {T : PT} {k : Nat} (h : T.ok k) {t : TN} (ht : t ∈ nodesTold T) : t.attrs.length ≤ k := by
  have h1 := (List.mem_filter.1 ht).1
  obtain ⟨n, _, h2⟩ := List.mem_filterMap.1 h1
  cases hx : T.get n with
  | none => rw [hx] at h2; cases h2
  | some x =>
    rw [hx] at h2
    obtain rfl : toldOf n x = t := by simpa using h2
    have := (h.attrs n x hx).2
    simpa [toldOf, attrsOf, attrKeys, sortB] using this

end Go.Proofs.YtnoeabmpdjpfaaaGreatDoor.Vc

/- What a tree tells makes that tree: plain. -/
set_option linter.unusedVariables false
set_option linter.unusedSimpArgs false
namespace Go.Proofs.YtnoeabmpdjpfaaaGreatDoor.Vc
open Go

theorem bytesLess_lt : ∀ (x y : List UInt8), _root_.Go.Op.bytesLess x y = decide (x < y)
  | [], [] => by simp [_root_.Go.Op.bytesLess]
  | _ :: _, [] => by simp [_root_.Go.Op.bytesLess]
  | [], _ :: _ => by simp [_root_.Go.Op.bytesLess]
  | a :: x, b :: y => by
    rw [_root_.Go.Op.bytesLess, bytesLess_lt x y]
    simp only [List.cons_lt_cons_iff]
    by_cases h1 : a < b <;> by_cases h2 : a = b <;> by_cases h3 : x < y <;> simp [h1, h2, h3]
theorem lt_of_le_ne {a b : List UInt8} (h : a ≤ b) (hn : a ≠ b) : a < b :=
  Classical.byContradiction fun hc => hn (List.le_antisymm h (show b ≤ a from hc))
theorem attrKeys_sorted {x : PN} (h : AttrOk x.attrs) : (attrKeys x).Pairwise (· < ·) := by
  have tr : ∀ a b c : List UInt8, decide (a ≤ b) = true → decide (b ≤ c) = true → decide (a ≤ c) = true := fun a b c h1 h2 => by simp only [decide_eq_true_eq] at *; exact List.le_trans h1 h2
  have to : ∀ a b : List UInt8, (decide (a ≤ b) || decide (b ≤ a)) = true := fun a b => by simp only [Bool.or_eq_true, decide_eq_true_eq]; exact List.le_total a b
  have h1 := List.pairwise_mergeSort tr to (x.attrs.map fun p => p.1.data.toList)
  have h2 : (attrKeys x).Nodup := by
    refine (List.mergeSort_perm _ _).nodup_iff.2 ?_
    have := h.nod
    rw [List.Nodup, List.pairwise_map] at this ⊢
    refine this.imp fun {a b} hab e => hab ?_
    have : a.1.data = b.1.data := Array.toList_inj.1 e
    exact ByteArray.ext this
  have h1 : (attrKeys x).Pairwise fun a b => decide (a ≤ b) = true := h1
  refine (h1.and h2).imp fun {a b} hab => lt_of_le_ne (of_decide_eq_true hab.1) hab.2
theorem mem_attrKeys {x : PN} {k : List UInt8} : k ∈ attrKeys x ↔ ∃ v, getS x.attrs (mkS k) = some v := by
  have h1 : k ∈ attrKeys x ↔ k ∈ x.attrs.map fun p => p.1.data.toList := (List.mergeSort_perm _ _).mem_iff
  rw [h1]
  have h2 := getS_none (l := x.attrs) (j := mkS k)
  constructor
  · intro h
    obtain ⟨p, hp, rfl⟩ := List.mem_map.1 h
    rw [← Option.ne_none_iff_exists']
    intro e
    refine h2.1 e (List.mem_map.2 ⟨p, hp, ?_⟩)
    exact ByteArray.ext (by simp [mkS])
  · rintro ⟨v, hv⟩
    refine Classical.byContradiction fun hc => ?_
    rw [h2.2 fun h => hc ?_] at hv
    · cases hv
    · obtain ⟨p, hp, e⟩ := List.mem_map.1 h
      exact List.mem_map.2 ⟨p, hp, by rw [e]; simp [mkS]⟩

theorem attrsA_of {f : List UInt8 → Attr} : ∀ (keys : List (List UInt8)) (prev : ByteArray), (∀ k ∈ keys, (f k).key.data.toList = k) → keys.Pairwise (· < ·) → (∀ k ∈ keys, prev.data.toList < k) → (∀ k ∈ keys, (f k).value ≠ ⟨#[]⟩ ∧ pairB (f k).key (f k).value = true) → attrsA prev (keys.map f) = true
  | [], _, _, _, _, _ => rfl
  | k :: l, prev, h1, h2, h3, h4 => by
    rw [List.pairwise_cons] at h2
    have e1 := h1 k (by simp)
    have e3 := h3 k (by simp)
    have e4 := h4 k (by simp)
    have ih := attrsA_of (f := f) l (f k).key (fun q hq => h1 q (by simp [hq])) h2.2 (fun q hq => by rw [e1]; exact h2.1 q hq) (fun q hq => h4 q (by simp [hq]))
    rw [List.map_cons, attrsA, ih, e4.2, decide_eq_false e4.1]
    have : leB (f k).key prev = false := by
      rw [leB, bytesLess_lt, e1, decide_eq_false (List.lt_asymm e3), decide_eq_false]
      · rfl
      · intro e
        rw [← e, e1] at e3
        exact List.lt_irrefl _ e3
    rw [this]; rfl
def lookA : List Attr → ByteArray → Option ByteArray
  | [], _ => none
  | a :: l, j => if a.key = j then some a.value else lookA l j
theorem attrsA_above : ∀ {l : List Attr} {k : ByteArray}, attrsA k l = true → ∀ a ∈ l, k.data.toList < a.key.data.toList
  | [], _, _, a, ha => by simp at ha
  | b :: l, k, h, a, ha => by
    obtain ⟨h1, _, _, h4⟩ := attrsA_cons h
    have hb : k.data.toList < b.key.data.toList := by
      rw [leB, bytesLess_lt, Bool.or_eq_false_iff] at h1
      refine lt_of_le_ne (show ¬ b.key.data.toList < k.data.toList from of_decide_eq_false h1.1) fun e => ?_
      exact of_decide_eq_false h1.2 (ByteArray.ext (Array.toList_inj.1 e.symm))
    rcases List.mem_cons.1 ha with rfl | ha
    · exact hb
    · exact List.lt_trans hb (attrsA_above h4 a ha)
theorem lookA_none : ∀ {l : List Attr} {j : ByteArray}, (∀ a ∈ l, a.key ≠ j) → lookA l j = none
  | [], _, _ => rfl
  | a :: l, j, h => by rw [lookA, if_neg (h a (by simp))]; exact lookA_none fun a ha => h a (by simp [ha])
theorem getS_laid : ∀ (l : List Attr) (s : List (ByteArray × ByteArray)) (k : ByteArray), AttrOk s → attrsA k l = true → ∀ j, getS (l.foldl (fun s a => setS s a.key a.value) s) j = (lookA l j).or (getS s j)
  | [], s, k, _, _, j => by simp [lookA]
  | a :: l, s, k, hs, h, j => by
    obtain ⟨_, hv, hp, h4⟩ := attrsA_cons h
    have hk : a.key.size ≤ 255 := by
      simp only [pairB, Bool.and_eq_true, decide_eq_true_eq] at hp
      exact hp.1.2
    rw [List.foldl_cons, getS_laid l (setS s a.key a.value) a.key (hs.set hk) h4 j, getS_set hs, lookA]
    by_cases e : a.key = j
    · subst e
      rw [lookA_none fun b hb e => by
        have := attrsA_above h4 b hb
        rw [e] at this
        exact List.lt_irrefl _ this]
      rw [if_pos rfl, if_pos rfl, if_neg (show ¬ a.value = empty from hv)]; rfl
    · rw [if_neg (fun q => e q.symm), if_neg e]
theorem laidA_get {l : List Attr} (h : attrsA ⟨#[]⟩ l = true) (j : ByteArray) : getS (laidA l) j = lookA l j := by
  have := getS_laid l [] ⟨#[]⟩ AttrOk.nil h j
  rw [laidA, this]
  cases lookA l j <;> rfl
theorem lookA_map {g : List UInt8 → ByteArray} : ∀ (keys : List (List UInt8)) (j : ByteArray), lookA (keys.map fun k => ⟨mkS k, g k⟩) j = if j.data.toList ∈ keys then some (g j.data.toList) else none
  | [], j => by simp [lookA]
  | k :: l, j => by
    rw [List.map_cons, lookA, lookA_map l j]
    by_cases e : mkS k = j
    · subst e; simp [mkS]
    · have : ¬ j.data.toList = k := fun q => e (ByteArray.ext (by rw [← q]; simp [mkS]))
      rw [if_neg e]
      simp [this]
theorem mkS_data (j : ByteArray) : mkS j.data.toList = j := ByteArray.ext (by simp [mkS])
theorem attrsOf_look (x : PN) (j : ByteArray) : lookA (attrsOf x) j = getS x.attrs j := by
  rw [attrsOf, lookA_map]
  have := mem_attrKeys (x := x) (k := j.data.toList)
  rw [mkS_data] at this
  split
  · rename_i h
    obtain ⟨v, hv⟩ := this.1 h
    rw [mkS_data, hv]; rfl
  · rename_i h
    cases hg : getS x.attrs j with
    | none => rfl
    | some v => exact absurd (this.2 ⟨v, hg⟩) h
theorem attrsOf_ok {x : PN} (h : AttrOk x.attrs) (hp : ∀ k w, getS x.attrs k = some w → pairB k w = true ∧ w ≠ empty) : attrsA ⟨#[]⟩ (attrsOf x) = true := by
  have hk : ∀ k ∈ attrKeys x, ∃ w, getS x.attrs (mkS k) = some w ∧ pairB (mkS k) w = true ∧ w ≠ empty := fun k hk => by
    obtain ⟨v, hv⟩ := mem_attrKeys.1 hk
    exact ⟨v, hv, hp _ _ hv⟩
  refine attrsA_of (f := fun k => ⟨mkS k, (getS x.attrs (mkS k)).getD ⟨#[]⟩⟩) (attrKeys x) ⟨#[]⟩ (fun k _ => by simp [mkS]) (attrKeys_sorted h) (fun k hk' => ?_) fun k hk' => ?_
  · obtain ⟨w, _, h2, _⟩ := hk k hk'
    cases k with
    | nil => simp [pairB, mkS] at h2
    | cons a l => simp
  · obtain ⟨w, h1, h2, h3⟩ := hk k hk'
    simp only [h1, Option.getD_some]
    exact ⟨h3, h2⟩

theorem rowsA_some : ∀ {l : List TN} {T : PT} {last : Int}, l.Pairwise (fun a b => a.node < b.node) → (∀ r ∈ l, last < r.node) →
    (∀ r ∈ l, attrsA ⟨#[]⟩ r.attrs = true ∧ topB r.node = (decide (r.parent = 0) && decide (r.name = ⟨#[]⟩)) ∧ (topB r.node = true ∨ nameB r.name = true)) → ∃ T', rowsA T last l = some T'
  | [], T, last, _, _, _ => ⟨T, rfl⟩
  | r :: l, T, last, h1, h2, h3 => by
    rw [List.pairwise_cons] at h1
    obtain ⟨e1, e2, e3⟩ := h3 r (by simp)
    have e0 := h2 r (by simp)
    obtain ⟨T', hT'⟩ := rowsA_some (l := l) (T := (T.row r).putAll r.node r.attrs) (last := r.node) h1.2 h1.1 fun q hq => h3 q (by simp [hq])
    refine ⟨T', ?_⟩
    rw [rowsA, if_pos, hT']
    rw [e1, Bool.and_true, rowA, decide_eq_false (by omega), e2, beq_self_eq_true, ← e2]
    rcases e3 with e | e <;> simp [e]
theorem rowGet_of : ∀ {l : List TN} {r : TN}, l.Pairwise (fun a b => a.node < b.node) → r ∈ l → rowGet l r.node = some (rowN r)
  | [], r, _, h => by simp at h
  | q :: l, r, h1, h => by
    rw [List.pairwise_cons] at h1
    rcases List.mem_cons.1 h with rfl | h
    · rw [rowGet, if_pos rfl]
    · have := h1.1 r h
      rw [rowGet, if_neg (by omega)]
      exact rowGet_of h1.2 h

theorem nodesK_sorted {T : PT} (h : (T.nodes.map (·.1)).Nodup) : (nodesK T).Pairwise (· < ·) := by
  have tr : ∀ a b c : Int, decide (a ≤ b) = true → decide (b ≤ c) = true → decide (a ≤ c) = true := fun a b c h1 h2 => by simp only [decide_eq_true_eq] at *; omega
  have to : ∀ a b : Int, (decide (a ≤ b) || decide (b ≤ a)) = true := fun a b => by simp only [Bool.or_eq_true, decide_eq_true_eq]; omega
  have h1 : (nodesK T).Pairwise fun a b => decide (a ≤ b) = true := List.pairwise_mergeSort tr to (T.nodes.map fun p : Int × PN => p.1)
  have h2 : (nodesK T).Nodup := (List.mergeSort_perm _ _).nodup_iff.2 h
  refine (h1.and h2).imp fun {a b} hab => ?_
  have := of_decide_eq_true hab.1
  have := hab.2
  omega
theorem toldL_node {T : PT} {l : List Int} {t : TN} (h : t ∈ toldL T l) : ∃ n ∈ l, ∃ x, T.get n = some x ∧ t = toldOf n x := by
  obtain ⟨n, hn, h2⟩ := List.mem_filterMap.1 (List.mem_filter.1 h).1
  cases hx : T.get n with
  | none => rw [hx] at h2; cases h2
  | some x => rw [hx] at h2; exact ⟨n, hn, x, hx, by simpa using h2.symm⟩
theorem toldL_sorted {T : PT} : ∀ {l : List Int}, l.Pairwise (· < ·) → (toldL T l).Pairwise (fun a b => a.node < b.node)
  | [], _ => List.Pairwise.nil
  | n :: l, h => by
    rw [List.pairwise_cons] at h
    have ih := toldL_sorted (T := T) h.2
    unfold toldL at ih ⊢
    rw [List.filterMap_cons]
    cases hx : T.get n with
    | none => exact ih
    | some x =>
      simp only [Option.map_some]
      rw [List.filter_cons]
      split
      · rw [List.pairwise_cons]
        refine ⟨fun t ht => ?_, ih⟩
        obtain ⟨m, hm, y, _, rfl⟩ := toldL_node (T := T) (l := l) ht
        exact h.1 m hm
      · exact ih
theorem mem_told {T : PT} {n : Int} {x : PN} (hx : T.get n = some x) : toldOf n x ∈ nodesTold T ↔ (toldOf n x).shown = true := by
  unfold nodesTold toldL
  rw [List.mem_filter]
  refine ⟨fun h => h.2, fun h => ⟨List.mem_filterMap.2 ⟨n, ?_, by rw [hx]; rfl⟩, h⟩⟩
  exact (List.mergeSort_perm _ _).mem_iff.2 (List.mem_map.2 ⟨(n, x), getA_mem hx, rfl⟩)
/-- What a tree tells is a tree, and looks like it. -/
theorem told_from {T : PT} {k : Nat} (hok : T.ok k) (hg : VGood T.view) : fromA (nodesTold T) ∧ viewOf (nodesTold T) = T.view := by
  have hs := toldL_sorted (T := T) (nodesK_sorted hok.nod)
  have hat : ∀ n x, T.get n = some x → attrsA ⟨#[]⟩ (attrsOf x) = true := fun n x hx => attrsOf_ok (hok.attrs n x hx).1 fun k w h => hg.pairs n _ k w (PT.view_get hx) h
  have heach : ∀ t ∈ nodesTold T, ∃ n x, T.get n = some x ∧ t = toldOf n x := fun t ht => by
    obtain ⟨n, _, x, hx, e⟩ := toldL_node ht
    exact ⟨n, x, hx, e⟩
  obtain ⟨T', hT'⟩ := rowsA_some (l := nodesTold T) (T := T0) (last := 0) hs (fun r hr => by
    obtain ⟨n, x, hx, rfl⟩ := heach r hr
    exact hg.pos n _ (PT.view_get hx)) fun r hr => by
    obtain ⟨n, x, hx, rfl⟩ := heach r hr
    refine ⟨hat n x hx, ?_, ?_⟩
    · show topB n = _
      cases ht : topB n with
      | true =>
        obtain ⟨e1, e2⟩ := hg.top n _ (PT.view_get hx) ht
        have e1 : x.parent = 0 := e1
        have e2 : x.name = ⟨#[]⟩ := e2
        simp [toldOf, e1, e2]
      | false =>
        have := hg.name n _ (PT.view_get hx) ht
        have hne : x.name ≠ ⟨#[]⟩ := fun e => by
          have this : nameB x.name = true := this
          rw [e] at this
          exact absurd this (by decide)
        simp [toldOf, hne]
    · show topB n = true ∨ _
      cases ht : topB n with
      | true => exact .inl rfl
      | false => exact .inr (hg.name n _ (PT.view_get hx) ht)
  have hR := rowsA_rowed hT'
  have hv : viewOf (nodesTold T) = T.view := by
    funext n
    unfold viewOf
    cases hx : T.get n with
    | none =>
      rw [PT.view_none.2 hx, rowGet_none fun r hr e => ?_]
      · cases h0 : T0.get n with
        | none => rfl
        | some y =>
          have := (T0_keys (PT.view_get h0)).1
          have hv := PT.view_none.2 hx
          rcases topB_iff.1 this with e | e
          · rw [e] at hv; exact absurd hv hg.one
          · rw [e] at hv; exact absurd hv hg.two
      · obtain ⟨m, x, hx', rfl⟩ := heach r hr
        have e : m = n := e
        rw [e, hx] at hx'; cases hx'
    | some x =>
      rw [PT.view_get hx]
      by_cases hsh : (toldOf n x).shown = true
      · have := rowGet_of hs ((mem_told hx).2 hsh)
        rw [show (toldOf n x).node = n from rfl] at this
        have h2 : rowGet (nodesTold T) n = some (rowN (toldOf n x)) := this
        rw [h2]
        simp only [Option.map_some, PN.view, rowN, toldOf, Option.some.injEq, AN.mk.injEq, true_and]
        funext j
        rw [laidA_get (hat n x hx), attrsOf_look]
      · simp only [TN.shown, Bool.or_eq_true, Bool.not_eq_true', decide_eq_true_eq, not_or] at hsh
        have ht : topB n = true := by
          have := hsh.1
          simpa [toldOf] using this
        have hl : (attrsOf x).length = 0 := by
          have := hsh.2
          simp only [toldOf] at this
          omega
        have hno : ∀ r ∈ nodesTold T, r.node ≠ n := fun r hr e => by
          obtain ⟨m, y, hy, rfl⟩ := heach r hr
          have e' : m = n := e
          rw [e'] at hr hy
          rw [hx] at hy; cases hy
          have := (mem_told hx).1 hr
          rw [TN.shown, Bool.or_eq_true, Bool.not_eq_true'] at this
          rcases this with q | q
          · rw [show (toldOf n x).node = n from rfl, ht] at q; cases q
          · have q' : 0 < (attrsOf x).length := of_decide_eq_true q
            omega
        rw [rowGet_none hno]
        have h0 : T0.get n = some PN.bare := by
          rcases topB_iff.1 ht with e | e <;> rw [e] <;> rfl
        rw [h0]
        obtain ⟨e1, e2⟩ := hg.top n _ (PT.view_get hx) ht
        have e1 : x.parent = 0 := e1
        have e2 : x.name = ⟨#[]⟩ := e2
        simp only [Option.map_some, PN.view, PN.bare, Option.some.injEq, AN.mk.injEq, e1, e2, true_and]
        funext j
        rw [← attrsOf_look x j, List.length_eq_zero_iff.1 hl]; rfl
  refine ⟨⟨T', hT', ?_⟩, hv⟩
  unfold PT.led
  rw [hR.view, hv]
  exact hg.led
end Go.Proofs.YtnoeabmpdjpfaaaGreatDoor.Vc

/- Paths and names, in plain words. -/
set_option linter.unusedVariables false
set_option linter.unusedSimpArgs false
namespace Go.Proofs.YtnoeabmpdjpfaaaGreatDoor.Vc.Pa
open Go

/-- May it be a name? -/
def nameA (l : List UInt8) : Bool := !l.isEmpty && decide (l.length ≤ 255) && !(l == [46]) && !(l == [46, 46]) && !l.contains 47
/-- Cut at each slash. -/
def segs : List UInt8 → List (List UInt8)
  | [] => [[]]
  | c :: l => if c = 47 then [] :: segs l else match segs l with
    | [] => [[c]]
    | h :: t => (c :: h) :: t
def wrongA (ns : List (List UInt8)) : Int := if ns.all nameA = true then (if ns.length > 64 then 3 else 0) else 200
def splitA (p : List UInt8) : List (List UInt8) × Int :=
  if p = [47] then ([], 0) else match p with
  | c :: r => if c = 47 then (if wrongA (segs r) = 0 then (segs r, 0) else ([], wrongA (segs r))) else ([], 200)
  | [] => ([], 200)
def joinS (ns : List (List UInt8)) : List UInt8 := 47 :: Lib.join ns [47]
def joinA (ns : List (List UInt8)) : List UInt8 × Int := if wrongA ns = 0 then (joinS ns, 0) else ([], wrongA ns)

theorem segs_ne (l : List UInt8) : segs l ≠ [] := by
  cases l with
  | nil => simp [segs]
  | cons c l =>
    unfold segs
    split
    · simp
    · cases segs l <;> simp
theorem segs_cons {c : UInt8} (h : c ≠ 47) (l : List UInt8) : ∃ x t, segs l = x :: t ∧ segs (c :: l) = (c :: x) :: t := by
  cases hs : segs l with
  | nil => exact absurd hs (segs_ne l)
  | cons x t => exact ⟨x, t, rfl, by rw [segs, if_neg h, hs]⟩

theorem split_segs : ∀ s : List UInt8, Lib.splitK [47] 0 (Lib.count s [47]) s = segs s
  | [] => by
    rw [Lib.count_miss (by simp [Lib.index])]
    rfl
  | c :: l => by
    by_cases h : c = 47
    · subst h
      have hix : Lib.index (47 :: l) [47] = ((0 : Nat) : Int) := by rw [Lib.index]; simp [List.isPrefixOf]
      rw [Lib.count_cons_eq, Nat.add_comm, Lib.splitK, hix, if_neg (by decide)]
      simp only [segs, if_true]
      simpa using split_segs l
    · have ih := split_segs l
      rw [Lib.count_cons_ne c 47 l h]
      have hp : ([47] : List UInt8).isPrefixOf (c :: l) = false := by simp [List.isPrefixOf, Ne.symm h]
      have hix : Lib.index (c :: l) [47] = if Lib.index l [47] == -1 then -1 else Lib.index l [47] + 1 := by rw [Lib.index, hp]; simp
      obtain ⟨x, t, h1, h2⟩ := segs_cons h l
      rw [h2]
      rw [h1] at ih
      by_cases hm : Lib.index l [47] = -1
      · rw [Lib.count_miss hm] at ih ⊢
        simp only [Lib.splitK] at ih ⊢
        simp only [List.cons.injEq] at ih
        obtain ⟨rfl, rfl⟩ := ih
        rfl
      · have hge := Lib.index_ge l [47]
        obtain ⟨j, hj⟩ : ∃ j : Nat, Lib.index l [47] = j := ⟨(Lib.index l [47]).toNat, by omega⟩
        have hix' : Lib.index (c :: l) [47] = ((j + 1 : Nat) : Int) := by rw [hix, if_neg (fun e => hm (beq_iff_eq.1 e)), hj]; omega
        have hc : ∃ k, Lib.count l [47] = k + 1 := ⟨Lib.count (l.drop (j + 1)) [47], by rw [Lib.count_hit (by simp) hj]; simp <;> omega⟩
        obtain ⟨k, hk⟩ := hc
        rw [hk] at ih ⊢
        rw [Lib.splitK, hj, if_neg (by simp <;> omega)] at ih
        rw [Lib.splitK, hix', if_neg (by simp <;> omega)]
        simp only [Int.toNat_natCast, Nat.add_zero, List.length_cons, List.length_nil, Nat.zero_add, List.cons.injEq] at ih
        simp only [Int.toNat_natCast, Nat.add_zero, List.length_cons, List.length_nil, Nat.zero_add, List.take_succ_cons, List.drop_succ_cons]
        rw [ih.1, ih.2]

/-! ### Names put together, and cut -/
theorem join_segs : ∀ s : List UInt8, Lib.join (segs s) [47] = s
  | [] => rfl
  | c :: l => by
    have ih := join_segs l
    by_cases h : c = 47
    · subst h
      simp only [segs, if_true]
      cases hs : segs l with
      | nil => exact absurd hs (segs_ne l)
      | cons x t =>
        rw [hs] at ih
        rw [Lib.join_cons] at ih ⊢
        simp only [Lib.joinTail, List.map_cons, List.flatten_cons, List.nil_append, List.cons_append, List.singleton_append] at ih ⊢
        rw [ih]
    · obtain ⟨x, t, h1, h2⟩ := segs_cons h l
      rw [h2]
      rw [h1] at ih
      rw [Lib.join_cons] at ih ⊢
      rw [List.cons_append, ih]

theorem segs_app : ∀ (a b : List UInt8), 47 ∉ a → segs (a ++ 47 :: b) = a :: segs b
  | [], b, _ => by simp [segs]
  | c :: a, b, h => by
    have hc : c ≠ 47 := fun e => h (by simp [e])
    have ih := segs_app a b fun hx => h (by simp [hx])
    rw [List.cons_append, segs, if_neg hc, ih]
theorem segs_one : ∀ a : List UInt8, 47 ∉ a → segs a = [a]
  | [], _ => rfl
  | c :: a, h => by
    have hc : c ≠ 47 := fun e => h (by simp [e])
    rw [segs, if_neg hc, segs_one a fun hx => h (by simp [hx])]
theorem segs_join : ∀ (ns : List (List UInt8)), ns ≠ [] → (∀ n ∈ ns, 47 ∉ n) → segs (Lib.join ns [47]) = ns
  | [], h, _ => absurd rfl h
  | [x], _, h => by rw [Lib.join_one]; exact segs_one x (h x (by simp))
  | x :: y :: r, _, h => by
    have ih := segs_join (y :: r) (by simp) fun n hn => h n (by simp [hn])
    rw [Lib.join_cons] at ih ⊢
    simp only [Lib.joinTail, List.map_cons, List.flatten_cons, List.singleton_append] at ih ⊢
    rw [List.cons_append, segs_app x _ (h x (by simp)), ih]

theorem nameA_no {l : List UInt8} (h : nameA l = true) : 47 ∉ l := by
  simp only [nameA, Bool.and_eq_true, Bool.not_eq_true', List.contains_eq_mem, decide_eq_false_iff_not] at h
  exact h.2
theorem nameA_ne {l : List UInt8} (h : nameA l = true) : l ≠ [] := by
  simp only [nameA, Bool.and_eq_true, Bool.not_eq_true', List.isEmpty_eq_false_iff] at h
  exact h.1.1.1.1
theorem nameA_len {l : List UInt8} (h : nameA l = true) : l.length ≤ 255 := by
  simp only [nameA, Bool.and_eq_true, decide_eq_true_eq] at h
  exact h.1.1.1.2
theorem wrongA_ok {ns : List (List UInt8)} (h : wrongA ns = 0) : (∀ n ∈ ns, nameA n = true) ∧ ns.length ≤ 64 := by
  unfold wrongA at h
  split at h
  · rename_i ha
    split at h
    · omega
    · exact ⟨by simpa using ha, by omega⟩
  · omega
theorem wrongA_of {ns : List (List UInt8)} (h : ∀ n ∈ ns, nameA n = true) (hl : ns.length ≤ 64) : wrongA ns = 0 := by
  unfold wrongA
  rw [if_pos (by simpa using h), if_neg (by omega)]

theorem joinS_nil : joinS [] = [47] := rfl
/-- Names that may be, put together, are cut into just these. -/
theorem split_join {ns : List (List UInt8)} (h : wrongA ns = 0) : splitA (joinS ns) = (ns, 0) := by
  obtain ⟨h1, h2⟩ := wrongA_ok h
  cases ns with
  | nil => rfl
  | cons x r =>
    have hs := segs_join (x :: r) (by simp) fun n hn => nameA_no (h1 n hn)
    have hne : Lib.join (x :: r) [47] ≠ [] := by
      rw [Lib.join_cons]
      have := nameA_ne (h1 x (by simp))
      cases x with
      | nil => exact absurd rfl this
      | cons a b => simp
    unfold splitA joinS
    rw [if_neg (by simpa using hne)]
    simp only [if_true, hs, h]
/-- A path that may be is its names put together. -/
theorem join_split {p : List UInt8} {ns : List (List UInt8)} (h : splitA p = (ns, 0)) : wrongA ns = 0 ∧ joinS ns = p := by
  unfold splitA at h
  split at h
  · rename_i hp
    simp only [Prod.mk.injEq, and_true] at h
    subst h
    exact ⟨rfl, by rw [hp]; rfl⟩
  · split at h
    · rename_i c r
      split at h
      · rename_i hc
        split at h
        · rename_i hw
          simp only [Prod.mk.injEq, and_true] at h
          subst h
          exact ⟨hw, by rw [joinS, join_segs, hc]⟩
        · rename_i hw
          simp only [Prod.mk.injEq] at h
          exact absurd h.2 hw
      · simp at h
    · simp at h

theorem splitA_err {p : List UInt8} (h : (splitA p).2 ≠ 0) : (splitA p).1 = [] := by
  unfold splitA at h ⊢
  by_cases h1 : p = [47]
  · rw [if_pos h1]
  · rw [if_neg h1] at h ⊢
    cases p with
    | nil => rfl
    | cons c r =>
      simp only at h ⊢
      by_cases h2 : c = 47
      · rw [if_pos h2] at h ⊢
        by_cases h3 : wrongA (segs r) = 0
        · rw [if_pos h3] at h; exact absurd rfl h
        · rw [if_neg h3]
      · rw [if_neg h2]

/-! ### What begins two lists, and all of some -/
def lcp : List (List UInt8) → List (List UInt8) → List (List UInt8)
  | a :: l, b :: m => if a = b then a :: lcp l m else []
  | _, _ => []
def lcpAll (l : List (List UInt8)) (ms : List (List (List UInt8))) : List (List UInt8) := ms.foldl lcp l

theorem lcp_pre : ∀ (l m : List (List UInt8)), lcp l m <+: l ∧ lcp l m <+: m
  | [], m => by simp [lcp]
  | _ :: _, [] => by simp [lcp]
  | a :: l, b :: m => by
    unfold lcp
    split
    · rename_i h; subst h
      obtain ⟨h1, h2⟩ := lcp_pre l m
      exact ⟨List.cons_prefix_cons.2 ⟨rfl, h1⟩, List.cons_prefix_cons.2 ⟨rfl, h2⟩⟩
    · simp
theorem lcp_most : ∀ (x l m : List (List UInt8)), x <+: l → x <+: m → x <+: lcp l m
  | [], _, _, _, _ => List.nil_prefix
  | _ :: _, [], _, h, _ => by simp at h
  | _ :: _, _ :: _, [], _, h => by simp at h
  | c :: x, a :: l, b :: m, h1, h2 => by
    obtain ⟨e1, k1⟩ := List.cons_prefix_cons.1 h1
    obtain ⟨e2, k2⟩ := List.cons_prefix_cons.1 h2
    subst e1; subst e2
    rw [lcp, if_pos rfl]
    exact List.cons_prefix_cons.2 ⟨rfl, lcp_most x l m k1 k2⟩
theorem lcpAll_pre : ∀ (ms : List (List (List UInt8))) (l : List (List UInt8)), lcpAll l ms <+: l ∧ ∀ m ∈ ms, lcpAll l ms <+: m
  | [], l => ⟨List.prefix_refl _, fun m hm => by simp at hm⟩
  | m :: ms, l => by
    obtain ⟨h1, h2⟩ := lcpAll_pre ms (lcp l m)
    obtain ⟨h3, h4⟩ := lcp_pre l m
    refine ⟨h1.trans h3, fun x hx => ?_⟩
    rcases List.mem_cons.1 hx with rfl | hx
    · exact h1.trans h4
    · exact h2 x hx
theorem lcpAll_most : ∀ (ms : List (List (List UInt8))) (l x : List (List UInt8)), x <+: l → (∀ m ∈ ms, x <+: m) → x <+: lcpAll l ms
  | [], l, x, h, _ => h
  | m :: ms, l, x, h, hm => lcpAll_most ms (lcp l m) x (lcp_most x l m h (hm m (by simp))) fun y hy => hm y (by simp [hy])
theorem prefix_antisymm {a b : List (List UInt8)} (h1 : a <+: b) (h2 : b <+: a) : a = b := List.IsPrefix.eq_of_length h1 (Nat.le_antisymm h1.length_le h2.length_le)

/-- What begins all of some lists. -/
def lcpL : List (List (List UInt8)) → List (List UInt8)
  | [] => []
  | l :: ms => lcpAll l ms
theorem lcpL_pre {ls : List (List (List UInt8))} : ∀ l ∈ ls, lcpL ls <+: l := by
  cases ls with
  | nil => intro l h; simp at h
  | cons x ms =>
    intro l hl
    rcases List.mem_cons.1 hl with rfl | hl
    · exact (lcpAll_pre ms l).1
    · exact (lcpAll_pre ms x).2 l hl
theorem lcpL_most {ls : List (List (List UInt8))} (hn : ls ≠ []) {x : List (List UInt8)} (h : ∀ l ∈ ls, x <+: l) : x <+: lcpL ls := by
  cases ls with
  | nil => exact absurd rfl hn
  | cons l ms => exact lcpAll_most ms l x (h l (by simp)) fun m hm => h m (by simp [hm])
/-- Only which lists there are matters. -/
theorem lcpL_mem {ls ms : List (List (List UInt8))} (h : ∀ l, l ∈ ls ↔ l ∈ ms) : lcpL ls = lcpL ms := by
  by_cases hl : ls = []
  · subst hl
    have : ms = [] := by
      cases ms with
      | nil => rfl
      | cons x r => exact absurd ((h x).2 (by simp)) (by simp)
    subst this; rfl
  · have hm : ms ≠ [] := fun e => by
      cases ls with
      | nil => exact hl rfl
      | cons x r => have := (h x).1 (by simp); rw [e] at this; simp at this
    exact prefix_antisymm (lcpL_most hm fun l hm' => lcpL_pre l ((h l).2 hm')) (lcpL_most hl fun l hl' => lcpL_pre l ((h l).1 hl'))

/-- The path that begins all of some; the first that is wrong. -/
def commonA (ps : List (List UInt8)) : List UInt8 × Int := match ps.find? fun p => (splitA p).2 != 0 with
  | some p => ([], (splitA p).2)
  | none => (joinS (lcpL (ps.map fun p => (splitA p).1)), 0)
end Go.Proofs.YtnoeabmpdjpfaaaGreatDoor.Vc.Pa

/-
  DERIVED: THE SHELF's CONTRACTS AT THIS DUMP, IN PLAIN WORDS (tools/lay-plain.mjs out of 'TryzShelf.lean', which tools/lay-shelf.mjs wrote): THE SAME DECLARATIONS UNDER THE SAME NAMES: 'import', 'namespace', 'open', 'def', 'theorem' AND NOTHING ELSE: no command of the shelf's: FOR A HAND-IN. Each laying: the table of numbers ('.._ren') and one theorem, a field a fact of the dump's own or the kernel's comparison; each contract: ONE APPLICATION.
-/
namespace Go.Proofs
open Go.Shelf
def Tryz.lays156_ren : Go.Shelf.Ren := ⟨fun | 156 => 36 | 165 => 64 | 166 => 65 | 169 => 66 | 240 => 83 | 241 => 84 | 276 => 105 | 277 => 106 | n => n, fun | 31 => 44 | 9 => 9 | 3 => 3 | 4 => 4 | 0 => 0 | 20 => 20 | 72 => 126 | 76 => 130 | 70 => 123 | 37 => 124 | 75 => 129 | 127 => 146 | 164 => 162 | 5 => 5 | 80 => 132 | n => n, fun | n => n⟩
theorem Tryz.lays156 : Go.Proofs.Lays.n156 Tryz.prog Tryz.lays156_ren := {
  mixed := by kernel_rfl
  f156 := Tryz.func36.trans (congrArg some (by kernel_rfl))
  f165 := Tryz.func64.trans (congrArg some (by kernel_rfl))
  f166 := Tryz.func65.trans (congrArg some (by kernel_rfl))
  f169 := Tryz.func66.trans (congrArg some (by kernel_rfl))
  f240 := Tryz.func83.trans (congrArg some (by kernel_rfl))
  f241 := Tryz.func84.trans (congrArg some (by kernel_rfl))
  f276 := Tryz.func105.trans (congrArg some (by kernel_rfl))
  f277 := Tryz.func106.trans (congrArg some (by kernel_rfl))
  t0 := Tryz.underlying0
  a0 := Tryz.isAgg0
  z0 := Tryz.sizeOf0
  v0 := Tryz.zeroValue0
  t3 := Tryz.underlying3
  a3 := Tryz.isAgg3
  z3 := Tryz.sizeOf3
  v3 := Tryz.zeroValue3
  t4 := Tryz.underlying4
  a4 := Tryz.isAgg4
  z4 := Tryz.sizeOf4
  v4 := Tryz.zeroValue4
  t9 := Tryz.underlying9
  a9 := Tryz.isAgg9
  z9 := Tryz.sizeOf9
  v9 := Tryz.zeroValue9
  t20 := Tryz.underlying20
  a20 := Tryz.isAgg20
  z20 := Tryz.sizeOf20
  v20 := Tryz.zeroValue20
  t31 := Tryz.underlying44
  a31 := Tryz.isAgg44
  z31 := Tryz.sizeOf44
  v31 := Tryz.zeroValue44
  t37 := Tryz.underlying124
  a37 := Tryz.isAgg124
  z37 := Tryz.sizeOf124
  v37 := Tryz.zeroValue124
  t70 := Tryz.underlying123
  a70 := Tryz.isAgg123
  z70 := Tryz.sizeOf123
  v70 := Tryz.zeroValue123
  t72 := Tryz.underlying126
  a72 := Tryz.isAgg126
  z72 := Tryz.sizeOf126
  v72 := Tryz.zeroValue126
  t75 := Tryz.underlying129
  a75 := Tryz.isAgg129
  z75 := Tryz.sizeOf129
  v75 := Tryz.zeroValue129
  t76 := Tryz.underlying130
  a76 := Tryz.isAgg130
  z76 := Tryz.sizeOf130
  v76 := Tryz.zeroValue130
  t127 := Tryz.underlying146
  a127 := Tryz.isAgg146
  z127 := Tryz.sizeOf146
  v127 := Tryz.zeroValue146
  t164 := Tryz.underlying162
  a164 := Tryz.isAgg162
  z164 := Tryz.sizeOf162
  v164 := Tryz.zeroValue162 }
theorem Tryz.Builder_Extra_156 : Builder.Extra Tryz.prog Tryz.lays156_ren := {
  sizeBuilder := by kernel_rfl
  liesBuilder := by kernel_rfl
  t5 := Tryz.underlying5
  a5 := Tryz.isAgg5
  z5 := Tryz.sizeOf5
  v5 := Tryz.zeroValue5
  infoByte := by kernel_rfl
  cellsByte := by kernel_rfl
  sizeByte := by kernel_rfl
  neB5 := by decide }
open Go.RowKit in
/-- No element: the empty string; the world is as it was. (Whatever the slice's address and capacity: a nil slice too.) (LAID: no walk: one application.) -/
theorem Tryz.strings_Join_none (a : Option Addr) (c : Nat) (sep : ByteArray) (w : World) :
    Calls Tryz.prog 36 #[.slice a 0 c, .string sep] w fun e w' => e = .returned (.string ⟨#[]⟩) ∧ w' = w := Any.strings_Join_none Tryz.lays156 Tryz.Builder_Extra_156 a c sep w
open Go.RowKit in
/-- strings.Join: "Join concatenates the elements of its first argument to create a single string. The separator string sep is placed between elements in the resulting string.": HOWEVER MANY ELEMENTS. Below the heap's end the world is as it was. (LAID: no walk: one application.) -/
theorem Tryz.strings_Join (bk o c : Nat) (xs : List ByteArray) (sep : ByteArray) (w : World) (hcells : ∀ (j : Nat) x, xs[j]? = some x → w.cell? ⟨bk, o + j, none⟩ = some (.string x)) (hbk : bk < w.heap.size) (hN : xs.length ≤ 140737488355328) (hcap : xs.length ≤ c) (hlen : (Lib.join (xs.map (·.data.toList)) sep.data.toList).length ≤ 140737488355328) :
    Calls Tryz.prog 36 #[.slice (some ⟨bk, o, none⟩) xs.length c, .string sep] w fun e w' => e = .returned (.string ⟨(Lib.join (xs.map (·.data.toList)) sep.data.toList).toArray⟩) ∧ Below w.heap.size w w' := Any.strings_Join Tryz.lays156 Tryz.Builder_Extra_156 bk o c xs sep w hcells hbk hN hcap hlen
def Tryz.lays146_ren : Go.Shelf.Ren := ⟨fun | 146 => 39 | 221 => 68 | 268 => 86 | 138 => 87 | 143 => 88 | 195 => 107 | 197 => 108 | 218 => 109 | 219 => 110 | 260 => 133 | 217 => 134 | 225 => 135 | 224 => 136 | 267 => 137 | 266 => 145 | 314 => 146 | n => n, fun | 9 => 9 | 31 => 44 | 3 => 3 | 4 => 4 | 0 => 0 | 105 => 166 | 21 => 21 | 5 => 5 | 46 => 144 | 119 => 193 | 139 => 196 | 138 => 195 | 146 => 197 | 51 => 157 | n => n, fun | 1 => 0 | 3 => 1 | 4 => 2 | n => n⟩
theorem Tryz.lays146 : Go.Proofs.Lays.n146 Tryz.prog Tryz.lays146_ren := {
  mixed := by kernel_rfl
  f138 := Tryz.func87.trans (congrArg some (by kernel_rfl))
  f143 := Tryz.func88.trans (congrArg some (by kernel_rfl))
  f146 := Tryz.func39.trans (congrArg some (by kernel_rfl))
  f195 := Tryz.func107.trans (congrArg some (by kernel_rfl))
  f197 := Tryz.func108.trans (congrArg some (by kernel_rfl))
  f217 := Tryz.func134.trans (congrArg some (by kernel_rfl))
  f218 := Tryz.func109.trans (congrArg some (by kernel_rfl))
  f219 := Tryz.func110.trans (congrArg some (by kernel_rfl))
  f221 := Tryz.func68.trans (congrArg some (by kernel_rfl))
  f224 := Tryz.func136.trans (congrArg some (by kernel_rfl))
  f225 := Tryz.func135.trans (congrArg some (by kernel_rfl))
  f260 := Tryz.func133.trans (congrArg some (by kernel_rfl))
  f266 := Tryz.func145.trans (congrArg some (by kernel_rfl))
  f267 := Tryz.func137.trans (congrArg some (by kernel_rfl))
  f268 := Tryz.func86.trans (congrArg some (by kernel_rfl))
  f314 := Tryz.func146.trans (congrArg some (by kernel_rfl))
  t0 := Tryz.underlying0
  a0 := Tryz.isAgg0
  z0 := Tryz.sizeOf0
  v0 := Tryz.zeroValue0
  t3 := Tryz.underlying3
  a3 := Tryz.isAgg3
  z3 := Tryz.sizeOf3
  v3 := Tryz.zeroValue3
  t4 := Tryz.underlying4
  a4 := Tryz.isAgg4
  z4 := Tryz.sizeOf4
  v4 := Tryz.zeroValue4
  t5 := Tryz.underlying5
  a5 := Tryz.isAgg5
  z5 := Tryz.sizeOf5
  v5 := Tryz.zeroValue5
  t9 := Tryz.underlying9
  a9 := Tryz.isAgg9
  z9 := Tryz.sizeOf9
  v9 := Tryz.zeroValue9
  t21 := Tryz.underlying21
  a21 := Tryz.isAgg21
  z21 := Tryz.sizeOf21
  v21 := Tryz.zeroValue21
  t31 := Tryz.underlying44
  a31 := Tryz.isAgg44
  z31 := Tryz.sizeOf44
  v31 := Tryz.zeroValue44
  t46 := Tryz.underlying144
  a46 := Tryz.isAgg144
  z46 := Tryz.sizeOf144
  v46 := Tryz.zeroValue144
  t51 := Tryz.underlying157
  a51 := Tryz.isAgg157
  z51 := Tryz.sizeOf157
  v51 := Tryz.zeroValue157
  t105 := Tryz.underlying166
  a105 := Tryz.isAgg166
  z105 := Tryz.sizeOf166
  v105 := Tryz.zeroValue166
  t119 := Tryz.underlying193
  a119 := Tryz.isAgg193
  z119 := Tryz.sizeOf193
  t138 := Tryz.underlying195
  a138 := Tryz.isAgg195
  z138 := Tryz.sizeOf195
  v138 := Tryz.zeroValue195
  t139 := Tryz.underlying196
  a139 := Tryz.isAgg196
  z139 := Tryz.sizeOf196
  v139 := Tryz.zeroValue196
  t146 := Tryz.underlying197
  a146 := Tryz.isAgg197
  z146 := Tryz.sizeOf197
  v146 := Tryz.zeroValue197
  g1 := by kernel_rfl
  g3 := by kernel_rfl
  g4 := by kernel_rfl }
open Go.RowKit Go.Lib in
/-- strings.Split. (LAID: no walk: one application.) -/
theorem Tryz.strings_Split (s sep : ByteArray) (m : Int) (w : World) (hs : s.size < 4294967281) (hm : w.cell? ⟨0, 0, none⟩ = some (.int .i64 m)) (h1 : 1 ≤ sep.size) :
    Calls Tryz.prog 39 #[.string s, .string sep] w fun e w' =>
      e = .returned (.slice (some ⟨w.heap.size, 0, none⟩) (Lib.countB s sep + 1) (Lib.countB s sep + 1)) ∧ w' = w.alloc (.cells ((Lib.splitB sep 0 (Lib.countB s sep) s).map Value.string).toArray 9) := Any.strings_Split Tryz.lays146 (by kernel_rfl) s sep m w hs hm h1
end Go.Proofs

/- strings.Split at a slash, strings.Join with a slash: the kit's contracts as contracts of these texts. -/
set_option linter.unusedVariables false
set_option linter.unusedSimpArgs false
namespace Go.Proofs.YtnoeabmpdjpfaaaGreatDoor.Vc.Pa
open Go Go.Proofs Go.RowKit

def mkS (l : List UInt8) : ByteArray := ⟨l.toArray⟩
theorem mkS_list (l : List UInt8) : (mkS l).data.toList = l := rfl
theorem mkS_of (b : ByteArray) : mkS b.data.toList = b := rfl
theorem mkS_inj {a b : List UInt8} (h : mkS a = mkS b) : a = b := by
  have := congrArg (fun x : ByteArray => x.data.toList) h
  simpa [mkS] using this
theorem mkS_size (l : List UInt8) : (mkS l).size = l.length := by simp [mkS, ByteArray.size]
def gN (n : List UInt8) : GV := .s (.string (mkS n))
theorem gN_ok (n : List UInt8) : (gN n).ok := rfl
theorem gN_els (ns : List (List UInt8)) : Els 1 (ns.map gN) := fun x hx => by
  simp only [List.mem_map] at hx
  obtain ⟨n, _, rfl⟩ := hx
  exact ⟨rfl, rfl⟩
theorem gN_flats : ∀ ns : List (List UInt8), flats (ns.map gN) = ns.map fun n => .string (mkS n)
  | [] => rfl
  | n :: ns => by
    have := gN_flats ns
    simp only [flats, List.map_cons, List.flatMap_cons] at this ⊢
    rw [this]; rfl
theorem getD_gN (ns : List (List UInt8)) (i : Nat) : (ns.map gN).getD i (.s (.string ⟨#[]⟩)) = .s (.string (mkS (ns.getD i []))) := by
  rw [List.getD_eq_getElem?_getD, List.getElem?_map, List.getD_eq_getElem?_getD]
  cases ns[i]? <;> rfl

/-- The one package variable that strings.Split reads. -/
def GlobI (u : PH) : Prop := ∃ cs e fz m, u 0 = some (.cells cs e fz) ∧ cs[0]? = some (.int .i64 m)
theorem GlobI.cell {u : PH} {w : World} (h : GlobI u) (hu : u.le w) : ∃ m, w.cell? ⟨0, 0, none⟩ = some (.int .i64 m) := by
  obtain ⟨cs, e, fz, m, h1, h2⟩ := h
  exact ⟨m, by rw [cell_of (hu _ _ h1)]; exact h2⟩

theorem splitB_segs (s : ByteArray) : Lib.splitB ⟨#[47]⟩ 0 (Lib.countB s ⟨#[47]⟩) s = (segs s.data.toList).map mkS := by
  have h := Lib.splitB_data ⟨#[47]⟩ 0 (Lib.countB s ⟨#[47]⟩) s
  rw [show Lib.splitK (⟨#[47]⟩ : ByteArray).data.toList 0 (Lib.countB s ⟨#[47]⟩) s.data.toList = segs s.data.toList from split_segs _] at h
  rw [← h, List.map_map]
  conv => lhs; rw [← List.map_id (Lib.splitB ⟨#[47]⟩ 0 (Lib.countB s ⟨#[47]⟩) s)]
  rfl

def SplitQ (ns : List (List UInt8)) (rs : List GV) (m' : PH) : Prop := ∃ v, rs = [.s v] ∧ SlO m' v 9 1 (ns.map gN)

theorem Split_spec (w : World) (s : ByteArray) (hs : s.size < 4294967281) (u : PH) (hu : u.le w) (hG : GlobI u) : Spec Tryz.prog 39 [.string s, .string ⟨#[47]⟩] PH.no w (SplitQ (segs s.data.toList)) := by
  intro _
  obtain ⟨m, hm⟩ := hG.cell hu
  refine (Tryz.strings_Split s ⟨#[47]⟩ m w hs hm (by decide)).mono fun e w' h => ?_
  obtain ⟨he, hw⟩ := h
  rw [splitB_segs] at hw
  have hl : Lib.countB s ⟨#[47]⟩ + 1 = (segs s.data.toList).length := by
    have := Lib.splitB_all ⟨#[47]⟩ (by decide) 0 _ s rfl
    rw [splitB_segs] at this
    simpa using this.symm
  subst hw
  refine ⟨[.s (.slice (some ⟨w.heap.size, 0, none⟩) (segs s.data.toList).length (segs s.data.toList).length)], one w.heap.size (.cells (((segs s.data.toList).map mkS).map Value.string).toArray 9), ?_, ?_, ⟨_, rfl, gN_els _, .inr ⟨⟨w.heap.size, 0, none⟩, (segs s.data.toList).length, by simp, by simp, fun _ => ⟨(((segs s.data.toList).map mkS).map Value.string).toArray, rfl, ?_, if_pos rfl, ?_⟩⟩⟩, ?_, ?_, ⟨rfl, rfl, rfl, by simp, fun k hk _ => alloc_old hk⟩⟩
  · rw [he, hl]; rfl
  · intro r hr
    simp only [List.mem_singleton] at hr
    subst hr; rfl
  · simp
  · intro j v hj
    rw [gN_flats] at hj
    simpa [List.map_map, Function.comp_def] using hj
  · intro b o hb
    simp only [one] at hb
    split at hb
    · rename_i e; subst e
      simp only [Option.some.injEq] at hb
      subst hb
      exact alloc_new
    · cases hb
  · intro b hb
    right
    simp only [one] at hb
    split at hb
    · rename_i e; omega
    · exact absurd rfl hb

theorem join_len (ns : List (List UInt8)) : (Lib.join ns [47]).length ≤ (ns.map List.length).sum + ns.length := by
  cases ns with
  | nil => simp [Lib.join_nil]
  | cons x r =>
    rw [Lib.join_cons]
    have key : ∀ r : List (List UInt8), (Lib.joinTail [47] r).length = (r.map List.length).sum + r.length := by
      intro r
      induction r with
      | nil => rfl
      | cons y r ih =>
        simp only [Lib.joinTail, List.map_cons, List.flatten_cons, List.length_append, List.length_cons, List.length_nil, List.sum_cons] at ih ⊢
        omega
    have := key r
    simp only [List.length_append, List.map_cons, List.sum_cons, List.length_cons]
    omega

theorem Join_spec (w : World) (v : Value) (ns : List (List UInt8)) (hb : (ns.map List.length).sum + ns.length ≤ 140737488355328) (u : PH) (hu : u.le w) (h : SlR u v 1 (ns.map gN)) :
    Spec Tryz.prog 36 [v, .string ⟨#[47]⟩] PH.no w fun rs _ => rs = [.s (.string (mkS (Lib.join ns [47])))] := by
  intro _
  have fin : ∀ {e : Ending} {w' : World}, e = .returned (.string (mkS (Lib.join ns [47]))) → Below w.heap.size w w' → ∃ (rs : List GV) (m' : PH), e = .returned (retV rs) ∧ (∀ r ∈ rs, r.ok) ∧ rs = [.s (.string (mkS (Lib.join ns [47])))] ∧ m'.le w' ∧ (∀ b, m' b ≠ none → PH.no b ≠ none ∨ w.heap.size ≤ b) ∧ Kept PH.no w w' := by
    intro e w' he hbl
    exact ⟨[.s (.string (mkS (Lib.join ns [47])))], PH.no, he, by simp [GV.ok, Value.oneCell'], rfl, (fun _ _ h => by cases h), (fun b hb => absurd rfl hb), hbl.os, hbl.tape, hbl.output, hbl.size, fun k hk _ => hbl.block k hk⟩
  obtain ⟨hels, hs⟩ := h
  rcases hs with ⟨rfl, h0⟩ | ⟨⟨b, o, sp⟩, c, rfl, hc, hs⟩
  · have : ns = [] := by simpa using h0
    subst this
    refine (Tryz.strings_Join_none none 0 ⟨#[47]⟩ w).mono fun e w' h => ?_
    obtain ⟨he, hw⟩ := h
    subst hw
    exact fin (by rw [he]; rfl) (Below.refl _ _)
  · simp only [List.length_map] at hc hs ⊢
    rcases Nat.eq_zero_or_pos c with hc0 | hc0
    · subst hc0
      have : ns = [] := List.length_eq_zero_iff.mp (by omega)
      subst this
      refine (Tryz.strings_Join_none (some ⟨b, o, sp⟩) 0 ⟨#[47]⟩ w).mono fun e w' h => ?_
      obtain ⟨he, hw⟩ := h
      subst hw
      exact fin (by rw [he]; rfl) (Below.refl _ _)
    · obtain ⟨cs, e, fz, rfl, g2, g3⟩ := hs hc0
      have hblk := hu _ _ g2
      have := Tryz.strings_Join b o c (ns.map mkS) ⟨#[47]⟩ w (fun j x hj => by
        rw [cell_of hblk]
        refine g3 j _ ?_
        rw [gN_flats]
        rw [List.getElem?_map] at hj ⊢
        cases hn : ns[j]? with
        | none => rw [hn] at hj; cases hj
        | some n => rw [hn] at hj; simp at hj; subst hj; rfl) (Array.getElem?_eq_some_iff.1 hblk).1 (by simp; omega) (by simpa using hc) (by
          rw [List.map_map]
          have := join_len ns
          simp only [Function.comp_def, mkS_list, List.map_id'] at this ⊢
          exact Nat.le_trans this hb)
      simp only [List.length_map, List.map_map, Function.comp_def, mkS_list, List.map_id'] at this
      exact this.mono fun e w' h => fin h.1 h.2
end Go.Proofs.YtnoeabmpdjpfaaaGreatDoor.Vc.Pa

/- The code of some functions of the program, its types resolved: printed by a program of this claim. -/
set_option linter.unusedVariables false
set_option maxRecDepth 100000
namespace Go.Proofs.YtnoeabmpdjpfaaaGreatDoor.Vc.Pa
open Go Go.Proofs

abbrev f_strings_CutPrefix : Nat := 38
def c_strings_CutPrefix : Cd :=
 (.seq (.rg [⟨none, [(some 4, .mv (.c (.string ⟨#[]⟩))), (some 5, .mv (.c (.bool false)))]⟩] [0, 1])
 (.seq (.rg [⟨none, [(some 6, .mv (.t 0)), (some 7, .mv (.t 1)), (some 8, .call 67 [(.t 6), (.t 7)]), (some 9, .ext (.t 8) 0), (some 10, .ext (.t 8) 1), (some 4, .mv (.t 9)), (some 5, .mv (.t 10))]⟩] [4, 5])
 .ret))
theorem k_strings_CutPrefix : Ok Tryz.prog 38 c_strings_CutPrefix 11 [] [.tmp 4, .tmp 5] := Ok.mk' Tryz.func38 (by kernel_rfl) (by kernel_rfl) (by kernel_rfl)

abbrev f_stringslite_CutPrefix : Nat := 67
def c_stringslite_CutPrefix : Cd :=
 (.seq (.rg [⟨none, [(some 4, .mv (.c (.string ⟨#[]⟩))), (some 5, .mv (.c (.bool false)))]⟩] [0, 1])
 (.seq (.seq (.rg [⟨none, [(some 6, .mv (.t 0)), (some 7, .mv (.t 1)), (some 8, .call 85 [(.t 6), (.t 7)]), (some 9, .un .not (.t 8))]⟩] [0, 1, 9])
 (.ite (.t 9)
 (.seq (.rg [⟨none, [(some 10, .mv (.t 0)), (some 4, .mv (.t 10)), (some 5, .mv (.c (.bool false)))]⟩] [4, 5])
 .ret)
 .skip))
 (.seq (.rg [⟨none, [(some 11, .mv (.t 0)), (some 12, .mv (.t 1)), (some 13, .lenS (.t 12)), (some 14, .slS (.t 11) (some (.t 13)) none), (some 4, .mv (.t 14)), (some 5, .mv (.c (.bool true)))]⟩] [4, 5])
 .ret)))
theorem k_stringslite_CutPrefix : Ok Tryz.prog 67 c_stringslite_CutPrefix 15 [] [.tmp 4, .tmp 5] := Ok.mk' Tryz.func67 (by kernel_rfl) (by kernel_rfl) (by kernel_rfl)

abbrev f_stringslite_HasPrefix : Nat := 85
def c_stringslite_HasPrefix : Cd :=
 (.seq (.rg [⟨none, [(some 4, .mv (.c (.bool false)))]⟩] [0, 1])
 (.seq (.rg [⟨none, [(some 5, .mv (.t 0)), (some 6, .lenS (.t 5)), (some 7, .mv (.t 1)), (some 8, .lenS (.t 7)), (some 9, .bin .geq (.t 6) (.t 8)), (some 10, .mv (.t 9))]⟩, ⟨some (10, true), [(some 11, .mv (.t 0)), (some 12, .mv (.t 1)), (some 13, .lenS (.t 12)), (some 14, .slS (.t 11) none (some (.t 13))), (some 15, .mv (.t 1)), (some 16, .bin .eql (.t 14) (.t 15))]⟩, ⟨none, [(some 17, .pick (.t 10) (.t 16) (.c (.bool false))), (some 4, .mv (.t 17))]⟩] [4])
 .ret))
theorem k_stringslite_HasPrefix : Ok Tryz.prog 85 c_stringslite_HasPrefix 18 [] [.tmp 4] := Ok.mk' Tryz.func85 (by kernel_rfl) (by kernel_rfl) (by kernel_rfl)

abbrev f_tree_Name : Nat := 69
def c_tree_Name_L0 : Cd :=
 (.seq (.rg [⟨none, [(some 24, .bin .lss (.t 23) (.t 22))]⟩] [21, 22, 23, 24])
 (.seq (.ite (.t 24)
 .skip
 (.exit 0))
 (.seq (.block 1 (.seq (.rg [⟨none, [(some 25, .idxS (.t 21) (.t 23) 1), (some 26, .ld (.t 25) 1 false), (some 4, .mv (.t 26))]⟩] [4, 21, 22, 23])
 (.seq (.rg [⟨none, [(some 27, .mv (.t 4)), (some 28, .bin .eql (.t 27) (.c (.int .u8 47)))]⟩] [21, 22, 23, 28])
 (.ite (.t 28)
 (.seq (.rg [⟨none, [(some 2, .mv (.c (.bool false)))]⟩] [2])
 .ret)
 .skip))))
 (.rg [⟨none, [(some 29, .bin .add (.t 23) (.c (.int .i64 1))), (some 23, .mv (.t 29))]⟩] [21, 22, 23]))))
def c_tree_Name : Cd :=
 (.seq (.rg [⟨none, [(some 2, .mv (.c (.bool false)))]⟩] [0])
 (.seq (.seq (.rg [⟨none, [(some 5, .mv (.t 0)), (some 6, .bin .eql (.t 5) (.c (.string ⟨#[]⟩))), (some 7, .mv (.t 6))]⟩, ⟨some (7, false), [(some 8, .mv (.t 0)), (some 9, .lenS (.t 8)), (some 10, .bin .gtr (.t 9) (.c (.int .i64 255)))]⟩, ⟨none, [(some 11, .pick (.t 7) (.c (.bool true)) (.t 10)), (some 12, .mv (.t 11))]⟩, ⟨some (12, false), [(some 13, .mv (.t 0)), (some 14, .bin .eql (.t 13) (.c (.string ⟨#[46]⟩)))]⟩, ⟨none, [(some 15, .pick (.t 12) (.c (.bool true)) (.t 14)), (some 16, .mv (.t 15))]⟩, ⟨some (16, false), [(some 17, .mv (.t 0)), (some 18, .bin .eql (.t 17) (.c (.string ⟨#[46, 46]⟩)))]⟩, ⟨none, [(some 19, .pick (.t 16) (.c (.bool true)) (.t 18))]⟩] [0, 19])
 (.ite (.t 19)
 (.seq (.rg [⟨none, [(some 2, .mv (.c (.bool false)))]⟩] [2])
 .ret)
 .skip))
 (.seq (.seq (.rg [⟨none, [(some 20, .mv (.t 0)), (some 21, .s2b 5 (.t 20)), (some 22, .len (.t 21)), (some 23, .mv (.c (.int .i64 0)))]⟩] [21, 22, 23])
 (.block 0 (.loop c_tree_Name_L0)))
 (.seq (.rg [⟨none, [(some 2, .mv (.c (.bool true)))]⟩] [2])
 .ret))))
theorem k_tree_Name : Ok Tryz.prog 69 c_tree_Name 30 [] [.tmp 2] := Ok.mk' Tryz.func69 (by kernel_rfl) (by kernel_rfl) (by kernel_rfl)

abbrev f_ref12_Name : Nat := 75
def c_ref12_Name_L0 : Cd :=
 (.seq (.seq (.rg [⟨none, [(some 19, .mv (.t 3)), (some 20, .mv (.t 0)), (some 21, .lenS (.t 20)), (some 22, .bin .lss (.t 19) (.t 21))]⟩] [0, 3, 22])
 (.ite (.t 22)
 .skip
 (.exit 0)))
 (.seq (.block 1 (.seq (.rg [⟨none, [(some 25, .mv (.t 0)), (some 26, .mv (.t 3)), (some 27, .strI (.t 25) (.t 26)), (some 28, .bin .eql (.t 27) (.c (.int .u8 47)))]⟩] [0, 3, 28])
 (.ite (.t 28)
 (.seq (.rg [⟨none, [(some 2, .mv (.c (.bool false)))]⟩] [2])
 .ret)
 .skip)))
 (.rg [⟨none, [(some 23, .mv (.t 3)), (some 24, .bin .add (.t 23) (.c (.int .i64 1))), (some 3, .mv (.t 24))]⟩] [0, 3])))
def c_ref12_Name : Cd :=
 (.seq (.rg [⟨none, [(some 2, .mv (.c (.bool false)))]⟩] [0])
 (.seq (.seq (.rg [⟨none, [(some 4, .mv (.t 0)), (some 5, .bin .eql (.t 4) (.c (.string ⟨#[]⟩))), (some 6, .mv (.t 5))]⟩, ⟨some (6, false), [(some 7, .mv (.t 0)), (some 8, .lenS (.t 7)), (some 9, .bin .gtr (.t 8) (.c (.int .i64 255)))]⟩, ⟨none, [(some 10, .pick (.t 6) (.c (.bool true)) (.t 9)), (some 11, .mv (.t 10))]⟩, ⟨some (11, false), [(some 12, .mv (.t 0)), (some 13, .bin .eql (.t 12) (.c (.string ⟨#[46]⟩)))]⟩, ⟨none, [(some 14, .pick (.t 11) (.c (.bool true)) (.t 13)), (some 15, .mv (.t 14))]⟩, ⟨some (15, false), [(some 16, .mv (.t 0)), (some 17, .bin .eql (.t 16) (.c (.string ⟨#[46, 46]⟩)))]⟩, ⟨none, [(some 18, .pick (.t 15) (.c (.bool true)) (.t 17))]⟩] [0, 18])
 (.ite (.t 18)
 (.seq (.rg [⟨none, [(some 2, .mv (.c (.bool false)))]⟩] [2])
 .ret)
 .skip))
 (.seq (.seq (.rg [⟨none, [(some 3, .mv (.c (.int .i64 0)))]⟩] [0, 3])
 (.block 0 (.loop c_ref12_Name_L0)))
 (.seq (.rg [⟨none, [(some 2, .mv (.c (.bool true)))]⟩] [2])
 .ret))))
theorem k_ref12_Name : Ok Tryz.prog 75 c_ref12_Name 29 [] [.tmp 2] := Ok.mk' Tryz.func75 (by kernel_rfl) (by kernel_rfl) (by kernel_rfl)

abbrev f_path_wrong : Nat := 40
def c_path_wrong_L0 : Cd :=
 (.seq (.rg [⟨none, [(some 8, .bin .lss (.t 7) (.t 6))]⟩] [0, 5, 6, 7, 8])
 (.seq (.ite (.t 8)
 .skip
 (.exit 0))
 (.seq (.block 1 (.seq (.rg [⟨none, [(some 9, .idxS (.t 5) (.t 7) 1), (some 10, .ld (.t 9) 1 false), (some 4, .mv (.t 10))]⟩] [0, 4, 5, 6, 7])
 (.seq (.rg [⟨none, [(some 11, .mv (.t 4)), (some 12, .call 69 [(.t 11)]), (some 13, .un .not (.t 12))]⟩] [0, 5, 6, 7, 13])
 (.ite (.t 13)
 (.seq (.rg [⟨none, [(some 2, .mv (.c (.int .i64 200)))]⟩] [2])
 .ret)
 .skip))))
 (.rg [⟨none, [(some 14, .bin .add (.t 7) (.c (.int .i64 1))), (some 7, .mv (.t 14))]⟩] [0, 5, 6, 7]))))
def c_path_wrong : Cd :=
 (.seq (.rg [⟨none, [(some 2, .mv (.c (.int .i64 0)))]⟩] [0])
 (.seq (.seq (.rg [⟨none, [(some 5, .mv (.t 0)), (some 6, .len (.t 5)), (some 7, .mv (.c (.int .i64 0)))]⟩] [0, 5, 6, 7])
 (.block 0 (.loop c_path_wrong_L0)))
 (.seq (.seq (.rg [⟨none, [(some 15, .mv (.t 0)), (some 16, .len (.t 15)), (some 17, .bin .gtr (.t 16) (.c (.int .i64 64)))]⟩] [17])
 (.ite (.t 17)
 (.seq (.rg [⟨none, [(some 2, .mv (.c (.int .i64 3)))]⟩] [2])
 .ret)
 .skip))
 (.seq (.rg [⟨none, [(some 2, .mv (.c (.int .i64 0)))]⟩] [2])
 .ret))))
theorem k_path_wrong : Ok Tryz.prog 40 c_path_wrong 18 [] [.tmp 2] := Ok.mk' Tryz.func40 (by kernel_rfl) (by kernel_rfl) (by kernel_rfl)

end Go.Proofs.YtnoeabmpdjpfaaaGreatDoor.Vc.Pa

/- Names: what the functions compute. -/
set_option linter.unusedVariables false
set_option linter.unusedSimpArgs false
set_option maxRecDepth 100000
namespace Go.Proofs.YtnoeabmpdjpfaaaGreatDoor.Vc.Pa
open Go Go.Proofs

theorem mkS_eq (n l : List UInt8) : (mkS n = mkS l) = (n = l) := propext ⟨mkS_inj, fun h => by rw [h]⟩
theorem mkS_e0 (n : List UInt8) : (mkS n = ⟨#[]⟩) = (n = []) := mkS_eq n []
theorem mkS_e46 (n : List UInt8) : (mkS n = ⟨#[46]⟩) = (n = [46]) := mkS_eq n [46]
theorem mkS_e4646 (n : List UInt8) : (mkS n = ⟨#[46, 46]⟩) = (n = [46, 46]) := mkS_eq n [46, 46]
theorem mkS_e47 (n : List UInt8) : (mkS n = ⟨#[47]⟩) = (n = [47]) := mkS_eq n [47]
theorem mkS_at (n : List UInt8) (i : Nat) : (mkS n).data.getD i 0 = n.getD i 0 := by simp [mkS, Array.getD_eq_getD_getElem?, List.getD_eq_getElem?_getD]
theorem mkS_ext (n : List UInt8) (a b : Nat) : (mkS n).extract a b = mkS ((n.drop a).take (b - a)) := by
  apply ByteArray.ext
  simp [mkS, ByteArray.data_extract]
theorem getD_gb (n : List UInt8) (i : Nat) : (n.map gb).getD i (gb 0) = .s (.int .u8 (n.getD i 0).toNat) := by
  rw [List.getD_eq_getElem?_getD, List.getElem?_map, List.getD_eq_getElem?_getD]
  cases n[i]? <;> rfl
theorem byte47 (b : UInt8) : ((b.toNat : Int) == 47) = (b == 47) := by
  by_cases h : b = 47
  · subst h; rfl
  · have h2 : b.toNat ≠ 47 := fun e => h (by rw [← UInt8.ofNat_toNat (x := b), e]; rfl)
    rw [show (b == 47) = false by simpa using h]
    simpa using fun e => h2 (by omega)

theorem nameA_bad {n : List UInt8} (h : n = [] ∨ ¬ n.length ≤ 255 ∨ n = [46] ∨ n = [46, 46]) : nameA n = false := by
  rcases h with rfl | h | rfl | rfl
  · rfl
  · simp [nameA]; intro _ h2; omega
  · decide
  · decide
theorem nameA_slash {n : List UInt8} {i : Nat} (hi : i < n.length) (h : n.getD i 0 = 47) : nameA n = false := by
  have : 47 ∈ n := by
    rw [List.getD_eq_getElem?_getD, List.getElem?_eq_getElem hi] at h
    simp at h
    rw [← h]
    exact List.getElem_mem _
  cases hn : nameA n with
  | false => rfl
  | true => exact absurd this (nameA_no hn)
theorem nameA_good {n : List UInt8} (h1 : n ≠ []) (h2 : n.length ≤ 255) (h3 : n ≠ [46]) (h4 : n ≠ [46, 46]) (h5 : ∀ j, j < n.length → n.getD j 0 ≠ 47) : nameA n = true := by
  have : 47 ∉ n := fun h => by
    obtain ⟨j, hj, e⟩ := List.mem_iff_getElem.1 h
    exact h5 j hj (by rw [List.getD_eq_getElem?_getD, List.getElem?_eq_getElem hj]; simpa using e)
  simp [nameA, h1, h2, h3, h4, this]

theorem Name_fn (n : List UInt8) (hb : n.length ≤ 140737488355328) : FnV Tryz.prog f_tree_Name [gN n] [.s (.bool (nameA n))] := by
  refine spec_fnv k_tree_Name (by simp) (by simp [gN_ok]) fun w => ?_
  simp (maxSteps := 2000000) only [c_tree_Name, gN, vc_skip, vc_ret, vc_exit, vc_seq, vc_block, vc_scope, scopeQ_n, scopeQ_r, scopeQ_e, vc_rg, vc_rgq, vc_rga, vc_ite, thenQ_n, thenQ_r, thenQ_e, blockQ_n, blockQ_r, blockQ_e, kKeep_eq, loopQ_r, loopQ_e, loopQ_n, finQ_r, finQ_n, segs_nil, segs_n, segs_g, ops_nil, ops_cons, qsegs_nil, qsegs_n, qsegs_g, qops_nil, qops_cons, ot_done, ot_op, ot_or, ot_held, oh_done, oh_op, oh_or, oh_first, oh_firstg, heldC_eq, heldF_eq, heldOk, heldK, ldH, heldM_self, heldM_one, heldM_two, heldM_three, List.contains_cons, List.contains_nil, Bool.or_false, Bool.or_true, Bool.true_or, Bool.false_or, vcqOp, vcOp, isRd, RO.isGh, skip_mk, skipL, ev, evL, gvL, scL, look, updL, put_mk, put_mk0, keep_mk, keepL, rowE, rowD, bndN, binV, binC, unV, GV.getT, GV.fld, GV.sz, GV.same, GV.setT, Value.oneCell', cond_true, cond_false, Nat.reduceEqDiff, Nat.reduceAdd, Nat.reduceMul, Nat.reduceSub, Nat.reduceBEq, Nat.reduceLeDiff, ↓reduceIte, reduceCtorEq, List.nil_append, List.cons_append, List.append_nil, Nat.zero_add, Nat.add_zero, Bool.and_true, Bool.true_and, Bool.not_true, Bool.not_false, BEq.rfl, decide_true, decide_false, true_and, and_true, initF, initP, List.map_cons, List.map_nil, Option.map_some, szAll, List.length_cons, List.length_nil, finW_r, finW_n, resL, resOne, Option.bind_some, true_imp_iff, false_imp_iff, Bool.true_eq_false, Bool.false_eq_true, Int.toNat_natCast, Int.reduceToNat, Int.reduceLE, Int.reduceLT, Int.reduceAdd, Int.reduceSub, Int.reduceEq, decide_eq_true_eq, decide_eq_false_iff_not, kill, SV.mentions, ne_eq, not_false_eq_true, not_true_eq_false, List.drop_zero, List.take_succ_cons, List.take_zero, dOk, ↓br_tt, ↓br_ff, ↓br_tf, ↓br_ft, br_t, br_f, Bool.bne_false, Bool.bne_true, GV.bldT, GV.bldC, gVec_get, gVec_set, gVec_arr, gVec_fits, gVec_sz, gVec_sameT, gVec_zero, gVec_isS, gVec2_get, gVec2_arr, gVec2_fits, gVec2_sz, gVec2_sameT, gVec2_zero, gVec2_set, same_int, getT_nil, setT_nil, getD_gi, List.length_map, fits_s, fits_c, fits_ar, arr_ar, get_nil, mkS_size, getD_gN, getD_gb, mkS_at, mkS_e0, mkS_e46, mkS_e4646, mkS_e47, mkS_ext, List.length_map]
  refine ⟨fun h0 => ⟨fun h1 => ⟨fun h2 => ⟨fun h3 => by rw [nameA_bad (.inr (.inr (.inr h3)))], fun h3 u => ?_⟩, fun h2 => by rw [nameA_bad (.inr (.inr (.inl h2)))]⟩, fun h1 => by rw [nameA_bad (.inr (.inl (by omega)))]⟩, fun h0 => by rw [nameA_bad (.inl h0)]⟩
  rw [mkS_list]
  refine vc_loop (ι := Nat) (fun i => ⟨[(21, .row 21 0 (n.length)), (22, .g (.s (.int .i64 (n.length)))), (23, .g (.s (.int .i64 (i))))], [(21, .ro 1 (gb 0) (n.map gb))], [u], PH.no⟩) (fun i => i ≤ n.length ∧ ∀ j, j < i → n.getD j 0 ≠ 47) (fun i => n.length - i) 0 (by simp) (ge_of ?_ ?_ rfl rfl rfl) ?_
  · simp [frIn, look]
  · simp [pvIn, look]
  rintro i ⟨hi, hj⟩
  generalize hQ : loopQ _ _ _ _ _ = Q
  simp (maxSteps := 2000000) only [c_tree_Name_L0, byte47, beq_iff_eq, beq_eq_false_iff_ne, vc_skip, vc_ret, vc_exit, vc_seq, vc_block, vc_scope, scopeQ_n, scopeQ_r, scopeQ_e, vc_rg, vc_rgq, vc_rga, vc_ite, thenQ_n, thenQ_r, thenQ_e, blockQ_n, blockQ_r, blockQ_e, kKeep_eq, loopQ_r, loopQ_e, loopQ_n, finQ_r, finQ_n, segs_nil, segs_n, segs_g, ops_nil, ops_cons, qsegs_nil, qsegs_n, qsegs_g, qops_nil, qops_cons, ot_done, ot_op, ot_or, ot_held, oh_done, oh_op, oh_or, oh_first, oh_firstg, heldC_eq, heldF_eq, heldOk, heldK, ldH, heldM_self, heldM_one, heldM_two, heldM_three, List.contains_cons, List.contains_nil, Bool.or_false, Bool.or_true, Bool.true_or, Bool.false_or, vcqOp, vcOp, isRd, RO.isGh, skip_mk, skipL, ev, evL, gvL, scL, look, updL, put_mk, put_mk0, keep_mk, keepL, rowE, rowD, bndN, binV, binC, unV, GV.getT, GV.fld, GV.sz, GV.same, GV.setT, Value.oneCell', cond_true, cond_false, Nat.reduceEqDiff, Nat.reduceAdd, Nat.reduceMul, Nat.reduceSub, Nat.reduceBEq, Nat.reduceLeDiff, ↓reduceIte, reduceCtorEq, List.nil_append, List.cons_append, List.append_nil, Nat.zero_add, Nat.add_zero, Bool.and_true, Bool.true_and, Bool.not_true, Bool.not_false, BEq.rfl, decide_true, decide_false, true_and, and_true, initF, initP, List.map_cons, List.map_nil, Option.map_some, szAll, List.length_cons, List.length_nil, finW_r, finW_n, resL, resOne, Option.bind_some, true_imp_iff, false_imp_iff, Bool.true_eq_false, Bool.false_eq_true, Int.toNat_natCast, Int.reduceToNat, Int.reduceLE, Int.reduceLT, Int.reduceAdd, Int.reduceSub, Int.reduceEq, decide_eq_true_eq, decide_eq_false_iff_not, kill, SV.mentions, ne_eq, not_false_eq_true, not_true_eq_false, List.drop_zero, List.take_succ_cons, List.take_zero, dOk, ↓br_tt, ↓br_ff, ↓br_tf, ↓br_ft, br_t, br_f, Bool.bne_false, Bool.bne_true, GV.bldT, GV.bldC, gVec_get, gVec_set, gVec_arr, gVec_fits, gVec_sz, gVec_sameT, gVec_zero, gVec_isS, gVec2_get, gVec2_arr, gVec2_fits, gVec2_sz, gVec2_sameT, gVec2_zero, gVec2_set, same_int, getT_nil, setT_nil, getD_gi, List.length_map, fits_s, fits_c, fits_ar, arr_ar, get_nil, mkS_size, getD_gN, getD_gb, mkS_at, mkS_e0, mkS_e46, mkS_e4646, mkS_e47, mkS_ext, List.length_map]
  refine ⟨fun hlt => ⟨by omega, fun h => ?_, fun h => ?_⟩, fun hlt => ?_⟩
  · subst hQ
    simp (maxSteps := 2000000) only [vc_skip, vc_ret, vc_exit, vc_seq, vc_block, vc_scope, scopeQ_n, scopeQ_r, scopeQ_e, vc_rg, vc_rgq, vc_rga, vc_ite, thenQ_n, thenQ_r, thenQ_e, blockQ_n, blockQ_r, blockQ_e, kKeep_eq, loopQ_r, loopQ_e, loopQ_n, finQ_r, finQ_n, segs_nil, segs_n, segs_g, ops_nil, ops_cons, qsegs_nil, qsegs_n, qsegs_g, qops_nil, qops_cons, ot_done, ot_op, ot_or, ot_held, oh_done, oh_op, oh_or, oh_first, oh_firstg, heldC_eq, heldF_eq, heldOk, heldK, ldH, heldM_self, heldM_one, heldM_two, heldM_three, List.contains_cons, List.contains_nil, Bool.or_false, Bool.or_true, Bool.true_or, Bool.false_or, vcqOp, vcOp, isRd, RO.isGh, skip_mk, skipL, ev, evL, gvL, scL, look, updL, put_mk, put_mk0, keep_mk, keepL, rowE, rowD, bndN, binV, binC, unV, GV.getT, GV.fld, GV.sz, GV.same, GV.setT, Value.oneCell', cond_true, cond_false, Nat.reduceEqDiff, Nat.reduceAdd, Nat.reduceMul, Nat.reduceSub, Nat.reduceBEq, Nat.reduceLeDiff, ↓reduceIte, reduceCtorEq, List.nil_append, List.cons_append, List.append_nil, Nat.zero_add, Nat.add_zero, Bool.and_true, Bool.true_and, Bool.not_true, Bool.not_false, BEq.rfl, decide_true, decide_false, true_and, and_true, initF, initP, List.map_cons, List.map_nil, Option.map_some, szAll, List.length_cons, List.length_nil, finW_r, finW_n, resL, resOne, Option.bind_some, true_imp_iff, false_imp_iff, Bool.true_eq_false, Bool.false_eq_true, Int.toNat_natCast, Int.reduceToNat, Int.reduceLE, Int.reduceLT, Int.reduceAdd, Int.reduceSub, Int.reduceEq, decide_eq_true_eq, decide_eq_false_iff_not, kill, SV.mentions, ne_eq, not_false_eq_true, not_true_eq_false, List.drop_zero, List.take_succ_cons, List.take_zero, dOk, ↓br_tt, ↓br_ff, ↓br_tf, ↓br_ft, br_t, br_f, Bool.bne_false, Bool.bne_true, GV.bldT, GV.bldC, gVec_get, gVec_set, gVec_arr, gVec_fits, gVec_sz, gVec_sameT, gVec_zero, gVec_isS, gVec2_get, gVec2_arr, gVec2_fits, gVec2_sz, gVec2_sameT, gVec2_zero, gVec2_set, same_int, getT_nil, setT_nil, getD_gi, List.length_map, fits_s, fits_c, fits_ar, arr_ar, get_nil, mkS_size, getD_gN, getD_gb, mkS_at, mkS_e0, mkS_e46, mkS_e4646, mkS_e47, mkS_ext, List.length_map]
    rw [nameA_slash (i := i) (by omega) h]
  · subst hQ; simp only [loopQ_n]; refine ⟨i + 1, ?_, ?_, ge_of ?_ ?_ rfl rfl rfl⟩
    · refine ⟨by omega, fun j hj2 => ?_⟩
      rcases Nat.lt_succ_iff_lt_or_eq.1 hj2 with h4 | rfl
      · exact hj j h4
      · exact h
    · omega
    · simp only [frIn, vc_skip, vc_ret, vc_exit, vc_seq, vc_block, vc_scope, scopeQ_n, scopeQ_r, scopeQ_e, vc_rg, vc_rgq, vc_rga, vc_ite, thenQ_n, thenQ_r, thenQ_e, blockQ_n, blockQ_r, blockQ_e, kKeep_eq, loopQ_r, loopQ_e, loopQ_n, finQ_r, finQ_n, segs_nil, segs_n, segs_g, ops_nil, ops_cons, qsegs_nil, qsegs_n, qsegs_g, qops_nil, qops_cons, ot_done, ot_op, ot_or, ot_held, oh_done, oh_op, oh_or, oh_first, oh_firstg, heldC_eq, heldF_eq, heldOk, heldK, ldH, heldM_self, heldM_one, heldM_two, heldM_three, List.contains_cons, List.contains_nil, Bool.or_false, Bool.or_true, Bool.true_or, Bool.false_or, vcqOp, vcOp, isRd, RO.isGh, skip_mk, skipL, ev, evL, gvL, scL, look, updL, put_mk, put_mk0, keep_mk, keepL, rowE, rowD, bndN, binV, binC, unV, GV.getT, GV.fld, GV.sz, GV.same, GV.setT, Value.oneCell', cond_true, cond_false, Nat.reduceEqDiff, Nat.reduceAdd, Nat.reduceMul, Nat.reduceSub, Nat.reduceBEq, Nat.reduceLeDiff, ↓reduceIte, reduceCtorEq, List.nil_append, List.cons_append, List.append_nil, Nat.zero_add, Nat.add_zero, Bool.and_true, Bool.true_and, Bool.not_true, Bool.not_false, BEq.rfl, decide_true, decide_false, true_and, and_true, initF, initP, List.map_cons, List.map_nil, Option.map_some, szAll, List.length_cons, List.length_nil, finW_r, finW_n, resL, resOne, Option.bind_some, true_imp_iff, false_imp_iff, Bool.true_eq_false, Bool.false_eq_true, Int.toNat_natCast, Int.reduceToNat, Int.reduceLE, Int.reduceLT, Int.reduceAdd, Int.reduceSub, Int.reduceEq, decide_eq_true_eq, decide_eq_false_iff_not, kill, SV.mentions, ne_eq, not_false_eq_true, not_true_eq_false, List.drop_zero, List.take_succ_cons, List.take_zero, dOk, ↓br_tt, ↓br_ff, ↓br_tf, ↓br_ft, br_t, br_f, Bool.bne_false, Bool.bne_true, GV.bldT, GV.bldC]
      rw [wrap_n (by omega)]
      try simp
    · simp [pvIn, look]
  · subst hQ
    simp (maxSteps := 2000000) only [vc_skip, vc_ret, vc_exit, vc_seq, vc_block, vc_scope, scopeQ_n, scopeQ_r, scopeQ_e, vc_rg, vc_rgq, vc_rga, vc_ite, thenQ_n, thenQ_r, thenQ_e, blockQ_n, blockQ_r, blockQ_e, kKeep_eq, loopQ_r, loopQ_e, loopQ_n, finQ_r, finQ_n, segs_nil, segs_n, segs_g, ops_nil, ops_cons, qsegs_nil, qsegs_n, qsegs_g, qops_nil, qops_cons, ot_done, ot_op, ot_or, ot_held, oh_done, oh_op, oh_or, oh_first, oh_firstg, heldC_eq, heldF_eq, heldOk, heldK, ldH, heldM_self, heldM_one, heldM_two, heldM_three, List.contains_cons, List.contains_nil, Bool.or_false, Bool.or_true, Bool.true_or, Bool.false_or, vcqOp, vcOp, isRd, RO.isGh, skip_mk, skipL, ev, evL, gvL, scL, look, updL, put_mk, put_mk0, keep_mk, keepL, rowE, rowD, bndN, binV, binC, unV, GV.getT, GV.fld, GV.sz, GV.same, GV.setT, Value.oneCell', cond_true, cond_false, Nat.reduceEqDiff, Nat.reduceAdd, Nat.reduceMul, Nat.reduceSub, Nat.reduceBEq, Nat.reduceLeDiff, ↓reduceIte, reduceCtorEq, List.nil_append, List.cons_append, List.append_nil, Nat.zero_add, Nat.add_zero, Bool.and_true, Bool.true_and, Bool.not_true, Bool.not_false, BEq.rfl, decide_true, decide_false, true_and, and_true, initF, initP, List.map_cons, List.map_nil, Option.map_some, szAll, List.length_cons, List.length_nil, finW_r, finW_n, resL, resOne, Option.bind_some, true_imp_iff, false_imp_iff, Bool.true_eq_false, Bool.false_eq_true, Int.toNat_natCast, Int.reduceToNat, Int.reduceLE, Int.reduceLT, Int.reduceAdd, Int.reduceSub, Int.reduceEq, decide_eq_true_eq, decide_eq_false_iff_not, kill, SV.mentions, ne_eq, not_false_eq_true, not_true_eq_false, List.drop_zero, List.take_succ_cons, List.take_zero, dOk, ↓br_tt, ↓br_ff, ↓br_tf, ↓br_ft, br_t, br_f, Bool.bne_false, Bool.bne_true, GV.bldT, GV.bldC, gVec_get, gVec_set, gVec_arr, gVec_fits, gVec_sz, gVec_sameT, gVec_zero, gVec_isS, gVec2_get, gVec2_arr, gVec2_fits, gVec2_sz, gVec2_sameT, gVec2_zero, gVec2_set, same_int, getT_nil, setT_nil, getD_gi, List.length_map, fits_s, fits_c, fits_ar, arr_ar, get_nil, mkS_size, getD_gN, getD_gb, mkS_at, mkS_e0, mkS_e46, mkS_e4646, mkS_e47, mkS_ext, List.length_map]
    rw [nameA_good h0 (by omega) h2 h3 fun j hjl => hj j (by omega)]

theorem ref_Name_fn (n : List UInt8) (hb : n.length ≤ 140737488355328) : FnV Tryz.prog f_ref12_Name [gN n] [.s (.bool (nameA n))] := by
  refine spec_fnv k_ref12_Name (by simp) (by simp [gN_ok]) fun w => ?_
  simp (maxSteps := 2000000) only [c_ref12_Name, gN, vc_skip, vc_ret, vc_exit, vc_seq, vc_block, vc_scope, scopeQ_n, scopeQ_r, scopeQ_e, vc_rg, vc_rgq, vc_rga, vc_ite, thenQ_n, thenQ_r, thenQ_e, blockQ_n, blockQ_r, blockQ_e, kKeep_eq, loopQ_r, loopQ_e, loopQ_n, finQ_r, finQ_n, segs_nil, segs_n, segs_g, ops_nil, ops_cons, qsegs_nil, qsegs_n, qsegs_g, qops_nil, qops_cons, ot_done, ot_op, ot_or, ot_held, oh_done, oh_op, oh_or, oh_first, oh_firstg, heldC_eq, heldF_eq, heldOk, heldK, ldH, heldM_self, heldM_one, heldM_two, heldM_three, List.contains_cons, List.contains_nil, Bool.or_false, Bool.or_true, Bool.true_or, Bool.false_or, vcqOp, vcOp, isRd, RO.isGh, skip_mk, skipL, ev, evL, gvL, scL, look, updL, put_mk, put_mk0, keep_mk, keepL, rowE, rowD, bndN, binV, binC, unV, GV.getT, GV.fld, GV.sz, GV.same, GV.setT, Value.oneCell', cond_true, cond_false, Nat.reduceEqDiff, Nat.reduceAdd, Nat.reduceMul, Nat.reduceSub, Nat.reduceBEq, Nat.reduceLeDiff, ↓reduceIte, reduceCtorEq, List.nil_append, List.cons_append, List.append_nil, Nat.zero_add, Nat.add_zero, Bool.and_true, Bool.true_and, Bool.not_true, Bool.not_false, BEq.rfl, decide_true, decide_false, true_and, and_true, initF, initP, List.map_cons, List.map_nil, Option.map_some, szAll, List.length_cons, List.length_nil, finW_r, finW_n, resL, resOne, Option.bind_some, true_imp_iff, false_imp_iff, Bool.true_eq_false, Bool.false_eq_true, Int.toNat_natCast, Int.reduceToNat, Int.reduceLE, Int.reduceLT, Int.reduceAdd, Int.reduceSub, Int.reduceEq, decide_eq_true_eq, decide_eq_false_iff_not, kill, SV.mentions, ne_eq, not_false_eq_true, not_true_eq_false, List.drop_zero, List.take_succ_cons, List.take_zero, dOk, ↓br_tt, ↓br_ff, ↓br_tf, ↓br_ft, br_t, br_f, Bool.bne_false, Bool.bne_true, GV.bldT, GV.bldC, gVec_get, gVec_set, gVec_arr, gVec_fits, gVec_sz, gVec_sameT, gVec_zero, gVec_isS, gVec2_get, gVec2_arr, gVec2_fits, gVec2_sz, gVec2_sameT, gVec2_zero, gVec2_set, same_int, getT_nil, setT_nil, getD_gi, List.length_map, fits_s, fits_c, fits_ar, arr_ar, get_nil, mkS_size, getD_gN, getD_gb, mkS_at, mkS_e0, mkS_e46, mkS_e4646, mkS_e47, mkS_ext, List.length_map]
  refine ⟨fun h0 => ⟨fun h1 => ⟨fun h2 => ⟨fun h3 => by rw [nameA_bad (.inr (.inr (.inr h3)))], fun h3 => ?_⟩, fun h2 => by rw [nameA_bad (.inr (.inr (.inl h2)))]⟩, fun h1 => by rw [nameA_bad (.inr (.inl (by omega)))]⟩, fun h0 => by rw [nameA_bad (.inl h0)]⟩
  refine vc_loop (ι := Nat) (fun i => ⟨[(0, .g (.s (.string (mkS n)))), (3, .g (.s (.int .i64 (i))))], [], [], PH.no⟩) (fun i => i ≤ n.length ∧ ∀ j, j < i → n.getD j 0 ≠ 47) (fun i => n.length - i) 0 (by simp) (ge_of ?_ ?_ rfl rfl rfl) ?_
  · simp [frIn, look]
  · simp [pvIn, look]
  rintro i ⟨hi, hj⟩
  generalize hQ : loopQ _ _ _ _ _ = Q
  simp (maxSteps := 2000000) only [c_ref12_Name_L0, byte47, beq_iff_eq, beq_eq_false_iff_ne, vc_skip, vc_ret, vc_exit, vc_seq, vc_block, vc_scope, scopeQ_n, scopeQ_r, scopeQ_e, vc_rg, vc_rgq, vc_rga, vc_ite, thenQ_n, thenQ_r, thenQ_e, blockQ_n, blockQ_r, blockQ_e, kKeep_eq, loopQ_r, loopQ_e, loopQ_n, finQ_r, finQ_n, segs_nil, segs_n, segs_g, ops_nil, ops_cons, qsegs_nil, qsegs_n, qsegs_g, qops_nil, qops_cons, ot_done, ot_op, ot_or, ot_held, oh_done, oh_op, oh_or, oh_first, oh_firstg, heldC_eq, heldF_eq, heldOk, heldK, ldH, heldM_self, heldM_one, heldM_two, heldM_three, List.contains_cons, List.contains_nil, Bool.or_false, Bool.or_true, Bool.true_or, Bool.false_or, vcqOp, vcOp, isRd, RO.isGh, skip_mk, skipL, ev, evL, gvL, scL, look, updL, put_mk, put_mk0, keep_mk, keepL, rowE, rowD, bndN, binV, binC, unV, GV.getT, GV.fld, GV.sz, GV.same, GV.setT, Value.oneCell', cond_true, cond_false, Nat.reduceEqDiff, Nat.reduceAdd, Nat.reduceMul, Nat.reduceSub, Nat.reduceBEq, Nat.reduceLeDiff, ↓reduceIte, reduceCtorEq, List.nil_append, List.cons_append, List.append_nil, Nat.zero_add, Nat.add_zero, Bool.and_true, Bool.true_and, Bool.not_true, Bool.not_false, BEq.rfl, decide_true, decide_false, true_and, and_true, initF, initP, List.map_cons, List.map_nil, Option.map_some, szAll, List.length_cons, List.length_nil, finW_r, finW_n, resL, resOne, Option.bind_some, true_imp_iff, false_imp_iff, Bool.true_eq_false, Bool.false_eq_true, Int.toNat_natCast, Int.reduceToNat, Int.reduceLE, Int.reduceLT, Int.reduceAdd, Int.reduceSub, Int.reduceEq, decide_eq_true_eq, decide_eq_false_iff_not, kill, SV.mentions, ne_eq, not_false_eq_true, not_true_eq_false, List.drop_zero, List.take_succ_cons, List.take_zero, dOk, ↓br_tt, ↓br_ff, ↓br_tf, ↓br_ft, br_t, br_f, Bool.bne_false, Bool.bne_true, GV.bldT, GV.bldC, gVec_get, gVec_set, gVec_arr, gVec_fits, gVec_sz, gVec_sameT, gVec_zero, gVec_isS, gVec2_get, gVec2_arr, gVec2_fits, gVec2_sz, gVec2_sameT, gVec2_zero, gVec2_set, same_int, getT_nil, setT_nil, getD_gi, List.length_map, fits_s, fits_c, fits_ar, arr_ar, get_nil, mkS_size, getD_gN, getD_gb, mkS_at, mkS_e0, mkS_e46, mkS_e4646, mkS_e47, mkS_ext, List.length_map]
  refine ⟨fun hlt => ⟨by omega, fun h => ?_, fun h => ?_⟩, fun hlt => ?_⟩
  · subst hQ
    simp (maxSteps := 2000000) only [vc_skip, vc_ret, vc_exit, vc_seq, vc_block, vc_scope, scopeQ_n, scopeQ_r, scopeQ_e, vc_rg, vc_rgq, vc_rga, vc_ite, thenQ_n, thenQ_r, thenQ_e, blockQ_n, blockQ_r, blockQ_e, kKeep_eq, loopQ_r, loopQ_e, loopQ_n, finQ_r, finQ_n, segs_nil, segs_n, segs_g, ops_nil, ops_cons, qsegs_nil, qsegs_n, qsegs_g, qops_nil, qops_cons, ot_done, ot_op, ot_or, ot_held, oh_done, oh_op, oh_or, oh_first, oh_firstg, heldC_eq, heldF_eq, heldOk, heldK, ldH, heldM_self, heldM_one, heldM_two, heldM_three, List.contains_cons, List.contains_nil, Bool.or_false, Bool.or_true, Bool.true_or, Bool.false_or, vcqOp, vcOp, isRd, RO.isGh, skip_mk, skipL, ev, evL, gvL, scL, look, updL, put_mk, put_mk0, keep_mk, keepL, rowE, rowD, bndN, binV, binC, unV, GV.getT, GV.fld, GV.sz, GV.same, GV.setT, Value.oneCell', cond_true, cond_false, Nat.reduceEqDiff, Nat.reduceAdd, Nat.reduceMul, Nat.reduceSub, Nat.reduceBEq, Nat.reduceLeDiff, ↓reduceIte, reduceCtorEq, List.nil_append, List.cons_append, List.append_nil, Nat.zero_add, Nat.add_zero, Bool.and_true, Bool.true_and, Bool.not_true, Bool.not_false, BEq.rfl, decide_true, decide_false, true_and, and_true, initF, initP, List.map_cons, List.map_nil, Option.map_some, szAll, List.length_cons, List.length_nil, finW_r, finW_n, resL, resOne, Option.bind_some, true_imp_iff, false_imp_iff, Bool.true_eq_false, Bool.false_eq_true, Int.toNat_natCast, Int.reduceToNat, Int.reduceLE, Int.reduceLT, Int.reduceAdd, Int.reduceSub, Int.reduceEq, decide_eq_true_eq, decide_eq_false_iff_not, kill, SV.mentions, ne_eq, not_false_eq_true, not_true_eq_false, List.drop_zero, List.take_succ_cons, List.take_zero, dOk, ↓br_tt, ↓br_ff, ↓br_tf, ↓br_ft, br_t, br_f, Bool.bne_false, Bool.bne_true, GV.bldT, GV.bldC, gVec_get, gVec_set, gVec_arr, gVec_fits, gVec_sz, gVec_sameT, gVec_zero, gVec_isS, gVec2_get, gVec2_arr, gVec2_fits, gVec2_sz, gVec2_sameT, gVec2_zero, gVec2_set, same_int, getT_nil, setT_nil, getD_gi, List.length_map, fits_s, fits_c, fits_ar, arr_ar, get_nil, mkS_size, getD_gN, getD_gb, mkS_at, mkS_e0, mkS_e46, mkS_e4646, mkS_e47, mkS_ext, List.length_map]
    rw [nameA_slash (i := i) (by omega) h]
  · subst hQ; simp only [loopQ_n]; refine ⟨i + 1, ?_, ?_, ge_of ?_ ?_ rfl rfl rfl⟩
    · refine ⟨by omega, fun j hj2 => ?_⟩
      rcases Nat.lt_succ_iff_lt_or_eq.1 hj2 with h4 | rfl
      · exact hj j h4
      · exact h
    · omega
    · simp only [frIn, vc_skip, vc_ret, vc_exit, vc_seq, vc_block, vc_scope, scopeQ_n, scopeQ_r, scopeQ_e, vc_rg, vc_rgq, vc_rga, vc_ite, thenQ_n, thenQ_r, thenQ_e, blockQ_n, blockQ_r, blockQ_e, kKeep_eq, loopQ_r, loopQ_e, loopQ_n, finQ_r, finQ_n, segs_nil, segs_n, segs_g, ops_nil, ops_cons, qsegs_nil, qsegs_n, qsegs_g, qops_nil, qops_cons, ot_done, ot_op, ot_or, ot_held, oh_done, oh_op, oh_or, oh_first, oh_firstg, heldC_eq, heldF_eq, heldOk, heldK, ldH, heldM_self, heldM_one, heldM_two, heldM_three, List.contains_cons, List.contains_nil, Bool.or_false, Bool.or_true, Bool.true_or, Bool.false_or, vcqOp, vcOp, isRd, RO.isGh, skip_mk, skipL, ev, evL, gvL, scL, look, updL, put_mk, put_mk0, keep_mk, keepL, rowE, rowD, bndN, binV, binC, unV, GV.getT, GV.fld, GV.sz, GV.same, GV.setT, Value.oneCell', cond_true, cond_false, Nat.reduceEqDiff, Nat.reduceAdd, Nat.reduceMul, Nat.reduceSub, Nat.reduceBEq, Nat.reduceLeDiff, ↓reduceIte, reduceCtorEq, List.nil_append, List.cons_append, List.append_nil, Nat.zero_add, Nat.add_zero, Bool.and_true, Bool.true_and, Bool.not_true, Bool.not_false, BEq.rfl, decide_true, decide_false, true_and, and_true, initF, initP, List.map_cons, List.map_nil, Option.map_some, szAll, List.length_cons, List.length_nil, finW_r, finW_n, resL, resOne, Option.bind_some, true_imp_iff, false_imp_iff, Bool.true_eq_false, Bool.false_eq_true, Int.toNat_natCast, Int.reduceToNat, Int.reduceLE, Int.reduceLT, Int.reduceAdd, Int.reduceSub, Int.reduceEq, decide_eq_true_eq, decide_eq_false_iff_not, kill, SV.mentions, ne_eq, not_false_eq_true, not_true_eq_false, List.drop_zero, List.take_succ_cons, List.take_zero, dOk, ↓br_tt, ↓br_ff, ↓br_tf, ↓br_ft, br_t, br_f, Bool.bne_false, Bool.bne_true, GV.bldT, GV.bldC]
      rw [wrap_n (by omega)]
      try simp
    · simp [pvIn, look]
  · subst hQ
    simp (maxSteps := 2000000) only [vc_skip, vc_ret, vc_exit, vc_seq, vc_block, vc_scope, scopeQ_n, scopeQ_r, scopeQ_e, vc_rg, vc_rgq, vc_rga, vc_ite, thenQ_n, thenQ_r, thenQ_e, blockQ_n, blockQ_r, blockQ_e, kKeep_eq, loopQ_r, loopQ_e, loopQ_n, finQ_r, finQ_n, segs_nil, segs_n, segs_g, ops_nil, ops_cons, qsegs_nil, qsegs_n, qsegs_g, qops_nil, qops_cons, ot_done, ot_op, ot_or, ot_held, oh_done, oh_op, oh_or, oh_first, oh_firstg, heldC_eq, heldF_eq, heldOk, heldK, ldH, heldM_self, heldM_one, heldM_two, heldM_three, List.contains_cons, List.contains_nil, Bool.or_false, Bool.or_true, Bool.true_or, Bool.false_or, vcqOp, vcOp, isRd, RO.isGh, skip_mk, skipL, ev, evL, gvL, scL, look, updL, put_mk, put_mk0, keep_mk, keepL, rowE, rowD, bndN, binV, binC, unV, GV.getT, GV.fld, GV.sz, GV.same, GV.setT, Value.oneCell', cond_true, cond_false, Nat.reduceEqDiff, Nat.reduceAdd, Nat.reduceMul, Nat.reduceSub, Nat.reduceBEq, Nat.reduceLeDiff, ↓reduceIte, reduceCtorEq, List.nil_append, List.cons_append, List.append_nil, Nat.zero_add, Nat.add_zero, Bool.and_true, Bool.true_and, Bool.not_true, Bool.not_false, BEq.rfl, decide_true, decide_false, true_and, and_true, initF, initP, List.map_cons, List.map_nil, Option.map_some, szAll, List.length_cons, List.length_nil, finW_r, finW_n, resL, resOne, Option.bind_some, true_imp_iff, false_imp_iff, Bool.true_eq_false, Bool.false_eq_true, Int.toNat_natCast, Int.reduceToNat, Int.reduceLE, Int.reduceLT, Int.reduceAdd, Int.reduceSub, Int.reduceEq, decide_eq_true_eq, decide_eq_false_iff_not, kill, SV.mentions, ne_eq, not_false_eq_true, not_true_eq_false, List.drop_zero, List.take_succ_cons, List.take_zero, dOk, ↓br_tt, ↓br_ff, ↓br_tf, ↓br_ft, br_t, br_f, Bool.bne_false, Bool.bne_true, GV.bldT, GV.bldC, gVec_get, gVec_set, gVec_arr, gVec_fits, gVec_sz, gVec_sameT, gVec_zero, gVec_isS, gVec2_get, gVec2_arr, gVec2_fits, gVec2_sz, gVec2_sameT, gVec2_zero, gVec2_set, same_int, getT_nil, setT_nil, getD_gi, List.length_map, fits_s, fits_c, fits_ar, arr_ar, get_nil, mkS_size, getD_gN, getD_gb, mkS_at, mkS_e0, mkS_e46, mkS_e4646, mkS_e47, mkS_ext, List.length_map]
    rw [nameA_good h0 (by omega) h2 h3 fun j hjl => hj j (by omega)]

/-! ### A slash ahead -/
def preS (n : List UInt8) : Bool := n.take 1 == [47]
theorem HasPrefix_fn (n : List UInt8) : FnV Tryz.prog f_stringslite_HasPrefix [gN n, gN [47]] [.s (.bool (preS n))] := by
  refine spec_fnv k_stringslite_HasPrefix (by simp) (by simp [gN_ok]) fun w => ?_
  simp (maxSteps := 2000000) only [c_stringslite_HasPrefix, gN, vc_skip, vc_ret, vc_exit, vc_seq, vc_block, vc_scope, scopeQ_n, scopeQ_r, scopeQ_e, vc_rg, vc_rgq, vc_rga, vc_ite, thenQ_n, thenQ_r, thenQ_e, blockQ_n, blockQ_r, blockQ_e, kKeep_eq, loopQ_r, loopQ_e, loopQ_n, finQ_r, finQ_n, segs_nil, segs_n, segs_g, ops_nil, ops_cons, qsegs_nil, qsegs_n, qsegs_g, qops_nil, qops_cons, ot_done, ot_op, ot_or, ot_held, oh_done, oh_op, oh_or, oh_first, oh_firstg, heldC_eq, heldF_eq, heldOk, heldK, ldH, heldM_self, heldM_one, heldM_two, heldM_three, List.contains_cons, List.contains_nil, Bool.or_false, Bool.or_true, Bool.true_or, Bool.false_or, vcqOp, vcOp, isRd, RO.isGh, skip_mk, skipL, ev, evL, gvL, scL, look, updL, put_mk, put_mk0, keep_mk, keepL, rowE, rowD, bndN, binV, binC, unV, GV.getT, GV.fld, GV.sz, GV.same, GV.setT, Value.oneCell', cond_true, cond_false, Nat.reduceEqDiff, Nat.reduceAdd, Nat.reduceMul, Nat.reduceSub, Nat.reduceBEq, Nat.reduceLeDiff, ↓reduceIte, reduceCtorEq, List.nil_append, List.cons_append, List.append_nil, Nat.zero_add, Nat.add_zero, Bool.and_true, Bool.true_and, Bool.not_true, Bool.not_false, BEq.rfl, decide_true, decide_false, true_and, and_true, initF, initP, List.map_cons, List.map_nil, Option.map_some, szAll, List.length_cons, List.length_nil, finW_r, finW_n, resL, resOne, Option.bind_some, true_imp_iff, false_imp_iff, Bool.true_eq_false, Bool.false_eq_true, Int.toNat_natCast, Int.reduceToNat, Int.reduceLE, Int.reduceLT, Int.reduceAdd, Int.reduceSub, Int.reduceEq, decide_eq_true_eq, decide_eq_false_iff_not, kill, SV.mentions, ne_eq, not_false_eq_true, not_true_eq_false, List.drop_zero, List.take_succ_cons, List.take_zero, dOk, ↓br_tt, ↓br_ff, ↓br_tf, ↓br_ft, br_t, br_f, Bool.bne_false, Bool.bne_true, GV.bldT, GV.bldC, gVec_get, gVec_set, gVec_arr, gVec_fits, gVec_sz, gVec_sameT, gVec_zero, gVec_isS, gVec2_get, gVec2_arr, gVec2_fits, gVec2_sz, gVec2_sameT, gVec2_zero, gVec2_set, same_int, getT_nil, setT_nil, getD_gi, List.length_map, fits_s, fits_c, fits_ar, arr_ar, get_nil, mkS_size, getD_gN, getD_gb, mkS_at, mkS_e0, mkS_e46, mkS_e4646, mkS_e47, mkS_ext, List.length_map]
  refine ⟨fun h => ⟨by omega, ?_⟩, fun h => ?_⟩
  · simp only [preS, mkS_eq]
    congr 3
    by_cases h1 : n.take 1 = [47]
    · rw [h1]; rfl
    · rw [show (n.take 1 == [47]) = false by simpa using h1]; simpa using h1
  · have : n = [] := by
      cases n with
      | nil => rfl
      | cons a l => simp at h; omega
    subst this
    rfl

theorem CutPrefix_fn (n : List UInt8) : FnV Tryz.prog f_stringslite_CutPrefix [gN n, gN [47]] [gN (if preS n = true then n.drop 1 else n), .s (.bool (preS n))] := by
  refine spec_fnv k_stringslite_CutPrefix (by simp) (by simp [gN_ok]) fun w => ?_
  simp (maxSteps := 2000000) only [c_stringslite_CutPrefix, gN, vc_skip, vc_ret, vc_exit, vc_seq, vc_block, vc_scope, scopeQ_n, scopeQ_r, scopeQ_e, vc_rg, vc_rgq, vc_rga, vc_ite, thenQ_n, thenQ_r, thenQ_e, blockQ_n, blockQ_r, blockQ_e, kKeep_eq, loopQ_r, loopQ_e, loopQ_n, finQ_r, finQ_n, segs_nil, segs_n, segs_g, ops_nil, ops_cons, qsegs_nil, qsegs_n, qsegs_g, qops_nil, qops_cons, ot_done, ot_op, ot_or, ot_held, oh_done, oh_op, oh_or, oh_first, oh_firstg, heldC_eq, heldF_eq, heldOk, heldK, ldH, heldM_self, heldM_one, heldM_two, heldM_three, List.contains_cons, List.contains_nil, Bool.or_false, Bool.or_true, Bool.true_or, Bool.false_or, vcqOp, vcOp, isRd, RO.isGh, skip_mk, skipL, ev, evL, gvL, scL, look, updL, put_mk, put_mk0, keep_mk, keepL, rowE, rowD, bndN, binV, binC, unV, GV.getT, GV.fld, GV.sz, GV.same, GV.setT, Value.oneCell', cond_true, cond_false, Nat.reduceEqDiff, Nat.reduceAdd, Nat.reduceMul, Nat.reduceSub, Nat.reduceBEq, Nat.reduceLeDiff, ↓reduceIte, reduceCtorEq, List.nil_append, List.cons_append, List.append_nil, Nat.zero_add, Nat.add_zero, Bool.and_true, Bool.true_and, Bool.not_true, Bool.not_false, BEq.rfl, decide_true, decide_false, true_and, and_true, initF, initP, List.map_cons, List.map_nil, Option.map_some, szAll, List.length_cons, List.length_nil, finW_r, finW_n, resL, resOne, Option.bind_some, true_imp_iff, false_imp_iff, Bool.true_eq_false, Bool.false_eq_true, Int.toNat_natCast, Int.reduceToNat, Int.reduceLE, Int.reduceLT, Int.reduceAdd, Int.reduceSub, Int.reduceEq, decide_eq_true_eq, decide_eq_false_iff_not, kill, SV.mentions, ne_eq, not_false_eq_true, not_true_eq_false, List.drop_zero, List.take_succ_cons, List.take_zero, dOk, ↓br_tt, ↓br_ff, ↓br_tf, ↓br_ft, br_t, br_f, Bool.bne_false, Bool.bne_true, GV.bldT, GV.bldC, gVec_get, gVec_set, gVec_arr, gVec_fits, gVec_sz, gVec_sameT, gVec_zero, gVec_isS, gVec2_get, gVec2_arr, gVec2_fits, gVec2_sz, gVec2_sameT, gVec2_zero, gVec2_set, same_int, getT_nil, setT_nil, getD_gi, List.length_map, fits_s, fits_c, fits_ar, arr_ar, get_nil, mkS_size, getD_gN, getD_gb, mkS_at, mkS_e0, mkS_e46, mkS_e4646, mkS_e47, mkS_ext, List.length_map]
  refine call_fnv (HasPrefix_fn n) rfl rfl rfl fun _ => ?_
  simp (maxSteps := 2000000) only [retS, vc_skip, vc_ret, vc_exit, vc_seq, vc_block, vc_scope, scopeQ_n, scopeQ_r, scopeQ_e, vc_rg, vc_rgq, vc_rga, vc_ite, thenQ_n, thenQ_r, thenQ_e, blockQ_n, blockQ_r, blockQ_e, kKeep_eq, loopQ_r, loopQ_e, loopQ_n, finQ_r, finQ_n, segs_nil, segs_n, segs_g, ops_nil, ops_cons, qsegs_nil, qsegs_n, qsegs_g, qops_nil, qops_cons, ot_done, ot_op, ot_or, ot_held, oh_done, oh_op, oh_or, oh_first, oh_firstg, heldC_eq, heldF_eq, heldOk, heldK, ldH, heldM_self, heldM_one, heldM_two, heldM_three, List.contains_cons, List.contains_nil, Bool.or_false, Bool.or_true, Bool.true_or, Bool.false_or, vcqOp, vcOp, isRd, RO.isGh, skip_mk, skipL, ev, evL, gvL, scL, look, updL, put_mk, put_mk0, keep_mk, keepL, rowE, rowD, bndN, binV, binC, unV, GV.getT, GV.fld, GV.sz, GV.same, GV.setT, Value.oneCell', cond_true, cond_false, Nat.reduceEqDiff, Nat.reduceAdd, Nat.reduceMul, Nat.reduceSub, Nat.reduceBEq, Nat.reduceLeDiff, ↓reduceIte, reduceCtorEq, List.nil_append, List.cons_append, List.append_nil, Nat.zero_add, Nat.add_zero, Bool.and_true, Bool.true_and, Bool.not_true, Bool.not_false, BEq.rfl, decide_true, decide_false, true_and, and_true, initF, initP, List.map_cons, List.map_nil, Option.map_some, szAll, List.length_cons, List.length_nil, finW_r, finW_n, resL, resOne, Option.bind_some, true_imp_iff, false_imp_iff, Bool.true_eq_false, Bool.false_eq_true, Int.toNat_natCast, Int.reduceToNat, Int.reduceLE, Int.reduceLT, Int.reduceAdd, Int.reduceSub, Int.reduceEq, decide_eq_true_eq, decide_eq_false_iff_not, kill, SV.mentions, ne_eq, not_false_eq_true, not_true_eq_false, List.drop_zero, List.take_succ_cons, List.take_zero, dOk, ↓br_tt, ↓br_ff, ↓br_tf, ↓br_ft, br_t, br_f, Bool.bne_false, Bool.bne_true, GV.bldT, GV.bldC, gVec_get, gVec_set, gVec_arr, gVec_fits, gVec_sz, gVec_sameT, gVec_zero, gVec_isS, gVec2_get, gVec2_arr, gVec2_fits, gVec2_sz, gVec2_sameT, gVec2_zero, gVec2_set, same_int, getT_nil, setT_nil, getD_gi, List.length_map, fits_s, fits_c, fits_ar, arr_ar, get_nil, mkS_size, getD_gN, getD_gb, mkS_at, mkS_e0, mkS_e46, mkS_e4646, mkS_e47, mkS_ext, List.length_map]
  refine ⟨fun h => ?_, fun h => ?_⟩
  · have h' : preS n = false := by simpa using h
    rw [h']; rfl
  · have h' : preS n = true := by simpa using h
    have hl : 1 ≤ n.length := by
      cases n with
      | nil => cases h'
      | cons a l => simp
    refine ⟨by omega, ?_⟩
    rw [h', List.take_of_length_le (by simp)]
    rfl
theorem sCutPrefix_fn (n : List UInt8) : FnV Tryz.prog f_strings_CutPrefix [gN n, gN [47]] [gN (if preS n = true then n.drop 1 else n), .s (.bool (preS n))] := by
  refine spec_fnv k_strings_CutPrefix (by simp) (by simp [gN_ok]) fun w => ?_
  simp (maxSteps := 2000000) only [c_strings_CutPrefix, gN, vc_skip, vc_ret, vc_exit, vc_seq, vc_block, vc_scope, scopeQ_n, scopeQ_r, scopeQ_e, vc_rg, vc_rgq, vc_rga, vc_ite, thenQ_n, thenQ_r, thenQ_e, blockQ_n, blockQ_r, blockQ_e, kKeep_eq, loopQ_r, loopQ_e, loopQ_n, finQ_r, finQ_n, segs_nil, segs_n, segs_g, ops_nil, ops_cons, qsegs_nil, qsegs_n, qsegs_g, qops_nil, qops_cons, ot_done, ot_op, ot_or, ot_held, oh_done, oh_op, oh_or, oh_first, oh_firstg, heldC_eq, heldF_eq, heldOk, heldK, ldH, heldM_self, heldM_one, heldM_two, heldM_three, List.contains_cons, List.contains_nil, Bool.or_false, Bool.or_true, Bool.true_or, Bool.false_or, vcqOp, vcOp, isRd, RO.isGh, skip_mk, skipL, ev, evL, gvL, scL, look, updL, put_mk, put_mk0, keep_mk, keepL, rowE, rowD, bndN, binV, binC, unV, GV.getT, GV.fld, GV.sz, GV.same, GV.setT, Value.oneCell', cond_true, cond_false, Nat.reduceEqDiff, Nat.reduceAdd, Nat.reduceMul, Nat.reduceSub, Nat.reduceBEq, Nat.reduceLeDiff, ↓reduceIte, reduceCtorEq, List.nil_append, List.cons_append, List.append_nil, Nat.zero_add, Nat.add_zero, Bool.and_true, Bool.true_and, Bool.not_true, Bool.not_false, BEq.rfl, decide_true, decide_false, true_and, and_true, initF, initP, List.map_cons, List.map_nil, Option.map_some, szAll, List.length_cons, List.length_nil, finW_r, finW_n, resL, resOne, Option.bind_some, true_imp_iff, false_imp_iff, Bool.true_eq_false, Bool.false_eq_true, Int.toNat_natCast, Int.reduceToNat, Int.reduceLE, Int.reduceLT, Int.reduceAdd, Int.reduceSub, Int.reduceEq, decide_eq_true_eq, decide_eq_false_iff_not, kill, SV.mentions, ne_eq, not_false_eq_true, not_true_eq_false, List.drop_zero, List.take_succ_cons, List.take_zero, dOk, ↓br_tt, ↓br_ff, ↓br_tf, ↓br_ft, br_t, br_f, Bool.bne_false, Bool.bne_true, GV.bldT, GV.bldC, gVec_get, gVec_set, gVec_arr, gVec_fits, gVec_sz, gVec_sameT, gVec_zero, gVec_isS, gVec2_get, gVec2_arr, gVec2_fits, gVec2_sz, gVec2_sameT, gVec2_zero, gVec2_set, same_int, getT_nil, setT_nil, getD_gi, List.length_map, fits_s, fits_c, fits_ar, arr_ar, get_nil, mkS_size, getD_gN, getD_gb, mkS_at, mkS_e0, mkS_e46, mkS_e4646, mkS_e47, mkS_ext, List.length_map]
  refine call_fnv (CutPrefix_fn n) rfl rfl rfl fun _ => ?_
  simp (maxSteps := 2000000) only [retS, gN, List.getElem?_cons_zero, List.getElem?_cons_succ, vc_skip, vc_ret, vc_exit, vc_seq, vc_block, vc_scope, scopeQ_n, scopeQ_r, scopeQ_e, vc_rg, vc_rgq, vc_rga, vc_ite, thenQ_n, thenQ_r, thenQ_e, blockQ_n, blockQ_r, blockQ_e, kKeep_eq, loopQ_r, loopQ_e, loopQ_n, finQ_r, finQ_n, segs_nil, segs_n, segs_g, ops_nil, ops_cons, qsegs_nil, qsegs_n, qsegs_g, qops_nil, qops_cons, ot_done, ot_op, ot_or, ot_held, oh_done, oh_op, oh_or, oh_first, oh_firstg, heldC_eq, heldF_eq, heldOk, heldK, ldH, heldM_self, heldM_one, heldM_two, heldM_three, List.contains_cons, List.contains_nil, Bool.or_false, Bool.or_true, Bool.true_or, Bool.false_or, vcqOp, vcOp, isRd, RO.isGh, skip_mk, skipL, ev, evL, gvL, scL, look, updL, put_mk, put_mk0, keep_mk, keepL, rowE, rowD, bndN, binV, binC, unV, GV.getT, GV.fld, GV.sz, GV.same, GV.setT, Value.oneCell', cond_true, cond_false, Nat.reduceEqDiff, Nat.reduceAdd, Nat.reduceMul, Nat.reduceSub, Nat.reduceBEq, Nat.reduceLeDiff, ↓reduceIte, reduceCtorEq, List.nil_append, List.cons_append, List.append_nil, Nat.zero_add, Nat.add_zero, Bool.and_true, Bool.true_and, Bool.not_true, Bool.not_false, BEq.rfl, decide_true, decide_false, true_and, and_true, initF, initP, List.map_cons, List.map_nil, Option.map_some, szAll, List.length_cons, List.length_nil, finW_r, finW_n, resL, resOne, Option.bind_some, true_imp_iff, false_imp_iff, Bool.true_eq_false, Bool.false_eq_true, Int.toNat_natCast, Int.reduceToNat, Int.reduceLE, Int.reduceLT, Int.reduceAdd, Int.reduceSub, Int.reduceEq, decide_eq_true_eq, decide_eq_false_iff_not, kill, SV.mentions, ne_eq, not_false_eq_true, not_true_eq_false, List.drop_zero, List.take_succ_cons, List.take_zero, dOk, ↓br_tt, ↓br_ff, ↓br_tf, ↓br_ft, br_t, br_f, Bool.bne_false, Bool.bne_true, GV.bldT, GV.bldC, gVec_get, gVec_set, gVec_arr, gVec_fits, gVec_sz, gVec_sameT, gVec_zero, gVec_isS, gVec2_get, gVec2_arr, gVec2_fits, gVec2_sz, gVec2_sameT, gVec2_zero, gVec2_set, same_int, getT_nil, setT_nil, getD_gi, List.length_map, fits_s, fits_c, fits_ar, arr_ar, get_nil, mkS_size, getD_gN, getD_gb, mkS_at, mkS_e0, mkS_e46, mkS_e4646, mkS_e47, mkS_ext, List.length_map]

theorem wrongA_bad {ns : List (List UInt8)} {i : Nat} (hi : i < ns.length) (h : nameA (ns.getD i []) = false) : wrongA ns = 200 := by
  unfold wrongA
  rw [if_neg]
  intro ha
  have := List.all_eq_true.1 ha (ns.getD i []) (by rw [List.getD_eq_getElem?_getD, List.getElem?_eq_getElem hi]; exact List.getElem_mem _)
  rw [this] at h; cases h
theorem wrongA_all {ns : List (List UInt8)} (h : ∀ j, j < ns.length → nameA (ns.getD j []) = true) : wrongA ns = if ns.length > 64 then 3 else 0 := by
  unfold wrongA
  rw [if_pos]
  rw [List.all_eq_true]
  intro x hx
  obtain ⟨j, hj, e⟩ := List.mem_iff_getElem.1 hx
  have := h j hj
  rw [List.getD_eq_getElem?_getD, List.getElem?_eq_getElem hj] at this
  simpa [e] using this

theorem wrong_spec (w : World) (v : Value) (ns : List (List UInt8)) (hb : ns.length ≤ 140737488355328) (hn : ∀ n ∈ ns, n.length ≤ 140737488355328) (u : PH) (hu : u.le w) (h : SlR u v 1 (ns.map gN)) :
    Spec Tryz.prog f_path_wrong [v] PH.no w fun rs _ => rs = [.s (.int .i64 (wrongA ns))] := by
  refine spec_val k_path_wrong (Qf := fun rs => rs = [.s (.int .i64 (wrongA ns))]) [.ro v 1 (.s (.string ⟨#[]⟩)) (ns.map gN)] (by simp) (by simpa [AV.ok, u0_no] using h.up hu.sub) ?_
  simp (maxSteps := 2000000) only [c_path_wrong, vc_skip, vc_ret, vc_exit, vc_seq, vc_block, vc_scope, scopeQ_n, scopeQ_r, scopeQ_e, vc_rg, vc_rgq, vc_rga, vc_ite, thenQ_n, thenQ_r, thenQ_e, blockQ_n, blockQ_r, blockQ_e, kKeep_eq, loopQ_r, loopQ_e, loopQ_n, finQ_r, finQ_n, segs_nil, segs_n, segs_g, ops_nil, ops_cons, qsegs_nil, qsegs_n, qsegs_g, qops_nil, qops_cons, ot_done, ot_op, ot_or, ot_held, oh_done, oh_op, oh_or, oh_first, oh_firstg, heldC_eq, heldF_eq, heldOk, heldK, ldH, heldM_self, heldM_one, heldM_two, heldM_three, List.contains_cons, List.contains_nil, Bool.or_false, Bool.or_true, Bool.true_or, Bool.false_or, vcqOp, vcOp, isRd, RO.isGh, skip_mk, skipL, ev, evL, gvL, scL, look, updL, put_mk, put_mk0, keep_mk, keepL, rowE, rowD, bndN, binV, binC, unV, GV.getT, GV.fld, GV.sz, GV.same, GV.setT, Value.oneCell', cond_true, cond_false, Nat.reduceEqDiff, Nat.reduceAdd, Nat.reduceMul, Nat.reduceSub, Nat.reduceBEq, Nat.reduceLeDiff, ↓reduceIte, reduceCtorEq, List.nil_append, List.cons_append, List.append_nil, Nat.zero_add, Nat.add_zero, Bool.and_true, Bool.true_and, Bool.not_true, Bool.not_false, BEq.rfl, decide_true, decide_false, true_and, and_true, initF, initP, List.map_cons, List.map_nil, Option.map_some, szAll, List.length_cons, List.length_nil, finW_r, finW_n, resL, resOne, Option.bind_some, true_imp_iff, false_imp_iff, Bool.true_eq_false, Bool.false_eq_true, Int.toNat_natCast, Int.reduceToNat, Int.reduceLE, Int.reduceLT, Int.reduceAdd, Int.reduceSub, Int.reduceEq, decide_eq_true_eq, decide_eq_false_iff_not, kill, SV.mentions, ne_eq, not_false_eq_true, not_true_eq_false, List.drop_zero, List.take_succ_cons, List.take_zero, dOk, ↓br_tt, ↓br_ff, ↓br_tf, ↓br_ft, br_t, br_f, Bool.bne_false, Bool.bne_true, GV.bldT, GV.bldC, gVec_get, gVec_set, gVec_arr, gVec_fits, gVec_sz, gVec_sameT, gVec_zero, gVec_isS, gVec2_get, gVec2_arr, gVec2_fits, gVec2_sz, gVec2_sameT, gVec2_zero, gVec2_set, same_int, getT_nil, setT_nil, getD_gi, List.length_map, fits_s, fits_c, fits_ar, arr_ar, get_nil, mkS_size, getD_gN, getD_gb, mkS_at, mkS_e0, mkS_e46, mkS_e4646, mkS_e47, mkS_ext, List.length_map]
  refine vc_loop (ι := Nat) (fun i => ⟨[(0, .row 0 0 (ns.length)), (5, .row 0 0 (ns.length)), (6, .g (.s (.int .i64 (ns.length)))), (7, .g (.s (.int .i64 (i))))], [(0, .ro 1 (.s (.string ⟨#[]⟩)) (ns.map gN))], [], PH.no⟩) (fun i => i ≤ ns.length ∧ ∀ j, j < i → nameA (ns.getD j []) = true) (fun i => ns.length - i) 0 (by simp) (ge_of ?_ ?_ rfl rfl rfl) ?_
  · simp [frIn, look]
  · simp [pvIn, look]
  rintro i ⟨hi, hj⟩
  generalize hQ : loopQ _ _ _ _ _ = Q
  simp (maxSteps := 2000000) only [c_path_wrong_L0, vc_skip, vc_ret, vc_exit, vc_seq, vc_block, vc_scope, scopeQ_n, scopeQ_r, scopeQ_e, vc_rg, vc_rgq, vc_rga, vc_ite, thenQ_n, thenQ_r, thenQ_e, blockQ_n, blockQ_r, blockQ_e, kKeep_eq, loopQ_r, loopQ_e, loopQ_n, finQ_r, finQ_n, segs_nil, segs_n, segs_g, ops_nil, ops_cons, qsegs_nil, qsegs_n, qsegs_g, qops_nil, qops_cons, ot_done, ot_op, ot_or, ot_held, oh_done, oh_op, oh_or, oh_first, oh_firstg, heldC_eq, heldF_eq, heldOk, heldK, ldH, heldM_self, heldM_one, heldM_two, heldM_three, List.contains_cons, List.contains_nil, Bool.or_false, Bool.or_true, Bool.true_or, Bool.false_or, vcqOp, vcOp, isRd, RO.isGh, skip_mk, skipL, ev, evL, gvL, scL, look, updL, put_mk, put_mk0, keep_mk, keepL, rowE, rowD, bndN, binV, binC, unV, GV.getT, GV.fld, GV.sz, GV.same, GV.setT, Value.oneCell', cond_true, cond_false, Nat.reduceEqDiff, Nat.reduceAdd, Nat.reduceMul, Nat.reduceSub, Nat.reduceBEq, Nat.reduceLeDiff, ↓reduceIte, reduceCtorEq, List.nil_append, List.cons_append, List.append_nil, Nat.zero_add, Nat.add_zero, Bool.and_true, Bool.true_and, Bool.not_true, Bool.not_false, BEq.rfl, decide_true, decide_false, true_and, and_true, initF, initP, List.map_cons, List.map_nil, Option.map_some, szAll, List.length_cons, List.length_nil, finW_r, finW_n, resL, resOne, Option.bind_some, true_imp_iff, false_imp_iff, Bool.true_eq_false, Bool.false_eq_true, Int.toNat_natCast, Int.reduceToNat, Int.reduceLE, Int.reduceLT, Int.reduceAdd, Int.reduceSub, Int.reduceEq, decide_eq_true_eq, decide_eq_false_iff_not, kill, SV.mentions, ne_eq, not_false_eq_true, not_true_eq_false, List.drop_zero, List.take_succ_cons, List.take_zero, dOk, ↓br_tt, ↓br_ff, ↓br_tf, ↓br_ft, br_t, br_f, Bool.bne_false, Bool.bne_true, GV.bldT, GV.bldC, gVec_get, gVec_set, gVec_arr, gVec_fits, gVec_sz, gVec_sameT, gVec_zero, gVec_isS, gVec2_get, gVec2_arr, gVec2_fits, gVec2_sz, gVec2_sameT, gVec2_zero, gVec2_set, same_int, getT_nil, setT_nil, getD_gi, List.length_map, fits_s, fits_c, fits_ar, arr_ar, get_nil, mkS_size, getD_gN, getD_gb, mkS_at, mkS_e0, mkS_e46, mkS_e4646, mkS_e47, mkS_ext, List.length_map]
  refine ⟨fun hlt => ⟨by omega, ?_⟩, fun hlt => ?_⟩
  · have hmem : ns.getD i [] ∈ ns := by
      rw [List.getD_eq_getElem?_getD, List.getElem?_eq_getElem (by omega)]; exact List.getElem_mem _
    refine call_fnv (Name_fn (ns.getD i []) (hn _ hmem)) rfl rfl rfl fun _ => ?_
    simp (maxSteps := 2000000) only [retS, vc_skip, vc_ret, vc_exit, vc_seq, vc_block, vc_scope, scopeQ_n, scopeQ_r, scopeQ_e, vc_rg, vc_rgq, vc_rga, vc_ite, thenQ_n, thenQ_r, thenQ_e, blockQ_n, blockQ_r, blockQ_e, kKeep_eq, loopQ_r, loopQ_e, loopQ_n, finQ_r, finQ_n, segs_nil, segs_n, segs_g, ops_nil, ops_cons, qsegs_nil, qsegs_n, qsegs_g, qops_nil, qops_cons, ot_done, ot_op, ot_or, ot_held, oh_done, oh_op, oh_or, oh_first, oh_firstg, heldC_eq, heldF_eq, heldOk, heldK, ldH, heldM_self, heldM_one, heldM_two, heldM_three, List.contains_cons, List.contains_nil, Bool.or_false, Bool.or_true, Bool.true_or, Bool.false_or, vcqOp, vcOp, isRd, RO.isGh, skip_mk, skipL, ev, evL, gvL, scL, look, updL, put_mk, put_mk0, keep_mk, keepL, rowE, rowD, bndN, binV, binC, unV, GV.getT, GV.fld, GV.sz, GV.same, GV.setT, Value.oneCell', cond_true, cond_false, Nat.reduceEqDiff, Nat.reduceAdd, Nat.reduceMul, Nat.reduceSub, Nat.reduceBEq, Nat.reduceLeDiff, ↓reduceIte, reduceCtorEq, List.nil_append, List.cons_append, List.append_nil, Nat.zero_add, Nat.add_zero, Bool.and_true, Bool.true_and, Bool.not_true, Bool.not_false, BEq.rfl, decide_true, decide_false, true_and, and_true, initF, initP, List.map_cons, List.map_nil, Option.map_some, szAll, List.length_cons, List.length_nil, finW_r, finW_n, resL, resOne, Option.bind_some, true_imp_iff, false_imp_iff, Bool.true_eq_false, Bool.false_eq_true, Int.toNat_natCast, Int.reduceToNat, Int.reduceLE, Int.reduceLT, Int.reduceAdd, Int.reduceSub, Int.reduceEq, decide_eq_true_eq, decide_eq_false_iff_not, kill, SV.mentions, ne_eq, not_false_eq_true, not_true_eq_false, List.drop_zero, List.take_succ_cons, List.take_zero, dOk, ↓br_tt, ↓br_ff, ↓br_tf, ↓br_ft, br_t, br_f, Bool.bne_false, Bool.bne_true, GV.bldT, GV.bldC, gVec_get, gVec_set, gVec_arr, gVec_fits, gVec_sz, gVec_sameT, gVec_zero, gVec_isS, gVec2_get, gVec2_arr, gVec2_fits, gVec2_sz, gVec2_sameT, gVec2_zero, gVec2_set, same_int, getT_nil, setT_nil, getD_gi, List.length_map, fits_s, fits_c, fits_ar, arr_ar, get_nil, mkS_size, getD_gN, getD_gb, mkS_at, mkS_e0, mkS_e46, mkS_e4646, mkS_e47, mkS_ext, List.length_map]
    refine ⟨fun h => ?_, fun h => ?_⟩
    · subst hQ
      simp (maxSteps := 2000000) only [vc_skip, vc_ret, vc_exit, vc_seq, vc_block, vc_scope, scopeQ_n, scopeQ_r, scopeQ_e, vc_rg, vc_rgq, vc_rga, vc_ite, thenQ_n, thenQ_r, thenQ_e, blockQ_n, blockQ_r, blockQ_e, kKeep_eq, loopQ_r, loopQ_e, loopQ_n, finQ_r, finQ_n, segs_nil, segs_n, segs_g, ops_nil, ops_cons, qsegs_nil, qsegs_n, qsegs_g, qops_nil, qops_cons, ot_done, ot_op, ot_or, ot_held, oh_done, oh_op, oh_or, oh_first, oh_firstg, heldC_eq, heldF_eq, heldOk, heldK, ldH, heldM_self, heldM_one, heldM_two, heldM_three, List.contains_cons, List.contains_nil, Bool.or_false, Bool.or_true, Bool.true_or, Bool.false_or, vcqOp, vcOp, isRd, RO.isGh, skip_mk, skipL, ev, evL, gvL, scL, look, updL, put_mk, put_mk0, keep_mk, keepL, rowE, rowD, bndN, binV, binC, unV, GV.getT, GV.fld, GV.sz, GV.same, GV.setT, Value.oneCell', cond_true, cond_false, Nat.reduceEqDiff, Nat.reduceAdd, Nat.reduceMul, Nat.reduceSub, Nat.reduceBEq, Nat.reduceLeDiff, ↓reduceIte, reduceCtorEq, List.nil_append, List.cons_append, List.append_nil, Nat.zero_add, Nat.add_zero, Bool.and_true, Bool.true_and, Bool.not_true, Bool.not_false, BEq.rfl, decide_true, decide_false, true_and, and_true, initF, initP, List.map_cons, List.map_nil, Option.map_some, szAll, List.length_cons, List.length_nil, finW_r, finW_n, resL, resOne, Option.bind_some, true_imp_iff, false_imp_iff, Bool.true_eq_false, Bool.false_eq_true, Int.toNat_natCast, Int.reduceToNat, Int.reduceLE, Int.reduceLT, Int.reduceAdd, Int.reduceSub, Int.reduceEq, decide_eq_true_eq, decide_eq_false_iff_not, kill, SV.mentions, ne_eq, not_false_eq_true, not_true_eq_false, List.drop_zero, List.take_succ_cons, List.take_zero, dOk, ↓br_tt, ↓br_ff, ↓br_tf, ↓br_ft, br_t, br_f, Bool.bne_false, Bool.bne_true, GV.bldT, GV.bldC, gVec_get, gVec_set, gVec_arr, gVec_fits, gVec_sz, gVec_sameT, gVec_zero, gVec_isS, gVec2_get, gVec2_arr, gVec2_fits, gVec2_sz, gVec2_sameT, gVec2_zero, gVec2_set, same_int, getT_nil, setT_nil, getD_gi, List.length_map, fits_s, fits_c, fits_ar, arr_ar, get_nil, mkS_size, getD_gN, getD_gb, mkS_at, mkS_e0, mkS_e46, mkS_e4646, mkS_e47, mkS_ext, List.length_map]
      rw [wrongA_bad (i := i) (by omega) (by simpa using h)]
    · subst hQ; simp only [loopQ_n]; refine ⟨i + 1, ?_, ?_, ge_of ?_ ?_ rfl rfl rfl⟩
      · refine ⟨by omega, fun j hj2 => ?_⟩
        rcases Nat.lt_succ_iff_lt_or_eq.1 hj2 with h4 | rfl
        · exact hj j h4
        · simpa using h
      · omega
      · simp only [frIn, vc_skip, vc_ret, vc_exit, vc_seq, vc_block, vc_scope, scopeQ_n, scopeQ_r, scopeQ_e, vc_rg, vc_rgq, vc_rga, vc_ite, thenQ_n, thenQ_r, thenQ_e, blockQ_n, blockQ_r, blockQ_e, kKeep_eq, loopQ_r, loopQ_e, loopQ_n, finQ_r, finQ_n, segs_nil, segs_n, segs_g, ops_nil, ops_cons, qsegs_nil, qsegs_n, qsegs_g, qops_nil, qops_cons, ot_done, ot_op, ot_or, ot_held, oh_done, oh_op, oh_or, oh_first, oh_firstg, heldC_eq, heldF_eq, heldOk, heldK, ldH, heldM_self, heldM_one, heldM_two, heldM_three, List.contains_cons, List.contains_nil, Bool.or_false, Bool.or_true, Bool.true_or, Bool.false_or, vcqOp, vcOp, isRd, RO.isGh, skip_mk, skipL, ev, evL, gvL, scL, look, updL, put_mk, put_mk0, keep_mk, keepL, rowE, rowD, bndN, binV, binC, unV, GV.getT, GV.fld, GV.sz, GV.same, GV.setT, Value.oneCell', cond_true, cond_false, Nat.reduceEqDiff, Nat.reduceAdd, Nat.reduceMul, Nat.reduceSub, Nat.reduceBEq, Nat.reduceLeDiff, ↓reduceIte, reduceCtorEq, List.nil_append, List.cons_append, List.append_nil, Nat.zero_add, Nat.add_zero, Bool.and_true, Bool.true_and, Bool.not_true, Bool.not_false, BEq.rfl, decide_true, decide_false, true_and, and_true, initF, initP, List.map_cons, List.map_nil, Option.map_some, szAll, List.length_cons, List.length_nil, finW_r, finW_n, resL, resOne, Option.bind_some, true_imp_iff, false_imp_iff, Bool.true_eq_false, Bool.false_eq_true, Int.toNat_natCast, Int.reduceToNat, Int.reduceLE, Int.reduceLT, Int.reduceAdd, Int.reduceSub, Int.reduceEq, decide_eq_true_eq, decide_eq_false_iff_not, kill, SV.mentions, ne_eq, not_false_eq_true, not_true_eq_false, List.drop_zero, List.take_succ_cons, List.take_zero, dOk, ↓br_tt, ↓br_ff, ↓br_tf, ↓br_ft, br_t, br_f, Bool.bne_false, Bool.bne_true, GV.bldT, GV.bldC]
        rw [wrap_n (by omega)]
        try simp
      · simp [pvIn, look]
  · subst hQ
    simp (maxSteps := 2000000) only [vc_skip, vc_ret, vc_exit, vc_seq, vc_block, vc_scope, scopeQ_n, scopeQ_r, scopeQ_e, vc_rg, vc_rgq, vc_rga, vc_ite, thenQ_n, thenQ_r, thenQ_e, blockQ_n, blockQ_r, blockQ_e, kKeep_eq, loopQ_r, loopQ_e, loopQ_n, finQ_r, finQ_n, segs_nil, segs_n, segs_g, ops_nil, ops_cons, qsegs_nil, qsegs_n, qsegs_g, qops_nil, qops_cons, ot_done, ot_op, ot_or, ot_held, oh_done, oh_op, oh_or, oh_first, oh_firstg, heldC_eq, heldF_eq, heldOk, heldK, ldH, heldM_self, heldM_one, heldM_two, heldM_three, List.contains_cons, List.contains_nil, Bool.or_false, Bool.or_true, Bool.true_or, Bool.false_or, vcqOp, vcOp, isRd, RO.isGh, skip_mk, skipL, ev, evL, gvL, scL, look, updL, put_mk, put_mk0, keep_mk, keepL, rowE, rowD, bndN, binV, binC, unV, GV.getT, GV.fld, GV.sz, GV.same, GV.setT, Value.oneCell', cond_true, cond_false, Nat.reduceEqDiff, Nat.reduceAdd, Nat.reduceMul, Nat.reduceSub, Nat.reduceBEq, Nat.reduceLeDiff, ↓reduceIte, reduceCtorEq, List.nil_append, List.cons_append, List.append_nil, Nat.zero_add, Nat.add_zero, Bool.and_true, Bool.true_and, Bool.not_true, Bool.not_false, BEq.rfl, decide_true, decide_false, true_and, and_true, initF, initP, List.map_cons, List.map_nil, Option.map_some, szAll, List.length_cons, List.length_nil, finW_r, finW_n, resL, resOne, Option.bind_some, true_imp_iff, false_imp_iff, Bool.true_eq_false, Bool.false_eq_true, Int.toNat_natCast, Int.reduceToNat, Int.reduceLE, Int.reduceLT, Int.reduceAdd, Int.reduceSub, Int.reduceEq, decide_eq_true_eq, decide_eq_false_iff_not, kill, SV.mentions, ne_eq, not_false_eq_true, not_true_eq_false, List.drop_zero, List.take_succ_cons, List.take_zero, dOk, ↓br_tt, ↓br_ff, ↓br_tf, ↓br_ft, br_t, br_f, Bool.bne_false, Bool.bne_true, GV.bldT, GV.bldC, gVec_get, gVec_set, gVec_arr, gVec_fits, gVec_sz, gVec_sameT, gVec_zero, gVec_isS, gVec2_get, gVec2_arr, gVec2_fits, gVec2_sz, gVec2_sameT, gVec2_zero, gVec2_set, same_int, getT_nil, setT_nil, getD_gi, List.length_map, fits_s, fits_c, fits_ar, arr_ar, get_nil, mkS_size, getD_gN, getD_gb, mkS_at, mkS_e0, mkS_e46, mkS_e4646, mkS_e47, mkS_ext, List.length_map]
    rw [wrongA_all fun j hjl => hj j (by omega)]
    refine ⟨fun h => by rw [if_pos (by omega)], fun h => by rw [if_neg (by omega)]⟩
end Go.Proofs.YtnoeabmpdjpfaaaGreatDoor.Vc.Pa

/- The code of some functions of the program, its types resolved: printed by a program of this claim. -/
set_option linter.unusedVariables false
set_option maxRecDepth 100000
namespace Go.Proofs.YtnoeabmpdjpfaaaGreatDoor.Vc.Pa
open Go Go.Proofs

abbrev f_path_Split : Nat := 14
def c_path_Split : Cd :=
 (.seq (.rg [⟨none, [(some 2, .mv (.c (.slice none 0 0))), (some 3, .mv (.c (.int .i64 0)))]⟩] [0])
 (.seq (.seq (.rg [⟨none, [(some 8, .mv (.t 0)), (some 9, .bin .eql (.t 8) (.c (.string ⟨#[47]⟩)))]⟩] [0, 9])
 (.ite (.t 9)
 (.seq (.rg [⟨none, [(some 2, .mv (.c (.slice none 0 0))), (some 3, .mv (.c (.int .i64 0)))]⟩] [2, 3])
 .ret)
 .skip))
 (.seq (.rg [⟨none, [(some 11, .mv (.t 0)), (some 12, .call 38 [(.t 11), (.c (.string ⟨#[47]⟩))]), (some 10, .mv (.t 12)), (some 13, .ext (.t 10) 0), (some 14, .ext (.t 10) 1), (some 4, .mv (.t 13)), (some 5, .mv (.t 14))]⟩] [4, 5])
 (.seq (.seq (.rg [⟨none, [(some 15, .mv (.t 5)), (some 16, .un .not (.t 15))]⟩] [4, 16])
 (.ite (.t 16)
 (.seq (.rg [⟨none, [(some 2, .mv (.c (.slice none 0 0))), (some 3, .mv (.c (.int .i64 200)))]⟩] [2, 3])
 .ret)
 .skip))
 (.seq (.rg [⟨none, [(some 17, .mv (.t 4)), (some 18, .call 39 [(.t 17), (.c (.string ⟨#[47]⟩))]), (some 6, .mv (.t 18))]⟩] [6])
 (.seq (.seq (.rg [⟨none, [(some 19, .mv (.t 6)), (some 20, .call 40 [(.t 19)]), (some 7, .mv (.t 20))]⟩] [6, 7])
 (.seq (.rg [⟨none, [(some 21, .mv (.t 7)), (some 22, .bin .neq (.t 21) (.c (.int .i64 0)))]⟩] [6, 7, 22])
 (.ite (.t 22)
 (.seq (.rg [⟨none, [(some 23, .mv (.t 7)), (some 2, .mv (.c (.slice none 0 0))), (some 3, .mv (.t 23))]⟩] [2, 3])
 .ret)
 .skip)))
 (.seq (.rg [⟨none, [(some 24, .mv (.t 6)), (some 2, .mv (.t 24)), (some 3, .mv (.c (.int .i64 0)))]⟩] [2, 3])
 .ret)))))))
theorem k_path_Split : Ok Tryz.prog 14 c_path_Split 25 [] [.tmp 2, .tmp 3] := Ok.mk' Tryz.func14 (by kernel_rfl) (by kernel_rfl) (by kernel_rfl)

abbrev f_ref20_Split : Nat := 44
def c_ref20_Split_L0 : Cd :=
 (.seq (.seq (.rg [⟨none, [(some 16, .mv (.t 6)), (some 17, .mv (.t 0)), (some 18, .lenS (.t 17)), (some 19, .bin .leq (.t 16) (.t 18))]⟩] [0, 4, 5, 6, 19])
 (.ite (.t 19)
 .skip
 (.exit 0)))
 (.seq (.block 1 (.seq (.seq (.rg [⟨none, [(some 22, .mv (.t 6)), (some 23, .mv (.t 0)), (some 24, .lenS (.t 23)), (some 25, .bin .lss (.t 22) (.t 24)), (some 26, .mv (.t 25))]⟩, ⟨some (26, true), [(some 27, .mv (.t 0)), (some 28, .mv (.t 6)), (some 29, .strI (.t 27) (.t 28)), (some 30, .bin .neq (.t 29) (.c (.int .u8 47)))]⟩, ⟨none, [(some 31, .pick (.t 26) (.t 30) (.c (.bool false)))]⟩] [0, 4, 5, 6, 31])
 (.ite (.t 31)
 (.exit 1)
 .skip))
 (.seq (.seq (.rg [⟨none, [(some 32, .mv (.t 0)), (some 33, .mv (.t 5)), (some 34, .mv (.t 6)), (some 35, .slS (.t 32) (some (.t 33)) (some (.t 34))), (some 36, .call 75 [(.t 35)]), (some 37, .un .not (.t 36))]⟩] [0, 4, 5, 6, 37])
 (.ite (.t 37)
 (.seq (.rg [⟨none, [(some 2, .mv (.c (.slice none 0 0))), (some 3, .mv (.c (.int .i64 200)))]⟩] [2, 3])
 .ret)
 .skip))
 (.seq (.rg [⟨none, [(some 38, .mv (.t 4)), (some 39, .mv (.t 0)), (some 40, .mv (.t 5)), (some 41, .mv (.t 6)), (some 42, .slS (.t 39) (some (.t 40)) (some (.t 41))), (some 43, .bldS 9 1 (.s (.string ⟨#[]⟩)) [(.t 42)]), (some 44, .app 9 1 16 (.s (.string ⟨#[]⟩)) (.t 38) (.t 43)), (some 4, .mv (.t 44))]⟩] [0, 4, 6])
 (.rg [⟨none, [(some 45, .mv (.t 6)), (some 46, .bin .add (.t 45) (.c (.int .i64 1))), (some 5, .mv (.t 46))]⟩] [0, 4, 5, 6])))))
 (.rg [⟨none, [(some 20, .mv (.t 6)), (some 21, .bin .add (.t 20) (.c (.int .i64 1))), (some 6, .mv (.t 21))]⟩] [0, 4, 5, 6])))
def c_ref20_Split : Cd :=
 (.seq (.rg [⟨none, [(some 2, .mv (.c (.slice none 0 0))), (some 3, .mv (.c (.int .i64 0)))]⟩] [0])
 (.seq (.seq (.rg [⟨none, [(some 7, .mv (.t 0)), (some 8, .bin .eql (.t 7) (.c (.string ⟨#[]⟩))), (some 9, .mv (.t 8))]⟩, ⟨some (9, false), [(some 10, .mv (.t 0)), (some 11, .strI (.t 10) (.c (.int .i64 0))), (some 12, .bin .neq (.t 11) (.c (.int .u8 47)))]⟩, ⟨none, [(some 13, .pick (.t 9) (.c (.bool true)) (.t 12))]⟩] [0, 13])
 (.ite (.t 13)
 (.seq (.rg [⟨none, [(some 2, .mv (.c (.slice none 0 0))), (some 3, .mv (.c (.int .i64 200)))]⟩] [2, 3])
 .ret)
 .skip))
 (.seq (.seq (.rg [⟨none, [(some 14, .mv (.t 0)), (some 15, .bin .eql (.t 14) (.c (.string ⟨#[47]⟩)))]⟩] [0, 15])
 (.ite (.t 15)
 (.seq (.rg [⟨none, [(some 2, .mv (.c (.slice none 0 0))), (some 3, .mv (.c (.int .i64 0)))]⟩] [2, 3])
 .ret)
 .skip))
 (.seq (.rg [⟨none, [(some 4, .mv (.c (.slice none 0 0))), (none, .gh)]⟩] [0, 4])
 (.seq (.rg [⟨none, [(some 5, .mv (.c (.int .i64 1)))]⟩] [0, 4, 5])
 (.seq (.seq (.rg [⟨none, [(some 6, .mv (.c (.int .i64 1)))]⟩] [0, 4, 5, 6])
 (.block 0 (.loop c_ref20_Split_L0)))
 (.seq (.seq (.rg [⟨none, [(some 47, .mv (.t 4)), (some 48, .len (.t 47)), (some 49, .bin .gtr (.t 48) (.c (.int .i64 64)))]⟩] [4, 49])
 (.ite (.t 49)
 (.seq (.rg [⟨none, [(some 2, .mv (.c (.slice none 0 0))), (some 3, .mv (.c (.int .i64 3)))]⟩] [2, 3])
 .ret)
 .skip))
 (.seq (.rg [⟨none, [(some 50, .mv (.t 4)), (some 2, .mv (.t 50)), (none, .gh), (some 3, .mv (.c (.int .i64 0)))]⟩] [2, 3])
 .ret))))))))
theorem k_ref20_Split : Ok Tryz.prog 44 c_ref20_Split 51 [] [.tmp 2, .tmp 3] := Ok.mk' Tryz.func44 (by kernel_rfl) (by kernel_rfl) (by kernel_rfl)

abbrev f_path_Join : Nat := 29
def c_path_Join : Cd :=
 (.seq (.rg [⟨none, [(some 2, .mv (.c (.string ⟨#[]⟩))), (some 3, .mv (.c (.int .i64 0)))]⟩] [0])
 (.seq (.seq (.rg [⟨none, [(some 5, .mv (.t 0)), (some 6, .call 40 [(.t 5)]), (some 4, .mv (.t 6))]⟩] [0, 4])
 (.seq (.rg [⟨none, [(some 7, .mv (.t 4)), (some 8, .bin .neq (.t 7) (.c (.int .i64 0)))]⟩] [0, 4, 8])
 (.ite (.t 8)
 (.seq (.rg [⟨none, [(some 9, .mv (.t 4)), (some 2, .mv (.c (.string ⟨#[]⟩))), (some 3, .mv (.t 9))]⟩] [2, 3])
 .ret)
 .skip)))
 (.seq (.rg [⟨none, [(some 10, .mv (.t 0)), (some 11, .call 36 [(.t 10), (.c (.string ⟨#[47]⟩))]), (some 12, .bin .add (.c (.string ⟨#[47]⟩)) (.t 11)), (some 2, .mv (.t 12)), (some 3, .mv (.c (.int .i64 0)))]⟩] [2, 3])
 .ret)))
theorem k_path_Join : Ok Tryz.prog 29 c_path_Join 13 [] [.tmp 2, .tmp 3] := Ok.mk' Tryz.func29 (by kernel_rfl) (by kernel_rfl) (by kernel_rfl)

abbrev f_ref20_Join : Nat := 49
def c_ref20_Join_L0 : Cd :=
 (.seq (.seq (.rg [⟨none, [(some 6, .mv (.t 5)), (some 7, .mv (.t 0)), (some 8, .len (.t 7)), (some 9, .bin .lss (.t 6) (.t 8))]⟩] [0, 4, 5, 9])
 (.ite (.t 9)
 .skip
 (.exit 0)))
 (.seq (.block 1 (.seq (.seq (.rg [⟨none, [(some 12, .mv (.t 0)), (some 13, .mv (.t 5)), (some 14, .idxS (.t 12) (.t 13) 1), (some 15, .ld (.t 14) 1 false), (some 16, .call 75 [(.t 15)]), (some 17, .un .not (.t 16))]⟩] [0, 4, 5, 17])
 (.ite (.t 17)
 (.seq (.rg [⟨none, [(some 2, .mv (.c (.string ⟨#[]⟩))), (some 3, .mv (.c (.int .i64 200)))]⟩] [2, 3])
 .ret)
 .skip))
 (.rg [⟨none, [(some 18, .mv (.t 4)), (some 19, .mv (.t 0)), (some 20, .mv (.t 5)), (some 21, .idxS (.t 19) (.t 20) 1), (some 22, .ld (.t 21) 1 false), (some 23, .bin .add (.c (.string ⟨#[47]⟩)) (.t 22)), (some 24, .bin .add (.t 18) (.t 23)), (some 4, .mv (.t 24))]⟩] [0, 4, 5])))
 (.rg [⟨none, [(some 10, .mv (.t 5)), (some 11, .bin .add (.t 10) (.c (.int .i64 1))), (some 5, .mv (.t 11))]⟩] [0, 4, 5])))
def c_ref20_Join : Cd :=
 (.seq (.rg [⟨none, [(some 2, .mv (.c (.string ⟨#[]⟩))), (some 3, .mv (.c (.int .i64 0)))]⟩] [0])
 (.seq (.rg [⟨none, [(some 4, .mv (.c (.string ⟨#[]⟩)))]⟩] [0, 4])
 (.seq (.seq (.rg [⟨none, [(some 5, .mv (.c (.int .i64 0)))]⟩] [0, 4, 5])
 (.block 0 (.loop c_ref20_Join_L0)))
 (.seq (.seq (.rg [⟨none, [(some 25, .mv (.t 0)), (some 26, .len (.t 25)), (some 27, .bin .gtr (.t 26) (.c (.int .i64 64)))]⟩] [4, 27])
 (.ite (.t 27)
 (.seq (.rg [⟨none, [(some 2, .mv (.c (.string ⟨#[]⟩))), (some 3, .mv (.c (.int .i64 3)))]⟩] [2, 3])
 .ret)
 .skip))
 (.seq (.seq (.rg [⟨none, [(some 28, .mv (.t 4)), (some 29, .bin .eql (.t 28) (.c (.string ⟨#[]⟩)))]⟩] [4, 29])
 (.ite (.t 29)
 (.seq (.rg [⟨none, [(some 2, .mv (.c (.string ⟨#[47]⟩))), (some 3, .mv (.c (.int .i64 0)))]⟩] [2, 3])
 .ret)
 .skip))
 (.seq (.rg [⟨none, [(some 30, .mv (.t 4)), (some 2, .mv (.t 30)), (some 3, .mv (.c (.int .i64 0)))]⟩] [2, 3])
 .ret))))))
theorem k_ref20_Join : Ok Tryz.prog 49 c_ref20_Join 31 [] [.tmp 2, .tmp 3] := Ok.mk' Tryz.func49 (by kernel_rfl) (by kernel_rfl) (by kernel_rfl)

end Go.Proofs.YtnoeabmpdjpfaaaGreatDoor.Vc.Pa

/- Split and Join. -/
set_option linter.unusedVariables false
set_option linter.unusedSimpArgs false
set_option maxRecDepth 100000
namespace Go.Proofs.YtnoeabmpdjpfaaaGreatDoor.Vc.Pa
open Go Go.Proofs

def SplitR (r : List (List UInt8) × Int) (rs : List GV) (m' : PH) : Prop := ∃ v, rs = [.s v, .s (.int .i64 r.2)] ∧ SlO m' v 9 1 (r.1.map gN)

theorem segs_len : ∀ l : List UInt8, (segs l).length ≤ l.length + 1
  | [] => by simp [segs]
  | c :: l => by
    have := segs_len l
    by_cases h : c = 47
    · subst h; simp only [segs, if_true, List.length_cons]; omega
    · obtain ⟨x, t, h1, h2⟩ := segs_cons h l
      rw [h2]; rw [h1] at this
      simp only [List.length_cons] at this ⊢
      omega
theorem segs_mem : ∀ {l x : List UInt8}, x ∈ segs l → x.length ≤ l.length
  | [], x, h => by simp [segs] at h; subst h; simp
  | c :: l, x, h => by
    by_cases hc : c = 47
    · subst hc
      simp only [segs, if_true, List.mem_cons] at h
      rcases h with rfl | h
      · simp
      · have := segs_mem h; simp; omega
    · obtain ⟨y, t, h1, h2⟩ := segs_cons hc l
      rw [h2] at h
      rcases List.mem_cons.1 h with rfl | h
      · have : y.length ≤ l.length := segs_mem (by rw [h1]; simp)
        simp; omega
      · have := segs_mem (l := l) (x := x) (by rw [h1]; simp [h])
        simp; omega

theorem splitA_no {p : List UInt8} (h1 : p ≠ [47]) (h : preS p = false) : splitA p = ([], 200) := by
  unfold splitA
  rw [if_neg h1]
  cases p with
  | nil => rfl
  | cons c r =>
    simp only
    rw [if_neg]
    intro e; subst e
    simp [preS] at h
theorem splitA_yes {p : List UInt8} (h1 : p ≠ [47]) (h : preS p = true) : splitA p = if wrongA (segs (p.drop 1)) = 0 then (segs (p.drop 1), 0) else ([], wrongA (segs (p.drop 1))) := by
  unfold splitA
  rw [if_neg h1]
  cases p with
  | nil => cases h
  | cons c r =>
    have : c = 47 := by simpa [preS] using h
    subst this
    simp

theorem nil_O (m : PH) : SlO PH.no (.slice none 0 0) 9 1 (([] : List (List UInt8)).map gN) := ⟨fun x hx => by simp at hx, .inl ⟨rfl, rfl⟩⟩

theorem pSplit_spec (w : World) (p : List UInt8) (hs : p.length < 4294967281) (u : PH) (hu : u.le w) (hG : GlobI u) : Spec Tryz.prog f_path_Split [.string (mkS p)] PH.no w (SplitR (splitA p)) := by
  refine spec_of k_path_Split [.g (gN p)] (by simp) (by simp [AV.ok, gN_ok]) ?_
  simp (maxSteps := 2000000) only [c_path_Split, gN, vc_skip, vc_ret, vc_exit, vc_seq, vc_block, vc_scope, scopeQ_n, scopeQ_r, scopeQ_e, vc_rg, vc_rgq, vc_rga, vc_ite, thenQ_n, thenQ_r, thenQ_e, blockQ_n, blockQ_r, blockQ_e, kKeep_eq, loopQ_r, loopQ_e, loopQ_n, finQ_r, finQ_n, segs_nil, segs_n, segs_g, ops_nil, ops_cons, qsegs_nil, qsegs_n, qsegs_g, qops_nil, qops_cons, ot_done, ot_op, ot_or, ot_held, oh_done, oh_op, oh_or, oh_first, oh_firstg, heldC_eq, heldF_eq, heldOk, heldK, ldH, heldM_self, heldM_one, heldM_two, heldM_three, List.contains_cons, List.contains_nil, Bool.or_false, Bool.or_true, Bool.true_or, Bool.false_or, vcqOp, vcOp, isRd, RO.isGh, skip_mk, skipL, ev, evL, gvL, scL, look, updL, put_mk, put_mk0, keep_mk, keepL, rowE, rowD, bndN, binV, binC, unV, GV.getT, GV.fld, GV.sz, GV.same, GV.setT, Value.oneCell', cond_true, cond_false, Nat.reduceEqDiff, Nat.reduceAdd, Nat.reduceMul, Nat.reduceSub, Nat.reduceBEq, Nat.reduceLeDiff, ↓reduceIte, reduceCtorEq, List.nil_append, List.cons_append, List.append_nil, Nat.zero_add, Nat.add_zero, Bool.and_true, Bool.true_and, Bool.not_true, Bool.not_false, BEq.rfl, decide_true, decide_false, true_and, and_true, initF, initP, List.map_cons, List.map_nil, Option.map_some, szAll, List.length_cons, List.length_nil, finW_r, finW_n, resL, resOne, Option.bind_some, true_imp_iff, false_imp_iff, Bool.true_eq_false, Bool.false_eq_true, Int.toNat_natCast, Int.reduceToNat, Int.reduceLE, Int.reduceLT, Int.reduceAdd, Int.reduceSub, Int.reduceEq, decide_eq_true_eq, decide_eq_false_iff_not, kill, SV.mentions, ne_eq, not_false_eq_true, not_true_eq_false, List.drop_zero, List.take_succ_cons, List.take_zero, dOk, ↓br_tt, ↓br_ff, ↓br_tf, ↓br_ft, br_t, br_f, Bool.bne_false, Bool.bne_true, GV.bldT, GV.bldC, gVec_get, gVec_set, gVec_arr, gVec_fits, gVec_sz, gVec_sameT, gVec_zero, gVec_isS, gVec2_get, gVec2_arr, gVec2_fits, gVec2_sz, gVec2_sameT, gVec2_zero, gVec2_set, same_int, getT_nil, setT_nil, getD_gi, List.length_map, fits_s, fits_c, fits_ar, arr_ar, get_nil, mkS_size, getD_gN, getD_gb, mkS_at, mkS_e0, mkS_e46, mkS_e4646, mkS_e47, mkS_ext, List.length_map]
  refine ⟨fun h1 => ?_, fun h1 => ?_⟩
  · subst h1
    exact fin_m PH.no rfl (fun _ _ h => h) ⟨_, rfl, nil_O PH.no⟩
  refine call_fnv (sCutPrefix_fn p) rfl rfl rfl fun _ => ?_
  simp (maxSteps := 2000000) only [retS, gN, List.getElem?_cons_zero, List.getElem?_cons_succ, vc_skip, vc_ret, vc_exit, vc_seq, vc_block, vc_scope, scopeQ_n, scopeQ_r, scopeQ_e, vc_rg, vc_rgq, vc_rga, vc_ite, thenQ_n, thenQ_r, thenQ_e, blockQ_n, blockQ_r, blockQ_e, kKeep_eq, loopQ_r, loopQ_e, loopQ_n, finQ_r, finQ_n, segs_nil, segs_n, segs_g, ops_nil, ops_cons, qsegs_nil, qsegs_n, qsegs_g, qops_nil, qops_cons, ot_done, ot_op, ot_or, ot_held, oh_done, oh_op, oh_or, oh_first, oh_firstg, heldC_eq, heldF_eq, heldOk, heldK, ldH, heldM_self, heldM_one, heldM_two, heldM_three, List.contains_cons, List.contains_nil, Bool.or_false, Bool.or_true, Bool.true_or, Bool.false_or, vcqOp, vcOp, isRd, RO.isGh, skip_mk, skipL, ev, evL, gvL, scL, look, updL, put_mk, put_mk0, keep_mk, keepL, rowE, rowD, bndN, binV, binC, unV, GV.getT, GV.fld, GV.sz, GV.same, GV.setT, Value.oneCell', cond_true, cond_false, Nat.reduceEqDiff, Nat.reduceAdd, Nat.reduceMul, Nat.reduceSub, Nat.reduceBEq, Nat.reduceLeDiff, ↓reduceIte, reduceCtorEq, List.nil_append, List.cons_append, List.append_nil, Nat.zero_add, Nat.add_zero, Bool.and_true, Bool.true_and, Bool.not_true, Bool.not_false, BEq.rfl, decide_true, decide_false, true_and, and_true, initF, initP, List.map_cons, List.map_nil, Option.map_some, szAll, List.length_cons, List.length_nil, finW_r, finW_n, resL, resOne, Option.bind_some, true_imp_iff, false_imp_iff, Bool.true_eq_false, Bool.false_eq_true, Int.toNat_natCast, Int.reduceToNat, Int.reduceLE, Int.reduceLT, Int.reduceAdd, Int.reduceSub, Int.reduceEq, decide_eq_true_eq, decide_eq_false_iff_not, kill, SV.mentions, ne_eq, not_false_eq_true, not_true_eq_false, List.drop_zero, List.take_succ_cons, List.take_zero, dOk, ↓br_tt, ↓br_ff, ↓br_tf, ↓br_ft, br_t, br_f, Bool.bne_false, Bool.bne_true, GV.bldT, GV.bldC, gVec_get, gVec_set, gVec_arr, gVec_fits, gVec_sz, gVec_sameT, gVec_zero, gVec_isS, gVec2_get, gVec2_arr, gVec2_fits, gVec2_sz, gVec2_sameT, gVec2_zero, gVec2_set, same_int, getT_nil, setT_nil, getD_gi, List.length_map, fits_s, fits_c, fits_ar, arr_ar, get_nil, mkS_size, getD_gN, getD_gb, mkS_at, mkS_e0, mkS_e46, mkS_e4646, mkS_e47, mkS_ext, List.length_map]
  refine ⟨fun h2 => ?_, fun h2 => ?_⟩
  · rw [splitA_no h1 (by simpa using h2)]
    exact fin_m PH.no rfl (fun _ _ h => by cases h) ⟨_, rfl, nil_O PH.no⟩
  have h2' : preS p = true := by simpa using h2
  rw [if_pos h2']
  rw [splitA_yes h1 h2']
  have hlen : (p.drop 1).length < 4294967281 := by simp; omega
  have hsl := segs_len (p.drop 1)
  refine call_own (dOk_spec rfl) rfl (Q := SplitQ (segs (p.drop 1))) (fun w' vs hv hw _ => ?_) fun rs m' hok hq => ?_
  · obtain ⟨vs, rfl, _, hv⟩ := argsV_g hv
    obtain ⟨vs, rfl, _, hv⟩ := argsV_g hv
    obtain rfl := argsV_nil hv
    have := Split_spec w' (mkS (p.drop 1)) (by rw [mkS_size]; omega) u (fun b o hb => hw b o (by rw [u0_no]; exact hu b o hb)) hG
    exact this
  obtain ⟨v, rfl, hv⟩ := hq
  simp (maxSteps := 2000000) only [retS, uni_no_r, vc_skip, vc_ret, vc_exit, vc_seq, vc_block, vc_scope, scopeQ_n, scopeQ_r, scopeQ_e, vc_rg, vc_rgq, vc_rga, vc_ite, thenQ_n, thenQ_r, thenQ_e, blockQ_n, blockQ_r, blockQ_e, kKeep_eq, loopQ_r, loopQ_e, loopQ_n, finQ_r, finQ_n, segs_nil, segs_n, segs_g, ops_nil, ops_cons, qsegs_nil, qsegs_n, qsegs_g, qops_nil, qops_cons, ot_done, ot_op, ot_or, ot_held, oh_done, oh_op, oh_or, oh_first, oh_firstg, heldC_eq, heldF_eq, heldOk, heldK, ldH, heldM_self, heldM_one, heldM_two, heldM_three, List.contains_cons, List.contains_nil, Bool.or_false, Bool.or_true, Bool.true_or, Bool.false_or, vcqOp, vcOp, isRd, RO.isGh, skip_mk, skipL, ev, evL, gvL, scL, look, updL, put_mk, put_mk0, keep_mk, keepL, rowE, rowD, bndN, binV, binC, unV, GV.getT, GV.fld, GV.sz, GV.same, GV.setT, Value.oneCell', cond_true, cond_false, Nat.reduceEqDiff, Nat.reduceAdd, Nat.reduceMul, Nat.reduceSub, Nat.reduceBEq, Nat.reduceLeDiff, ↓reduceIte, reduceCtorEq, List.nil_append, List.cons_append, List.append_nil, Nat.zero_add, Nat.add_zero, Bool.and_true, Bool.true_and, Bool.not_true, Bool.not_false, BEq.rfl, decide_true, decide_false, true_and, and_true, initF, initP, List.map_cons, List.map_nil, Option.map_some, szAll, List.length_cons, List.length_nil, finW_r, finW_n, resL, resOne, Option.bind_some, true_imp_iff, false_imp_iff, Bool.true_eq_false, Bool.false_eq_true, Int.toNat_natCast, Int.reduceToNat, Int.reduceLE, Int.reduceLT, Int.reduceAdd, Int.reduceSub, Int.reduceEq, decide_eq_true_eq, decide_eq_false_iff_not, kill, SV.mentions, ne_eq, not_false_eq_true, not_true_eq_false, List.drop_zero, List.take_succ_cons, List.take_zero, dOk, ↓br_tt, ↓br_ff, ↓br_tf, ↓br_ft, br_t, br_f, Bool.bne_false, Bool.bne_true, GV.bldT, GV.bldC, gVec_get, gVec_set, gVec_arr, gVec_fits, gVec_sz, gVec_sameT, gVec_zero, gVec_isS, gVec2_get, gVec2_arr, gVec2_fits, gVec2_sz, gVec2_sameT, gVec2_zero, gVec2_set, same_int, getT_nil, setT_nil, getD_gi, List.length_map, fits_s, fits_c, fits_ar, arr_ar, get_nil, mkS_size, getD_gN, getD_gb, mkS_at, mkS_e0, mkS_e46, mkS_e4646, mkS_e47, mkS_ext, List.length_map]
  refine call_ism _ [.s (.int .i64 (wrongA (segs (p.drop 1))))] rfl rfl (fun w' vs hv' hw hph hm => ?_) ?_
  · obtain ⟨vs, rfl, _, hv'⟩ := argsV_g hv'
    obtain rfl := argsV_nil hv'
    exact wrong_spec w' v (segs (p.drop 1)) (by omega) (fun n hn => by have := segs_mem hn; omega) m' hm hv.toR
  simp (maxSteps := 2000000) only [retS, beq_iff_eq, beq_eq_false_iff_ne, bne_iff_ne, bne_eq_false_iff_eq, vc_skip, vc_ret, vc_exit, vc_seq, vc_block, vc_scope, scopeQ_n, scopeQ_r, scopeQ_e, vc_rg, vc_rgq, vc_rga, vc_ite, thenQ_n, thenQ_r, thenQ_e, blockQ_n, blockQ_r, blockQ_e, kKeep_eq, loopQ_r, loopQ_e, loopQ_n, finQ_r, finQ_n, segs_nil, segs_n, segs_g, ops_nil, ops_cons, qsegs_nil, qsegs_n, qsegs_g, qops_nil, qops_cons, ot_done, ot_op, ot_or, ot_held, oh_done, oh_op, oh_or, oh_first, oh_firstg, heldC_eq, heldF_eq, heldOk, heldK, ldH, heldM_self, heldM_one, heldM_two, heldM_three, List.contains_cons, List.contains_nil, Bool.or_false, Bool.or_true, Bool.true_or, Bool.false_or, vcqOp, vcOp, isRd, RO.isGh, skip_mk, skipL, ev, evL, gvL, scL, look, updL, put_mk, put_mk0, keep_mk, keepL, rowE, rowD, bndN, binV, binC, unV, GV.getT, GV.fld, GV.sz, GV.same, GV.setT, Value.oneCell', cond_true, cond_false, Nat.reduceEqDiff, Nat.reduceAdd, Nat.reduceMul, Nat.reduceSub, Nat.reduceBEq, Nat.reduceLeDiff, ↓reduceIte, reduceCtorEq, List.nil_append, List.cons_append, List.append_nil, Nat.zero_add, Nat.add_zero, Bool.and_true, Bool.true_and, Bool.not_true, Bool.not_false, BEq.rfl, decide_true, decide_false, true_and, and_true, initF, initP, List.map_cons, List.map_nil, Option.map_some, szAll, List.length_cons, List.length_nil, finW_r, finW_n, resL, resOne, Option.bind_some, true_imp_iff, false_imp_iff, Bool.true_eq_false, Bool.false_eq_true, Int.toNat_natCast, Int.reduceToNat, Int.reduceLE, Int.reduceLT, Int.reduceAdd, Int.reduceSub, Int.reduceEq, decide_eq_true_eq, decide_eq_false_iff_not, kill, SV.mentions, ne_eq, not_false_eq_true, not_true_eq_false, List.drop_zero, List.take_succ_cons, List.take_zero, dOk, ↓br_tt, ↓br_ff, ↓br_tf, ↓br_ft, br_t, br_f, Bool.bne_false, Bool.bne_true, GV.bldT, GV.bldC, gVec_get, gVec_set, gVec_arr, gVec_fits, gVec_sz, gVec_sameT, gVec_zero, gVec_isS, gVec2_get, gVec2_arr, gVec2_fits, gVec2_sz, gVec2_sameT, gVec2_zero, gVec2_set, same_int, getT_nil, setT_nil, getD_gi, List.length_map, fits_s, fits_c, fits_ar, arr_ar, get_nil, mkS_size, getD_gN, getD_gb, mkS_at, mkS_e0, mkS_e46, mkS_e4646, mkS_e47, mkS_ext, List.length_map]
  refine ⟨fun h3 => ?_, fun h3 => ?_⟩
  · rw [if_neg h3]
    exact fin_m PH.no rfl (fun _ _ h => by cases h) ⟨_, rfl, nil_O PH.no⟩
  · rw [if_pos h3]
    exact fin_m m' rfl (fun _ _ h => h) ⟨_, rfl, hv⟩

/-! ### The document's -/
structure CutI (r : List UInt8) (j f : Nat) (ds : List (List UInt8)) : Prop where
  jl : j ≤ r.length + 1
  on : j ≤ r.length → f ≤ j ∧ segs r = ds ++ segs (r.drop f) ∧ ∀ q, f ≤ q → q < j → r.getD q 0 ≠ 47
  off : j = r.length + 1 → segs r = ds
  names : ∀ n ∈ ds, nameA n = true

theorem drop_cut {r : List UInt8} {f j : Nat} (h : f ≤ j) (hj : j < r.length) : r.drop f = (r.drop f).take (j - f) ++ r.getD j 0 :: r.drop (j + 1) := by
  have h1 : r.drop j = r.getD j 0 :: r.drop (j + 1) := by
    rw [List.drop_eq_getElem_cons hj, List.getD_eq_getElem?_getD, List.getElem?_eq_getElem hj]; rfl
  have h2 : (r.drop f).drop (j - f) = r.drop j := by rw [List.drop_drop]; congr 1; omega
  conv => lhs; rw [← List.take_append_drop (j - f) (r.drop f), h2, h1]
theorem no47 {r : List UInt8} {f j : Nat} (h : ∀ q, f ≤ q → q < j → r.getD q 0 ≠ 47) : 47 ∉ (r.drop f).take (j - f) := by
  intro hm
  obtain ⟨q, hq, e⟩ := List.mem_iff_getElem.1 hm
  simp only [List.length_take, List.length_drop] at hq
  rw [List.getElem_take, List.getElem_drop] at e
  refine h (f + q) (by omega) (by omega) ?_
  rw [List.getD_eq_getElem?_getD, List.getElem?_eq_getElem (by omega)]
  simpa using e

theorem CutI.start (r : List UInt8) : CutI r 0 0 [] := ⟨by omega, fun _ => ⟨by omega, by simp, fun q _ hq => by omega⟩, fun h => by omega, fun n hn => by simp at hn⟩
theorem CutI.goes {r : List UInt8} {j f : Nat} {ds : List (List UInt8)} (h : CutI r j f ds) (hj : j < r.length) (hc : r.getD j 0 ≠ 47) : CutI r (j + 1) f ds := by
  obtain ⟨h1, h2, h3⟩ := h.on (by omega)
  refine ⟨by omega, fun _ => ⟨by omega, h2, fun q q1 q2 => ?_⟩, fun e => by omega, h.names⟩
  rcases Nat.lt_succ_iff_lt_or_eq.1 q2 with h4 | rfl
  · exact h3 q q1 h4
  · exact hc
theorem CutI.piece {r : List UInt8} {j f : Nat} {ds : List (List UInt8)} (h : CutI r j f ds) (hj : j ≤ r.length) (hc : j = r.length ∨ r.getD j 0 = 47) : (r.drop f).take (j - f) ∈ segs r ∧ (nameA ((r.drop f).take (j - f)) = true → CutI r (j + 1) (j + 1) (ds ++ [(r.drop f).take (j - f)])) := by
  obtain ⟨h1, h2, h3⟩ := h.on hj
  have hno := no47 h3
  rcases Nat.lt_or_ge j r.length with hl | hl
  · have hcc : r.getD j 0 = 47 := hc.resolve_left (by omega)
    have hd := drop_cut h1 hl
    rw [hcc] at hd
    have hs : segs (r.drop f) = (r.drop f).take (j - f) :: segs (r.drop (j + 1)) := by
      conv => lhs; rw [hd, segs_app _ _ hno]
    rw [hs] at h2
    refine ⟨by rw [h2]; simp, fun hn => ⟨by omega, fun _ => ⟨by omega, by rw [h2]; simp, fun q q1 q2 => by omega⟩, fun e => by omega, fun n hx => ?_⟩⟩
    rcases List.mem_append.1 hx with hx | hx
    · exact h.names n hx
    · simp only [List.mem_singleton] at hx; subst hx; exact hn
  · have hjl : j = r.length := by omega
    have ht : (r.drop f).take (j - f) = r.drop f := List.take_of_length_le (by simp; omega)
    rw [ht] at hno ⊢
    rw [segs_one _ hno] at h2
    refine ⟨by rw [h2]; simp, fun hn => ⟨by omega, fun e => by omega, fun _ => h2, fun n hx => ?_⟩⟩
    rcases List.mem_append.1 hx with hx | hx
    · exact h.names n hx
    · simp only [List.mem_singleton] at hx; subst hx; exact hn

theorem preS_cons {p : List UInt8} (h0 : p ≠ []) : preS p = (p.getD 0 0 == 47) := by
  cases p with
  | nil => exact absurd rfl h0
  | cons c r =>
    simp only [preS, List.take_succ_cons, List.take_zero, List.getD_cons_zero]
    by_cases h : c = 47
    · subst h; rfl
    · rw [show (c == 47) = false by simpa using h]; simpa using h

theorem refSplit_spec (w : World) (p : List UInt8) (hs : p.length < 4294967281) : Spec Tryz.prog f_ref20_Split [.string (mkS p)] PH.no w (SplitR (splitA p)) := by
  refine spec_of k_ref20_Split [.g (gN p)] (by simp) (by simp [AV.ok, gN_ok]) ?_
  simp (maxSteps := 2000000) only [c_ref20_Split, gN, vc_skip, vc_ret, vc_exit, vc_seq, vc_block, vc_scope, scopeQ_n, scopeQ_r, scopeQ_e, vc_rg, vc_rgq, vc_rga, vc_ite, thenQ_n, thenQ_r, thenQ_e, blockQ_n, blockQ_r, blockQ_e, kKeep_eq, loopQ_r, loopQ_e, loopQ_n, finQ_r, finQ_n, segs_nil, segs_n, segs_g, ops_nil, ops_cons, qsegs_nil, qsegs_n, qsegs_g, qops_nil, qops_cons, ot_done, ot_op, ot_or, ot_held, oh_done, oh_op, oh_or, oh_first, oh_firstg, heldC_eq, heldF_eq, heldOk, heldK, ldH, heldM_self, heldM_one, heldM_two, heldM_three, List.contains_cons, List.contains_nil, Bool.or_false, Bool.or_true, Bool.true_or, Bool.false_or, vcqOp, vcOp, isRd, RO.isGh, skip_mk, skipL, ev, evL, gvL, scL, look, updL, put_mk, put_mk0, keep_mk, keepL, rowE, rowD, bndN, binV, binC, unV, GV.getT, GV.fld, GV.sz, GV.same, GV.setT, Value.oneCell', cond_true, cond_false, Nat.reduceEqDiff, Nat.reduceAdd, Nat.reduceMul, Nat.reduceSub, Nat.reduceBEq, Nat.reduceLeDiff, ↓reduceIte, reduceCtorEq, List.nil_append, List.cons_append, List.append_nil, Nat.zero_add, Nat.add_zero, Bool.and_true, Bool.true_and, Bool.not_true, Bool.not_false, BEq.rfl, decide_true, decide_false, true_and, and_true, initF, initP, List.map_cons, List.map_nil, Option.map_some, szAll, List.length_cons, List.length_nil, finW_r, finW_n, resL, resOne, Option.bind_some, true_imp_iff, false_imp_iff, Bool.true_eq_false, Bool.false_eq_true, Int.toNat_natCast, Int.reduceToNat, Int.reduceLE, Int.reduceLT, Int.reduceAdd, Int.reduceSub, Int.reduceEq, decide_eq_true_eq, decide_eq_false_iff_not, kill, SV.mentions, ne_eq, not_false_eq_true, not_true_eq_false, List.drop_zero, List.take_succ_cons, List.take_zero, dOk, ↓br_tt, ↓br_ff, ↓br_tf, ↓br_ft, br_t, br_f, Bool.bne_false, Bool.bne_true, GV.bldT, GV.bldC, gVec_get, gVec_set, gVec_arr, gVec_fits, gVec_sz, gVec_sameT, gVec_zero, gVec_isS, gVec2_get, gVec2_arr, gVec2_fits, gVec2_sz, gVec2_sameT, gVec2_zero, gVec2_set, same_int, getT_nil, setT_nil, getD_gi, List.length_map, fits_s, fits_c, fits_ar, arr_ar, get_nil, mkS_size, getD_gN, getD_gb, mkS_at, mkS_e0, mkS_e46, mkS_e4646, mkS_e47, mkS_ext, List.length_map]
  have nope : ∀ {C : Ctx} (σ : SS) (e : Int), splitA p = ([], e) → resL σ [.tmp 2, .tmp 3] = some [.s (.slice none 0 0), .s (.int .i64 e)] → Fin C [.tmp 2, .tmp 3] (SplitR (splitA p)) σ := by
    intro C σ e he hr
    rw [he]
    exact fin_m PH.no hr (fun _ _ h => by cases h) ⟨_, rfl, nil_O PH.no⟩
  refine ⟨fun h0 => ⟨?_, fun h1 => ?_, fun h1 => ⟨fun h2 => ?_, fun h2 => ?_⟩⟩, fun h0 => ?_⟩
  · have : p.length ≠ 0 := fun e => h0 (List.length_eq_zero_iff.mp e)
    omega
  · refine nope _ 200 (splitA_no (fun e => ?_) ?_) rfl
    · subst e; simp at h1
    · rw [preS_cons h0]
      rw [bne_iff_ne] at h1
      have := byte47 (p.getD 0 0)
      rw [← this]
      simpa using h1
  · subst h2; exact nope _ 0 rfl rfl
  rotate_left
  · subst h0; exact nope _ 200 rfl rfl
  have hpre : preS p = true := by
    rw [preS_cons h0]
    rw [bne_eq_false_iff_eq] at h1
    rw [← byte47, h1]; rfl
  obtain ⟨r, rfl⟩ : ∃ r, p = 47 :: r := by
    cases p with
    | nil => exact absurd rfl h0
    | cons c r =>
      have : c = 47 := by simpa [preS] using hpre
      exact ⟨r, by rw [this]⟩
  have hsp := splitA_yes h2 hpre
  simp only [List.drop_succ_cons, List.drop_zero] at hsp
  have hsl := segs_len r
  simp only [List.length_cons] at hs
  refine gh_nil 4 4 9 1 (.s (.string ⟨#[]⟩)) rfl rfl ?_
  simp (maxSteps := 2000000) only [vc_skip, vc_ret, vc_exit, vc_seq, vc_block, vc_scope, scopeQ_n, scopeQ_r, scopeQ_e, vc_rg, vc_rgq, vc_rga, vc_ite, thenQ_n, thenQ_r, thenQ_e, blockQ_n, blockQ_r, blockQ_e, kKeep_eq, loopQ_r, loopQ_e, loopQ_n, finQ_r, finQ_n, segs_nil, segs_n, segs_g, ops_nil, ops_cons, qsegs_nil, qsegs_n, qsegs_g, qops_nil, qops_cons, ot_done, ot_op, ot_or, ot_held, oh_done, oh_op, oh_or, oh_first, oh_firstg, heldC_eq, heldF_eq, heldOk, heldK, ldH, heldM_self, heldM_one, heldM_two, heldM_three, List.contains_cons, List.contains_nil, Bool.or_false, Bool.or_true, Bool.true_or, Bool.false_or, vcqOp, vcOp, isRd, RO.isGh, skip_mk, skipL, ev, evL, gvL, scL, look, updL, put_mk, put_mk0, keep_mk, keepL, rowE, rowD, bndN, binV, binC, unV, GV.getT, GV.fld, GV.sz, GV.same, GV.setT, Value.oneCell', cond_true, cond_false, Nat.reduceEqDiff, Nat.reduceAdd, Nat.reduceMul, Nat.reduceSub, Nat.reduceBEq, Nat.reduceLeDiff, ↓reduceIte, reduceCtorEq, List.nil_append, List.cons_append, List.append_nil, Nat.zero_add, Nat.add_zero, Bool.and_true, Bool.true_and, Bool.not_true, Bool.not_false, BEq.rfl, decide_true, decide_false, true_and, and_true, initF, initP, List.map_cons, List.map_nil, Option.map_some, szAll, List.length_cons, List.length_nil, finW_r, finW_n, resL, resOne, Option.bind_some, true_imp_iff, false_imp_iff, Bool.true_eq_false, Bool.false_eq_true, Int.toNat_natCast, Int.reduceToNat, Int.reduceLE, Int.reduceLT, Int.reduceAdd, Int.reduceSub, Int.reduceEq, decide_eq_true_eq, decide_eq_false_iff_not, kill, SV.mentions, ne_eq, not_false_eq_true, not_true_eq_false, List.drop_zero, List.take_succ_cons, List.take_zero, dOk, ↓br_tt, ↓br_ff, ↓br_tf, ↓br_ft, br_t, br_f, Bool.bne_false, Bool.bne_true, GV.bldT, GV.bldC, gVec_get, gVec_set, gVec_arr, gVec_fits, gVec_sz, gVec_sameT, gVec_zero, gVec_isS, gVec2_get, gVec2_arr, gVec2_fits, gVec2_sz, gVec2_sameT, gVec2_zero, gVec2_set, same_int, getT_nil, setT_nil, getD_gi, List.length_map, fits_s, fits_c, fits_ar, arr_ar, get_nil, mkS_size, getD_gN, getD_gb, mkS_at, mkS_e0, mkS_e46, mkS_e4646, mkS_e47, mkS_ext, List.length_map]
  refine vc_loop (ι := Nat × Nat × List (List UInt8)) (fun q => ⟨[(0, .g (.s (.string (mkS (47 :: r))))), (4, .row 4 0 (q.2.2.length)), (5, .g (.s (.int .i64 (q.2.1 + 1 : Nat)))), (6, .g (.s (.int .i64 (q.1 + 1 : Nat))))], [(4, .row 9 1 (.s (.string ⟨#[]⟩)) (q.2.2.map gN))], [], PH.no⟩)
    (fun q => CutI r q.1 q.2.1 q.2.2 ∧ q.2.2.length ≤ q.1) (fun q => r.length + 1 - q.1) (0, 0, []) ⟨CutI.start r, by simp⟩ (ge_of ?_ ?_ rfl rfl rfl) ?_
  · simp [frIn, look]
  · simp [pvIn, look]
  rintro ⟨j, f, ds⟩ ⟨hc, hdl⟩
  simp only at hc hdl
  have hjl := hc.jl
  generalize hQ : loopQ _ _ _ _ _ = Q
  simp (maxSteps := 2000000) only [c_ref20_Split_L0, List.length_cons, vc_skip, vc_ret, vc_exit, vc_seq, vc_block, vc_scope, scopeQ_n, scopeQ_r, scopeQ_e, vc_rg, vc_rgq, vc_rga, vc_ite, thenQ_n, thenQ_r, thenQ_e, blockQ_n, blockQ_r, blockQ_e, kKeep_eq, loopQ_r, loopQ_e, loopQ_n, finQ_r, finQ_n, segs_nil, segs_n, segs_g, ops_nil, ops_cons, qsegs_nil, qsegs_n, qsegs_g, qops_nil, qops_cons, ot_done, ot_op, ot_or, ot_held, oh_done, oh_op, oh_or, oh_first, oh_firstg, heldC_eq, heldF_eq, heldOk, heldK, ldH, heldM_self, heldM_one, heldM_two, heldM_three, List.contains_cons, List.contains_nil, Bool.or_false, Bool.or_true, Bool.true_or, Bool.false_or, vcqOp, vcOp, isRd, RO.isGh, skip_mk, skipL, ev, evL, gvL, scL, look, updL, put_mk, put_mk0, keep_mk, keepL, rowE, rowD, bndN, binV, binC, unV, GV.getT, GV.fld, GV.sz, GV.same, GV.setT, Value.oneCell', cond_true, cond_false, Nat.reduceEqDiff, Nat.reduceAdd, Nat.reduceMul, Nat.reduceSub, Nat.reduceBEq, Nat.reduceLeDiff, ↓reduceIte, reduceCtorEq, List.nil_append, List.cons_append, List.append_nil, Nat.zero_add, Nat.add_zero, Bool.and_true, Bool.true_and, Bool.not_true, Bool.not_false, BEq.rfl, decide_true, decide_false, true_and, and_true, initF, initP, List.map_cons, List.map_nil, Option.map_some, szAll, List.length_cons, List.length_nil, finW_r, finW_n, resL, resOne, Option.bind_some, true_imp_iff, false_imp_iff, Bool.true_eq_false, Bool.false_eq_true, Int.toNat_natCast, Int.reduceToNat, Int.reduceLE, Int.reduceLT, Int.reduceAdd, Int.reduceSub, Int.reduceEq, decide_eq_true_eq, decide_eq_false_iff_not, kill, SV.mentions, ne_eq, not_false_eq_true, not_true_eq_false, List.drop_zero, List.take_succ_cons, List.take_zero, dOk, ↓br_tt, ↓br_ff, ↓br_tf, ↓br_ft, br_t, br_f, Bool.bne_false, Bool.bne_true, GV.bldT, GV.bldC, gVec_get, gVec_set, gVec_arr, gVec_fits, gVec_sz, gVec_sameT, gVec_zero, gVec_isS, gVec2_get, gVec2_arr, gVec2_fits, gVec2_sz, gVec2_sameT, gVec2_zero, gVec2_set, same_int, getT_nil, setT_nil, getD_gi, List.length_map, fits_s, fits_c, fits_ar, arr_ar, get_nil, mkS_size, getD_gN, getD_gb, mkS_at, mkS_e0, mkS_e46, mkS_e4646, mkS_e47, mkS_ext, List.length_map]
  have ecut : List.take (j + 1 - (f + 1)) (List.drop (f + 1) (47 :: r)) = (r.drop f).take (j - f) := by
    rw [List.drop_succ_cons]; congr 1; omega
  have hlp : ((r.drop f).take (j - f)).length ≤ r.length := by simp; omega
  have hget : (47 :: r).getD (j + 1) 0 = r.getD j 0 := rfl
  rw [ecut, hget]
  refine ⟨fun hle => ⟨fun hlt => ⟨by omega, fun hne => ?_, fun heq => ?_⟩, fun hge => ?_⟩, fun hgt => ?_⟩
  · rw [bne_iff_ne] at hne
    have hn47 : r.getD j 0 ≠ 47 := fun e => hne (by rw [e]; rfl)
    subst hQ; simp only [loopQ_n]; refine ⟨(j + 1, f, ds), ?_, ?_, ge_of ?_ ?_ rfl rfl rfl⟩
    · exact ⟨hc.goes (by omega) hn47, by simp only; omega⟩
    · simp only; omega
    · simp only [frIn, vc_skip, vc_ret, vc_exit, vc_seq, vc_block, vc_scope, scopeQ_n, scopeQ_r, scopeQ_e, vc_rg, vc_rgq, vc_rga, vc_ite, thenQ_n, thenQ_r, thenQ_e, blockQ_n, blockQ_r, blockQ_e, kKeep_eq, loopQ_r, loopQ_e, loopQ_n, finQ_r, finQ_n, segs_nil, segs_n, segs_g, ops_nil, ops_cons, qsegs_nil, qsegs_n, qsegs_g, qops_nil, qops_cons, ot_done, ot_op, ot_or, ot_held, oh_done, oh_op, oh_or, oh_first, oh_firstg, heldC_eq, heldF_eq, heldOk, heldK, ldH, heldM_self, heldM_one, heldM_two, heldM_three, List.contains_cons, List.contains_nil, Bool.or_false, Bool.or_true, Bool.true_or, Bool.false_or, vcqOp, vcOp, isRd, RO.isGh, skip_mk, skipL, ev, evL, gvL, scL, look, updL, put_mk, put_mk0, keep_mk, keepL, rowE, rowD, bndN, binV, binC, unV, GV.getT, GV.fld, GV.sz, GV.same, GV.setT, Value.oneCell', cond_true, cond_false, Nat.reduceEqDiff, Nat.reduceAdd, Nat.reduceMul, Nat.reduceSub, Nat.reduceBEq, Nat.reduceLeDiff, ↓reduceIte, reduceCtorEq, List.nil_append, List.cons_append, List.append_nil, Nat.zero_add, Nat.add_zero, Bool.and_true, Bool.true_and, Bool.not_true, Bool.not_false, BEq.rfl, decide_true, decide_false, true_and, and_true, initF, initP, List.map_cons, List.map_nil, Option.map_some, szAll, List.length_cons, List.length_nil, finW_r, finW_n, resL, resOne, Option.bind_some, true_imp_iff, false_imp_iff, Bool.true_eq_false, Bool.false_eq_true, Int.toNat_natCast, Int.reduceToNat, Int.reduceLE, Int.reduceLT, Int.reduceAdd, Int.reduceSub, Int.reduceEq, decide_eq_true_eq, decide_eq_false_iff_not, kill, SV.mentions, ne_eq, not_false_eq_true, not_true_eq_false, List.drop_zero, List.take_succ_cons, List.take_zero, dOk, ↓br_tt, ↓br_ff, ↓br_tf, ↓br_ft, br_t, br_f, Bool.bne_false, Bool.bne_true, GV.bldT, GV.bldC]
      rw [wrap_n (by omega)]
      try simp
    · simp [pvIn, look]
  rotate_left 2
  · subst hQ
    have hj : j = r.length + 1 := by omega
    have hds := hc.off hj
    have hall : ∀ n ∈ segs r, nameA n = true := by rw [hds]; exact hc.names
    have hw : wrongA (segs r) = if (segs r).length > 64 then 3 else 0 := by
      unfold wrongA
      rw [if_pos (by simpa using hall)]
    simp (maxSteps := 2000000) only [vc_skip, vc_ret, vc_exit, vc_seq, vc_block, vc_scope, scopeQ_n, scopeQ_r, scopeQ_e, vc_rg, vc_rgq, vc_rga, vc_ite, thenQ_n, thenQ_r, thenQ_e, blockQ_n, blockQ_r, blockQ_e, kKeep_eq, loopQ_r, loopQ_e, loopQ_n, finQ_r, finQ_n, segs_nil, segs_n, segs_g, ops_nil, ops_cons, qsegs_nil, qsegs_n, qsegs_g, qops_nil, qops_cons, ot_done, ot_op, ot_or, ot_held, oh_done, oh_op, oh_or, oh_first, oh_firstg, heldC_eq, heldF_eq, heldOk, heldK, ldH, heldM_self, heldM_one, heldM_two, heldM_three, List.contains_cons, List.contains_nil, Bool.or_false, Bool.or_true, Bool.true_or, Bool.false_or, vcqOp, vcOp, isRd, RO.isGh, skip_mk, skipL, ev, evL, gvL, scL, look, updL, put_mk, put_mk0, keep_mk, keepL, rowE, rowD, bndN, binV, binC, unV, GV.getT, GV.fld, GV.sz, GV.same, GV.setT, Value.oneCell', cond_true, cond_false, Nat.reduceEqDiff, Nat.reduceAdd, Nat.reduceMul, Nat.reduceSub, Nat.reduceBEq, Nat.reduceLeDiff, ↓reduceIte, reduceCtorEq, List.nil_append, List.cons_append, List.append_nil, Nat.zero_add, Nat.add_zero, Bool.and_true, Bool.true_and, Bool.not_true, Bool.not_false, BEq.rfl, decide_true, decide_false, true_and, and_true, initF, initP, List.map_cons, List.map_nil, Option.map_some, szAll, List.length_cons, List.length_nil, finW_r, finW_n, resL, resOne, Option.bind_some, true_imp_iff, false_imp_iff, Bool.true_eq_false, Bool.false_eq_true, Int.toNat_natCast, Int.reduceToNat, Int.reduceLE, Int.reduceLT, Int.reduceAdd, Int.reduceSub, Int.reduceEq, decide_eq_true_eq, decide_eq_false_iff_not, kill, SV.mentions, ne_eq, not_false_eq_true, not_true_eq_false, List.drop_zero, List.take_succ_cons, List.take_zero, dOk, ↓br_tt, ↓br_ff, ↓br_tf, ↓br_ft, br_t, br_f, Bool.bne_false, Bool.bne_true, GV.bldT, GV.bldC, gVec_get, gVec_set, gVec_arr, gVec_fits, gVec_sz, gVec_sameT, gVec_zero, gVec_isS, gVec2_get, gVec2_arr, gVec2_fits, gVec2_sz, gVec2_sameT, gVec2_zero, gVec2_set, same_int, getT_nil, setT_nil, getD_gi, List.length_map, fits_s, fits_c, fits_ar, arr_ar, get_nil, mkS_size, getD_gN, getD_gb, mkS_at, mkS_e0, mkS_e46, mkS_e4646, mkS_e47, mkS_ext, List.length_map]
    have hlen : (segs r).length = ds.length := by rw [hds]
    refine ⟨fun h64 => ?_, fun h64 => ?_⟩
    · rw [if_pos (by omega)] at hw
      rw [hw, if_neg (by decide)] at hsp
      exact nope _ 3 hsp rfl
    · rw [if_neg (by omega)] at hw
      rw [hw, if_pos rfl, hds] at hsp
      refine gh_pub 2 4 ds.length rfl rfl (by simp) fun v u hv ho hd => ?_
      simp (maxSteps := 2000000) only [vc_skip, vc_ret, vc_exit, vc_seq, vc_block, vc_scope, scopeQ_n, scopeQ_r, scopeQ_e, vc_rg, vc_rgq, vc_rga, vc_ite, thenQ_n, thenQ_r, thenQ_e, blockQ_n, blockQ_r, blockQ_e, kKeep_eq, loopQ_r, loopQ_e, loopQ_n, finQ_r, finQ_n, segs_nil, segs_n, segs_g, ops_nil, ops_cons, qsegs_nil, qsegs_n, qsegs_g, qops_nil, qops_cons, ot_done, ot_op, ot_or, ot_held, oh_done, oh_op, oh_or, oh_first, oh_firstg, heldC_eq, heldF_eq, heldOk, heldK, ldH, heldM_self, heldM_one, heldM_two, heldM_three, List.contains_cons, List.contains_nil, Bool.or_false, Bool.or_true, Bool.true_or, Bool.false_or, vcqOp, vcOp, isRd, RO.isGh, skip_mk, skipL, ev, evL, gvL, scL, look, updL, put_mk, put_mk0, keep_mk, keepL, rowE, rowD, bndN, binV, binC, unV, GV.getT, GV.fld, GV.sz, GV.same, GV.setT, Value.oneCell', cond_true, cond_false, Nat.reduceEqDiff, Nat.reduceAdd, Nat.reduceMul, Nat.reduceSub, Nat.reduceBEq, Nat.reduceLeDiff, ↓reduceIte, reduceCtorEq, List.nil_append, List.cons_append, List.append_nil, Nat.zero_add, Nat.add_zero, Bool.and_true, Bool.true_and, Bool.not_true, Bool.not_false, BEq.rfl, decide_true, decide_false, true_and, and_true, initF, initP, List.map_cons, List.map_nil, Option.map_some, szAll, List.length_cons, List.length_nil, finW_r, finW_n, resL, resOne, Option.bind_some, true_imp_iff, false_imp_iff, Bool.true_eq_false, Bool.false_eq_true, Int.toNat_natCast, Int.reduceToNat, Int.reduceLE, Int.reduceLT, Int.reduceAdd, Int.reduceSub, Int.reduceEq, decide_eq_true_eq, decide_eq_false_iff_not, kill, SV.mentions, ne_eq, not_false_eq_true, not_true_eq_false, List.drop_zero, List.take_succ_cons, List.take_zero, dOk, ↓br_tt, ↓br_ff, ↓br_tf, ↓br_ft, br_t, br_f, Bool.bne_false, Bool.bne_true, GV.bldT, GV.bldC, gVec_get, gVec_set, gVec_arr, gVec_fits, gVec_sz, gVec_sameT, gVec_zero, gVec_isS, gVec2_get, gVec2_arr, gVec2_fits, gVec2_sz, gVec2_sameT, gVec2_zero, gVec2_set, same_int, getT_nil, setT_nil, getD_gi, List.length_map, fits_s, fits_c, fits_ar, arr_ar, get_nil, mkS_size, getD_gN, getD_gb, mkS_at, mkS_e0, mkS_e46, mkS_e4646, mkS_e47, mkS_ext, List.length_map]
      refine fin_m u rfl (by rw [uni_no_r]; exact fun _ _ h => h) ?_
      rw [hsp]
      exact ⟨v, rfl, ho⟩
  all_goals
    have hcond : j = r.length ∨ r.getD j 0 = 47 := by
      first
        | (left; omega)
        | (right; rw [bne_eq_false_iff_eq] at heq
           have := byte47 (r.getD j 0)
           rw [heq] at this
           simpa using this)
    obtain ⟨hp1, hp2⟩ := hc.piece (by omega) hcond
    obtain ⟨hfj, _, _⟩ := hc.on (by omega)
    generalize hpc : (r.drop f).take (j - f) = pc at *
    refine ⟨by omega, ?_⟩
    refine call_fnv (ref_Name_fn pc (by omega)) rfl rfl rfl fun _ => ?_
    simp (maxSteps := 2000000) only [retS, vc_skip, vc_ret, vc_exit, vc_seq, vc_block, vc_scope, scopeQ_n, scopeQ_r, scopeQ_e, vc_rg, vc_rgq, vc_rga, vc_ite, thenQ_n, thenQ_r, thenQ_e, blockQ_n, blockQ_r, blockQ_e, kKeep_eq, loopQ_r, loopQ_e, loopQ_n, finQ_r, finQ_n, segs_nil, segs_n, segs_g, ops_nil, ops_cons, qsegs_nil, qsegs_n, qsegs_g, qops_nil, qops_cons, ot_done, ot_op, ot_or, ot_held, oh_done, oh_op, oh_or, oh_first, oh_firstg, heldC_eq, heldF_eq, heldOk, heldK, ldH, heldM_self, heldM_one, heldM_two, heldM_three, List.contains_cons, List.contains_nil, Bool.or_false, Bool.or_true, Bool.true_or, Bool.false_or, vcqOp, vcOp, isRd, RO.isGh, skip_mk, skipL, ev, evL, gvL, scL, look, updL, put_mk, put_mk0, keep_mk, keepL, rowE, rowD, bndN, binV, binC, unV, GV.getT, GV.fld, GV.sz, GV.same, GV.setT, Value.oneCell', cond_true, cond_false, Nat.reduceEqDiff, Nat.reduceAdd, Nat.reduceMul, Nat.reduceSub, Nat.reduceBEq, Nat.reduceLeDiff, ↓reduceIte, reduceCtorEq, List.nil_append, List.cons_append, List.append_nil, Nat.zero_add, Nat.add_zero, Bool.and_true, Bool.true_and, Bool.not_true, Bool.not_false, BEq.rfl, decide_true, decide_false, true_and, and_true, initF, initP, List.map_cons, List.map_nil, Option.map_some, szAll, List.length_cons, List.length_nil, finW_r, finW_n, resL, resOne, Option.bind_some, true_imp_iff, false_imp_iff, Bool.true_eq_false, Bool.false_eq_true, Int.toNat_natCast, Int.reduceToNat, Int.reduceLE, Int.reduceLT, Int.reduceAdd, Int.reduceSub, Int.reduceEq, decide_eq_true_eq, decide_eq_false_iff_not, kill, SV.mentions, ne_eq, not_false_eq_true, not_true_eq_false, List.drop_zero, List.take_succ_cons, List.take_zero, dOk, ↓br_tt, ↓br_ff, ↓br_tf, ↓br_ft, br_t, br_f, Bool.bne_false, Bool.bne_true, GV.bldT, GV.bldC, gVec_get, gVec_set, gVec_arr, gVec_fits, gVec_sz, gVec_sameT, gVec_zero, gVec_isS, gVec2_get, gVec2_arr, gVec2_fits, gVec2_sz, gVec2_sameT, gVec2_zero, gVec2_set, same_int, getT_nil, setT_nil, getD_gi, List.length_map, fits_s, fits_c, fits_ar, arr_ar, get_nil, mkS_size, getD_gN, getD_gb, mkS_at, mkS_e0, mkS_e46, mkS_e4646, mkS_e47, mkS_ext, List.length_map]
    refine ⟨fun hbad => ?_, fun hgood => ?_⟩
    · subst hQ
      simp (maxSteps := 2000000) only [vc_skip, vc_ret, vc_exit, vc_seq, vc_block, vc_scope, scopeQ_n, scopeQ_r, scopeQ_e, vc_rg, vc_rgq, vc_rga, vc_ite, thenQ_n, thenQ_r, thenQ_e, blockQ_n, blockQ_r, blockQ_e, kKeep_eq, loopQ_r, loopQ_e, loopQ_n, finQ_r, finQ_n, segs_nil, segs_n, segs_g, ops_nil, ops_cons, qsegs_nil, qsegs_n, qsegs_g, qops_nil, qops_cons, ot_done, ot_op, ot_or, ot_held, oh_done, oh_op, oh_or, oh_first, oh_firstg, heldC_eq, heldF_eq, heldOk, heldK, ldH, heldM_self, heldM_one, heldM_two, heldM_three, List.contains_cons, List.contains_nil, Bool.or_false, Bool.or_true, Bool.true_or, Bool.false_or, vcqOp, vcOp, isRd, RO.isGh, skip_mk, skipL, ev, evL, gvL, scL, look, updL, put_mk, put_mk0, keep_mk, keepL, rowE, rowD, bndN, binV, binC, unV, GV.getT, GV.fld, GV.sz, GV.same, GV.setT, Value.oneCell', cond_true, cond_false, Nat.reduceEqDiff, Nat.reduceAdd, Nat.reduceMul, Nat.reduceSub, Nat.reduceBEq, Nat.reduceLeDiff, ↓reduceIte, reduceCtorEq, List.nil_append, List.cons_append, List.append_nil, Nat.zero_add, Nat.add_zero, Bool.and_true, Bool.true_and, Bool.not_true, Bool.not_false, BEq.rfl, decide_true, decide_false, true_and, and_true, initF, initP, List.map_cons, List.map_nil, Option.map_some, szAll, List.length_cons, List.length_nil, finW_r, finW_n, resL, resOne, Option.bind_some, true_imp_iff, false_imp_iff, Bool.true_eq_false, Bool.false_eq_true, Int.toNat_natCast, Int.reduceToNat, Int.reduceLE, Int.reduceLT, Int.reduceAdd, Int.reduceSub, Int.reduceEq, decide_eq_true_eq, decide_eq_false_iff_not, kill, SV.mentions, ne_eq, not_false_eq_true, not_true_eq_false, List.drop_zero, List.take_succ_cons, List.take_zero, dOk, ↓br_tt, ↓br_ff, ↓br_tf, ↓br_ft, br_t, br_f, Bool.bne_false, Bool.bne_true, GV.bldT, GV.bldC, gVec_get, gVec_set, gVec_arr, gVec_fits, gVec_sz, gVec_sameT, gVec_zero, gVec_isS, gVec2_get, gVec2_arr, gVec2_fits, gVec2_sz, gVec2_sameT, gVec2_zero, gVec2_set, same_int, getT_nil, setT_nil, getD_gi, List.length_map, fits_s, fits_c, fits_ar, arr_ar, get_nil, mkS_size, getD_gN, getD_gb, mkS_at, mkS_e0, mkS_e46, mkS_e4646, mkS_e47, mkS_ext, List.length_map]
      have hw : wrongA (segs r) = 200 := by
        unfold wrongA
        rw [if_neg]
        intro ha
        have := List.all_eq_true.1 ha pc hp1
        rw [this] at hbad; cases hbad
      rw [hw, if_neg (by omega)] at hsp
      exact nope _ 200 hsp rfl
    · refine ⟨by omega, ?_⟩
      rw [ecut]
      refine ⟨by omega, ?_⟩
      subst hQ; simp only [loopQ_n]; refine ⟨(j + 1, j + 1, ds ++ [pc]), ?_, ?_, ge_of ?_ ?_ rfl rfl rfl⟩
      · exact ⟨hp2 (by simpa using hgood), by simp; omega⟩
      · simp only; omega
      · simp only [frIn, vc_skip, vc_ret, vc_exit, vc_seq, vc_block, vc_scope, scopeQ_n, scopeQ_r, scopeQ_e, vc_rg, vc_rgq, vc_rga, vc_ite, thenQ_n, thenQ_r, thenQ_e, blockQ_n, blockQ_r, blockQ_e, kKeep_eq, loopQ_r, loopQ_e, loopQ_n, finQ_r, finQ_n, segs_nil, segs_n, segs_g, ops_nil, ops_cons, qsegs_nil, qsegs_n, qsegs_g, qops_nil, qops_cons, ot_done, ot_op, ot_or, ot_held, oh_done, oh_op, oh_or, oh_first, oh_firstg, heldC_eq, heldF_eq, heldOk, heldK, ldH, heldM_self, heldM_one, heldM_two, heldM_three, List.contains_cons, List.contains_nil, Bool.or_false, Bool.or_true, Bool.true_or, Bool.false_or, vcqOp, vcOp, isRd, RO.isGh, skip_mk, skipL, ev, evL, gvL, scL, look, updL, put_mk, put_mk0, keep_mk, keepL, rowE, rowD, bndN, binV, binC, unV, GV.getT, GV.fld, GV.sz, GV.same, GV.setT, Value.oneCell', cond_true, cond_false, Nat.reduceEqDiff, Nat.reduceAdd, Nat.reduceMul, Nat.reduceSub, Nat.reduceBEq, Nat.reduceLeDiff, ↓reduceIte, reduceCtorEq, List.nil_append, List.cons_append, List.append_nil, Nat.zero_add, Nat.add_zero, Bool.and_true, Bool.true_and, Bool.not_true, Bool.not_false, BEq.rfl, decide_true, decide_false, true_and, and_true, initF, initP, List.map_cons, List.map_nil, Option.map_some, szAll, List.length_cons, List.length_nil, finW_r, finW_n, resL, resOne, Option.bind_some, true_imp_iff, false_imp_iff, Bool.true_eq_false, Bool.false_eq_true, Int.toNat_natCast, Int.reduceToNat, Int.reduceLE, Int.reduceLT, Int.reduceAdd, Int.reduceSub, Int.reduceEq, decide_eq_true_eq, decide_eq_false_iff_not, kill, SV.mentions, ne_eq, not_false_eq_true, not_true_eq_false, List.drop_zero, List.take_succ_cons, List.take_zero, dOk, ↓br_tt, ↓br_ff, ↓br_tf, ↓br_ft, br_t, br_f, Bool.bne_false, Bool.bne_true, GV.bldT, GV.bldC]
        rw [wrap_n (by omega)]
        try simp
      · simp [pvIn, look, gN]
end Go.Proofs.YtnoeabmpdjpfaaaGreatDoor.Vc.Pa

/- The code of some functions of the program, its types resolved: printed by a program of this claim. -/
set_option linter.unusedVariables false
set_option maxRecDepth 100000
namespace Go.Proofs.YtnoeabmpdjpfaaaGreatDoor.Vc.Pa
open Go Go.Proofs

abbrev f_law20_begun : Nat := 7
def c_law20_begun : Cd :=
 (.seq (.rg [⟨none, [(some 0, .mv (.c (.bool false)))]⟩] [])
 (.seq (.rg [⟨none, [(some 6, .call 14 [(.c (.string ⟨#[47, 97, 47, 98]⟩))]), (some 5, .mv (.t 6)), (some 7, .ext (.t 5) 0), (some 8, .ext (.t 5) 1), (some 1, .mv (.t 7)), (some 2, .mv (.t 8))]⟩] [1, 2])
 (.seq (.rg [⟨none, [(some 10, .bldS 9 1 (.s (.string ⟨#[]⟩)) [(.c (.string ⟨#[97]⟩)), (.c (.string ⟨#[98]⟩))]), (some 11, .call 29 [(.t 10)]), (some 9, .mv (.t 11)), (some 12, .ext (.t 9) 0), (some 13, .ext (.t 9) 1), (some 3, .mv (.t 12)), (some 4, .mv (.t 13))]⟩] [1, 2, 3, 4])
 (.seq (.rg [⟨none, [(none, .gh), (some 14, .mv (.t 1)), (some 15, .len (.t 14)), (some 16, .bin .eql (.t 15) (.c (.int .i64 2))), (some 17, .mv (.t 16))]⟩, ⟨some (17, true), [(some 18, .mv (.t 1)), (some 19, .idxS (.t 18) (.c (.int .i64 0)) 1), (some 20, .ld (.t 19) 1 false), (some 21, .bin .eql (.t 20) (.c (.string ⟨#[97]⟩)))]⟩, ⟨none, [(some 22, .pick (.t 17) (.t 21) (.c (.bool false))), (some 23, .mv (.t 22))]⟩, ⟨some (23, true), [(some 24, .mv (.t 1)), (some 25, .idxS (.t 24) (.c (.int .i64 1)) 1), (some 26, .ld (.t 25) 1 false), (some 27, .bin .eql (.t 26) (.c (.string ⟨#[98]⟩)))]⟩, ⟨none, [(some 28, .pick (.t 23) (.t 27) (.c (.bool false))), (some 29, .mv (.t 28))]⟩, ⟨some (29, true), [(some 30, .mv (.t 2)), (some 31, .bin .eql (.t 30) (.c (.int .i64 0)))]⟩, ⟨none, [(some 32, .pick (.t 29) (.t 31) (.c (.bool false))), (some 33, .mv (.t 32))]⟩, ⟨some (33, true), [(some 34, .mv (.t 3)), (some 35, .bin .eql (.t 34) (.c (.string ⟨#[47, 97, 47, 98]⟩)))]⟩, ⟨none, [(some 36, .pick (.t 33) (.t 35) (.c (.bool false))), (some 37, .mv (.t 36))]⟩, ⟨some (37, true), [(some 38, .mv (.t 4)), (some 39, .bin .eql (.t 38) (.c (.int .i64 0)))]⟩, ⟨none, [(some 40, .pick (.t 37) (.t 39) (.c (.bool false))), (some 0, .mv (.t 40))]⟩] [0])
 .ret))))
theorem k_law20_begun : Ok Tryz.prog 7 c_law20_begun 41 [] [.tmp 0] := Ok.mk' Tryz.func7 (by kernel_rfl) (by kernel_rfl) (by kernel_rfl)

end Go.Proofs.YtnoeabmpdjpfaaaGreatDoor.Vc.Pa

