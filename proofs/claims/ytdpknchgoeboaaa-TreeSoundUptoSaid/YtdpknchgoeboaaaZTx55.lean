/- TreeSound: where what is read is of bulk at most the row's bound, the law answers true and leaves its argument as it was. -/
import Derived.Test.YtdpknchgoeboaaaProg
import Derived.RangeFuncKeeps
import Derived.Shelf.Abstract
import Derived.Sort.LoopGhostIn
import Derived.RangeFuncCalls
import Derived.Test.YtdpknchgoeboaaaZTx54
/- What a tree tells makes that tree: plain. -/
set_option linter.unusedVariables false
set_option linter.unusedSimpArgs false
namespace Go.Proofs.Ytdpknchgoeboaaa.Vc
open Go

theorem bytesLess_lt : ∀ (x y : List UInt8), _root_.Go.Op.bytesLess x y = decide (x < y)
  | [], [] => by simp [_root_.Go.Op.bytesLess]
  | _ :: _, [] => by simp [_root_.Go.Op.bytesLess]
  | [], _ :: _ => by simp [_root_.Go.Op.bytesLess]
  | a :: x, b :: y => by
    rw [_root_.Go.Op.bytesLess, bytesLess_lt x y]
    simp only [List.cons_lt_cons_iff]
    by_cases h1 : a < b <;> by_cases h2 : a = b <;> by_cases h3 : x < y <;> simp [h1, h2, h3]
theorem lt_of_le_ne {a b : List UInt8} (h : a ≤ b) (hn : a ≠ b) : a < b :=
  Classical.byContradiction fun hc => hn (List.le_antisymm h (show b ≤ a from hc))
theorem attrKeys_sorted {x : PN} (h : AttrOk x.attrs) : (attrKeys x).Pairwise (· < ·) := by
  have tr : ∀ a b c : List UInt8, decide (a ≤ b) = true → decide (b ≤ c) = true → decide (a ≤ c) = true := fun a b c h1 h2 => by simp only [decide_eq_true_eq] at *; exact List.le_trans h1 h2
  have to : ∀ a b : List UInt8, (decide (a ≤ b) || decide (b ≤ a)) = true := fun a b => by simp only [Bool.or_eq_true, decide_eq_true_eq]; exact List.le_total a b
  have h1 := List.pairwise_mergeSort tr to (x.attrs.map fun p => p.1.data.toList)
  have h2 : (attrKeys x).Nodup := by
    refine (List.mergeSort_perm _ _).nodup_iff.2 ?_
    have := h.nod
    rw [List.Nodup, List.pairwise_map] at this ⊢
    refine this.imp fun {a b} hab e => hab ?_
    have : a.1.data = b.1.data := Array.toList_inj.1 e
    exact ByteArray.ext this
  have h1 : (attrKeys x).Pairwise fun a b => decide (a ≤ b) = true := h1
  refine (h1.and h2).imp fun {a b} hab => lt_of_le_ne (of_decide_eq_true hab.1) hab.2
theorem mem_attrKeys {x : PN} {k : List UInt8} : k ∈ attrKeys x ↔ ∃ v, getS x.attrs (mkS k) = some v := by
  have h1 : k ∈ attrKeys x ↔ k ∈ x.attrs.map fun p => p.1.data.toList := (List.mergeSort_perm _ _).mem_iff
  rw [h1]
  have h2 := getS_none (l := x.attrs) (j := mkS k)
  constructor
  · intro h
    obtain ⟨p, hp, rfl⟩ := List.mem_map.1 h
    rw [← Option.ne_none_iff_exists']
    intro e
    refine h2.1 e (List.mem_map.2 ⟨p, hp, ?_⟩)
    exact ByteArray.ext (by simp [mkS])
  · rintro ⟨v, hv⟩
    refine Classical.byContradiction fun hc => ?_
    rw [h2.2 fun h => hc ?_] at hv
    · cases hv
    · obtain ⟨p, hp, e⟩ := List.mem_map.1 h
      exact List.mem_map.2 ⟨p, hp, by rw [e]; simp [mkS]⟩

theorem attrsA_of {f : List UInt8 → Attr} : ∀ (keys : List (List UInt8)) (prev : ByteArray), (∀ k ∈ keys, (f k).key.data.toList = k) → keys.Pairwise (· < ·) → (∀ k ∈ keys, prev.data.toList < k) → (∀ k ∈ keys, (f k).value ≠ ⟨#[]⟩ ∧ pairB (f k).key (f k).value = true) → attrsA prev (keys.map f) = true
  | [], _, _, _, _, _ => rfl
  | k :: l, prev, h1, h2, h3, h4 => by
    rw [List.pairwise_cons] at h2
    have e1 := h1 k (by simp)
    have e3 := h3 k (by simp)
    have e4 := h4 k (by simp)
    have ih := attrsA_of (f := f) l (f k).key (fun q hq => h1 q (by simp [hq])) h2.2 (fun q hq => by rw [e1]; exact h2.1 q hq) (fun q hq => h4 q (by simp [hq]))
    rw [List.map_cons, attrsA, ih, e4.2, decide_eq_false e4.1]
    have : leB (f k).key prev = false := by
      rw [leB, bytesLess_lt, e1, decide_eq_false (List.lt_asymm e3), decide_eq_false]
      · rfl
      · intro e
        rw [← e, e1] at e3
        exact List.lt_irrefl _ e3
    rw [this]; rfl
def lookA : List Attr → ByteArray → Option ByteArray
  | [], _ => none
  | a :: l, j => if a.key = j then some a.value else lookA l j
theorem attrsA_above : ∀ {l : List Attr} {k : ByteArray}, attrsA k l = true → ∀ a ∈ l, k.data.toList < a.key.data.toList
  | [], _, _, a, ha => by simp at ha
  | b :: l, k, h, a, ha => by
    obtain ⟨h1, _, _, h4⟩ := attrsA_cons h
    have hb : k.data.toList < b.key.data.toList := by
      rw [leB, bytesLess_lt, Bool.or_eq_false_iff] at h1
      refine lt_of_le_ne (show ¬ b.key.data.toList < k.data.toList from of_decide_eq_false h1.1) fun e => ?_
      exact of_decide_eq_false h1.2 (ByteArray.ext (Array.toList_inj.1 e.symm))
    rcases List.mem_cons.1 ha with rfl | ha
    · exact hb
    · exact List.lt_trans hb (attrsA_above h4 a ha)
theorem lookA_none : ∀ {l : List Attr} {j : ByteArray}, (∀ a ∈ l, a.key ≠ j) → lookA l j = none
  | [], _, _ => rfl
  | a :: l, j, h => by rw [lookA, if_neg (h a (by simp))]; exact lookA_none fun a ha => h a (by simp [ha])
theorem getS_laid : ∀ (l : List Attr) (s : List (ByteArray × ByteArray)) (k : ByteArray), AttrOk s → attrsA k l = true → ∀ j, getS (l.foldl (fun s a => setS s a.key a.value) s) j = (lookA l j).or (getS s j)
  | [], s, k, _, _, j => by simp [lookA]
  | a :: l, s, k, hs, h, j => by
    obtain ⟨_, hv, hp, h4⟩ := attrsA_cons h
    have hk : a.key.size ≤ 255 := by
      simp only [pairB, Bool.and_eq_true, decide_eq_true_eq] at hp
      exact hp.1.2
    rw [List.foldl_cons, getS_laid l (setS s a.key a.value) a.key (hs.set hk) h4 j, getS_set hs, lookA]
    by_cases e : a.key = j
    · subst e
      rw [lookA_none fun b hb e => by
        have := attrsA_above h4 b hb
        rw [e] at this
        exact List.lt_irrefl _ this]
      rw [if_pos rfl, if_pos rfl, if_neg (show ¬ a.value = empty from hv)]; rfl
    · rw [if_neg (fun q => e q.symm), if_neg e]
theorem laidA_get {l : List Attr} (h : attrsA ⟨#[]⟩ l = true) (j : ByteArray) : getS (laidA l) j = lookA l j := by
  have := getS_laid l [] ⟨#[]⟩ AttrOk.nil h j
  rw [laidA, this]
  cases lookA l j <;> rfl
theorem lookA_map {g : List UInt8 → ByteArray} : ∀ (keys : List (List UInt8)) (j : ByteArray), lookA (keys.map fun k => ⟨mkS k, g k⟩) j = if j.data.toList ∈ keys then some (g j.data.toList) else none
  | [], j => by simp [lookA]
  | k :: l, j => by
    rw [List.map_cons, lookA, lookA_map l j]
    by_cases e : mkS k = j
    · subst e; simp [mkS]
    · have : ¬ j.data.toList = k := fun q => e (ByteArray.ext (by rw [← q]; simp [mkS]))
      rw [if_neg e]
      simp [this]
theorem mkS_data (j : ByteArray) : mkS j.data.toList = j := ByteArray.ext (by simp [mkS])
theorem attrsOf_look (x : PN) (j : ByteArray) : lookA (attrsOf x) j = getS x.attrs j := by
  rw [attrsOf, lookA_map]
  have := mem_attrKeys (x := x) (k := j.data.toList)
  rw [mkS_data] at this
  split
  · rename_i h
    obtain ⟨v, hv⟩ := this.1 h
    rw [mkS_data, hv]; rfl
  · rename_i h
    cases hg : getS x.attrs j with
    | none => rfl
    | some v => exact absurd (this.2 ⟨v, hg⟩) h
theorem attrsOf_ok {x : PN} (h : AttrOk x.attrs) (hp : ∀ k w, getS x.attrs k = some w → pairB k w = true ∧ w ≠ empty) : attrsA ⟨#[]⟩ (attrsOf x) = true := by
  have hk : ∀ k ∈ attrKeys x, ∃ w, getS x.attrs (mkS k) = some w ∧ pairB (mkS k) w = true ∧ w ≠ empty := fun k hk => by
    obtain ⟨v, hv⟩ := mem_attrKeys.1 hk
    exact ⟨v, hv, hp _ _ hv⟩
  refine attrsA_of (f := fun k => ⟨mkS k, (getS x.attrs (mkS k)).getD ⟨#[]⟩⟩) (attrKeys x) ⟨#[]⟩ (fun k _ => by simp [mkS]) (attrKeys_sorted h) (fun k hk' => ?_) fun k hk' => ?_
  · obtain ⟨w, _, h2, _⟩ := hk k hk'
    cases k with
    | nil => simp [pairB, mkS] at h2
    | cons a l => simp
  · obtain ⟨w, h1, h2, h3⟩ := hk k hk'
    simp only [h1, Option.getD_some]
    exact ⟨h3, h2⟩

theorem rowsA_some : ∀ {l : List TN} {T : PT} {last : Int}, l.Pairwise (fun a b => a.node < b.node) → (∀ r ∈ l, last < r.node) →
    (∀ r ∈ l, attrsA ⟨#[]⟩ r.attrs = true ∧ topB r.node = (decide (r.parent = 0) && decide (r.name = ⟨#[]⟩)) ∧ (topB r.node = true ∨ nameB r.name = true)) → ∃ T', rowsA T last l = some T'
  | [], T, last, _, _, _ => ⟨T, rfl⟩
  | r :: l, T, last, h1, h2, h3 => by
    rw [List.pairwise_cons] at h1
    obtain ⟨e1, e2, e3⟩ := h3 r (by simp)
    have e0 := h2 r (by simp)
    obtain ⟨T', hT'⟩ := rowsA_some (l := l) (T := (T.row r).putAll r.node r.attrs) (last := r.node) h1.2 h1.1 fun q hq => h3 q (by simp [hq])
    refine ⟨T', ?_⟩
    rw [rowsA, if_pos, hT']
    rw [e1, Bool.and_true, rowA, decide_eq_false (by omega), e2, beq_self_eq_true, ← e2]
    rcases e3 with e | e <;> simp [e]
theorem rowGet_of : ∀ {l : List TN} {r : TN}, l.Pairwise (fun a b => a.node < b.node) → r ∈ l → rowGet l r.node = some (rowN r)
  | [], r, _, h => by simp at h
  | q :: l, r, h1, h => by
    rw [List.pairwise_cons] at h1
    rcases List.mem_cons.1 h with rfl | h
    · rw [rowGet, if_pos rfl]
    · have := h1.1 r h
      rw [rowGet, if_neg (by omega)]
      exact rowGet_of h1.2 h

theorem nodesK_sorted {T : PT} (h : (T.nodes.map (·.1)).Nodup) : (nodesK T).Pairwise (· < ·) := by
  have tr : ∀ a b c : Int, decide (a ≤ b) = true → decide (b ≤ c) = true → decide (a ≤ c) = true := fun a b c h1 h2 => by simp only [decide_eq_true_eq] at *; omega
  have to : ∀ a b : Int, (decide (a ≤ b) || decide (b ≤ a)) = true := fun a b => by simp only [Bool.or_eq_true, decide_eq_true_eq]; omega
  have h1 : (nodesK T).Pairwise fun a b => decide (a ≤ b) = true := List.pairwise_mergeSort tr to (T.nodes.map fun p : Int × PN => p.1)
  have h2 : (nodesK T).Nodup := (List.mergeSort_perm _ _).nodup_iff.2 h
  refine (h1.and h2).imp fun {a b} hab => ?_
  have := of_decide_eq_true hab.1
  have := hab.2
  omega
theorem toldL_node {T : PT} {l : List Int} {t : TN} (h : t ∈ toldL T l) : ∃ n ∈ l, ∃ x, T.get n = some x ∧ t = toldOf n x := by
  obtain ⟨n, hn, h2⟩ := List.mem_filterMap.1 (List.mem_filter.1 h).1
  cases hx : T.get n with
  | none => rw [hx] at h2; cases h2
  | some x => rw [hx] at h2; exact ⟨n, hn, x, hx, by simpa using h2.symm⟩
theorem toldL_sorted {T : PT} : ∀ {l : List Int}, l.Pairwise (· < ·) → (toldL T l).Pairwise (fun a b => a.node < b.node)
  | [], _ => List.Pairwise.nil
  | n :: l, h => by
    rw [List.pairwise_cons] at h
    have ih := toldL_sorted (T := T) h.2
    unfold toldL at ih ⊢
    rw [List.filterMap_cons]
    cases hx : T.get n with
    | none => exact ih
    | some x =>
      simp only [Option.map_some]
      rw [List.filter_cons]
      split
      · rw [List.pairwise_cons]
        refine ⟨fun t ht => ?_, ih⟩
        obtain ⟨m, hm, y, _, rfl⟩ := toldL_node (T := T) (l := l) ht
        exact h.1 m hm
      · exact ih
theorem mem_told {T : PT} {n : Int} {x : PN} (hx : T.get n = some x) : toldOf n x ∈ nodesTold T ↔ (toldOf n x).shown = true := by
  unfold nodesTold toldL
  rw [List.mem_filter]
  refine ⟨fun h => h.2, fun h => ⟨List.mem_filterMap.2 ⟨n, ?_, by rw [hx]; rfl⟩, h⟩⟩
  exact (List.mergeSort_perm _ _).mem_iff.2 (List.mem_map.2 ⟨(n, x), getA_mem hx, rfl⟩)
/-- What a tree tells is a tree, and looks like it. -/
theorem told_from {T : PT} {k : Nat} (hok : T.ok k) (hg : VGood T.view) : fromA (nodesTold T) ∧ viewOf (nodesTold T) = T.view := by
  have hs := toldL_sorted (T := T) (nodesK_sorted hok.nod)
  have hat : ∀ n x, T.get n = some x → attrsA ⟨#[]⟩ (attrsOf x) = true := fun n x hx => attrsOf_ok (hok.attrs n x hx).1 fun k w h => hg.pairs n _ k w (PT.view_get hx) h
  have heach : ∀ t ∈ nodesTold T, ∃ n x, T.get n = some x ∧ t = toldOf n x := fun t ht => by
    obtain ⟨n, _, x, hx, e⟩ := toldL_node ht
    exact ⟨n, x, hx, e⟩
  obtain ⟨T', hT'⟩ := rowsA_some (l := nodesTold T) (T := T0) (last := 0) hs (fun r hr => by
    obtain ⟨n, x, hx, rfl⟩ := heach r hr
    exact hg.pos n _ (PT.view_get hx)) fun r hr => by
    obtain ⟨n, x, hx, rfl⟩ := heach r hr
    refine ⟨hat n x hx, ?_, ?_⟩
    · show topB n = _
      cases ht : topB n with
      | true =>
        obtain ⟨e1, e2⟩ := hg.top n _ (PT.view_get hx) ht
        have e1 : x.parent = 0 := e1
        have e2 : x.name = ⟨#[]⟩ := e2
        simp [toldOf, e1, e2]
      | false =>
        have := hg.name n _ (PT.view_get hx) ht
        have hne : x.name ≠ ⟨#[]⟩ := fun e => by
          have this : nameB x.name = true := this
          rw [e] at this
          exact absurd this (by decide)
        simp [toldOf, hne]
    · show topB n = true ∨ _
      cases ht : topB n with
      | true => exact .inl rfl
      | false => exact .inr (hg.name n _ (PT.view_get hx) ht)
  have hR := rowsA_rowed hT'
  have hv : viewOf (nodesTold T) = T.view := by
    funext n
    unfold viewOf
    cases hx : T.get n with
    | none =>
      rw [PT.view_none.2 hx, rowGet_none fun r hr e => ?_]
      · cases h0 : T0.get n with
        | none => rfl
        | some y =>
          have := (T0_keys (PT.view_get h0)).1
          have hv := PT.view_none.2 hx
          rcases topB_iff.1 this with e | e
          · rw [e] at hv; exact absurd hv hg.one
          · rw [e] at hv; exact absurd hv hg.two
      · obtain ⟨m, x, hx', rfl⟩ := heach r hr
        have e : m = n := e
        rw [e, hx] at hx'; cases hx'
    | some x =>
      rw [PT.view_get hx]
      by_cases hsh : (toldOf n x).shown = true
      · have := rowGet_of hs ((mem_told hx).2 hsh)
        rw [show (toldOf n x).node = n from rfl] at this
        have h2 : rowGet (nodesTold T) n = some (rowN (toldOf n x)) := this
        rw [h2]
        simp only [Option.map_some, PN.view, rowN, toldOf, Option.some.injEq, AN.mk.injEq, true_and]
        funext j
        rw [laidA_get (hat n x hx), attrsOf_look]
      · simp only [TN.shown, Bool.or_eq_true, Bool.not_eq_true', decide_eq_true_eq, not_or] at hsh
        have ht : topB n = true := by
          have := hsh.1
          simpa [toldOf] using this
        have hl : (attrsOf x).length = 0 := by
          have := hsh.2
          simp only [toldOf] at this
          omega
        have hno : ∀ r ∈ nodesTold T, r.node ≠ n := fun r hr e => by
          obtain ⟨m, y, hy, rfl⟩ := heach r hr
          have e' : m = n := e
          rw [e'] at hr hy
          rw [hx] at hy; cases hy
          have := (mem_told hx).1 hr
          rw [TN.shown, Bool.or_eq_true, Bool.not_eq_true'] at this
          rcases this with q | q
          · rw [show (toldOf n x).node = n from rfl, ht] at q; cases q
          · have q' : 0 < (attrsOf x).length := of_decide_eq_true q
            omega
        rw [rowGet_none hno]
        have h0 : T0.get n = some PN.bare := by
          rcases topB_iff.1 ht with e | e <;> rw [e] <;> rfl
        rw [h0]
        obtain ⟨e1, e2⟩ := hg.top n _ (PT.view_get hx) ht
        have e1 : x.parent = 0 := e1
        have e2 : x.name = ⟨#[]⟩ := e2
        simp only [Option.map_some, PN.view, PN.bare, Option.some.injEq, AN.mk.injEq, e1, e2, true_and]
        funext j
        rw [← attrsOf_look x j, List.length_eq_zero_iff.1 hl]; rfl
  refine ⟨⟨T', hT', ?_⟩, hv⟩
  unfold PT.led
  rw [hR.view, hv]
  exact hg.led
end Go.Proofs.Ytdpknchgoeboaaa.Vc

/- The children of a node are there: plain. -/
set_option linter.unusedVariables false
set_option linter.unusedSimpArgs false
namespace Go.Proofs.Ytdpknchgoeboaaa.Vc
open Go

theorem kids_get {T : PT} (hkd : T.kidsOk) (hg : VGood T.view) {n : Int} {x : PN} (hx : T.get n = some x) : ∀ c ∈ x.kids, c ≠ 0 ∧ ∃ y, T.get c = some y := fun c hc => by
  obtain ⟨_, y, hy, _⟩ := (hkd.mem _ x c hx).1 hc
  have := hg.pos c _ (PT.view_get hy)
  exact ⟨by omega, y, hy⟩
/-- A node's parent is there. -/
theorem parent_get {T : PT} (hg : VGood T.view) {m : Int} {x : PN} (hx : T.get m = some x) (ht : topB m = false) : ∃ y, T.get x.parent = some y := by
  obtain ⟨k, hk⟩ := hg.led m (by rw [PT.view_get hx]; simp)
  cases k with
  | zero => rw [show topB m = true from hk] at ht; cases ht
  | succ k =>
    obtain ⟨_, a, h1, h2⟩ := hk
    rw [PT.view_get hx] at h1
    cases h1
    cases k with
    | zero =>
      rcases topB_iff.1 (show topB x.parent = true from h2) with e | e
      · obtain ⟨a, ha⟩ := Option.ne_none_iff_exists'.1 hg.one
        obtain ⟨y, hy, _⟩ := get_of_view ha
        rw [e]; exact ⟨y, hy⟩
      · obtain ⟨a, ha⟩ := Option.ne_none_iff_exists'.1 hg.two
        obtain ⟨y, hy, _⟩ := get_of_view ha
        rw [e]; exact ⟨y, hy⟩
    | succ k =>
      obtain ⟨_, b, h3, _⟩ := h2
      obtain ⟨y, hy, _⟩ := get_of_view h3
      exact ⟨y, hy⟩
/-- The told rows are the nodes. -/
theorem told_mem {T : PT} {r : TN} (h : r ∈ nodesTold T) : ∃ x, T.get r.node = some x ∧ r.parent = x.parent ∧ r.name = x.name := by
  obtain ⟨n, _, x, hx, e⟩ := toldL_node h
  subst e
  exact ⟨x, hx, rfl, rfl⟩
end Go.Proofs.Ytdpknchgoeboaaa.Vc

/- The code of some functions of the program, its types resolved: printed by a program of this claim. -/
set_option linter.unusedVariables false
set_option maxRecDepth 100000
namespace Go.Proofs.Ytdpknchgoeboaaa.Vc
open Go Go.Proofs

abbrev f_tree_Tree_Children : Nat := 28
def c_tree_Tree_Children_L0 : Cd :=
 (.seq (.rg [⟨none, [(some 28, .nxt (.t 27)), (some 29, .ext (.t 28) 0)]⟩] [0, 5, 27, 29])
 (.seq (.ite (.t 29)
 .skip
 (.exit 0))
 (.block 1 (.seq (.rg [⟨none, [(some 30, .ent (.t 27)), (some 31, .ext (.t 30) 0), (some 6, .mv (.t 31))]⟩] [0, 5, 6, 27])
 (.rg [⟨none, [(some 32, .mv (.t 5)), (some 33, .mv (.t 0)), (some 34, .nilc (.t 33)), (some 35, .fldA (.t 34) 0 0), (some 36, .ld (.t 35) 1 false), (some 37, .mv (.t 6)), (some 38, .mlk (some .i64) (.t 36) (.t 37) (.pointer none) false), (some 39, .nilc (.t 38)), (some 40, .fldA (.t 39) 0 0), (some 41, .fldA (.t 40) 1 1), (some 42, .ld (.t 41) 1 false), (some 43, .mv (.t 6)), (some 44, .bld (.c (.s (.string ⟨#[]⟩)) (.c (.s (.int .i64 0)) .u)) [(0, (.t 42)), (1, (.t 43))]), (some 45, .bldS 69 2 (.c (.s (.string ⟨#[]⟩)) (.c (.s (.int .i64 0)) .u)) [(.t 44)]), (some 46, .app 69 2 24 (.c (.s (.string ⟨#[]⟩)) (.c (.s (.int .i64 0)) .u)) (.t 32) (.t 45)), (some 5, .mv (.t 46))]⟩] [0, 5, 27])))))
def c_tree_Tree_Children : Cd :=
 (.seq (.rg [⟨none, [(some 4, .mv (.c (.slice none 0 0)))]⟩] [0, 1])
 (.seq (.seq (.rg [⟨none, [(some 7, .mv (.t 0)), (some 8, .call 34 [(.t 7)]), (some 9, .mv (.t 8))]⟩, ⟨some (9, false), [(some 10, .mv (.t 0)), (some 11, .nilc (.t 10)), (some 12, .fldA (.t 11) 0 0), (some 13, .ld (.t 12) 1 false), (some 14, .mv (.t 1)), (some 15, .mlk (some .i64) (.t 13) (.t 14) (.pointer none) false), (some 16, .eqA false 90 (.t 15) (.c (.pointer none)))]⟩, ⟨none, [(some 17, .pick (.t 9) (.c (.bool true)) (.t 16))]⟩] [0, 1, 17])
 (.ite (.t 17)
 (.seq (.rg [⟨none, [(some 4, .mv (.c (.slice none 0 0)))]⟩] [4])
 .ret)
 .skip))
 (.seq (.rg [⟨none, [(some 5, .mv (.c (.slice none 0 0)))]⟩] [0, 1, 5])
 (.seq (.seq (.rg [⟨none, [(some 18, .mv (.t 0)), (some 19, .nilc (.t 18)), (some 20, .fldA (.t 19) 0 0), (some 21, .ld (.t 20) 1 false), (some 22, .mv (.t 1)), (some 23, .mlk (some .i64) (.t 21) (.t 22) (.pointer none) false), (some 24, .nilc (.t 23)), (some 25, .fldA (.t 24) 2 3), (some 26, .ld (.t 25) 1 false), (some 27, .rng (some .i64) (.t 26))]⟩] [0, 5, 27])
 (.block 0 (.loop c_tree_Tree_Children_L0)))
 (.seq (.rg [⟨none, [(some 47, .mv (.t 5)), (some 48, .call 57 [(.t 47), (.c (.func (.func 58) #[] #[]))])]⟩] [5])
 (.seq (.rg [⟨none, [(some 49, .mv (.t 5)), (some 4, .mv (.t 49))]⟩] [4])
 .ret))))))
theorem k_tree_Tree_Children : Ok Try.prog 28 c_tree_Tree_Children 50 [] [.tmp 4] := Ok.mk' Try.func28 (by kernel_rfl) (by kernel_rfl) (by kernel_rfl)

end Go.Proofs.Ytdpknchgoeboaaa.Vc

/- Children: the nodes beneath a node, by name and number. -/
set_option linter.unusedVariables false
set_option linter.unusedSimpArgs false
set_option maxRecDepth 100000
namespace Go.Proofs.Ytdpknchgoeboaaa.Vc
open Go Go.Proofs

def childOf (T : PT) (c : Int) : Child := ⟨((T.get c).map fun y => y.name).getD ⟨#[]⟩, c⟩
theorem childOf_get {T : PT} {c : Int} {y : PN} (h : T.get c = some y) : childOf T c = ⟨y.name, c⟩ := by rw [childOf, h]; rfl
theorem not_ltC {x y : Child} (h : (!(ltOf cfC) y x) = true) : ltC y x = false := by
  unfold ltC
  simpa using h
theorem sortCh_sorted (a : List Child) : (sortCh a).Pairwise fun x y => (!(ltOf cfC) y x) = true := by
  refine List.pairwise_mergeSort (le := fun x y => !(ltOf cfC) y x) (fun x y z h1 h2 => ?_) (fun x y => ?_) a
  · have := swoC.ntrans z y x (not_ltC h2) (not_ltC h1)
    simpa using this
  · cases h1 : (ltOf cfC) y x with
    | false => simp
    | true =>
      cases h2 : (ltOf cfC) x y with
      | false => simp
      | true =>
        have := swoC.trans x y x h2 h1
        rw [swoC.irrefl] at this; cases this
theorem sortCh_uniq {a b : List Child} (h : a.Perm b) : sortCh a = sortCh b := by
  refine List.Perm.eq_of_pairwise (le := fun x y => (!(ltOf cfC) y x) = true) ?_ (sortCh_sorted a) (sortCh_sorted b) ((sortCh_perm a).trans (h.trans (sortCh_perm b).symm))
  intro x y _ _ h1 h2
  exact ltC_anti x y (not_ltC h2) (not_ltC h1)
/-- What Children tells. -/
def childA (T : PT) (n : Int) : List Child := sortCh (((T.get n).map PN.kids).getD [] |>.map (childOf T))
theorem childA_none {T : PT} {n : Int} (h : T.get n = none) : childA T n = [] := by rw [childA, h]; simp [sortCh]
theorem childA_get {T : PT} {n : Int} {x : PN} (h : T.get n = some x) : childA T n = sortCh (x.kids.map (childOf T)) := by rw [childA, h]; rfl

theorem Children_spec {w : World} {u : PH} {L : Lay} {T : PT} (hu : u.le w) (hT : TM u L T) (n : Int) (hkd : T.kidsOk) (hg : VGood T.view) (hl : T.nodes.length ≤ 1099511627776) :
    Spec Try.prog f_tree_Tree_Children [ptr (L .t), .int .i64 n] PH.no w fun rs m' => ∃ v, rs = [.s v] ∧ SlO m' v 69 2 ((childA T n).map gChild) := by
  refine spec_of k_tree_Tree_Children [.g (.s (ptr (L .t))), .g (.s (.int .i64 n))] (by simp) (by simp [AV.ok, GV.ok, Value.oneCell', ptr]) ?_
  have hk : ∀ {l : List PH}, KN (⟨Try.prog, 50, w, PH.no⟩ : Ctx).u0 l u := kn_u hu
  simp (maxSteps := 2000000) only [c_tree_Tree_Children, vc_seq, vc_rg, thenQ_n, kKeep_eq, segs_nil, segs_n, ops_nil, ops_cons, vcOp, ev, look, put_mk, keep_mk, keepL, Value.oneCell', cond_true, Nat.reduceEqDiff, ↓reduceIte, reduceCtorEq, Nat.zero_add, initF, initP, ptr]
  refine call_is _ [.s (.bool false)] rfl rfl (fun w' vs hv hw => ?_) ?_
  · obtain ⟨vs, rfl, _, hv⟩ := argsV_g hv
    obtain rfl := argsV_nil hv
    intro _
    exact none_spec (fun b o h => hw b o (by rw [u0_no]; exact hu b o h)) hT
  simp (maxSteps := 2000000) only [retS, segs_g, ops_nil, ops_cons, vcOp, ev, look, put_mk, ↓reduceIte, reduceCtorEq, Nat.add_zero, ↓br_ff]
  refine ld_of _ (hT.s_map hk) rfl ?_
  simp (maxSteps := 2000000) only [ops_cons, vcOp, ev, look, put_mk, Nat.reduceEqDiff, ↓reduceIte, reduceCtorEq]
  refine hT.lk hk n ?_
  cases hx : T.get n with
  | none =>
    simp (maxSteps := 2000000) only [ops_cons, vcOp, ev, look, put_mk, Value.oneCell', cond_true, ↓reduceIte, nptr_none]
    refine eq_of eqNode0 ?_
    simp (maxSteps := 2000000) only [vc_ret, vc_seq, vc_rg, vc_ite, thenQ_n, thenQ_r, kKeep_eq, finQ_r, segs_nil, segs_n, ops_nil, ops_cons, vcOp, ev, look, put_mk, keep_mk, keepL, Value.oneCell', cond_true, Nat.reduceEqDiff, ↓reduceIte, reduceCtorEq, ↓br_tt, ↓br_ft, Bool.bne_false]
    exact fin_m (rs := [.s (.slice none 0 0)]) PH.no rfl (fun _ _ h => h) ⟨_, rfl, by rw [childA_none hx]; exact ⟨fun x hx => by simp at hx, .inl ⟨rfl, rfl⟩⟩⟩
  | some x =>
    simp (maxSteps := 2000000) only [ops_cons, vcOp, ev, look, put_mk, Value.oneCell', cond_true, ↓reduceIte, nptr_some]
    refine eq_of (eqNode _) ?_
    simp (maxSteps := 2000000) only [vc_skip, vc_seq, vc_rg, vc_ite, thenQ_n, kKeep_eq, segs_nil, segs_n, ops_nil, ops_cons, vcOp, ev, look, put_mk, keep_mk, keepL, Value.oneCell', cond_true, Nat.reduceEqDiff, ↓reduceIte, reduceCtorEq, Nat.add_zero, ↓br_ft, Bool.bne_false]
    refine ld_of _ (hT.s_map hk) rfl ?_
    simp (maxSteps := 2000000) only [ops_cons, vcOp, ev, look, put_mk, Nat.reduceEqDiff, ↓reduceIte, reduceCtorEq]
    refine hT.lk hk n ?_
    rw [hx]
    simp (maxSteps := 2000000) only [ops_cons, vcOp, ev, look, put_mk, ↓reduceIte, Nat.zero_add, nptr_some]
    refine ld_of _ (hT.s_node hk hx).2.2.2.1 rfl ?_
    simp (maxSteps := 2000000) only [ops_cons, vcOp, ev, look, put_mk, ↓reduceIte]
    obtain ⟨ok, idsV, h1, h2⟩ := hT.at (.kb n) ⟨x, hx⟩
    have hmap : MapI (some .i64) ok (rawK x.kids) := h2 x hx
    have hsee : ∀ {m : PH}, SeenO ⟨Try.prog, 50, w, PH.no⟩ [] m (L (.kb n)) ok := fun {m} => kn_seen hk h1
    have hkf := kids_few hkd hx
    refine ⟨ok, _, hsee, hmap, fun r it hit hdr => ?_⟩
    simp (maxSteps := 2000000) only [uni_no_r, vc_block, thenQ_n, kKeep_eq, segs_nil, ops_nil, look, put_mk, keep_mk, keepL, Nat.reduceEqDiff, ↓reduceIte, reduceCtorEq]
    refine vc_loop (ι := List Int × Value × PH × Obj) (fun q => ⟨[(0, .g (.s (.pointer (some ⟨L .t, 0, none⟩)))), (5, .g (.s q.2.1)), (27, .g (.s (.pointer (some ⟨r, 0, none⟩))))], [], [], uni (one r q.2.2.2) q.2.2.1⟩)
      (fun q => IterM q.2.2.2 ok (L (.kb n)) (rawK q.1) ∧ SlO q.2.2.1 q.2.1 69 2 ((q.1.map (childOf T)).map gChild) ∧ dis (one r q.2.2.2) q.2.2.1 ∧ ∀ c ∈ q.1, c ∈ x.kids) (fun q => x.kids.length - q.1.length) ([], .slice none 0 0, PH.no, it) ⟨hit, ⟨fun x hx => by simp at hx, .inl ⟨rfl, by simp⟩⟩, dis_no_r _, by simp⟩ (ge_of ?_ ?_ rfl rfl ?_) ?_
    · simp [frIn, look]
    · simp [pvIn, look]
    · simp [uni_no_r]
    clear hit hdr
    rintro ⟨ks, v, mv, it⟩ ⟨hI, hS, hd, hsub⟩
    simp only at hI hS hd hsub
    have hlk := iter_nodup hI hmap (hkd.nod n x hx)
    generalize hQ : loopQ _ _ _ _ _ = Q
    simp (maxSteps := 2000000) only [c_tree_Tree_Children_L0, vc_seq, vc_rg, segs_n, ops_cons, vcOp, ev, look, Nat.reduceEqDiff, ↓reduceIte, reduceCtorEq, gChild_zero]
    refine ⟨it, _, ok, _, _, _, uni_one_self _ _ _, hsee, hmap, hI, fun hp => ?_, fun p it' hp hps hit' => ?_⟩
    · simp (maxSteps := 2000000) only [List.getElem?_cons_zero, vc_exit, vc_seq, vc_ite, thenQ_n, thenQ_e, kKeep_eq, segs_nil, ops_nil, ops_cons, vcOp, ev, look, put_mk, keep_mk, keepL, Nat.reduceEqDiff, ↓reduceIte, reduceCtorEq, ↓br_ft]
      subst hQ
      simp (maxSteps := 2000000) only [vc_seq, vc_rg, thenQ_n, blockQ_e, loopQ_e, segs_n, ops_cons, vcOp, ev, look, put_mk, ↓reduceIte, reduceCtorEq]
      have hk2 := rawK_perm hp
      refine call_with mv (one r it) (dOk_spec rfl) rfl (uni_comm hd) (dis_comm hd) (Q := fun rs m' => rs = [] ∧ SlO m' v 69 2 ((sortCh (ks.map (childOf T))).map gChild)) (fun w' vs hvv _ _ => ?_) fun rs m4 _ hq hd4 => ?_
      · obtain ⟨vs, rfl, _, hvv⟩ := argsV_g hvv
        obtain ⟨vs, rfl, _, hvv⟩ := argsV_g hvv
        obtain rfl := argsV_nil hvv
        exact sortC_spec w' v _ mv hS (by rw [List.length_map]; omega)
      obtain ⟨rfl, hS4⟩ := hq
      simp (maxSteps := 2000000) only [retS, vc_ret, vc_seq, vc_rg, thenQ_n, kKeep_eq, finQ_r, segs_nil, segs_n, ops_nil, ops_cons, vcOp, ev, look, put_mk, keep_mk, keepL, Nat.reduceEqDiff, ↓reduceIte, reduceCtorEq]
      exact fin_m (rs := [.s v]) m4 rfl (sub_uni_l _ _) ⟨v, rfl, by rw [childA_get hx, ← sortCh_uniq (hk2.map _)]; exact hS4⟩
    · obtain ⟨c, hc, rfl⟩ := mem_rawK hp
      obtain ⟨hc0, y, hy⟩ := kids_get hkd hg hx c hc
      have hit2 : IterM it' ok (L (.kb n)) (rawK (ks ++ [c])) := by
        have e : rawK (ks ++ [c]) = rawK ks ++ [(.int .i64 c, .int .i64 1)] := by simp [rawK]
        rw [e]; exact hit'
      have hlen2 := iter_nodup hit2 hmap (hkd.nod n x hx)
      simp only [List.length_append, List.length_cons, List.length_nil] at hlen2
      simp (maxSteps := 2000000) only [List.getElem?_cons_zero, vc_skip, vc_seq, vc_block, vc_rg, vc_ite, thenQ_n, kKeep_eq, segs_nil, segs_n, ops_nil, ops_cons, vcOp, ev, look, put_mk, keep_mk, keepL, Nat.reduceEqDiff, ↓reduceIte, reduceCtorEq, ↓br_tt]
      refine ⟨it', _, ok, _, _, _, _, .inl (upd_self _ _ _), hsee, hmap, hit', ?_⟩
      simp (maxSteps := 2000000) only [List.getElem?_cons_zero, vc_rg, thenQ_n, kKeep_eq, segs_nil, segs_n, ops_nil, ops_cons, vcOp, ev, look, put_mk, keep_mk, keepL, Nat.reduceEqDiff, ↓reduceIte, reduceCtorEq, Nat.add_zero]
      rw [uni_one_upd]
      refine ld_of _ (hT.s_map hk) rfl ?_
      simp (maxSteps := 2000000) only [ops_cons, vcOp, ev, look, put_mk, Nat.reduceEqDiff, ↓reduceIte, reduceCtorEq]
      refine hT.lk hk c ?_
      rw [hy]
      simp (maxSteps := 2000000) only [ops_cons, vcOp, ev, look, put_mk, ↓reduceIte, Nat.zero_add, Nat.add_zero, nptr_some]
      refine ld_of _ (hT.s_node hk hy).2.1 rfl ?_
      simp (maxSteps := 2000000) only [ops_cons, vcOp, ev, evL, gvL, look, updL, put_mk, rowE, GV.getT, GV.same, Nat.reduceEqDiff, ↓reduceIte, reduceCtorEq, Nat.zero_add, Bool.and_true, Bool.true_and, true_and, and_true, List.map_cons, List.map_nil, Option.map_some, szAll, List.length_cons, List.length_nil, List.drop_zero, List.take_succ_cons, List.take_zero, GV.bldT, GV.bldC, same_int, gChild_sz, gChild_get0, gChild_set0, gChild_get1, gChild_set1]
      have hd' := dis_one_of (b := it') hd
      refine ⟨⟨rfl, rfl⟩, app_of rfl rfl mv (one r it') ((ks.map (childOf T)).map gChild) hS (uni_comm hd') (dis_comm hd') (by simp only [List.length_map, List.length_cons, List.length_nil]; omega) fun v' u' hv' hs' hd2 => ?_⟩
      simp (maxSteps := 2000000) only [blockQ_n, kKeep_eq, segs_nil, ops_nil, ops_cons, vcOp, ev, look, put_mk, keep_mk, keepL, Nat.reduceEqDiff, ↓reduceIte, reduceCtorEq]
      subst hQ; simp only [loopQ_n]
      refine ⟨(ks ++ [c], v', u', it'), ⟨hit2, ?_, dis_comm hd2, fun d hd => ?_⟩, ?_, ge_of ?_ ?_ rfl rfl (uni_comm (dis_comm hd2))⟩
      · simp only [List.map_append, List.map_cons, List.map_nil, childOf_get hy]
        exact hs'
      · rcases List.mem_append.1 hd with h | h
        · exact hsub d h
        · simp only [List.mem_singleton] at h; subst h; exact hc
      · simp only [List.length_append, List.length_cons, List.length_nil]; omega
      · simp [frIn, look]
      · simp [pvIn, look]
end Go.Proofs.Ytdpknchgoeboaaa.Vc

/- The steps of a walk: plain. -/
set_option linter.unusedVariables false
set_option linter.unusedSimpArgs false
namespace Go.Proofs.Ytdpknchgoeboaaa.Vc
open Go

/-- So many steps up from a node to another; no step leads from a top. -/
def UpTo (v : Int → Option AN) (a : Int) : Nat → Int → Prop
  | 0, n => n = a
  | k + 1, n => topB n = false ∧ ∃ x, v n = some x ∧ UpTo v a k x.parent
theorem UpTo.uniq {v : Int → Option AN} {a b : Int} : ∀ {k : Nat} {n : Int}, UpTo v a k n → UpTo v b k n → a = b
  | 0, n, h, h' => (show n = a from h).symm.trans h'
  | k + 1, n, ⟨_, x, h1, h2⟩, ⟨_, y, h3, h4⟩ => by rw [h1] at h3; cases h3; exact UpTo.uniq h2 h4
theorem UpTo.leads {v : Int → Option AN} {a : Int} {i : Nat} (ha : LeadsN v i a) : ∀ {k : Nat} {n : Int}, UpTo v a k n → LeadsN v (i + k) n
  | 0, n, h => by rw [show n = a from h]; exact ha
  | k + 1, n, ⟨ht, x, h1, h2⟩ => ⟨ht, x, h1, UpTo.leads ha h2⟩
theorem LeadsN.upTo {v : Int → Option AN} : ∀ {k : Nat} {n : Int}, LeadsN v k n → ∃ a, topB a = true ∧ UpTo v a k n
  | 0, n, h => ⟨n, h, rfl⟩
  | k + 1, n, ⟨ht, x, h1, h2⟩ => by
    obtain ⟨a, h3, h4⟩ := LeadsN.upTo h2
    exact ⟨a, h3, ht, x, h1, h4⟩
theorem UpTo.step {v : Int → Option AN} {a c : Int} {x : AN} (hc : topB c = false) (hx : v c = some x) (hp : x.parent = a) : ∀ {k : Nat} {n : Int}, UpTo v c k n → UpTo v a (k + 1) n
  | 0, n, h => by rw [show n = c from h]; exact ⟨hc, x, hx, hp⟩
  | k + 1, n, ⟨ht, y, h1, h2⟩ => ⟨ht, y, h1, UpTo.step hc hx hp h2⟩
theorem UpTo.last {v : Int → Option AN} {a : Int} : ∀ {k : Nat} {n : Int}, UpTo v a (k + 1) n → ∃ c x, topB c = false ∧ v c = some x ∧ x.parent = a ∧ UpTo v c k n
  | 0, n, ⟨ht, x, h1, h2⟩ => ⟨n, x, ht, h1, h2, rfl⟩
  | k + 1, n, ⟨ht, x, h1, h2⟩ => by
    obtain ⟨c, y, e1, e2, e3, e4⟩ := UpTo.last h2
    exact ⟨c, y, e1, e2, e3, ht, x, h1, e4⟩
theorem belowA_iff {T : PT} {a : Int} : ∀ {f : Nat} {n : Int}, belowA T f n a = true ↔ ∃ j, j < f ∧ UpTo T.view a j n
  | 0, n => by simp [belowA]
  | f + 1, n => by
    unfold belowA
    by_cases hn : n = a
    · rw [if_pos hn]; exact ⟨fun _ => ⟨0, by omega, hn⟩, fun _ => rfl⟩
    · rw [if_neg hn]
      cases hx : T.get n with
      | none =>
        refine ⟨fun h => (by cases h), fun ⟨j, _, h⟩ => ?_⟩
        cases j with
        | zero => exact absurd h hn
        | succ j => obtain ⟨_, x, h1, _⟩ := h; rw [PT.view_none.2 hx] at h1; cases h1
      | some x =>
        simp only
        cases ht : topB n with
        | true =>
          refine ⟨fun h => by simp at h, fun ⟨j, _, h⟩ => ?_⟩
          cases j with
          | zero => exact absurd h hn
          | succ j => rw [h.1] at ht; cases ht
        | false =>
          simp only [Bool.false_eq_true, if_false]
          rw [belowA_iff]
          constructor
          · rintro ⟨j, h1, h2⟩
            exact ⟨j + 1, by omega, ht, x.view, PT.view_get hx, h2⟩
          · rintro ⟨j, h1, h2⟩
            cases j with
            | zero => exact absurd h2 hn
            | succ j =>
              obtain ⟨_, y, h3, h4⟩ := h2
              rw [PT.view_get hx] at h3; cases h3
              exact ⟨j, by omega, h4⟩

section
variable {T : PT}
theorem mem_childA (hkd : T.kidsOk) (hg : VGood T.view) {n : Int} {c : Child} : c ∈ childA T n ↔ topB c.node = false ∧ ∃ y, T.get c.node = some y ∧ y.parent = n ∧ y.name = c.name := by
  cases hx : T.get n with
  | none =>
    rw [childA_none hx]
    refine ⟨fun h => by simp at h, fun ⟨ht, y, hy, hp, _⟩ => ?_⟩
    obtain ⟨z, hz⟩ := parent_get hg hy ht
    rw [hp, hx] at hz; cases hz
  | some x =>
    rw [childA_get hx, (sortCh_perm _).mem_iff, List.mem_map]
    constructor
    · rintro ⟨k, hk, rfl⟩
      obtain ⟨ht, y, hy, hp⟩ := (hkd.mem n x k hx).1 hk
      rw [childOf_get hy]
      exact ⟨ht, y, hy, hp, rfl⟩
    · rintro ⟨ht, y, hy, hp, hn⟩
      refine ⟨c.node, (hkd.mem n x _ hx).2 ⟨ht, y, hy, hp⟩, ?_⟩
      rw [childOf_get hy, hn]
theorem childA_nodup (hkd : T.kidsOk) (n : Int) : ((childA T n).map Child.node).Nodup := by
  cases hx : T.get n with
  | none => rw [childA_none hx]; exact List.nodup_nil
  | some x =>
    rw [childA_get hx, ((sortCh_perm _).map Child.node).nodup_iff, List.map_map]
    have : (Child.node ∘ childOf T) = id := rfl
    rw [this, List.map_id]
    exact hkd.nod n x hx

theorem childA_few (hkd : T.kidsOk) (hg : VGood T.view) (n : Int) : (childA T n).length ≤ T.nodes.length := by
  have := nodup_len (b := T.nodes.map (·.1)) (childA_nodup hkd n) fun m hm => Classical.byContradiction fun hc => by
    obtain ⟨c, hc', rfl⟩ := List.mem_map.1 hm
    obtain ⟨_, y, hy, _⟩ := (mem_childA hkd hg).1 hc'
    have h0 : T.get c.node = none := getA_none.2 hc
    rw [hy] at h0; cases h0
  simpa using this
/-- A node and all below it. -/
def stepsA (T : PT) : Nat → Int → Nat → List (Int × Int)
  | 0, n, d => [((d : Int), n)]
  | f + 1, n, d => ((d : Int), n) :: (childA T n).flatMap fun c => stepsA T f c.node (d + 1)
theorem mem_stepsA (hkd : T.kidsOk) (hg : VGood T.view) : ∀ {f : Nat} {n : Int} {d : Nat} {e m : Int}, (e, m) ∈ stepsA T f n d ↔ ∃ j : Nat, j ≤ f ∧ e = ((d + j : Nat) : Int) ∧ UpTo T.view n j m
  | 0, n, d, e, m => by
    simp only [stepsA, List.mem_singleton, Prod.mk.injEq]
    constructor
    · rintro ⟨rfl, rfl⟩; exact ⟨0, by omega, rfl, rfl⟩
    · rintro ⟨j, hj, rfl, h⟩
      obtain rfl : j = 0 := by omega
      exact ⟨rfl, h⟩
  | f + 1, n, d, e, m => by
    simp only [stepsA, List.mem_cons, List.mem_flatMap, Prod.mk.injEq]
    constructor
    · rintro (⟨rfl, rfl⟩ | ⟨c, hc, h⟩)
      · exact ⟨0, by omega, rfl, rfl⟩
      · obtain ⟨j, h1, h2, h3⟩ := (mem_stepsA hkd hg).1 h
        obtain ⟨ht, y, hy, hp, _⟩ := (mem_childA hkd hg).1 hc
        exact ⟨j + 1, by omega, by rw [h2]; congr 1; omega, h3.step ht (PT.view_get hy) hp⟩
    · rintro ⟨j, h1, h2, h3⟩
      cases j with
      | zero => exact .inl ⟨h2, h3⟩
      | succ j =>
        obtain ⟨c, x, e1, e2, e3, e4⟩ := h3.last
        obtain ⟨y, hy, rfl⟩ := get_of_view e2
        refine .inr ⟨⟨y.name, c⟩, (mem_childA hkd hg).2 ⟨e1, y, hy, e3, rfl⟩, (mem_stepsA hkd hg).2 ⟨j, by omega, by rw [h2]; congr 1; omega, e4⟩⟩
theorem stepsA_nodup (hkd : T.kidsOk) (hg : VGood T.view) : ∀ {f : Nat} {n : Int} {d k : Nat}, LeadsN T.view k n → (stepsA T f n d).Pairwise fun p q => p.2 ≠ q.2
  | 0, n, d, k, h => by simp [stepsA]
  | f + 1, n, d, k, h => by
    have hch : ∀ c ∈ childA T n, LeadsN T.view (k + 1) c.node := fun c hc => by
      obtain ⟨ht, y, hy, hp, _⟩ := (mem_childA hkd hg).1 hc
      exact ⟨ht, y.view, PT.view_get hy, by rw [show y.view.parent = n from hp]; exact h⟩
    rw [stepsA, List.pairwise_cons]
    refine ⟨fun q hq e => ?_, ?_⟩
    · obtain ⟨c, hc, hq⟩ := List.mem_flatMap.1 hq
      obtain ⟨q1, q2⟩ := q
      simp only at e
      subst e
      obtain ⟨j, _, _, h3⟩ := (mem_stepsA hkd hg).1 hq
      have := h.uniq (h3.leads (hch c hc))
      omega
    · rw [List.pairwise_flatMap]
      refine ⟨fun c hc => stepsA_nodup hkd hg (hch c hc), ?_⟩
      have hn := childA_nodup hkd n
      rw [List.Nodup, List.pairwise_map] at hn
      refine (List.Pairwise.and_mem.1 hn).imp fun {c c'} ⟨hc, hc', hne⟩ p hp q hq e => ?_
      obtain ⟨p1, p2⟩ := p
      obtain ⟨q1, q2⟩ := q
      simp only at e
      subst e
      obtain ⟨j, _, _, h3⟩ := (mem_stepsA hkd hg).1 hp
      obtain ⟨j', _, _, h3'⟩ := (mem_stepsA hkd hg).1 hq
      have := (h3.leads (hch c hc)).uniq (h3'.leads (hch c' hc'))
      obtain rfl : j = j' := by omega
      exact hne (h3.uniq h3')
theorem UpTo.there {n : Int} (hn : T.view n ≠ none) : ∀ {j : Nat} {m : Int}, UpTo T.view n j m → T.view m ≠ none
  | 0, m, h => by rw [show m = n from h]; exact hn
  | j + 1, m, ⟨_, x, h1, _⟩ => by rw [h1]; simp
theorem stepsA_few (hkd : T.kidsOk) (hg : VGood T.view) {f d k : Nat} {n : Int} (hn : T.view n ≠ none) (h : LeadsN T.view k n) : (stepsA T f n d).length ≤ T.nodes.length := by
  have h1 := stepsA_nodup hkd hg (f := f) (d := d) h
  rw [← List.pairwise_map (f := Prod.snd) (R := fun a b => a ≠ b)] at h1
  have := nodup_len (b := T.nodes.map (·.1)) h1 fun m hm => Classical.byContradiction fun hc => ?_
  · simpa using this
  · obtain ⟨⟨e, m'⟩, hp, rfl⟩ := List.mem_map.1 hm
    obtain ⟨j, _, _, h3⟩ := (mem_stepsA hkd hg).1 hp
    exact h3.there hn (PT.view_none.2 (getA_none.2 hc))

/-! ### The walks from both tops -/
def walkA (T : PT) (n : Int) : List (Int × Int) := stepsA T (T.nodes.length + 1) n 0
def visA (T : PT) : List Int := ((walkA T 1).map Prod.snd) ++ (walkA T 2).map Prod.snd
theorem leads_top {top : Int} (ht : topB top = true) : LeadsN T.view 0 top := ht
theorem mem_walkA (hkd : T.kidsOk) (hg : VGood T.view) {top e m : Int} (ht : topB top = true) : (e, m) ∈ walkA T top ↔ ∃ j : Nat, e = (j : Int) ∧ UpTo T.view top j m := by
  rw [walkA, mem_stepsA hkd hg]
  constructor
  · rintro ⟨j, _, h2, h3⟩; exact ⟨j, by rw [h2]; congr 1; omega, h3⟩
  · rintro ⟨j, h2, h3⟩
    have := (h3.leads (leads_top (T := T) ht)).few
    exact ⟨j, by omega, by rw [h2]; congr 1; omega, h3⟩
theorem visA_nodup (hkd : T.kidsOk) (hg : VGood T.view) : (visA T).Nodup := by
  have h1 := fun top (ht : topB top = true) => stepsA_nodup hkd hg (f := T.nodes.length + 1) (d := 0) (leads_top (T := T) ht)
  rw [visA, List.nodup_append]
  refine ⟨List.pairwise_map.2 (h1 1 rfl), List.pairwise_map.2 (h1 2 rfl), fun a ha b hb e => ?_⟩
  subst e
  obtain ⟨⟨e, m⟩, hp, rfl⟩ := List.mem_map.1 ha
  obtain ⟨⟨e', m'⟩, hp', e2⟩ := List.mem_map.1 hb
  simp only at e2
  subst e2
  obtain ⟨j, _, h3⟩ := (mem_walkA hkd hg (by decide)).1 hp
  obtain ⟨j', _, h3'⟩ := (mem_walkA hkd hg (by decide)).1 hp'
  have := (h3.leads (leads_top (T := T) (by decide))).uniq (h3'.leads (leads_top (T := T) (by decide)))
  obtain rfl : j = j' := by omega
  have := h3.uniq h3'
  omega
theorem mem_visA (hkd : T.kidsOk) (hg : VGood T.view) {m : Int} : m ∈ visA T ↔ T.view m ≠ none := by
  rw [visA, List.mem_append, List.mem_map, List.mem_map]
  constructor
  · rintro (⟨⟨e, m⟩, hp, rfl⟩ | ⟨⟨e, m⟩, hp, rfl⟩)
    · obtain ⟨j, _, h3⟩ := (mem_walkA hkd hg (by decide)).1 hp
      exact h3.there hg.one
    · obtain ⟨j, _, h3⟩ := (mem_walkA hkd hg (by decide)).1 hp
      exact h3.there hg.two
  · intro h
    obtain ⟨k, hk⟩ := hg.led m h
    obtain ⟨a, h1, h2⟩ := hk.upTo
    rcases topB_iff.1 h1 with rfl | rfl
    · exact .inl ⟨((k : Int), m), (mem_walkA hkd hg (by decide)).2 ⟨k, rfl, h2⟩, rfl⟩
    · exact .inr ⟨((k : Int), m), (mem_walkA hkd hg (by decide)).2 ⟨k, rfl, h2⟩, rfl⟩
theorem visA_len (hkd : T.kidsOk) (hg : VGood T.view) (hnod : (T.nodes.map (·.1)).Nodup) : (visA T).length = T.nodes.length := by
  refine Nat.le_antisymm ?_ ?_
  · have := nodup_len (b := T.nodes.map (·.1)) (visA_nodup hkd hg) fun m hm => Classical.byContradiction fun hc => (mem_visA hkd hg).1 hm (PT.view_none.2 (getA_none.2 hc))
    simpa using this
  · have := nodup_len (b := visA T) hnod fun m hm => (mem_visA hkd hg).2 fun h => getA_none.1 (PT.view_none.1 h) hm
    simpa using this

/-- What is true of each step of a walk from a top. -/
structure StepOk (T : PT) (top d n : Int) (x : PN) : Prop where
  get : T.get n = some x
  zero : d = 0 ↔ n = top
  below : T.below n top = true
  other : T.below n (3 - top) = false
  ntop : n ≠ top → topB n = false
  acyc : n ≠ top → T.below x.parent n = false
theorem below_iff {a n : Int} : T.below n a = true ↔ ∃ j, j < T.nodes.length + 1 ∧ UpTo T.view a j n := belowA_iff
theorem stepOk (hkd : T.kidsOk) (hg : VGood T.view) {top d n : Int} (ht : topB top = true) (h : (d, n) ∈ walkA T top) : ∃ x, StepOk T top d n x := by
  obtain ⟨j, rfl, h3⟩ := (mem_walkA hkd hg ht).1 h
  have htv : T.view top ≠ none := by
    rcases topB_iff.1 ht with rfl | rfl
    · exact hg.one
    · exact hg.two
  have hn := h3.there htv
  obtain ⟨x, hx⟩ : ∃ x, T.get n = some x := by
    cases hx : T.get n with
    | none => exact absurd (PT.view_none.2 hx) hn
    | some x => exact ⟨x, rfl⟩
  have hl : LeadsN T.view (0 + j) n := h3.leads (leads_top (T := T) ht)
  rw [Nat.zero_add] at hl
  have hntop : n ≠ top → topB n = false := fun hne => by
    cases j with
    | zero => exact absurd h3 hne
    | succ j => exact h3.1
  refine ⟨x, hx, ⟨fun e => ?_, fun e => ?_⟩, below_iff.2 ⟨j, by have := hl.few; omega, h3⟩, ?_, hntop, fun hne => ?_⟩
  · obtain rfl : j = 0 := by omega
    exact h3
  · cases j with
    | zero => rfl
    | succ j => rw [e] at h3; rw [h3.1] at ht; cases ht
  · cases hb : T.below n (3 - top) with
    | false => rfl
    | true =>
      obtain ⟨j', _, h4⟩ := below_iff.1 hb
      have ht' : topB (3 - top) = true := by rcases topB_iff.1 ht with rfl | rfl <;> rfl
      have := hl.uniq (h4.leads (leads_top (T := T) ht'))
      obtain rfl : j = j' := by omega
      have := h3.uniq h4
      omega
  · cases hb : T.below x.parent n with
    | false => rfl
    | true =>
      obtain ⟨j', _, h4⟩ := below_iff.1 hb
      have h5 : UpTo T.view n (j' + 1) n := ⟨hntop hne, x.view, PT.view_get hx, h4⟩
      have := hl.uniq (h5.leads hl)
      omega
/-- How often a child stands among the children of its parent. -/
theorem countP_one {α : Type} (p : α → Bool) : ∀ (l : List α), (l.Pairwise fun a b => ¬ (p a = true ∧ p b = true)) → (∃ a ∈ l, p a = true) → l.countP p = 1
  | [], _, ⟨a, h, _⟩ => by simp at h
  | b :: l, hp, ⟨a, ha, hpa⟩ => by
    rw [List.pairwise_cons] at hp
    by_cases hb : p b = true
    · rw [List.countP_cons_of_pos hb]
      have : l.countP p = 0 := List.countP_eq_zero.2 fun c hc hpc => hp.1 c hc ⟨hb, hpc⟩
      omega
    · rw [List.countP_cons_of_neg (by simpa using hb)]
      refine countP_one p l hp.2 ⟨a, ?_, hpa⟩
      rcases List.mem_cons.1 ha with rfl | h
      · exact absurd hpa hb
      · exact h
def isCh (n : Int) (nm : ByteArray) (c : Child) : Bool := decide (c.node = n) && decide (c.name = nm)
theorem once_child (hkd : T.kidsOk) (hg : VGood T.view) {n : Int} {x : PN} (hx : T.get n = some x) (ht : topB n = false) : (childA T x.parent).countP (isCh n x.name) = 1 := by
  refine countP_one _ _ ?_ ⟨⟨x.name, n⟩, (mem_childA hkd hg).2 ⟨ht, x, hx, rfl, rfl⟩, by simp [isCh]⟩
  have hn := childA_nodup hkd (T := T) x.parent
  rw [List.Nodup, List.pairwise_map] at hn
  refine hn.imp fun {a b} hne ⟨h1, h2⟩ => hne ?_
  simp only [isCh, Bool.and_eq_true, decide_eq_true_eq] at h1 h2
  rw [h1.1, h2.1]
end
end Go.Proofs.Ytdpknchgoeboaaa.Vc

/- The code of some functions of the program, its types resolved: printed by a program of this claim. -/
set_option linter.unusedVariables false
set_option maxRecDepth 100000
namespace Go.Proofs.Ytdpknchgoeboaaa.Vc
open Go Go.Proofs

abbrev f_tree_Tree_Node : Nat := 26
def c_tree_Tree_Node : Cd :=
 (.seq (.rg [⟨none, [(some 4, .new 62 (.c (.s (.int .i64 0)) (.c (.s (.int .i64 0)) (.c (.s (.string ⟨#[]⟩)) (.c (.s (.slice none 0 0)) .u))))), (some 5, .mv (.c (.bool false)))]⟩] [0, 1, 4])
 (.seq (.seq (.rg [⟨none, [(some 6, .mv (.t 0)), (some 7, .call 34 [(.t 6)]), (some 8, .mv (.t 7))]⟩, ⟨some (8, false), [(some 9, .mv (.t 0)), (some 10, .nilc (.t 9)), (some 11, .fldA (.t 10) 0 0), (some 12, .ld (.t 11) 1 false), (some 13, .mv (.t 1)), (some 14, .mlk (some .i64) (.t 12) (.t 13) (.pointer none) false), (some 15, .eqA false 90 (.t 14) (.c (.pointer none)))]⟩, ⟨none, [(some 16, .pick (.t 8) (.c (.bool true)) (.t 15))]⟩] [0, 1, 4, 16])
 (.ite (.t 16)
 (.seq (.rg [⟨none, [(some 17, .bld (.c (.s (.int .i64 0)) (.c (.s (.int .i64 0)) (.c (.s (.string ⟨#[]⟩)) (.c (.s (.slice none 0 0)) .u)))) []), (none, .st (.t 4) (.t 17) 4), (some 5, .mv (.c (.bool false)))]⟩] [4, 5])
 .ret)
 .skip))
 (.seq (.rg [⟨none, [(some 18, .mv (.t 0)), (some 19, .mv (.t 1)), (some 20, .call 37 [(.t 18), (.t 19)]), (none, .st (.t 4) (.t 20) 4), (some 5, .mv (.c (.bool true)))]⟩] [4, 5])
 .ret)))
theorem k_tree_Tree_Node : Ok Try.prog 26 c_tree_Tree_Node 21 [] [.cell 4 4 true, .tmp 5] := Ok.mk' Try.func26 (by kernel_rfl) (by kernel_rfl) (by kernel_rfl)

abbrev f_tree_Tree_Below : Nat := 27
def c_tree_Tree_Below : Cd :=
 (.seq (.rg [⟨none, [(some 6, .mv (.c (.bool false)))]⟩] [0, 1, 2])
 (.seq (.rg [⟨none, [(some 7, .mv (.t 0)), (some 8, .call 34 [(.t 7)]), (some 9, .un .not (.t 8)), (some 10, .mv (.t 9))]⟩, ⟨some (10, true), [(some 11, .mv (.t 0)), (some 12, .nilc (.t 11)), (some 13, .fldA (.t 12) 0 0), (some 14, .ld (.t 13) 1 false), (some 15, .mv (.t 1)), (some 16, .mlk (some .i64) (.t 14) (.t 15) (.pointer none) false), (some 17, .eqA true 90 (.t 16) (.c (.pointer none)))]⟩, ⟨none, [(some 18, .pick (.t 10) (.t 17) (.c (.bool false))), (some 19, .mv (.t 18))]⟩, ⟨some (19, true), [(some 20, .mv (.t 0)), (some 21, .nilc (.t 20)), (some 22, .fldA (.t 21) 0 0), (some 23, .ld (.t 22) 1 false), (some 24, .mv (.t 2)), (some 25, .mlk (some .i64) (.t 23) (.t 24) (.pointer none) false), (some 26, .eqA true 90 (.t 25) (.c (.pointer none)))]⟩, ⟨none, [(some 27, .pick (.t 19) (.t 26) (.c (.bool false))), (some 28, .mv (.t 27))]⟩, ⟨some (28, true), [(some 29, .mv (.t 0)), (some 30, .mv (.t 1)), (some 31, .mv (.t 2)), (some 32, .call 39 [(.t 29), (.t 30), (.t 31)])]⟩, ⟨none, [(some 33, .pick (.t 28) (.t 32) (.c (.bool false))), (some 6, .mv (.t 33))]⟩] [6])
 .ret))
theorem k_tree_Tree_Below : Ok Try.prog 27 c_tree_Tree_Below 34 [] [.tmp 6] := Ok.mk' Try.func27 (by kernel_rfl) (by kernel_rfl) (by kernel_rfl)

abbrev f_tree_Tree_Attr : Nat := 30
def c_tree_Tree_Attr : Cd :=
 (.seq (.rg [⟨none, [(some 6, .mv (.c (.string ⟨#[]⟩))), (some 7, .mv (.c (.bool false)))]⟩] [0, 1, 2])
 (.seq (.seq (.rg [⟨none, [(some 10, .mv (.t 0)), (some 11, .call 34 [(.t 10)]), (some 12, .mv (.t 11))]⟩, ⟨some (12, false), [(some 13, .mv (.t 0)), (some 14, .nilc (.t 13)), (some 15, .fldA (.t 14) 0 0), (some 16, .ld (.t 15) 1 false), (some 17, .mv (.t 1)), (some 18, .mlk (some .i64) (.t 16) (.t 17) (.pointer none) false), (some 19, .eqA false 90 (.t 18) (.c (.pointer none)))]⟩, ⟨none, [(some 20, .pick (.t 12) (.c (.bool true)) (.t 19))]⟩] [0, 1, 2, 20])
 (.ite (.t 20)
 (.seq (.rg [⟨none, [(some 6, .mv (.c (.string ⟨#[]⟩))), (some 7, .mv (.c (.bool false)))]⟩] [6, 7])
 .ret)
 .skip))
 (.seq (.rg [⟨none, [(some 22, .mv (.t 0)), (some 23, .nilc (.t 22)), (some 24, .fldA (.t 23) 0 0), (some 25, .ld (.t 24) 1 false), (some 26, .mv (.t 1)), (some 27, .mlk (some .i64) (.t 25) (.t 26) (.pointer none) false), (some 28, .nilc (.t 27)), (some 29, .fldA (.t 28) 1 2), (some 30, .ld (.t 29) 1 false), (some 31, .mv (.t 2)), (some 32, .mlk none (.t 30) (.t 31) (.string ⟨#[]⟩) true), (some 21, .mv (.t 32)), (some 33, .ext (.t 21) 0), (some 34, .ext (.t 21) 1), (some 8, .mv (.t 33)), (some 9, .mv (.t 34))]⟩] [8, 9])
 (.seq (.rg [⟨none, [(some 35, .mv (.t 8)), (some 36, .mv (.t 9)), (some 6, .mv (.t 35)), (some 7, .mv (.t 36))]⟩] [6, 7])
 .ret))))
theorem k_tree_Tree_Attr : Ok Try.prog 30 c_tree_Tree_Attr 37 [] [.tmp 6, .tmp 7] := Ok.mk' Try.func30 (by kernel_rfl) (by kernel_rfl) (by kernel_rfl)

end Go.Proofs.Ytdpknchgoeboaaa.Vc

/- The code of some functions of the program, its types resolved: printed by a program of this claim. -/
set_option linter.unusedVariables false
set_option maxRecDepth 100000
namespace Go.Proofs.Ytdpknchgoeboaaa.Vc
open Go Go.Proofs

abbrev f_tree_Tree_Clone : Nat := 32
def c_tree_Tree_Clone_L0 : Cd :=
 (.seq (.rg [⟨none, [(some 18, .nxt (.t 17)), (some 19, .ext (.t 18) 0)]⟩] [3, 17, 19])
 (.seq (.ite (.t 19)
 .skip
 (.exit 0))
 (.block 1 (.seq (.rg [⟨none, [(some 20, .ent (.t 17)), (some 21, .ext (.t 20) 0), (some 22, .ext (.t 20) 1), (some 4, .mv (.t 21)), (some 5, .mv (.t 22))]⟩] [3, 4, 5, 17])
 (.rga (.held [] (.op ⟨none, [(some 23, .mv (.t 3))]⟩ (.op ⟨none, [(some 24, .nilc (.t 23))]⟩ (.op ⟨none, [(some 25, .fldA (.t 24) 0 0)]⟩ (.op ⟨none, [(some 27, .mv (.t 4))]⟩ (.op ⟨none, [(some 28, .mv (.t 5))]⟩ (.op ⟨none, [(some 29, .nilc (.t 28))]⟩ (.op ⟨none, [(some 30, .fldA (.t 29) 0 0)]⟩ (.op ⟨none, [(some 32, .mv (.t 5))]⟩ (.op ⟨none, [(some 33, .nilc (.t 32))]⟩ (.op ⟨none, [(some 34, .fldA (.t 33) 1 2)]⟩ (.op ⟨none, [(some 37, .mv (.t 5))]⟩ (.op ⟨none, [(some 38, .nilc (.t 37))]⟩ (.op ⟨none, [(some 39, .fldA (.t 38) 2 3)]⟩ (.first ⟨none, [(some 26, .ld (.t 25) 1 false)]⟩ (.first ⟨none, [(some 31, .ld (.t 30) 2 true)]⟩ (.first ⟨none, [(some 35, .ld (.t 34) 1 false)]⟩ (.first ⟨none, [(some 40, .ld (.t 39) 1 false)]⟩ (.op ⟨none, [(some 36, .call 62 [(.t 35)])]⟩ (.op ⟨none, [(some 41, .call 63 [(.t 40)])]⟩ (.op ⟨none, [(some 42, .bld (.c (.c (.s (.int .i64 0)) (.c (.s (.string ⟨#[]⟩)) .u)) (.c (.s (.map none)) (.c (.s (.map none)) .u))) [(0, (.t 31)), (1, (.t 36)), (2, (.t 41))])]⟩ (.op ⟨none, [(some 43, .box 98 (.t 42))]⟩ (.op ⟨none, [(none, .mup (some .i64) (.t 26) (.t 27) (.t 43))]⟩ .done))))))))))))))))))))))) [3, 17])))))
def c_tree_Tree_Clone : Cd :=
 (.seq (.rg [⟨none, [(some 2, .mv (.c (.pointer none)))]⟩] [0])
 (.seq (.seq (.rg [⟨none, [(some 6, .mv (.t 0)), (some 7, .call 34 [(.t 6)])]⟩] [0, 7])
 (.ite (.t 7)
 (.seq (.rg [⟨none, [(some 2, .mv (.c (.pointer none)))]⟩] [2])
 .ret)
 .skip))
 (.seq (.rg [⟨none, [(some 8, .mkm), (some 9, .bld (.c (.s (.int .u8 0)) .u) []), (some 10, .box 124 (.t 9)), (some 11, .bld (.c (.s (.map none)) (.c (.s (.pointer none)) (.c (.s (.int .i64 0)) (.c (.s (.slice none 0 0)) (.c (.s (.int .i64 0)) .u))))) [(0, (.t 8)), (1, (.t 10))]), (some 12, .box 76 (.t 11)), (some 3, .mv (.t 12))]⟩] [0, 3])
 (.seq (.seq (.rg [⟨none, [(some 13, .mv (.t 0)), (some 14, .nilc (.t 13)), (some 15, .fldA (.t 14) 0 0), (some 16, .ld (.t 15) 1 false), (some 17, .rng (some .i64) (.t 16))]⟩] [3, 17])
 (.block 0 (.loop c_tree_Tree_Clone_L0)))
 (.seq (.rg [⟨none, [(some 44, .mv (.t 3)), (some 2, .mv (.t 44))]⟩] [2])
 .ret)))))
theorem k_tree_Tree_Clone : Ok Try.prog 32 c_tree_Tree_Clone 45 [(7, 999998)] [.tmp 2] := Ok.mk' Try.func32 (by kernel_rfl) (by kernel_rfl) (by kernel_rfl)

abbrev f_tree_Tree_Walk : Nat := 25
def c_tree_Tree_Walk : Cd :=
 (.seq (.rg [⟨none, [(some 4, .mv (.c .nilFunc))]⟩] [0, 1])
 (.seq (.rg [⟨none, [(some 5, .new 113 (.s (.slice none 0 0)))]⟩] [0, 1, 5])
 (.seq (.seq (.rg [⟨none, [(some 6, .mv (.t 0)), (some 7, .call 34 [(.t 6)]), (some 8, .un .not (.t 7)), (some 9, .mv (.t 8))]⟩, ⟨some (9, true), [(some 10, .mv (.t 0)), (some 11, .nilc (.t 10)), (some 12, .fldA (.t 11) 0 0), (some 13, .ld (.t 12) 1 false), (some 14, .mv (.t 1)), (some 15, .mlk (some .i64) (.t 13) (.t 14) (.pointer none) false), (some 16, .eqA true 90 (.t 15) (.c (.pointer none)))]⟩, ⟨none, [(some 17, .pick (.t 9) (.t 16) (.c (.bool false)))]⟩] [0, 1, 5, 17])
 (.ite (.t 17)
 (.rg [⟨none, [(some 18, .mv (.t 0)), (some 19, .mv (.t 1)), (some 20, .call 55 [(.t 18), (.t 19), (.c (.int .i64 0)), (.c (.slice none 0 0))]), (none, .st (.t 5) (.t 20) 1)]⟩] [5])
 .skip))
 (.seq (.rg [⟨none, [(none, .gh), (some 21, .mkf 56 [(.t 5)]), (some 4, .mv (.t 21))]⟩] [4])
 .ret))))
theorem k_tree_Tree_Walk : Ok Try.prog 25 c_tree_Tree_Walk 22 [] [.tmp 4] := Ok.mk' Try.func25 (by kernel_rfl) (by kernel_rfl) (by kernel_rfl)

abbrev f_tree_Tree_Walk_1 : Nat := 56
def c_tree_Tree_Walk_1_L0 : Cd :=
 (.seq (.rg [⟨none, [(some 8, .bin .lss (.t 7) (.t 6))]⟩] [0, 5, 6, 7, 8])
 (.seq (.ite (.t 8)
 .skip
 (.exit 0))
 (.seq (.block 1 (.seq (.rg [⟨none, [(some 9, .idxS (.t 5) (.t 7) 2), (some 10, .ld (.t 9) 2 true), (some 4, .new 117 (.c (.s (.int .i64 0)) (.c (.s (.int .i64 0)) .u))), (none, .st (.t 4) (.t 10) 2)]⟩] [0, 4, 5, 6, 7])
 (.seq (.rg [⟨none, [(some 11, .mv (.t 0)), (some 12, .fldA (.t 4) 0 0), (some 13, .ld (.t 12) 1 false), (some 14, .fldA (.t 4) 1 1), (some 15, .ld (.t 14) 1 false), (some 16, .callV (.t 11) [(.t 13), (.t 15)]), (some 17, .un .not (.t 16))]⟩] [0, 5, 6, 7, 17])
 (.ite (.t 17)
 .ret
 .skip))))
 (.rg [⟨none, [(some 18, .bin .add (.t 7) (.c (.int .i64 1))), (some 7, .mv (.t 18))]⟩] [0, 5, 6, 7]))))
def c_tree_Tree_Walk_1 : Cd :=
 (.seq (.rg [⟨none, [(some 5, .ld (.t 1) 1 false), (some 6, .len (.t 5)), (some 7, .mv (.c (.int .i64 0)))]⟩] [0, 5, 6, 7])
 (.block 0 (.loop c_tree_Tree_Walk_1_L0)))
theorem k_tree_Tree_Walk_1 : Ok Try.prog 56 c_tree_Tree_Walk_1 19 [] [] := Ok.mk' Try.func56 (by kernel_rfl) (by kernel_rfl) (by kernel_rfl)

abbrev f_law12_TreeNone : Nat := 8
noncomputable def c_law12_TreeNone_W0 : Code := ((((Try.f8.body.map rawsC).getD [])[0]?).getD .skip)
noncomputable def c_law12_TreeNone_L0 : Cd :=
 (.seq (.rg [⟨none, [(some 20, .bin .lss (.t 19) (.t 18))]⟩] [1, 2, 17, 18, 19, 20])
 (.seq (.ite (.t 20)
 .skip
 (.exit 0))
 (.seq (.block 1 (.seq (.rg [⟨none, [(some 21, .idxS (.t 17) (.t 19) 1), (some 22, .ld (.t 21) 1 false), (some 4, .mv (.t 22))]⟩] [1, 2, 4, 17, 18, 19])
 (.seq (.rg [⟨none, [(some 24, .mv (.t 4)), (some 25, .fldA (.t 1) 1 1), (some 26, .ld (.t 25) 8 true), (some 27, .call 16 [(.t 24), (.t 26)]), (some 23, .mv (.t 27)), (some 28, .ext (.t 23) 0), (some 29, .ext (.t 23) 1), (some 5, .new 41 (.c (.s (.pointer none)) (.c (.s (.int .i64 0)) (.c (.c (.c (.s (.int .i64 0)) (.c (.s (.int .i64 0)) .u)) (.c (.s (.int .i64 0)) (.c (.s (.int .i64 0)) (.c (.s (.int .i64 0)) (.c (.s (.string ⟨#[]⟩)) (.c (.s (.string ⟨#[]⟩)) (.c (.s (.string ⟨#[]⟩)) .u))))))) (.c (.c (.s (.int .i64 0)) (.c (.s (.string ⟨#[]⟩)) .u)) (.c (.s (.string ⟨#[]⟩)) .u)))))), (none, .st (.t 5) (.t 28) 13), (some 6, .mv (.t 29))]⟩] [1, 2, 4, 6, 17, 18, 19])
 (.seq (.rg [⟨none, [(some 31, .mv (.t 4)), (some 32, .fldA (.t 1) 3 10), (some 33, .ld (.t 32) 1 false), (some 34, .call 26 [(.t 31), (.t 33)]), (some 30, .mv (.t 34)), (some 35, .ext (.t 30) 0), (some 36, .ext (.t 30) 1), (some 7, .new 62 (.c (.s (.int .i64 0)) (.c (.s (.int .i64 0)) (.c (.s (.string ⟨#[]⟩)) (.c (.s (.slice none 0 0)) .u))))), (none, .st (.t 7) (.t 35) 4), (some 8, .mv (.t 36))]⟩] [1, 2, 4, 6, 7, 8, 17, 18, 19])
 (.seq (.rg [⟨none, [(some 38, .mv (.t 4)), (some 39, .fldA (.t 1) 3 10), (some 40, .ld (.t 39) 1 false), (some 41, .fldA (.t 1) 5 12), (some 42, .ld (.t 41) 1 false), (some 43, .call 29 [(.t 38), (.t 40), (.t 42)]), (some 37, .mv (.t 43)), (some 44, .ext (.t 37) 0), (some 45, .ext (.t 37) 1), (some 9, .mv (.t 44)), (some 10, .mv (.t 45))]⟩] [1, 2, 4, 6, 7, 8, 9, 10, 17, 18, 19])
 (.seq (.rg [⟨none, [(some 47, .mv (.t 4)), (some 48, .fldA (.t 1) 3 10), (some 49, .ld (.t 48) 1 false), (some 50, .fldA (.t 1) 5 12), (some 51, .ld (.t 50) 1 false), (some 52, .call 30 [(.t 47), (.t 49), (.t 51)]), (some 46, .mv (.t 52)), (some 53, .ext (.t 46) 0), (some 54, .ext (.t 46) 1), (some 11, .mv (.t 53)), (some 12, .mv (.t 54))]⟩] [1, 2, 4, 6, 7, 8, 9, 10, 11, 12, 17, 18, 19])
 (.seq (.seq (.rg [⟨none, [(some 55, .mv (.t 6)), (some 56, .mv (.t 55))]⟩, ⟨some (56, false), [(some 57, .mv (.t 8))]⟩, ⟨none, [(some 58, .pick (.t 56) (.c (.bool true)) (.t 57)), (some 59, .mv (.t 58))]⟩, ⟨some (59, false), [(some 60, .mv (.t 10))]⟩, ⟨none, [(some 61, .pick (.t 59) (.c (.bool true)) (.t 60)), (some 62, .mv (.t 61))]⟩, ⟨some (62, false), [(some 63, .mv (.t 12))]⟩, ⟨none, [(some 64, .pick (.t 62) (.c (.bool true)) (.t 63)), (some 65, .mv (.t 64))]⟩, ⟨some (65, false), [(some 66, .mv (.t 9)), (some 67, .bin .neq (.t 66) (.c (.int .i64 0)))]⟩, ⟨none, [(some 68, .pick (.t 65) (.c (.bool true)) (.t 67)), (some 69, .mv (.t 68))]⟩, ⟨some (69, false), [(some 70, .mv (.t 11)), (some 71, .bin .neq (.t 70) (.c (.string ⟨#[]⟩)))]⟩, ⟨none, [(some 72, .pick (.t 69) (.c (.bool true)) (.t 71)), (some 73, .mv (.t 72))]⟩, ⟨some (73, false), [(some 74, .ld (.t 7) 4 true), (some 75, .bld (.c (.s (.int .i64 0)) (.c (.s (.int .i64 0)) (.c (.s (.string ⟨#[]⟩)) (.c (.s (.slice none 0 0)) .u)))) []), (some 76, .call 31 [(.t 74), (.t 75)]), (some 77, .un .not (.t 76))]⟩, ⟨none, [(some 78, .pick (.t 73) (.c (.bool true)) (.t 77)), (some 79, .mv (.t 78))]⟩, ⟨some (79, false), [(some 80, .mv (.t 4)), (some 81, .fldA (.t 1) 1 1), (some 82, .ld (.t 81) 8 true), (some 83, .call 15 [(.t 80), (.t 82)])]⟩, ⟨none, [(some 84, .pick (.t 79) (.c (.bool true)) (.t 83)), (some 85, .mv (.t 84))]⟩, ⟨some (85, false), [(some 86, .mv (.t 4)), (some 87, .bld (.c (.s (.pointer none)) (.c (.s (.int .i64 0)) (.c (.c (.c (.s (.int .i64 0)) (.c (.s (.int .i64 0)) .u)) (.c (.s (.int .i64 0)) (.c (.s (.int .i64 0)) (.c (.s (.int .i64 0)) (.c (.s (.string ⟨#[]⟩)) (.c (.s (.string ⟨#[]⟩)) (.c (.s (.string ⟨#[]⟩)) .u))))))) (.c (.c (.s (.int .i64 0)) (.c (.s (.string ⟨#[]⟩)) .u)) (.c (.s (.string ⟨#[]⟩)) .u))))) []), (some 88, .call 17 [(.t 86), (.t 87)]), (some 89, .bin .neq (.t 88) (.c (.int .i64 2)))]⟩, ⟨none, [(some 90, .pick (.t 85) (.c (.bool true)) (.t 89)), (some 91, .mv (.t 90))]⟩, ⟨some (91, false), [(some 92, .mv (.t 4)), (some 93, .fldA (.t 1) 3 10), (some 94, .ld (.t 93) 1 false), (some 95, .fldA (.t 1) 3 10), (some 96, .ld (.t 95) 1 false), (some 97, .call 27 [(.t 92), (.t 94), (.t 96)])]⟩, ⟨none, [(some 98, .pick (.t 91) (.c (.bool true)) (.t 97))]⟩] [1, 2, 4, 17, 18, 19, 98])
 (.ite (.t 98)
 (.seq (.rg [⟨none, [(none, .st (.t 2) (.c (.bool false)) 1)]⟩] [2])
 .ret)
 .skip))
 (.seq (.seq (.rg [⟨none, [(some 99, .mv (.t 4)), (some 100, .fldA (.t 1) 3 10), (some 101, .ld (.t 100) 1 false), (some 102, .call 28 [(.t 99), (.t 101)]), (some 103, .len (.t 102)), (some 104, .bin .neq (.t 103) (.c (.int .i64 0))), (some 105, .mv (.t 104))]⟩, ⟨some (105, false), [(some 106, .mv (.t 4)), (some 107, .call 13 [(.t 106)]), (some 108, .len (.t 107)), (some 109, .bin .neq (.t 108) (.c (.int .i64 0)))]⟩, ⟨none, [(some 110, .pick (.t 105) (.c (.bool true)) (.t 109)), (some 111, .mv (.t 110))]⟩, ⟨some (111, false), [(some 112, .mv (.t 4)), (some 113, .call 14 [(.t 112)]), (some 114, .bin .neq (.t 113) (.c (.int .i64 0)))]⟩, ⟨none, [(some 115, .pick (.t 111) (.c (.bool true)) (.t 114)), (some 116, .mv (.t 115))]⟩, ⟨some (116, false), [(some 117, .mv (.t 4)), (some 118, .call 32 [(.t 117)]), (some 119, .eqA true 25 (.t 118) (.c (.pointer none)))]⟩, ⟨none, [(some 120, .pick (.t 116) (.c (.bool true)) (.t 119))]⟩] [1, 2, 4, 17, 18, 19, 120])
 (.ite (.t 120)
 (.seq (.rg [⟨none, [(none, .st (.t 2) (.c (.bool false)) 1)]⟩] [2])
 .ret)
 .skip))
 (.seq (.rg [⟨none, [(some 121, .mv (.t 4)), (some 122, .call 25 [(.t 121), (.c (.int .i64 1))])]⟩] [1, 2, 17, 18, 19, 122])
 (.block 2 (.raw c_law12_TreeNone_W0)))))))))))
 (.rg [⟨none, [(some 125, .bin .add (.t 19) (.c (.int .i64 1))), (some 19, .mv (.t 125))]⟩] [1, 2, 17, 18, 19]))))
noncomputable def c_law12_TreeNone : Cd :=
 (.seq (.rg [⟨none, [(some 1, .box 72 (.t 0)), (some 2, .new 4 (.s (.bool false)))]⟩] [1, 2])
 (.seq (.seq (.rg [⟨none, [(some 13, .call 9 []), (some 14, .un .not (.t 13))]⟩] [1, 2, 14])
 (.ite (.t 14)
 (.seq (.rg [⟨none, [(none, .st (.t 2) (.c (.bool false)) 1)]⟩] [2])
 .ret)
 .skip))
 (.seq (.seq (.rg [⟨none, [(some 15, .bld (.c (.s (.map none)) (.c (.s (.pointer none)) (.c (.s (.int .i64 0)) (.c (.s (.slice none 0 0)) (.c (.s (.int .i64 0)) .u))))) []), (some 16, .box 76 (.t 15)), (none, .gh), (some 17, .bldS 25 1 (.s (.pointer none)) [(.c (.pointer none)), (.t 16)]), (some 18, .len (.t 17)), (some 19, .mv (.c (.int .i64 0)))]⟩] [1, 2, 17, 18, 19])
 (.block 0 (.loop c_law12_TreeNone_L0)))
 (.seq (.rg [⟨none, [(none, .st (.t 2) (.c (.bool true)) 1)]⟩] [2])
 .ret))))
theorem k_law12_TreeNone : Ok Try.prog 8 c_law12_TreeNone 126 [] [.cell 2 1 false] := Ok.mk' Try.func8 (by kernel_rfl) (by kernel_rfl) (by kernel_rfl)

def c_law12_TreeNone_A0 : Cd :=
 .skip
theorem kA0_law12_TreeNone : comp Try.prog 126 [] (rfAs c_law12_TreeNone_W0) = er c_law12_TreeNone_A0 := by kernel_rfl
def c_law12_TreeNone_B0 : Cd :=
 (.block 3 (.seq (.rg [⟨none, [(none, .st (.t 2) (.c (.bool false)) 1)]⟩] [2])
 .ret))
theorem kB0_law12_TreeNone : comp Try.prog 126 [] (rfBd c_law12_TreeNone_W0) = er c_law12_TreeNone_B0 := by kernel_rfl
end Go.Proofs.Ytdpknchgoeboaaa.Vc

/- A loop over a function that asks for no round. -/
set_option linter.unusedVariables false
set_option linter.unusedSimpArgs false
namespace Go.Proofs.Ytdpknchgoeboaaa.Vc
open Go Go.Shelf

theorem kept_alloc (w : World) (o : Obj) : Kept PH.no w (w.alloc o) := by
  refine ⟨rfl, rfl, rfl, by rw [World.size_alloc]; omega, fun k hk _ => ?_⟩
  show (w.heap.push o)[k]? = _
  rw [Array.getElem?_push_lt hk, Array.getElem?_eq_getElem hk]
theorem kept_trans {a b c : World} (h1 : Kept PH.no a b) (h2 : Kept PH.no b c) : Kept PH.no a c := by
  obtain ⟨k1, k2, k3, k4, k5⟩ := h1
  obtain ⟨q1, q2, q3, q4, q5⟩ := h2
  exact ⟨q1.trans k1, q2.trans k2, q3.trans k3, by omega, fun k hk hn => (q5 k (by omega) hn).trans (k5 k hk hn)⟩
theorem wp_rangeFunc_never {P : Program} {g : Operand} {ps : Array Tmp} {assign body : Code} {Q : Exit → Act → World → Prop} {a : Act} {w : World} {gf : Nat} {lb : List Value}
    (hg : a.eval g = .func (.func gf) #[] lb.toArray) (eg : ∀ args w, (callFunc gf args).run P w = .ok (.enter gf args) w)
    (hs : ∀ l W, Kept PH.no w W → Spec P gf (.func (.yield l) #[] #[] :: lb) PH.no W fun rs _ => rs = [])
    (hQ : ∀ D W, w.heap.size ≤ D → Kept PH.no w W → W.heap[D]? = some (.deferred (some [])) → Q .normal { a with defers := { target := .collected D, args := #[] } :: a.defers } W) :
    (Code.rangeFunc g ps assign body).wp P Q a w := by
  refine (wpIn_wide (n := 0)).1 (wpIn_rangeFunc ?_)
  intro fn _
  obtain ⟨rec, hrec⟩ : ∃ rec : LoopState → Option Code → Loop, rec = fun st pe => { state := st, pending := pe, fn, tmps := a.tmps, params := ps, assign, body, defers := w.heap.size } := ⟨_, rfl⟩
  obtain ⟨W1, hW1⟩ : ∃ W1, (w.alloc (.deferred (some []))).alloc (.loop (rec .ready none)) = W1 := ⟨_, rfl⟩
  have hk1 : Kept PH.no w W1 := by rw [← hW1]; exact kept_trans (kept_alloc _ _) (kept_alloc _ _)
  have hsz : W1.heap.size = w.heap.size + 2 := by rw [← hW1, World.size_alloc, World.size_alloc]
  have hL1 : W1.heap[w.heap.size + 1]? = some (.loop (rec .ready none)) := by
    rw [← hW1]; have := World.alloc_heap_new (w.alloc (.deferred (some []))) (.loop (rec .ready none)); rwa [World.size_alloc] at this
  have hK1 : W1.heap[w.heap.size]? = some (.deferred (some [])) := by
    rw [← hW1]
    have h2 := (kept_alloc (w.alloc (.deferred (some []))) (.loop (rec .ready none))).2.2.2.2 w.heap.size (by rw [World.size_alloc]; omega) rfl
    rw [h2]
    exact World.alloc_heap_new w _
  refine ⟨w.heap.size + 1, [{ target := .collected w.heap.size, args := #[] }], W1, { target := .fn (.func gf) lb.toArray, args := #[.func (.yield (w.heap.size + 1)) #[] #[]] }, W1, gf,
    #[.func (.yield (w.heap.size + 1)) #[] #[]] ++ lb.toArray, W1, ?_, ?_, ?_, ?_, (fun h => by cases h), ?_⟩
  · rw [← hW1, hrec]; exact run_enterLoop_outer _ _ _ _ _
  · simp only [resolve, hg]
    simp [go_sem]
  · intro f' _; trivial
  · simp [invoke, go_sem, eg]
  · refine callsIn_wide.2 ?_
    have h := hs (w.heap.size + 1) W1 hk1 (fun b o hb => by cases hb)
    have hargs : (Value.func (.yield (w.heap.size + 1)) #[] #[] :: lb).toArray = #[Value.func (.yield (w.heap.size + 1)) #[] #[]] ++ lb.toArray := by simp
    rw [hargs] at h
    refine h.mono fun e W2 he => ?_
    obtain ⟨rs, m', rfl, _, _, _, _, hk2⟩ := he
    have hl2 : W2.heap[w.heap.size + 1]? = some (.loop (rec .ready none)) := (hk2.2.2.2.2 _ (by omega) rfl).trans hL1
    have hd2 : W2.heap[w.heap.size]? = some (.deferred (some [])) := (hk2.2.2.2.2 _ (by omega) rfl).trans hK1
    refine ⟨none, _, by have := run_endLoop (P := P) hl2 (by rw [hrec]; simp); rw [hrec] at this; exact this, ?_⟩
    have hk3 := kept_trans hk1 hk2
    refine hQ w.heap.size _ (Nat.le_refl _) ?_ ((World.putObj_heap_other (by omega)).trans hd2)
    obtain ⟨q1, q2, q3, q4, q5⟩ := hk3
    exact ⟨q1, q2, q3, by rw [World.putObj_size]; exact q4, fun k hk hn => by rw [World.putObj_heap_other (by omega)]; exact q5 k hk hn⟩
/-- A loop over a function that asks for no round: a mark more, nothing else. -/
theorem raw_never {C : Ctx} {Q : QT} {σ : SS} {code : Code} {t gf : Nat} {lb : List Value} (hc : code = .rangeFunc (.tmp t) (rfPs code) (rfAs code) (rfBd code))
    (ht : look σ.fr t = some (.g (.s (.func (.func gf) #[] lb.toArray)))) (eg : ∀ args w, (callFunc gf args).run C.P w = .ok (.enter gf args) w)
    (hs : ∀ l w, C.u0.le w → (∀ u ∈ σ.ph, u.le w) → σ.m.le w → Spec C.P gf (.func (.yield l) #[] #[] :: lb) PH.no w fun rs _ => rs = [])
    (hK : ∀ u, Q .normal { σ with ph := u :: σ.ph }) : vc C (.raw code) Q σ := by
  intro act w hR
  obtain ⟨loc, hF, hH⟩ := hR
  have hev : act.eval (.tmp t) = .func (.func gf) #[] lb.toArray := by
    obtain ⟨v, hv, hr⟩ := hF.slots t _ ht
    obtain ⟨_, rfl⟩ := hr
    simp [Act.eval, hv, GV.val]
  rw [hc]
  refine wp_rangeFunc_never hev eg (fun l W hk => ?_) fun D W hD hk hW => ?_
  · have hA := (hH.after (m := σ.m) (m1 := PH.no) (mr := σ.m) (m' := PH.no) (uni_no _).symm (dis_no _) (fun b o hb => by cases hb) (fun b hb => absurd rfl hb) hk).2.2.1
    exact hs l W hA.u0le (fun u hu => (hA.phs u hu).1) hA.mle
  · have hA := (hH.after (m := σ.m) (m1 := PH.no) (mr := σ.m) (m' := one D (.deferred (some []))) (uni_no _).symm (dis_no _) (fun b o hb => by
        simp only [one] at hb
        split at hb
        · rename_i e; subst e; cases hb; exact hW
        · cases hb) (fun b hb => .inr (by
        simp only [one] at hb
        split at hb
        · rename_i e; omega
        · exact absurd rfl hb)) hk).2.1
    refine ⟨_, hK (one D (.deferred (some []))), loc, ⟨⟨List.pairwise_cons.2 ⟨fun d hd => ?_, hF.defers.1⟩, fun d hd => ?_⟩, hF.size, hF.slots⟩, hA⟩
    · obtain ⟨D', u, h1, h2, h3⟩ := hF.defers.2 d hd
      rw [h1]
      intro e
      have e : D = D' := by simpa using e
      have := (hH.phs u h2).1 D' _ h3
      have hlt := (Array.getElem?_eq_some_iff.1 this).1
      omega
    · rcases List.mem_cons.1 hd with rfl | hd
      · exact ⟨D, one D (.deferred (some [])), rfl, by simp, by simp [one]⟩
      · obtain ⟨D', u, h1, h2, h3⟩ := hF.defers.2 d hd
        exact ⟨D', u, h1, List.mem_cons_of_mem _ h2, h3⟩
end Go.Proofs.Ytdpknchgoeboaaa.Vc

/- A tree that no call made: what each call answers. -/
set_option linter.unusedVariables false
set_option linter.unusedSimpArgs false
set_option maxRecDepth 100000
namespace Go.Proofs.Ytdpknchgoeboaaa.Vc
open Go Go.Proofs

/-- A tree that no call made. -/
def NoneT (u : PH) (v : Value) : Prop := v = .pointer none ∨ ∃ b e, v = ptr b ∧ u b = some (.cells #[.map none, .pointer none, .int .i64 0, .slice none 0 0, .int .i64 0] e (0, 0))
theorem NoneT.one {u : PH} {v : Value} (h : NoneT u v) : v.oneCell' = true := by
  rcases h with rfl | ⟨b, e, rfl, _⟩ <;> rfl
theorem NoneT.up {u u' : PH} {v : Value} (h : NoneT u v) (hs : PH.sub u u') : NoneT u' v := by
  rcases h with h | ⟨b, e, h1, h2⟩
  · exact .inl h
  · exact .inr ⟨b, e, h1, hs _ _ h2⟩
theorem eqG_map0 {P : Program} {t k e : TypeId} (ht : P.underlying t = some (.map k e)) : EqG P t (.s (.map none)) (.s (.map none)) true := by
  have h0 : ∀ d w, (_root_.Go.Op.equalIn (d + 1) t (.map none) (.map none)).run P w = .ok true w := fun d w => by
    simp [_root_.Go.Op.equalIn, Sem.run_bind, run_underlying' ht]
  have h : ∀ w, (_root_.Go.Op.equal t (.map none) (.map none)).run P w = .ok true w := fun w => h0 9999 w
  intro x y w
  exact ⟨by simp [eqGuard, binOp, Sem.run_bind, GV.val, h], by simp [eqGuard, binOp, Sem.run_bind, GV.val, h]⟩
theorem seen_c0 {C : Ctx} {ph : List PH} {m u : PH} (hk : KN C.u0 (m :: ph) u) {b : Nat} {cs : Array Value} {e : TypeId} {fz : Nat × Nat} (h : u b = some (.cells cs e fz)) {j : Nat} {v : Value} (hj : cs[j]? = some v) (hv : v.oneCell' = true) : Seen C ph m b j (.s v) :=
  seen_of hk h hv fun i w hi => by
    cases i with
    | zero =>
      obtain rfl : v = w := by simpa [GV.flat] using hi
      simpa using hj
    | succ i => simp [GV.flat] at hi
theorem avs_two {u : PH} {a b : Value} (ha : a.oneCell' = true) (hb : b.oneCell' = true) : ∀ x ∈ [AV.g (.s a), .g (.s b)], x.ok u := by
  intro x hx
  simp only [List.mem_cons, List.not_mem_nil, or_false] at hx
  rcases hx with rfl | rfl
  · exact ha
  · exact hb
theorem avs_three {u : PH} {a b c : Value} (ha : a.oneCell' = true) (hb : b.oneCell' = true) (hc : c.oneCell' = true) : ∀ x ∈ [AV.g (.s a), .g (.s b), .g (.s c)], x.ok u := by
  intro x hx
  simp only [List.mem_cons, List.not_mem_nil, or_false] at hx
  rcases hx with rfl | rfl | rfl
  · exact ha
  · exact hb
  · exact hc
section
variable {w : World} {u : PH} {v : Value}
theorem noneT_is (hu : u.le w) (h : NoneT u v) : Spec Try.prog f_tree_Tree_none [v] PH.no w fun rs _ => rs = [.s (.bool true)] := by
  refine spec_val k_tree_Tree_none (Qf := fun rs => rs = [.s (.bool true)]) [.g (.s v)] (by simp) (by simp [AV.ok, GV.ok, h.one]) ?_
  have hk : ∀ {l : List PH}, KN (⟨Try.prog, 12, w, PH.no⟩ : Ctx).u0 l u := kn_u hu
  rcases h with rfl | ⟨b, e, rfl, hb⟩
  · simp (maxSteps := 2000000) only [c_tree_Tree_none, vc_seq, vc_rg, thenQ_n, kKeep_eq, segs_nil, segs_n, ops_nil, ops_cons, vcOp, ev, look, put_mk, keep_mk, keepL, Value.oneCell', cond_true, ↓reduceIte, reduceCtorEq, initF, initP]
    refine eq_of (eqG_nilp Try.underlying25) ?_
    simp (maxSteps := 2000000) only [vc_ret, thenQ_n, kKeep_eq, segs_nil, segs_n, segs_g, ops_nil, ops_cons, vcOp, RO.isGh, skip_mk, skipL, ev, look, put_mk, keep_mk, keepL, Value.oneCell', cond_true, cond_false, Nat.reduceEqDiff, ↓reduceIte, Bool.not_false, finW_r, resL, resOne, ↓br_tt, ↓br_tf, Bool.bne_false]
  · unfold ptr
    simp (maxSteps := 2000000) only [c_tree_Tree_none, vc_seq, vc_rg, thenQ_n, kKeep_eq, segs_nil, segs_n, ops_nil, ops_cons, vcOp, ev, look, put_mk, keep_mk, keepL, Value.oneCell', cond_true, ↓reduceIte, reduceCtorEq, initF, initP]
    refine eq_of (eqG_ptr Try.underlying25 _) ?_
    simp (maxSteps := 2000000) only [segs_g, ops_nil, ops_cons, vcOp, ev, look, put_mk, ↓reduceIte, reduceCtorEq, Nat.add_zero, ↓br_ff, Bool.bne_false]
    refine ld_of _ (seen_c0 hk hb (j := 0) rfl rfl) rfl ?_
    simp (maxSteps := 2000000) only [ops_cons, vcOp, ev, look, put_mk, Value.oneCell', cond_true, ↓reduceIte]
    refine eq_of (eqG_map0 Try.underlying73) ?_
    simp (maxSteps := 2000000) only [vc_ret, thenQ_n, kKeep_eq, segs_nil, segs_n, ops_nil, ops_cons, vcOp, ev, look, put_mk, keep_mk, keepL, Value.oneCell', cond_true, Nat.reduceEqDiff, ↓reduceIte, finW_r, resL, resOne, ↓br_ft, Bool.bne_false]
theorem Len_noneT (hu : u.le w) (h : NoneT u v) : Spec Try.prog f_tree_Tree_Len [v] PH.no w fun rs _ => rs = [.s (.int .i64 0)] := by
  refine spec_val k_tree_Tree_Len (Qf := fun rs => rs = [.s (.int .i64 0)]) [.g (.s v)] (by simp) (by simp [AV.ok, GV.ok, h.one]) ?_
  simp (maxSteps := 2000000) only [c_tree_Tree_Len, vc_seq, vc_rg, thenQ_n, kKeep_eq, segs_nil, segs_n, ops_nil, ops_cons, vcOp, ev, look, put_mk, keep_mk, keepL, Value.oneCell', cond_true, ↓reduceIte, reduceCtorEq, initF, initP]
  refine call_is _ [.s (.bool true)] rfl rfl (fun w' vs hv hw => ?_) ?_
  · obtain ⟨vs, rfl, _, hv⟩ := argsV_g hv
    obtain rfl := argsV_nil hv
    intro _
    exact noneT_is (fun b o h => hw b o (by rw [u0_no]; exact hu b o h)) h
  simp (maxSteps := 2000000) only [retS, vc_ret, vc_seq, vc_rg, vc_ite, thenQ_n, thenQ_r, kKeep_eq, segs_nil, segs_n, ops_nil, ops_cons, vcOp, ev, look, put_mk, keep_mk, keepL, Value.oneCell', cond_true, ↓reduceIte, reduceCtorEq, finW_r, resL, resOne, ↓br_tt]
theorem May_noneT (hu : u.le w) (h : NoneT u v) (op : Op) : Spec Try.prog f_tree_Tree_May [v, (gOp op).val] PH.no w fun rs _ => rs = [.s (.bool false)] := by
  refine spec_val k_tree_Tree_May (Qf := fun rs => rs = [.s (.bool false)]) [.g (.s v), .g (gOp op)] (by simp) (by simp [AV.ok, GV.ok, h.one, gOp_ok]) ?_
  simp (maxSteps := 2000000) only [c_tree_Tree_May, vc_seq, vc_rg, thenQ_n, kKeep_eq, segs_nil, segs_n, ops_nil, ops_cons, vcOp, ev, look, updL, put_mk, keep_mk, keepL, Value.oneCell', cond_true, Nat.reduceEqDiff, ↓reduceIte, reduceCtorEq, Nat.zero_add, Bool.true_and, true_and, initF, initP]
  refine call_is _ [.s (.bool true)] rfl rfl (fun w' vs hv hw => ?_) ?_
  · obtain ⟨vs, rfl, _, hv⟩ := argsV_g hv
    obtain rfl := argsV_nil hv
    intro _
    exact noneT_is (fun b o h => hw b o (by rw [u0_no]; exact hu b o h)) h
  simp (maxSteps := 2000000) only [retS, vc_ret, vc_seq, vc_rg, vc_ite, thenQ_n, thenQ_r, kKeep_eq, segs_nil, segs_n, ops_nil, ops_cons, vcOp, ev, look, put_mk, keep_mk, keepL, Value.oneCell', cond_true, Nat.reduceEqDiff, ↓reduceIte, reduceCtorEq, finW_r, resL, resOne, ↓br_tt]
theorem Do_noneT (hu : u.le w) (h : NoneT u v) (op : Op) : Spec Try.prog f_tree_Tree_Do [v, (gOp op).val] PH.no w fun rs _ => rs = [gUndo zUndo, .s (.bool false)] := by
  refine spec_val k_tree_Tree_Do (Qf := fun rs => rs = [gUndo zUndo, .s (.bool false)]) [.g (.s v), .g (gOp op)] (by simp) (by simp [AV.ok, GV.ok, h.one, gOp_ok]) ?_
  simp (maxSteps := 2000000) only [c_tree_Tree_Do, vc_seq, vc_rg, thenQ_n, kKeep_eq, segs_nil, segs_n, ops_nil, ops_cons, vcOp, ev, look, updL, put_mk, keep_mk, keepL, Value.oneCell', cond_true, Nat.reduceEqDiff, ↓reduceIte, reduceCtorEq, Nat.zero_add, Bool.true_and, true_and, initF, initP, getT_nil, gStamp_zero, gOp_fits, gOp_zero, gPlace_zero, gUndo_zero]
  refine call_is _ [.s (.bool false)] rfl rfl (fun w' vs hv hw => ?_) ?_
  · obtain ⟨vs, rfl, _, hv⟩ := argsV_g hv
    obtain ⟨vs, rfl, _, hv⟩ := argsV_g hv
    obtain rfl := argsV_nil hv
    intro _
    exact May_noneT (fun b o h => hw b o (by rw [u0_no]; exact hu b o h)) h op
  simp (maxSteps := 2000000) only [retS, vc_ret, vc_seq, vc_rg, vc_ite, thenQ_n, thenQ_r, kKeep_eq, segs_nil, segs_n, ops_nil, ops_cons, vcOp, ev, evL, gvL, look, updL, put_mk, put_mk0, keep_mk, keepL, unV, Value.oneCell', cond_true, Nat.reduceEqDiff, ↓reduceIte, reduceCtorEq, Bool.and_true, Bool.not_false, and_true, List.map_nil, finW_r, resL, resOne, Option.bind_some, ↓br_tt, GV.bldT, GV.bldC, getT_nil, setT_nil, get_nil, gUndo_sz, gUndo_fits, gUndo_same]
theorem Back_noneT (hu : u.le w) (h : NoneT u v) : Spec Try.prog f_tree_Tree_Back [v, (gUndo zUndo).val] PH.no w fun rs _ => rs = [.s (.int .i64 2)] := by
  refine spec_val k_tree_Tree_Back (Qf := fun rs => rs = [.s (.int .i64 2)]) [.g (.s v), .g (gUndo zUndo)] (by simp) (by simpa [AV.ok, GV.ok, h.one] using gUndo_ok zUndo rfl) ?_
  simp (maxSteps := 2000000) only [c_tree_Tree_Back, vc_seq, vc_rg, thenQ_n, kKeep_eq, segs_nil, segs_n, ops_nil, ops_cons, vcOp, ev, look, updL, put_mk, keep_mk, keepL, Value.oneCell', cond_true, Nat.reduceEqDiff, ↓reduceIte, reduceCtorEq, Nat.zero_add, Bool.true_and, true_and, initF, initP, gStamp_zero, gOp_zero, gPlace_zero, gUndo_zero]
  refine call_is _ [.s (.bool true)] rfl rfl (fun w' vs hv hw => ?_) ?_
  · obtain ⟨vs, rfl, _, hv⟩ := argsV_g hv
    obtain rfl := argsV_nil hv
    intro _
    exact noneT_is (fun b o h => hw b o (by rw [u0_no]; exact hu b o h)) h
  simp (maxSteps := 2000000) only [retS, vc_ret, vc_seq, vc_rg, vc_ite, thenQ_n, thenQ_r, kKeep_eq, segs_nil, segs_n, ops_nil, ops_cons, vcOp, ev, look, put_mk, keep_mk, keepL, Value.oneCell', cond_true, Nat.reduceEqDiff, ↓reduceIte, reduceCtorEq, finW_r, resL, resOne, ↓br_tt]
theorem Node_noneT (hu : u.le w) (h : NoneT u v) (n : Int) : Spec Try.prog f_tree_Tree_Node [v, .int .i64 n] PH.no w fun rs _ => rs = [gTreeNode zTreeNode, .s (.bool false)] := by
  refine spec_val k_tree_Tree_Node (Qf := fun rs => rs = [gTreeNode zTreeNode, .s (.bool false)]) [.g (.s v), .g (.s (.int .i64 n))] (by simp) (avs_two h.one rfl) ?_
  simp (maxSteps := 2000000) only [c_tree_Tree_Node, vc_seq, vc_rg, thenQ_n, kKeep_eq, segs_nil, segs_n, ops_nil, ops_cons, vcOp, ev, look, updL, put_mk, keep_mk, keepL, Value.oneCell', cond_true, Nat.reduceEqDiff, ↓reduceIte, reduceCtorEq, Nat.zero_add, Bool.true_and, true_and, initF, initP, gTreeNode_zero]
  refine call_is _ [.s (.bool true)] rfl rfl (fun w' vs hv hw => ?_) ?_
  · obtain ⟨vs, rfl, _, hv⟩ := argsV_g hv
    obtain rfl := argsV_nil hv
    intro _
    exact noneT_is (fun b o h => hw b o (by rw [u0_no]; exact hu b o h)) h
  simp (maxSteps := 2000000) only [retS, vc_ret, vc_seq, vc_rg, vc_ite, thenQ_n, thenQ_r, kKeep_eq, segs_nil, segs_n, segs_g, ops_nil, ops_cons, vcOp, RO.isGh, skip_mk, skipL, ev, evL, gvL, look, updL, put_mk, put_mk0, keep_mk, keepL, Value.oneCell', cond_true, cond_false, Nat.reduceEqDiff, ↓reduceIte, reduceCtorEq, Bool.and_true, Bool.not_false, and_true, List.map_nil, finW_r, resL, resOne, Option.bind_some, ↓br_tt, ↓br_tf, GV.bldT, GV.bldC, getT_nil, setT_nil, get_nil, gTreeNode_sz, gTreeNode_fits, gTreeNode_same]
theorem Children_noneT (hu : u.le w) (h : NoneT u v) (n : Int) : Spec Try.prog f_tree_Tree_Children [v, .int .i64 n] PH.no w fun rs _ => rs = [.s (.slice none 0 0)] := by
  refine spec_val k_tree_Tree_Children (Qf := fun rs => rs = [.s (.slice none 0 0)]) [.g (.s v), .g (.s (.int .i64 n))] (by simp) (avs_two h.one rfl) ?_
  simp (maxSteps := 2000000) only [c_tree_Tree_Children, vc_seq, vc_rg, thenQ_n, kKeep_eq, segs_nil, segs_n, ops_nil, ops_cons, vcOp, ev, look, put_mk, keep_mk, keepL, Value.oneCell', cond_true, Nat.reduceEqDiff, ↓reduceIte, reduceCtorEq, Nat.zero_add, initF, initP]
  refine call_is _ [.s (.bool true)] rfl rfl (fun w' vs hv hw => ?_) ?_
  · obtain ⟨vs, rfl, _, hv⟩ := argsV_g hv
    obtain rfl := argsV_nil hv
    intro _
    exact noneT_is (fun b o h => hw b o (by rw [u0_no]; exact hu b o h)) h
  simp (maxSteps := 2000000) only [retS, vc_ret, vc_seq, vc_rg, vc_ite, thenQ_n, thenQ_r, kKeep_eq, segs_nil, segs_n, segs_g, ops_nil, ops_cons, vcOp, RO.isGh, skip_mk, skipL, ev, look, put_mk, keep_mk, keepL, Value.oneCell', cond_true, cond_false, Nat.reduceEqDiff, ↓reduceIte, reduceCtorEq, Bool.not_false, finW_r, resL, resOne, ↓br_tt, ↓br_tf]
theorem Lookup_noneT (hu : u.le w) (h : NoneT u v) (n : Int) (s : ByteArray) : Spec Try.prog f_tree_Tree_Lookup [v, .int .i64 n, .string s] PH.no w fun rs _ => rs = [.s (.int .i64 0), .s (.bool false)] := by
  refine spec_val k_tree_Tree_Lookup (Qf := fun rs => rs = [.s (.int .i64 0), .s (.bool false)]) [.g (.s v), .g (.s (.int .i64 n)), .g (.s (.string s))] (by simp) (avs_three h.one rfl rfl) ?_
  simp (maxSteps := 2000000) only [c_tree_Tree_Lookup, vc_seq, vc_rg, thenQ_n, kKeep_eq, segs_nil, segs_n, ops_nil, ops_cons, vcOp, ev, look, put_mk, keep_mk, keepL, Value.oneCell', cond_true, Nat.reduceEqDiff, Nat.reduceAdd, ↓reduceIte, reduceCtorEq, Nat.zero_add, initF, initP, Int.reduceAdd]
  refine call_is _ [.s (.bool true)] rfl rfl (fun w' vs hv hw => ?_) ?_
  · obtain ⟨vs, rfl, _, hv⟩ := argsV_g hv
    obtain rfl := argsV_nil hv
    intro _
    exact noneT_is (fun b o h => hw b o (by rw [u0_no]; exact hu b o h)) h
  simp (maxSteps := 2000000) only [retS, vc_ret, vc_seq, vc_rg, vc_ite, thenQ_n, thenQ_r, kKeep_eq, segs_nil, segs_n, segs_g, ops_nil, ops_cons, vcOp, RO.isGh, skip_mk, skipL, ev, look, put_mk, keep_mk, keepL, Value.oneCell', cond_true, cond_false, Nat.reduceEqDiff, ↓reduceIte, reduceCtorEq, Bool.not_false, finW_r, resL, resOne, ↓br_tt, ↓br_tf]
theorem Attr_noneT (hu : u.le w) (h : NoneT u v) (n : Int) (s : ByteArray) : Spec Try.prog f_tree_Tree_Attr [v, .int .i64 n, .string s] PH.no w fun rs _ => rs = [.s (.string ⟨#[]⟩), .s (.bool false)] := by
  refine spec_val k_tree_Tree_Attr (Qf := fun rs => rs = [.s (.string ⟨#[]⟩), .s (.bool false)]) [.g (.s v), .g (.s (.int .i64 n)), .g (.s (.string s))] (by simp) (avs_three h.one rfl rfl) ?_
  simp (maxSteps := 2000000) only [c_tree_Tree_Attr, vc_seq, vc_rg, thenQ_n, kKeep_eq, segs_nil, segs_n, ops_nil, ops_cons, vcOp, ev, look, put_mk, keep_mk, keepL, Value.oneCell', cond_true, Nat.reduceEqDiff, Nat.reduceAdd, ↓reduceIte, reduceCtorEq, Nat.zero_add, initF, initP, Int.reduceAdd]
  refine call_is _ [.s (.bool true)] rfl rfl (fun w' vs hv hw => ?_) ?_
  · obtain ⟨vs, rfl, _, hv⟩ := argsV_g hv
    obtain rfl := argsV_nil hv
    intro _
    exact noneT_is (fun b o h => hw b o (by rw [u0_no]; exact hu b o h)) h
  simp (maxSteps := 2000000) only [retS, vc_ret, vc_seq, vc_rg, vc_ite, thenQ_n, thenQ_r, kKeep_eq, segs_nil, segs_n, segs_g, ops_nil, ops_cons, vcOp, RO.isGh, skip_mk, skipL, ev, look, put_mk, keep_mk, keepL, Value.oneCell', cond_true, cond_false, Nat.reduceEqDiff, ↓reduceIte, reduceCtorEq, Bool.not_false, finW_r, resL, resOne, ↓br_tt, ↓br_tf]
theorem Below_noneT (hu : u.le w) (h : NoneT u v) (n k : Int) : Spec Try.prog f_tree_Tree_Below [v, .int .i64 n, .int .i64 k] PH.no w fun rs _ => rs = [.s (.bool false)] := by
  refine spec_val k_tree_Tree_Below (Qf := fun rs => rs = [.s (.bool false)]) [.g (.s v), .g (.s (.int .i64 n)), .g (.s (.int .i64 k))] (by simp) (avs_three h.one rfl rfl) ?_
  simp (maxSteps := 2000000) only [c_tree_Tree_Below, vc_seq, vc_rg, thenQ_n, kKeep_eq, segs_nil, segs_n, ops_nil, ops_cons, vcOp, ev, look, put_mk, keep_mk, keepL, Value.oneCell', cond_true, Nat.reduceEqDiff, Nat.reduceAdd, ↓reduceIte, reduceCtorEq, Nat.zero_add, initF, initP, Int.reduceAdd]
  refine call_is _ [.s (.bool true)] rfl rfl (fun w' vs hv hw => ?_) ?_
  · obtain ⟨vs, rfl, _, hv⟩ := argsV_g hv
    obtain rfl := argsV_nil hv
    intro _
    exact noneT_is (fun b o h => hw b o (by rw [u0_no]; exact hu b o h)) h
  simp (maxSteps := 2000000) only [retS, vc_ret, thenQ_n, kKeep_eq, segs_nil, segs_n, segs_g, ops_nil, ops_cons, vcOp, RO.isGh, skip_mk, skipL, ev, look, put_mk, keep_mk, keepL, unV, Value.oneCell', cond_true, cond_false, Nat.reduceEqDiff, ↓reduceIte, Bool.not_true, finW_r, resL, resOne, ↓br_ft]
theorem Nodes_noneT (hu : u.le w) (h : NoneT u v) : Spec Try.prog f_tree_Tree_Nodes [v] PH.no w fun rs _ => rs = [.s (.slice none 0 0)] := by
  refine spec_val k_tree_Tree_Nodes (Qf := fun rs => rs = [.s (.slice none 0 0)]) [.g (.s v)] (by simp) (by simp [AV.ok, GV.ok, h.one]) ?_
  simp (maxSteps := 2000000) only [c_tree_Tree_Nodes, vc_seq, vc_rg, thenQ_n, kKeep_eq, segs_nil, segs_n, ops_nil, ops_cons, vcOp, ev, look, put_mk, keep_mk, keepL, Value.oneCell', cond_true, ↓reduceIte, reduceCtorEq, initF, initP]
  refine call_is _ [.s (.bool true)] rfl rfl (fun w' vs hv hw => ?_) ?_
  · obtain ⟨vs, rfl, _, hv⟩ := argsV_g hv
    obtain rfl := argsV_nil hv
    intro _
    exact noneT_is (fun b o h => hw b o (by rw [u0_no]; exact hu b o h)) h
  simp (maxSteps := 2000000) only [retS, vc_ret, vc_seq, vc_rg, vc_ite, thenQ_n, thenQ_r, kKeep_eq, segs_nil, segs_n, ops_nil, ops_cons, vcOp, ev, look, put_mk, keep_mk, keepL, Value.oneCell', cond_true, ↓reduceIte, reduceCtorEq, finW_r, resL, resOne, ↓br_tt]
theorem Clone_noneT (hu : u.le w) (h : NoneT u v) : Spec Try.prog f_tree_Tree_Clone [v] PH.no w fun rs _ => rs = [.s (.pointer none)] := by
  refine spec_val k_tree_Tree_Clone (Qf := fun rs => rs = [.s (.pointer none)]) [.g (.s v)] (by simp) (by simp [AV.ok, GV.ok, h.one]) ?_
  simp (maxSteps := 2000000) only [c_tree_Tree_Clone, vc_seq, vc_rg, thenQ_n, kKeep_eq, segs_nil, segs_n, ops_nil, ops_cons, vcOp, ev, look, put_mk, keep_mk, keepL, Value.oneCell', cond_true, ↓reduceIte, reduceCtorEq, initF, initP]
  refine call_is _ [.s (.bool true)] rfl rfl (fun w' vs hv hw => ?_) ?_
  · obtain ⟨vs, rfl, _, hv⟩ := argsV_g hv
    obtain rfl := argsV_nil hv
    intro _
    exact noneT_is (fun b o h => hw b o (by rw [u0_no]; exact hu b o h)) h
  simp (maxSteps := 2000000) only [retS, vc_ret, vc_seq, vc_rg, vc_ite, thenQ_n, thenQ_r, kKeep_eq, segs_nil, segs_n, ops_nil, ops_cons, vcOp, ev, look, put_mk, keep_mk, keepL, Value.oneCell', cond_true, ↓reduceIte, reduceCtorEq, finW_r, resL, resOne, ↓br_tt]
/-- Walk: a function that goes through nothing. -/
theorem Walk_noneT (hu : u.le w) (h : NoneT u v) (n : Int) : Spec Try.prog f_tree_Tree_Walk [v, .int .i64 n] PH.no w fun rs m' => ∃ b e, rs = [.s (.func (.func f_tree_Tree_Walk_1) #[] #[ptr b])] ∧ m' b = some (.cells #[.slice none 0 0] e (0, 0)) := by
  refine spec_of k_tree_Tree_Walk [.g (.s v), .g (.s (.int .i64 n))] (by simp) (avs_two h.one rfl) ?_
  simp (maxSteps := 2000000) only [c_tree_Tree_Walk, vc_seq, vc_rg, thenQ_n, kKeep_eq, segs_nil, segs_n, ops_nil, ops_cons, vcOp, ev, look, updL, put_mk, keep_mk, keepL, Value.oneCell', cond_true, Nat.reduceEqDiff, ↓reduceIte, reduceCtorEq, Nat.zero_add, Bool.true_and, true_and, initF, initP, ptr]
  refine call_is _ [.s (.bool true)] rfl rfl (fun w' vs hv hw => ?_) ?_
  · obtain ⟨vs, rfl, _, hv⟩ := argsV_g hv
    obtain rfl := argsV_nil hv
    intro _
    exact noneT_is (fun b o h => hw b o (by rw [u0_no]; exact hu b o h)) h
  simp (maxSteps := 2000000) only [retS, vc_skip, vc_seq, vc_rg, vc_ite, thenQ_n, kKeep_eq, segs_nil, segs_n, segs_g, ops_nil, ops_cons, vcOp, RO.isGh, skip_mk, skipL, ev, look, put_mk, keep_mk, keepL, unV, Value.oneCell', cond_true, cond_false, Nat.reduceEqDiff, ↓reduceIte, reduceCtorEq, Bool.not_true, ↓br_ft]
  refine gh_pubBox 5 5 rfl rfl fun v u2 hv hp hd => ?_
  obtain ⟨hok, b, e, rfl, rfl⟩ := hp
  simp (maxSteps := 2000000) only [dropK, vc_ret, thenQ_n, kKeep_eq, finQ_r, segs_nil, ops_nil, ops_cons, vcOp, ev, evL, scL, look, put_mk, keep_mk, keepL, cond_true, cond_false, ↓reduceIte, BEq.rfl, Option.map_some, kill, SV.mentions]
  exact fin_m (rs := [.s (.func (.func f_tree_Tree_Walk_1) #[] #[ptr b])]) _ rfl (fun _ _ h => h) ⟨b, e, rfl, by simp [uni, one, GV.flat]⟩
theorem Walk1_noneT (hu : u.le w) {b : Nat} {e : TypeId} (h : u b = some (.cells #[.slice none 0 0] e (0, 0))) (yv : Value) (hy : yv.oneCell' = true) : Spec Try.prog f_tree_Tree_Walk_1 [yv, ptr b] PH.no w fun rs _ => rs = [] := by
  refine spec_val k_tree_Tree_Walk_1 (Qf := fun rs => rs = []) [.g (.s yv), .g (.s (ptr b))] (by simp) (avs_two hy rfl) ?_
  have hk : ∀ {l : List PH}, KN (⟨Try.prog, 19, w, PH.no⟩ : Ctx).u0 l u := kn_u hu
  unfold ptr
  simp (maxSteps := 2000000) only [c_tree_Tree_Walk_1, vc_seq, vc_rg, segs_n, ops_cons, vcOp, ev, look, ↓reduceIte, reduceCtorEq, Nat.zero_add, initF, initP]
  refine ld_of (.s (.slice none 0 0)) (seen_c0 hk h (j := 0) (v := .slice none 0 0) rfl rfl) rfl ?_
  simp (maxSteps := 2000000) only [vc_block, thenQ_n, kKeep_eq, segs_nil, ops_nil, ops_cons, vcOp, ev, look, put_mk, keep_mk, keepL, Value.oneCell', cond_true, Nat.reduceEqDiff, ↓reduceIte, reduceCtorEq]
  refine vc_loop (ι := Unit) (fun _ => ⟨[(0, .g (.s (yv))), (5, .g (.s (.slice none 0 0))), (6, .g (.s (.int .i64 ((0 : Nat))))), (7, .g (.s (.int .i64 (0))))], [], [], PH.no⟩) (fun _ => True) (fun _ => 0) () trivial (ge_of ?_ ?_ rfl rfl rfl) ?_
  · simp [frIn, look]
  · simp [pvIn, look]
  intro _ _
  simp (maxSteps := 2000000) only [c_tree_Tree_Walk_1_L0, vc_skip, vc_exit, vc_seq, vc_block, vc_rg, vc_ite, thenQ_n, thenQ_e, blockQ_e, kKeep_eq, loopQ_e, segs_nil, segs_n, ops_nil, ops_cons, vcOp, ev, look, put_mk, keep_mk, keepL, binV, binC, Nat.reduceEqDiff, ↓reduceIte, reduceCtorEq, Bool.true_and, true_and, finW_n, resL, decide_eq_true_eq, decide_eq_false_iff_not, br_t, gStamp_zero]
  exact ⟨fun h => by omega, fun _ => trivial⟩
end
end Go.Proofs.Ytdpknchgoeboaaa.Vc

/- Code within a round of a loop over a function. -/
set_option linter.unusedVariables false
set_option linter.unusedSimpArgs false
namespace Go.Proofs.Ytdpknchgoeboaaa.Vc
open Go

def plainO (o : Oper) : Bool := match o.op with
  | .defer _ => false
  | _ => true
/-- Code with no order left open, no deferred call, no loop over a function, no scope. -/
def plainC : Code → Bool
  | .skip => true
  | .ret => true
  | .exit _ => true
  | .label _ => true
  | .seq a b => plainC a && plainC b
  | .cond _ a b => plainC a && plainC b
  | .block _ a => plainC a
  | .loop a => plainC a
  | .region _ ops draw => !draw && ops.all plainO
  | _ => false
/-- Where no function and no depth is barred; in a round, or in none. -/
abbrev fenceR (ro : Option Nat) : Fence := { Fence.wide with round := ro }
theorem semAt_plain (ro : Option Nat) (ρ : Operand → Value) (o : Oper) (h : ∀ c, o.op ≠ .defer c) : Oper.semAt ro ρ o = execOp ρ o := by
  cases ro with
  | some l => exact Oper.semAt_some l ρ o h
  | none => rfl
theorem callsR {P : Program} {f : FuncId} {args : Array Value} {w : World} {R : Ending → World → Prop} (ro : Option Nat) (n : Nat) : CallsIn (fenceR ro) n P f args w R ↔ Calls P f args w R := by
  cases ro with
  | some l => exact ⟨fun h => callsIn_wide.1 (CallsIn.outOfRound (l := l) (F := Fence.wide) h), fun h => CallsIn.inRound (F := Fence.wide) l (callsIn_wide.2 h)⟩
  | none => exact callsIn_wide
def noRaw : Cd → Bool
  | .seq a b => noRaw a && noRaw b
  | .ite _ a b => noRaw a && noRaw b
  | .block _ a => noRaw a
  | .loop a => noRaw a
  | .scope a => noRaw a
  | .gh a => noRaw a
  | .raw _ => false
  | _ => true
/-- Not asked: that a machine outgrows what it has. -/
def QOk (Q : QT) : Prop := ∀ σ, ¬ Q .outgrown σ

theorem listIn_of {P : Program} {ops : Array Oper} {Q : Exit → Act → World → Prop} (ro : Option Nat) (hQ : ∀ a w, ¬ Q .outgrown a w) : ∀ (L : List Oper) (a : Act) (w : World), (∀ o ∈ L, plainO o = true) → wpList P ops Q L a w → wpListIn (fenceR ro) 0 P ops Q L a w
  | [], a, w, _, h => h
  | o :: L, a, w, hp, h => by
    have ih := fun (a : Act) (w : World) => listIn_of (P := P) (ops := ops) (Q := Q) ro hQ L a w (fun o ho => hp o (List.mem_cons_of_mem _ ho))
    have hno : ∀ c, o.op ≠ .defer c := fun c e => by
      have := hp o (by simp)
      rw [plainO, e] at this; cases this
    have hlet : ¬ LetsOut Q := fun ⟨a, w, h⟩ => hQ a w h
    unfold wpList at h
    unfold wpListIn
    by_cases hw : Region.wanted o (yielded ops a.tmps) = true
    · rw [if_pos hw] at h ⊢
      rcases h with h | ⟨_, h⟩
      · refine ⟨fun _ _ => trivial, ?_⟩
        have hsem : o.semAt ro a.eval = execOp a.eval o := semAt_plain ro _ o hno
        rw [hsem]
        unfold Oper.wp at h
        generalize (execOp a.eval o).run P w = r at h ⊢
        cases r with
        | ok x w' =>
          cases x with
          | value v => exact ih _ _ h
          | skip => exact ih _ _ h
          | defer d => exact ih _ _ h
          | enter f args =>
            refine ⟨(fun h => by cases h), ((callsR ro _).2 h).mono fun e w2 he => ?_⟩
            cases e with
            | returned v => exact ih _ _ he
            | panicked ch => exact he
            | outgrown => exact he
          | row row args =>
            refine ⟨(fun h => by cases h), fun c cs _ => ?_⟩
            obtain ⟨v, w2, h1, h2⟩ := h c cs
            exact ⟨v, w2, ih _ _ h1, stepsIn_wide.2 h2⟩
          | _ => exact h.elim
        | halt x w' =>
          cases x with
          | panic v => exact h
          | _ => exact h.elim
      · exact absurd h hlet
    · rw [if_neg hw] at h ⊢
      exact ⟨fun _ _ => trivial, ih _ _ h⟩

section
variable {C : Ctx} {σ : SS} {a : Act} {w : World}
theorem QOk.lift {Q : QT} (h : QOk Q) : ∀ a w, ¬ liftQ C Q .outgrown a w := fun a w ⟨σ, hq, _⟩ => h σ hq
theorem QOk.thenQ {Q : QT} {K : KT} (h : QOk Q) : QOk (thenQ K Q) := fun σ q => h σ q
theorem QOk.blockQ {Q : QT} {id : Nat} (h : QOk Q) : QOk (blockQ id Q) := fun σ q => h σ q
theorem QOk.loopQ {Q : QT} {ι : Type} {st : ι → SS} {inv : ι → Prop} {ms : ι → Nat} {i : ι} (h : QOk Q) : QOk (loopQ st inv ms i Q) := fun σ q => h σ q
/-- What is shown of a round's body holds of it. -/
theorem vc_sound_round (ns : List (Nat × Nat)) (ro : Option Nat) : ∀ (cd : Cd) (code : Code) (Q : QT) (σ : SS) (a : Act) (w : World), comp C.P C.N ns code = er cd → noRaw cd = true → plainC code = true → QOk Q → vc C cd Q σ → Rel C σ a w → code.wpIn (fenceR ro) 0 C.P (liftQ C Q) a w := by
  intro cd
  induction cd with
  | skip =>
    intro code Q σ a w hc hn hp hQk h hR
    cases code <;> simp only [comp, er] at hc <;> (try split at hc) <;> first | (cases hc; done) | (exact (noRegion hc (by intros; simp) (by intros; simp) (by intros; simp) (by intros; simp)).elim) | skip
    · exact wpIn_skip ⟨σ, h, hR⟩
    · exact wpIn_label ⟨σ, h, hR⟩
  | ret =>
    intro code Q σ a w hc hn hp hQk h hR
    cases code <;> simp only [comp, er] at hc <;> (try split at hc) <;> first | (cases hc; done) | (exact (noRegion hc (by intros; simp) (by intros; simp) (by intros; simp) (by intros; simp)).elim) | skip
    exact wpIn_ret ⟨σ, h, hR⟩
  | exit id =>
    intro code Q σ a w hc hn hp hQk h hR
    cases code <;> simp only [comp, er] at hc <;> (try split at hc) <;> first | (cases hc; done) | (exact (noRegion hc (by intros; simp) (by intros; simp) (by intros; simp) (by intros; simp)).elim) | skip
    cases hc
    exact wpIn_exit ⟨σ, h, hR⟩
  | seq x y ihx ihy =>
    intro code Q σ a w hc hn hp hQk h hR
    cases code <;> simp only [comp, er] at hc <;> (try split at hc) <;> first | (cases hc; done) | (exact (noRegion hc (by intros; simp) (by intros; simp) (by intros; simp) (by intros; simp)).elim) | skip
    rename_i x' y'
    simp only [Cd.seq.injEq] at hc
    refine wpIn_seq (wpIn_mono (ihx x' _ σ a w hc.1 (by simp only [noRaw, Bool.and_eq_true] at hn; exact hn.1) (by simp only [plainC, Bool.and_eq_true] at hp; exact hp.1) hQk.thenQ h hR) fun e a' w' hq => ?_)
    obtain ⟨σ', hq, hR'⟩ := hq
    cases e with
    | normal => exact ihy y' Q σ' a' w' hc.2 (by simp only [noRaw, Bool.and_eq_true] at hn; exact hn.2) (by simp only [plainC, Bool.and_eq_true] at hp; exact hp.2) hQk hq hR'
    | _ => exact ⟨σ', hq, hR'⟩
  | ite c x y ihx ihy =>
    intro code Q σ a w hc hn hp hQk h hR
    cases code <;> simp only [comp, er] at hc <;> (try split at hc) <;> first | (cases hc; done) | (exact (noRegion hc (by intros; simp) (by intros; simp) (by intros; simp) (by intros; simp)).elim) | skip
    rename_i c' x' y' _ c2 hc2
    simp only [Cd.ite.injEq] at hc
    obtain ⟨rfl, h1, h2⟩ := hc
    simp only [vc, brB] at h
    split at h
    · rename_i t ht
      have hF := hR.choose_spec.1
      have hv := (hF.ev rfl ht).s
      refine wpIn_cond_split (t := t) (by rw [cOpd_eval hc2 a]; exact hv) (fun e => ihx x' Q σ a w h1 (by simp only [noRaw, Bool.and_eq_true] at hn; exact hn.1) (by simp only [plainC, Bool.and_eq_true] at hp; exact hp.1) hQk (h.1 e) hR) (fun e => ihy y' Q σ a w h2 (by simp only [noRaw, Bool.and_eq_true] at hn; exact hn.2) (by simp only [plainC, Bool.and_eq_true] at hp; exact hp.2) hQk (h.2 e) hR)
    · exact h.elim
  | block id x ih =>
    intro code Q σ a w hc hn hp hQk h hR
    cases code <;> simp only [comp, er] at hc <;> (try split at hc) <;> first | (cases hc; done) | (exact (noRegion hc (by intros; simp) (by intros; simp) (by intros; simp) (by intros; simp)).elim) | skip
    rename_i id' x'
    simp only [Cd.block.injEq] at hc
    obtain ⟨rfl, h1⟩ := hc
    refine wpIn_block (wpIn_mono (ih x' _ σ a w h1 hn hp hQk.blockQ h hR) fun e a' w' hq => ?_)
    obtain ⟨σ', hq, hR'⟩ := hq
    cases e with
    | exit j =>
      simp only [blockQ] at hq
      simp only [Exit.inBlock]
      split
      · rename_i e; rw [if_pos e] at hq; exact ⟨σ', hq, hR'⟩
      · rename_i e; rw [if_neg e] at hq; exact ⟨σ', hq, hR'⟩
    | _ => exact ⟨σ', hq, hR'⟩
  | loop x ih =>
    intro code Q σ a w hc hn hp hQk h hR
    cases code <;> simp only [comp, er] at hc <;> (try split at hc) <;> first | (cases hc; done) | (exact (noRegion hc (by intros; simp) (by intros; simp) (by intros; simp) (by intros; simp)).elim) | skip
    rename_i x'
    simp only [Cd.loop.injEq] at hc
    obtain ⟨ι, st, inv, ms, i0, hi0, hge, hstep⟩ := h
    refine wpIn_loop_ghost (fun n a w => ∃ i, inv i ∧ ms i = n ∧ Rel C (st i) a w) (ms i0) ⟨i0, hi0, rfl, hge.rel hR⟩ fun n a w hI => ?_
    obtain ⟨i, hi, rfl, hRi⟩ := hI
    refine wpIn_mono (ih x' _ (st i) a w hc hn hp hQk.loopQ (hstep i hi) hRi) fun e a' w' hq => ?_
    obtain ⟨σ', hq, hR'⟩ := hq
    cases e with
    | normal =>
      obtain ⟨j, hj, hlt, hge'⟩ := hq
      exact ⟨ms j, hlt, j, hj, rfl, hge'.rel hR'⟩
    | _ => exact ⟨σ', hq, hR'⟩
  | scope x ih =>
    intro code Q σ a w hc hn hp hQk h hR
    cases code <;> simp only [comp, er] at hc <;> (try split at hc) <;> first | (cases hc; done) | (exact (noRegion hc (by intros; simp) (by intros; simp) (by intros; simp) (by intros; simp)).elim) | skip
    cases hp
  | rg segs keep =>
    intro code Q σ a w hc hn hp hQk h hR
    cases code <;> simp only [comp, er] at hc <;> (try split at hc) <;> first | (cases hc; done) | skip
    rename_i id ops draw
    rcases compR_cases C.P C.N ns id ops draw with ⟨rfl, hd, hg, e⟩ | ⟨n, _, _, _, _, _, e⟩ | ⟨_, _, _, _, _, e⟩ | ⟨_, _, _, _, _, _, e⟩ | e
    rotate_left
    · rw [e] at hc; cases hc
    · rw [e] at hc; cases hc
    · rw [e] at hc; cases hc
    · rw [e] at hc; cases hc
    rw [e] at hc
    simp only [Cd.rg.injEq, and_true] at hc
    simp only [Array.all_eq_true_iff_forall_mem] at hd hg
    refine wpIn_region_list ?_
    have := segs_sound (C := C) (ops := ops) (K := kKeep keep Q) (Q := liftQ C Q) (fun σ' a' w' hK hR' => ⟨σ'.keep keep, hK, hR'.keep keep⟩) segs (grp ops ops.toList) σ a w hc (fun x hx o ho => by
      obtain ⟨h1, h2⟩ := grp_mem ops ops.toList x hx o ho
      exact ⟨h1, hd o (by simpa using h2), hg o (by simpa using h2)⟩) hR h
    rw [grp_flat] at this
    simp only [plainC, Bool.and_eq_true, Array.all_eq_true_iff_forall_mem] at hp
    exact listIn_of ro hQk.lift _ _ _ (fun o ho => hp.2 o (by simpa using ho)) this
  | rgq hd' tl keep =>
    intro code Q σ a w hc hn hp hQk h hR
    cases code <;> simp only [comp, er] at hc <;> (try split at hc) <;> first | (cases hc; done) | skip
    rename_i id ops draw
    rcases compR_cases C.P C.N ns id ops draw with ⟨_, _, _, e⟩ | ⟨n, rfl, _, _, _, _, e⟩ | ⟨_, _, _, _, _, e⟩ | ⟨_, _, _, _, _, _, e⟩ | e
    · rw [e] at hc; cases hc
    · simp [plainC] at hp
    · rw [e] at hc; cases hc
    · rw [e] at hc; cases hc
    · rw [e] at hc; cases hc
  | rga t keep =>
    intro code Q σ a w hc hn hp hQk h hR
    cases code <;> simp only [comp, er] at hc <;> (try split at hc) <;> first | (cases hc; done) | skip
    rename_i id ops draw
    rcases compR_cases C.P C.N ns id ops draw with ⟨_, _, _, e⟩ | ⟨n, _, _, _, _, _, e⟩ | ⟨rfl, _, _, _, _, e⟩ | ⟨rfl, _, _, _, _, _, e⟩ | e
    · rw [e] at hc; cases hc
    · rw [e] at hc; cases hc
    · simp [plainC] at hp
    · simp [plainC] at hp
    · rw [e] at hc; cases hc
  | gh x ih =>
    intro code Q σ a w hc hn hp hQk h hR
    obtain ⟨τ, hR', h'⟩ := h a w hR
    exact ih code Q τ a w hc hn hp hQk h' hR'
  | raw c =>
    intro code Q σ a w hc hn hp hQk h hR
    cases hn

end
end Go.Proofs.Ytdpknchgoeboaaa.Vc

/- A loop over a function, its rounds: what is shown of its body for each value handed in. -/
set_option linter.unusedVariables false
set_option linter.unusedSimpArgs false
namespace Go.Proofs.Ytdpknchgoeboaaa.Vc
open Go Go.Shelf

/-- What an iterator does: it hands these in, one after another, till it is told to stop; between two rounds it changes nothing that was there. -/
def Iter (P : Program) (gf : Nat) (lb : List Value) (ui : PH) (encs : List (List Value)) : Prop :=
  ∀ (l : Nat) (J : Nat → World → Prop) (Jx : World → Prop) (W : World), ui.le W → (∀ i W W', J i W → Kept PH.no W W' → J i W') → (∀ W W', Jx W → Kept PH.no W W' → Jx W') →
    (∀ i x W, encs[i]? = some x → J i W → YieldAt Fence.wide 0 P l x.toArray W fun e W' => (e = .returned (.bool true) ∧ J (i + 1) W' ∧ ui.le W') ∨ (e = .returned (.bool false) ∧ Jx W')) →
    J 0 W → CallsIn Fence.wide 0 P gf (#[.func (.yield l) #[] #[]] ++ lb.toArray) W fun e W' => (∃ v, e = .returned v) ∧ (J encs.length W' ∨ Jx W')

/-! ### Another beginning -/
noncomputable def baseOf (ph : List PH) (m : PH) (W : World) : PH := fun b => open Classical in if m b ≠ none ∨ ∃ u ∈ ph, u b ≠ none then W.heap[b]? else none
theorem baseOf_in {ph : List PH} {m : PH} {W : World} {b : Nat} (h : m b ≠ none ∨ ∃ u ∈ ph, u b ≠ none) : baseOf ph m W b = W.heap[b]? := by rw [baseOf, if_pos h]
theorem baseOf_out {ph : List PH} {m : PH} {W : World} {b : Nat} (h1 : m b = none) (h2 : ∀ u ∈ ph, u b = none) : baseOf ph m W b = none := by
  rw [baseOf, if_neg]
  rintro (h | ⟨u, hu, h⟩)
  · exact h h1
  · exact h (h2 u hu)
theorem baseOf_mem {ph : List PH} {m : PH} {W : World} {b : Nat} (h : baseOf ph m W b ≠ none) : m b ≠ none ∨ ∃ u ∈ ph, u b ≠ none := by
  rw [baseOf] at h
  split at h
  · assumption
  · exact absurd rfl h
noncomputable abbrev cx (C : Ctx) (ph : List PH) (m : PH) (W : World) : Ctx := ⟨C.P, C.N, W, baseOf ph m W⟩

section
variable {C : Ctx} {loc : Loc} {ph : List PH} {m : PH} {W : World}
theorem HR.bare {pv : List (Nat × PV)} (h : HR C loc pv ph m W) (loc' : Loc) : HR C loc' [] ph m W :=
  ⟨h.kept, (fun k y hk => by cases hk), (fun k k' y y' b o c o' c' hk => by cases hk), (fun k y b o c hk => by cases hk), h.mle, h.mmine, h.phs⟩
theorem HR.rebase (h : HR C loc [] ph m W) (loc' : Loc) : HR (cx C ph m W) loc' [] ph m W := by
  refine ⟨Kept.refl _ _, (fun k y hk => by cases hk), (fun k k' y y' b o c o' c' hk => by cases hk), (fun k y b o c hk => by cases hk), h.mle, fun b hb => .inr ?_, fun u hu => ⟨(h.phs u hu).1, fun b hb => ⟨.inr ?_, ((h.phs u hu).2 b hb).2⟩⟩⟩
  · show baseOf ph m W b ≠ none
    rw [baseOf_in (.inl hb)]
    cases hm : m b with
    | none => exact absurd hm hb
    | some o => rw [h.mle b o hm]; simp
  · show baseOf ph m W b ≠ none
    rw [baseOf_in (.inr ⟨u, hu, hb⟩)]
    cases hm : u b with
    | none => exact absurd hm hb
    | some o => rw [(h.phs u hu).1 b o hm]; simp
theorem HR.u0_up (h : HR C loc [] ph m W) : ∀ b o, C.u0 b = some o → (cx C ph m W).u0 b = some o := by
  intro b o hb
  unfold Ctx.u0 at hb ⊢
  split at hb
  · rename_i h0
    have h0 : C.m0 b = none := by simpa using h0
    have hlt : b < C.w0.heap.size := (Array.getElem?_eq_some_iff.1 hb).1
    have nm : ¬ C.mine b := fun hmine => hmine.elim (fun h => by omega) fun h => h h0
    have h1 : m b = none := by
      cases hm : m b with
      | none => rfl
      | some o => exact absurd (h.mmine b (by rw [hm]; simp)) nm
    have h2 : ∀ u ∈ ph, u b = none := fun u hu => by
      cases hm : u b with
      | none => rfl
      | some o => exact absurd ((h.phs u hu).2 b (by rw [hm]; simp)).1 nm
    show (if (baseOf ph m W b).isNone then W.heap[b]? else none) = some o
    rw [baseOf_out h1 h2]
    simp only [Option.isNone_none, if_true]
    rw [h.kept.2.2.2.2 b hlt h0]; exact hb
  · cases hb
theorem HR.mine_up (h : HR C loc [] ph m W) {b : Nat} (hb : (cx C ph m W).mine b) : C.mine b := by
  rcases hb with hb | hb
  · exact .inl (Nat.le_trans h.kept.2.2.2.1 hb)
  · rcases baseOf_mem hb with hm | ⟨u, hu, hm⟩
    · exact h.mmine b hm
    · exact ((h.phs u hu).2 b hm).1
theorem HR.unbase (h : HR C loc [] ph m W) {loc' loc2 : Loc} {pv' : List (Nat × PV)} {ph' : List PH} {m' : PH} {W' : World} (h' : HR (cx C ph m W) loc' pv' ph' m' W') : HR C loc2 [] ph' m' W' := by
  refine ⟨?_, (fun k y hk => by cases hk), (fun k k' y y' b o c o' c' hk => by cases hk), (fun k y b o c hk => by cases hk), h'.mle, fun b hb => h.mine_up (h'.mmine b hb), fun u hu => ⟨(h'.phs u hu).1, fun b hb => ⟨h.mine_up ((h'.phs u hu).2 b hb).1, ((h'.phs u hu).2 b hb).2⟩⟩⟩
  obtain ⟨k1, k2, k3, k4, k5⟩ := h.kept
  obtain ⟨q1, q2, q3, q4, q5⟩ := h'.kept
  refine ⟨q1.trans k1, q2.trans k2, q3.trans k3, Nat.le_trans k4 q4, fun k hk hn => ?_⟩
  have nm : ¬ C.mine k := fun hmine => hmine.elim (fun h => by omega) fun h => h hn
  rw [q5 k (Nat.lt_of_lt_of_le hk k4) (baseOf_out ?_ ?_)]
  · exact k5 k hk hn
  · cases hm : m k with
    | none => rfl
    | some o => exact absurd (h.mmine k (by rw [hm]; simp)) nm
  · intro u hu
    cases hm : u k with
    | none => rfl
    | some o => exact absurd ((h.phs u hu).2 k (by rw [hm]; simp)).1 nm
/-- What is not in the memory that is known lies as it lay. -/
theorem HR.other (h' : HR (cx C ph m W) loc [] ph m W) {loc' : Loc} {pv' : List (Nat × PV)} {ph' : List PH} {m' : PH} {W' : World} (h2 : HR (cx C ph m W) loc' pv' ph' m' W') {b : Nat} {o : Obj} (hb : W.heap[b]? = some o) (h3 : m b = none) (h4 : ∀ u ∈ ph, u b = none) : W'.heap[b]? = some o := by
  have hlt : b < W.heap.size := (Array.getElem?_eq_some_iff.1 hb).1
  rw [h2.kept.2.2.2.2 b hlt (baseOf_out h3 h4)]; exact hb
/-- And is not known to be one's own behind it, either. -/
theorem HR.apart' (h : HR C loc [] ph m W) {loc' : Loc} {pv' : List (Nat × PV)} {ph' : List PH} {m' : PH} {W' : World} (h2 : HR (cx C ph m W) loc' pv' ph' m' W') {b : Nat} (hb : b < W.heap.size) (h3 : m b = none) (h4 : ∀ u ∈ ph, u b = none) : m' b = none ∧ ∀ u ∈ ph', u b = none := by
  have nm : ¬ (cx C ph m W).mine b := fun hmine => hmine.elim (fun h => by simp only at h; omega) fun h => h (baseOf_out h3 h4)
  refine ⟨?_, fun u hu => ?_⟩
  · cases hm : m' b with
    | none => rfl
    | some o => exact absurd (h2.mmine b (by rw [hm]; simp)) nm
  · cases hm : u b with
    | none => rfl
    | some o => exact absurd ((h2.phs u hu).2 b (by rw [hm]; simp)).1 nm
end

/-! ### Plain slots -/
def frG (fr : List (Nat × SV)) : Prop := ∀ t x, look fr t = some x → ∃ g, x = .g g
theorem FR.plain {loc loc' : Loc} {N : Nat} {fr : List (Nat × SV)} {pv pv' : List (Nat × PV)} {ph ph' : List PH} {a : Act} (h : FR loc N fr pv ph a) (hg : frG fr) (hs : ∀ u ∈ ph, u ∈ ph') : FR loc' N fr pv' ph' a := by
  refine ⟨h.defers.up hs, h.size, fun t x hx => ?_⟩
  obtain ⟨g, rfl⟩ := hg t x hx
  exact h.slots t _ hx

/-! ### The rule -/
/-- The parameters of a round. -/
def parFr : List Tmp → List Value → List (Nat × SV)
  | t :: ts, v :: vs => parFr ts vs ++ [(t, .g (.s v))]
  | _, _ => []
/-- How a round's body may be left. -/
def bodyQ (σ : SS) (I : List PH → PH → Prop) (Ix : Exit → List PH → PH → Prop) : QT
  | .normal, τ => (∀ u ∈ σ.ph, u ∈ τ.ph) ∧ I τ.ph τ.m
  | .ret, τ => (∀ u ∈ σ.ph, u ∈ τ.ph) ∧ Ix .ret τ.ph τ.m
  | .exit id, τ => (∀ u ∈ σ.ph, u ∈ τ.ph) ∧ Ix (.exit id) τ.ph τ.m
  | _, _ => False
theorem bodyQ_ok {σ : SS} {I : List PH → PH → Prop} {Ix : Exit → List PH → PH → Prop} : QOk (bodyQ σ I Ix) := fun _ h => h
/-- The assignment to the loop's left sides: plain values into slots, nothing else. -/
def asgQ (ph : List PH) (m : PH) (fr : List (Nat × SV)) : QT
  | .normal, τ => τ.ph = ph ∧ τ.m = m ∧ ∀ t x, look fr t = some x → look τ.fr t = some x
  | _, _ => False
theorem asgQ_ok {ph : List PH} {m : PH} {fr : List (Nat × SV)} : QOk (asgQ ph m fr) := fun _ h => h

theorem look_app {α : Type} : ∀ (a b : List (Nat × α)) (t : Nat), look (a ++ b) t = (look a t).or (look b t)
  | [], b, t => by simp [look]
  | (k, x) :: a, b, t => by
    simp only [List.cons_append, look]
    split
    · simp
    · exact look_app a b t
theorem parFr_slot : ∀ (ts : List Tmp) (vs : List Value) (tm : Array Value), (∀ t ∈ ts, t < tm.size) → ∀ t x, look (parFr ts vs) t = some x → ∃ v, x = .g (.s v) ∧ v ∈ vs ∧ ((ts.zip vs).foldl (fun tm (p : Tmp × Value) => tm.setIfInBounds p.1 p.2) tm)[t]? = some v
  | [], _, tm, _, t, x, h => by simp [parFr, look] at h
  | _ :: _, [], tm, _, t, x, h => by simp [parFr, look] at h
  | p :: ts, v :: vs, tm, hb, t, x, h => by
    simp only [parFr, look_app] at h
    simp only [List.zip_cons_cons, List.foldl_cons]
    have hb' : ∀ t ∈ ts, t < (tm.setIfInBounds p v).size := fun t ht => by rw [Array.size_setIfInBounds]; exact hb t (by simp [ht])
    cases h1 : look (parFr ts vs) t with
    | some y =>
      rw [h1] at h
      simp only [Option.some_or, Option.some.injEq] at h
      subst h
      obtain ⟨v', e, hm, hv⟩ := parFr_slot ts vs _ hb' t y h1
      exact ⟨v', e, by simp [hm], hv⟩
    | none =>
      rw [h1] at h
      simp only [Option.none_or, look] at h
      split at h
      · rename_i e
        cases h
        subst e
        refine ⟨v, rfl, by simp, ?_⟩
        have keep : ∀ (ts : List Tmp) (vs : List Value) (tm : Array Value) (t : Nat), look (parFr ts vs) t = none → ts.length ≤ vs.length ∨ True → ((ts.zip vs).foldl (fun tm (p : Tmp × Value) => tm.setIfInBounds p.1 p.2) tm)[t]? = tm[t]? := by
          intro ts
          induction ts with
          | nil => intro vs tm t _ _; rfl
          | cons q ts ih =>
            intro vs tm t h _
            cases vs with
            | nil => rfl
            | cons v vs =>
              simp only [parFr, look_app, Option.or_eq_none_iff, look] at h
              obtain ⟨h1, h2⟩ := h
              simp only [List.zip_cons_cons, List.foldl_cons]
              rw [ih vs _ t h1 (.inr trivial), Array.getElem?_setIfInBounds_ne]
              intro e
              rw [if_pos e.symm] at h2; cases h2
        rw [keep ts vs _ t h1 (.inr trivial), Array.getElem?_setIfInBounds_self_of_lt (hb t (by simp))]
      · cases h
theorem foldl_size (l : List (Tmp × Value)) : ∀ tm : Array Value, (l.foldl (fun tm (p : Tmp × Value) => tm.setIfInBounds p.1 p.2) tm).size = tm.size := by
  induction l with
  | nil => intro tm; rfl
  | cons p l ih => intro tm; rw [List.foldl_cons, ih, Array.size_setIfInBounds]
end Go.Proofs.Ytdpknchgoeboaaa.Vc

/- A loop over a function: the rule. -/
set_option linter.unusedVariables false
set_option linter.unusedSimpArgs false
namespace Go.Proofs.Ytdpknchgoeboaaa.Vc
open Go Go.Shelf

theorem parFr_keep : ∀ (ts : List Tmp) (vs : List Value) (tm : Array Value) (t : Nat), look (parFr ts vs) t = none → ((ts.zip vs).foldl (fun tm (p : Tmp × Value) => tm.setIfInBounds p.1 p.2) tm)[t]? = tm[t]?
  | [], vs, tm, t, _ => rfl
  | q :: ts, [], tm, t, _ => rfl
  | q :: ts, v :: vs, tm, t, h => by
    simp only [parFr, look_app, Option.or_eq_none_iff, look] at h
    obtain ⟨h1, h2⟩ := h
    simp only [List.zip_cons_cons, List.foldl_cons]
    rw [parFr_keep ts vs _ t h1, Array.getElem?_setIfInBounds_ne]
    intro e
    rw [if_pos e.symm] at h2; cases h2
section
variable {C : Ctx} {loc : Loc} {ph : List PH} {m : PH} {W : World}
theorem HR.put_other (h : HR C loc [] ph m W) (loc' : Loc) {l : Nat} (o : Obj) (h1 : m l = none) (h2 : ∀ u ∈ ph, u l = none) (h3 : C.w0.heap.size ≤ l) : HR C loc' [] ph m (W.putObj l o) := by
  have hne : ∀ {u : PH} {b : Nat} {o' : Obj}, u l = none → u b = some o' → b ≠ l := fun hu hb e => by rw [e, hu] at hb; cases hb
  refine ⟨?_, (fun k y hk => by cases hk), (fun k k' y y' b o c o' c' hk => by cases hk), (fun k y b o c hk => by cases hk), fun b o' hb => ?_, h.mmine, fun u hu => ⟨fun b o' hb => ?_, (h.phs u hu).2⟩⟩
  · obtain ⟨k1, k2, k3, k4, k5⟩ := h.kept
    exact ⟨k1, k2, k3, by rw [World.putObj_size]; exact k4, fun k hk hn => by rw [World.putObj_heap_other (by omega)]; exact k5 k hk hn⟩
  · rw [World.putObj_heap_other (hne h1 hb)]; exact h.mle b o' hb
  · rw [World.putObj_heap_other (hne (h2 u hu) hb)]; exact (h.phs u hu).1 b o' hb
theorem HR.grown (h : HR C loc [] ph m W) {W' : World} (hk : Kept PH.no W W') : HR C loc [] ph m W' :=
  (h.after (m := m) (m1 := PH.no) (mr := m) (m' := PH.no) (uni_no _).symm (dis_no _) (fun b o hb => by cases hb) (fun b hb => absurd rfl hb) hk).2.2.1
theorem HR.add (h : HR C loc [] ph m W) {D : Nat} {o : Obj} (hD : W.heap[D]? = some o) (h1 : m D = none) (h2 : C.w0.heap.size ≤ D) : HR C loc [] (one D o :: ph) m W := by
  refine ⟨h.kept, (fun k y hk => by cases hk), (fun k k' y y' b o c o' c' hk => by cases hk), (fun k y b o c hk => by cases hk), h.mle, h.mmine, fun u hu => ?_⟩
  rcases List.mem_cons.1 hu with rfl | hu
  · refine ⟨fun b o' hb => ?_, fun b hb => ?_⟩
    · simp only [one] at hb
      split at hb
      · rename_i e; subst e; cases hb; exact hD
      · cases hb
    · simp only [one] at hb
      split at hb
      · rename_i e; subst e; exact ⟨.inl h2, h1⟩
      · exact absurd rfl hb
  · exact h.phs u hu
end
def jumpOf : Exit → Option Code
  | .ret => some .ret
  | .exit id => some (.exit id)
  | _ => none

theorem raw_rounds {C : Ctx} {Q : QT} {fr : List (Nat × SV)} {ph0 : List PH} {m0 : PH} {code : Code} {t gf : Nat} {lb : List Value} {ui : PH} {encs : List (List Value)} (ns : List (Nat × Nat))
    (hc : code = .rangeFunc (.tmp t) (rfPs code) (rfAs code) (rfBd code)) (ht : look fr t = some (.g (.s (.func (.func gf) #[] lb.toArray)))) (eg : ∀ args w, (callFunc gf args).run C.P w = .ok (.enter gf args) w)
    (hfr : frG fr) (hui : ui ∈ ph0) (hit : Iter C.P gf lb ui encs) (hps : ∀ x ∈ encs, x.length = (rfPs code).size) (hone : ∀ x ∈ encs, ∀ v ∈ x, v.oneCell' = true) (hpb : ∀ t ∈ (rfPs code).toList, t < C.N)
    (cA cB : Cd) (hA : comp C.P C.N ns (rfAs code) = er cA) (hA1 : noRaw cA = true) (hA2 : plainC (rfAs code) = true) (hB : comp C.P C.N ns (rfBd code) = er cB) (hB1 : noRaw cB = true) (hB2 : plainC (rfBd code) = true)
    (fr1 : Nat → List (Nat × SV)) (hfr1 : ∀ i, frG (fr1 i)) (I : Nat → List PH → PH → Prop) (Ix : Exit → List PH → PH → Prop) (h0 : I 0 ph0 m0)
    (hasg : ∀ i x (w' : World) (m' : PH) ph m, encs[i]? = some x → vc ⟨C.P, C.N, w', m'⟩ cA (asgQ ph m (fr1 i)) ⟨parFr (rfPs code).toList x ++ fr, [], ph, m⟩)
    (hbody : ∀ i x (w' : World) (m' : PH) ph m, encs[i]? = some x → (∀ b o, C.u0 b = some o → (⟨C.P, C.N, w', m'⟩ : Ctx).u0 b = some o) → (∀ u ∈ ph0, u ∈ ph) → I i ph m → vc ⟨C.P, C.N, w', m'⟩ cB (bodyQ ⟨fr, [], ph0, m0⟩ (I (i + 1)) Ix) ⟨fr1 i, [], ph, m⟩)
    (hdone : ∀ u ph m, (∀ u ∈ ph0, u ∈ ph) → I encs.length ph m → Q .normal ⟨fr, [], u :: ph, m⟩)
    (hstop : ∀ e c u ph m, jumpOf e = some c → (∀ u ∈ ph0, u ∈ ph) → Ix e ph m → Q e ⟨fr, [], u :: ph, m⟩) : vc C (.raw code) Q ⟨fr, [], ph0, m0⟩ := by
  intro act w hR
  obtain ⟨loc, hF, hH⟩ := hR
  have hev : act.eval (.tmp t) = .func (.func gf) #[] lb.toArray := by
    obtain ⟨v, hv, hr⟩ := hF.slots t _ ht
    obtain ⟨_, rfl⟩ := hr
    simp [Act.eval, hv, GV.val]
  rw [hc]
  refine (wpIn_wide (n := 0)).1 (wpIn_rangeFunc ?_)
  intro fn _
  generalize hpsE : rfPs code = ps at *
  generalize hasE : rfAs code = assign at *
  generalize hbdE : rfBd code = body at *
  obtain ⟨rec, hrec⟩ : ∃ rec : LoopState → Option Code → Loop, rec = fun st pe => { state := st, pending := pe, fn, tmps := act.tmps, params := ps, assign, body, defers := w.heap.size } := ⟨_, rfl⟩
  obtain ⟨W1, hW1⟩ : ∃ W1, (w.alloc (.deferred (some []))).alloc (.loop (rec .ready none)) = W1 := ⟨_, rfl⟩
  have hk1 : Kept PH.no w W1 := by rw [← hW1]; exact kept_trans (kept_alloc _ _) (kept_alloc _ _)
  have hsz : W1.heap.size = w.heap.size + 2 := by rw [← hW1, World.size_alloc, World.size_alloc]
  have hL1 : W1.heap[w.heap.size + 1]? = some (.loop (rec .ready none)) := by
    rw [← hW1]; have := World.alloc_heap_new (w.alloc (.deferred (some []))) (.loop (rec .ready none)); rwa [World.size_alloc] at this
  have hK1 : W1.heap[w.heap.size]? = some (.deferred (some [])) := by
    rw [← hW1]
    have h2 := (kept_alloc (w.alloc (.deferred (some []))) (.loop (rec .ready none))).2.2.2.2 w.heap.size (by rw [World.size_alloc]; omega) rfl
    rw [h2]
    exact World.alloc_heap_new w _
  have hw0 : C.w0.heap.size ≤ w.heap.size := hH.kept.2.2.2.1
  obtain ⟨l, hl⟩ : ∃ l, w.heap.size + 1 = l := ⟨_, rfl⟩
  obtain ⟨D, hD⟩ : ∃ D, w.heap.size = D := ⟨_, rfl⟩
  -- what stands between two rounds
  obtain ⟨J, hJ⟩ : ∃ J : Nat → World → Prop, J = fun i W => ∃ ph m, (∀ u ∈ ph0, u ∈ ph) ∧ I i ph m ∧ HR C loc [] ph m W ∧ (m l = none ∧ ∀ u ∈ ph, u l = none) ∧ (m D = none ∧ ∀ u ∈ ph, u D = none) ∧ W.heap[l]? = some (.loop (rec .ready none)) ∧ W.heap[D]? = some (.deferred (some [])) := ⟨_, rfl⟩
  obtain ⟨Jx, hJx⟩ : ∃ Jx : World → Prop, Jx = fun W => ∃ e c ph m, jumpOf e = some c ∧ (∀ u ∈ ph0, u ∈ ph) ∧ Ix e ph m ∧ HR C loc [] ph m W ∧ (m l = none ∧ ∀ u ∈ ph, u l = none) ∧ (m D = none ∧ ∀ u ∈ ph, u D = none) ∧ W.heap[l]? = some (.loop (rec .done (some c))) ∧ W.heap[D]? = some (.deferred (some [])) := ⟨_, rfl⟩
  have hlD : l ≠ D := by omega
  have fresh : ∀ {b : Nat}, w.heap.size ≤ b → m0 b = none ∧ ∀ u ∈ ph0, u b = none := fun {b} hb => by
    have hn : w.heap[b]? = none := Array.getElem?_eq_none hb
    refine ⟨?_, fun u hu => ?_⟩
    · cases hm : m0 b with
      | none => rfl
      | some o => have := hH.mle b o hm; rw [hn] at this; cases this
    · cases hm : u b with
      | none => rfl
      | some o => have := (hH.phs u hu).1 b o hm; rw [hn] at this; cases this
  have kept_at : ∀ {W W' : World} {k : Nat} {o : Obj}, Kept PH.no W W' → W.heap[k]? = some o → W'.heap[k]? = some o := fun {W W' k o} hk h => by
    rw [hk.2.2.2.2 k (Array.getElem?_eq_some_iff.1 h).1 rfl]; exact h
  refine ⟨w.heap.size + 1, [{ target := .collected w.heap.size, args := #[] }], W1, { target := .fn (.func gf) lb.toArray, args := #[.func (.yield (w.heap.size + 1)) #[] #[]] }, W1, gf,
    #[.func (.yield (w.heap.size + 1)) #[] #[]] ++ lb.toArray, W1, ?_, ?_, ?_, ?_, (fun h => by cases h), ?_⟩
  · rw [← hW1, hrec]; exact run_enterLoop_outer _ _ _ _ _
  · simp only [resolve, hev]
    simp [go_sem]
  · intro f' _; trivial
  · simp [invoke, go_sem, eg]
  rw [hl, hD]
  rw [hl] at hL1
  rw [hD] at hK1
  refine (hit l J Jx W1 ?_ ?_ ?_ ?_ ?_).mono ?_
  · exact fun b o hb => kept_at hk1 ((hH.phs ui hui).1 b o hb)
  · intro i W W' h hk
    rw [hJ] at h ⊢
    obtain ⟨ph, m, q1, q2, q3, q4, q5, q6, q7⟩ := h
    exact ⟨ph, m, q1, q2, q3.grown hk, q4, q5, kept_at hk q6, kept_at hk q7⟩
  · intro W W' h hk
    rw [hJx] at h ⊢
    obtain ⟨e, c, ph, m, q0, q1, q2, q3, q4, q5, q6, q7⟩ := h
    exact ⟨e, c, ph, m, q0, q1, q2, q3.grown hk, q4, q5, kept_at hk q6, kept_at hk q7⟩
  · -- one round
    intro i x W hx h
    rw [hJ] at h
    obtain ⟨ph, m, q1, q2, q3, q4, q5, q6, q7⟩ := h
    have hxm : x ∈ encs := List.mem_of_getElem? hx
    have hy := run_yield (P := C.P) (args := x.toArray) q6 (by rw [hrec]; simpa using hps x hxm)
    rw [hrec] at hy
    refine ⟨fn, _, assign, body, hy, roundIn_of_wpIn trivial ?_⟩
    have htm : (ps.zip x.toArray).foldl (fun tmps (t, a) => tmps.setIfInBounds t a) act.tmps = (ps.toList.zip x).foldl (fun tm (p : Tmp × Value) => tm.setIfInBounds p.1 p.2) act.tmps := by
      rw [← Array.foldl_toList, Array.toList_zip]
    rw [htm]
    have hF0 : FR loc C.N (parFr ps.toList x ++ fr) [] ph { tmps := (ps.toList.zip x).foldl (fun tm (p : Tmp × Value) => tm.setIfInBounds p.1 p.2) act.tmps, defers := [] } := by
      refine ⟨Marks.nil _, by simp only; rw [foldl_size]; exact hF.size, fun t y hy => ?_⟩
      rw [look_app] at hy
      cases h1 : look (parFr ps.toList x) t with
      | some z =>
        rw [h1] at hy
        simp only [Option.some_or, Option.some.injEq] at hy
        subst hy
        obtain ⟨v, rfl, hv, hval⟩ := parFr_slot ps.toList x act.tmps (fun t ht => by rw [hF.size]; exact hpb t ht) t z h1
        exact ⟨v, hval, hone x hxm v hv, rfl⟩
      | none =>
        rw [h1] at hy
        simp only [Option.none_or] at hy
        obtain ⟨g, rfl⟩ := hfr t y hy
        obtain ⟨v, hv, hr⟩ := hF.slots t _ hy
        exact ⟨v, by simp only; rw [parFr_keep _ _ _ _ h1]; exact hv, hr⟩
    have hA' := vc_sound_round (C := cx C ph m W) ns (some l) cA assign (asgQ ph m (fr1 i)) ⟨parFr ps.toList x ++ fr, [], ph, m⟩ _ W hA hA1 hA2 asgQ_ok (hasg i x W (baseOf ph m W) ph m hx) ⟨loc, hF0, q3.rebase loc⟩
    refine wpIn_mono hA' fun e a1 W1' hq => ?_
    obtain ⟨σ1, hq1, loc1, hF1, hH1⟩ := hq
    cases e with
    | normal =>
      obtain ⟨e1, e2, e3⟩ := hq1
      rw [e1, e2] at hH1
      have h2 : HR C loc [] ph m W1' := q3.unbase hH1
      have hl2 := (q3.rebase loc).other hH1 q6 q4.1 q4.2
      have hd2 := (q3.rebase loc).other hH1 q7 q5.1 q5.2
      refine ⟨_, run_beginRound hl2 (by rw [hrec]), ?_⟩
      have hlt2 : l < W1'.heap.size := (Array.getElem?_eq_some_iff.1 hl2).1
      have h3 := h2.put_other loc (.loop { rec .ready none with state := .busy }) q4.1 q4.2 (by omega)
      have hl3 : (W1'.putObj l (.loop { rec .ready none with state := .busy })).heap[l]? = some (.loop { rec .ready none with state := .busy }) := World.putObj_heap_same hlt2
      have hd3 : (W1'.putObj l (.loop { rec .ready none with state := .busy })).heap[D]? = some (.deferred (some [])) := (World.putObj_heap_other (Ne.symm hlD)).trans hd2
      generalize W1'.putObj l (.loop { rec .ready none with state := .busy }) = W2 at h3 hl3 hd3 ⊢
      have hFb : FR loc C.N (fr1 i) [] ph a1 := by
        refine ⟨by have := hF1.defers; rwa [e1] at this, hF1.size, fun t y hy => ?_⟩
        obtain ⟨g, rfl⟩ := hfr1 i t y hy
        exact hF1.slots t _ (e3 t _ hy)
      have hBq := vc_sound_round (C := cx C ph m W2) ns (some l) cB body (bodyQ ⟨fr, [], ph0, m0⟩ (I (i + 1)) Ix) ⟨fr1 i, [], ph, m⟩ a1 W2 hB hB1 hB2 bodyQ_ok (hbody i x W2 (baseOf ph m W2) ph m hx h3.u0_up q1 q2) ⟨loc, hFb, h3.rebase loc⟩
      refine wpIn_mono hBq fun e a3 W3 hq => ?_
      obtain ⟨τ, hq3, loc3, hF3, hH3⟩ := hq
      have hl4 := (h3.rebase loc).other hH3 hl3 q4.1 q4.2
      have hd4 := (h3.rebase loc).other hH3 hd3 q5.1 q5.2
      have hap := h3.apart' hH3 (Array.getElem?_eq_some_iff.1 hl3).1 q4.1 q4.2
      have hapD := h3.apart' hH3 (Array.getElem?_eq_some_iff.1 hd3).1 q5.1 q5.2
      have h5 : HR C loc [] τ.ph τ.m W3 := h3.unbase hH3
      have hlt4 : l < W3.heap.size := (Array.getElem?_eq_some_iff.1 hl4).1
      have stop : ∀ (e : Exit) (c : Code), jumpOf e = some c → (∀ u ∈ ph0, u ∈ τ.ph) → Ix e τ.ph τ.m → ∃ v w', (Instr.endRound l (some c)).run C.P W3 = .ok v w' ∧ ((Ending.returned v = .returned (.bool true) ∧ J (i + 1) w' ∧ ui.le w') ∨ (Ending.returned v = .returned (.bool false) ∧ Jx w')) := fun e c hj g1 g2 => by
        refine ⟨_, _, run_endRound (some c) hl4, .inr ⟨rfl, ?_⟩⟩
        rw [hJx]
        refine ⟨e, c, τ.ph, τ.m, hj, g1, g2, h5.put_other loc _ hap.1 hap.2 (by omega), hap, hapD, ?_, (World.putObj_heap_other (Ne.symm hlD)).trans hd4⟩
        rw [World.putObj_heap_same hlt4, hrec]
        rfl
      cases e with
      | normal =>
        obtain ⟨g1, g2⟩ := hq3
        refine ⟨_, _, run_endRound none hl4, .inl ⟨rfl, ?_, ?_⟩⟩
        · rw [hJ]
          refine ⟨τ.ph, τ.m, g1, g2, h5.put_other loc _ hap.1 hap.2 (by omega), hap, hapD, ?_, (World.putObj_heap_other (Ne.symm hlD)).trans hd4⟩
          rw [World.putObj_heap_same hlt4, hrec]
          rfl
        · exact ((h5.put_other loc _ hap.1 hap.2 (by omega)).phs ui (g1 ui hui)).1
      | ret => exact stop .ret .ret rfl hq3.1 hq3.2
      | exit id => exact stop (.exit id) (.exit id) rfl hq3.1 hq3.2
      | goto l => exact hq3.elim
      | panic c => exact hq3.elim
      | outgrown => exact hq3.elim
    | _ => exact hq1.elim
  · rw [hJ]
    exact ⟨ph0, m0, fun _ h => h, h0, hH.grown hk1, fresh (by omega), fresh (by omega), hL1, hK1⟩
  · have mark : ∀ {ph : List PH} {m : PH} {W : World} {o : Obj}, (∀ u ∈ ph0, u ∈ ph) → HR C loc [] ph m W → (m l = none ∧ ∀ u ∈ ph, u l = none) → (m D = none ∧ ∀ u ∈ ph, u D = none) → W.heap[D]? = some (.deferred (some [])) →
        Rel C ⟨fr, [], one D (.deferred (some [])) :: ph, m⟩ { act with defers := [{ target := .collected D, args := #[] }] ++ act.defers } (W.putObj l o) := by
      intro ph m W o g1 g2 g3 g4 g5
      have hp := hF.plain (loc' := loc) (pv' := []) (ph' := one D (.deferred (some [])) :: ph) hfr (fun u hu => List.mem_cons_of_mem _ (g1 u hu))
      refine ⟨loc, ⟨⟨List.pairwise_cons.2 ⟨fun d hd => ?_, hF.defers.1⟩, fun d hd => ?_⟩, hp.size, hp.slots⟩, (g2.put_other loc o g3.1 g3.2 (by omega)).add ((World.putObj_heap_other (Ne.symm hlD)).trans g5) g4.1 (by omega)⟩
      · obtain ⟨D', u, h1, h2, h3⟩ := hF.defers.2 d hd
        rw [h1]
        intro e
        have e : D = D' := by simpa using e
        have := (fresh (b := D') (by omega)).2 u h2
        rw [h3] at this; cases this
      · rcases List.mem_cons.1 hd with rfl | hd
        · exact ⟨D, one D (.deferred (some [])), rfl, by simp, by simp [one]⟩
        · exact hp.defers.2 d hd
    rintro e W2 ⟨⟨v, rfl⟩, (h | h)⟩
    · rw [hJ] at h
      obtain ⟨ph, m, q1, q2, q3, q4, q5, q6, q7⟩ := h
      refine ⟨none, _, (by have := run_endLoop (P := C.P) q6 (by rw [hrec]; simp); rw [hrec] at this; exact this), ?_⟩
      exact ⟨_, hdone _ ph m q1 q2, mark q1 q3 q4 q5 q7⟩
    · rw [hJx] at h
      obtain ⟨e, c, ph, m, q0, q1, q2, q3, q4, q5, q6, q7⟩ := h
      refine ⟨some c, _, (by have := run_endLoop (P := C.P) q6 (by rw [hrec]; simp); rw [hrec] at this; exact this), ?_⟩
      cases e with
      | ret => cases q0; exact wpIn_ret ⟨_, hstop .ret _ _ ph m rfl q1 q2, mark q1 q3 q4 q5 q7⟩
      | exit id => cases q0; exact wpIn_exit ⟨_, hstop (.exit id) _ _ ph m rfl q1 q2, mark q1 q3 q4 q5 q7⟩
      | _ => cases q0
end Go.Proofs.Ytdpknchgoeboaaa.Vc

/- Pieces of an iterator: code by its resolved form; a piece from a fresh beginning; a region that asks for a round. -/
set_option linter.unusedVariables false
set_option linter.unusedSimpArgs false
namespace Go.Proofs.Ytdpknchgoeboaaa.Vc
open Go Go.Shelf

section
variable {P : Program} {N : Nat} {ns : List (Nat × Nat)} {code : Code}
theorem comp_seq {x y : Cd} (h : comp P N ns code = .seq x y) : ∃ a b, code = .seq a b ∧ comp P N ns a = x ∧ comp P N ns b = y := by
  cases code <;> simp only [comp] at h <;> (try split at h) <;> first | (cases h; done) | (exact (noRegion h (by intros; simp) (by intros; simp) (by intros; simp) (by intros; simp)).elim) | skip
  simp only [Cd.seq.injEq] at h
  exact ⟨_, _, rfl, h.1, h.2⟩
theorem comp_ite {c : Opd} {x y : Cd} (h : comp P N ns code = .ite c x y) : ∃ c' a b, code = .cond c' a b ∧ cOpd c' = some c ∧ comp P N ns a = x ∧ comp P N ns b = y := by
  cases code <;> simp only [comp] at h <;> (try split at h) <;> first | (cases h; done) | (exact (noRegion h (by intros; simp) (by intros; simp) (by intros; simp) (by intros; simp)).elim) | skip
  rename_i hc
  simp only [Cd.ite.injEq] at h
  obtain ⟨rfl, h1, h2⟩ := h
  exact ⟨_, _, _, rfl, hc, h1, h2⟩
theorem comp_block {id : Nat} {x : Cd} (h : comp P N ns code = .block id x) : ∃ a, code = .block id a ∧ comp P N ns a = x := by
  cases code <;> simp only [comp] at h <;> (try split at h) <;> first | (cases h; done) | (exact (noRegion h (by intros; simp) (by intros; simp) (by intros; simp) (by intros; simp)).elim) | skip
  simp only [Cd.block.injEq] at h
  obtain ⟨rfl, h1⟩ := h
  exact ⟨_, rfl, h1⟩
theorem comp_loop {x : Cd} (h : comp P N ns code = .loop x) : ∃ a, code = .loop a ∧ comp P N ns a = x := by
  cases code <;> simp only [comp] at h <;> (try split at h) <;> first | (cases h; done) | (exact (noRegion h (by intros; simp) (by intros; simp) (by intros; simp) (by intros; simp)).elim) | skip
  simp only [Cd.loop.injEq] at h
  exact ⟨_, rfl, h⟩
theorem comp_rg {s : List Seg} {k : List Nat} (h : comp P N ns code = .rg s k) : ∃ id ops, code = .region id ops false ∧ ops.all (dstOk N) = true ∧ ops.all (guardOk ops) = true ∧ cSegs P ops ops.toList = s := by
  cases code <;> simp only [comp] at h <;> (try split at h) <;> first | (cases h; done) | skip
  rename_i id ops draw
  rcases compR_cases P N ns id ops draw with ⟨rfl, hd, hg, e⟩ | ⟨n, _, _, _, _, _, e⟩ | ⟨_, _, _, _, _, e⟩ | ⟨_, _, _, _, _, _, e⟩ | e
  · rw [e] at h
    simp only [Cd.rg.injEq] at h
    exact ⟨id, ops, rfl, hd, hg, h.1⟩
  all_goals (rw [e] at h; cases h)
end

/-- What an activation's slots hold: plain values; nothing is deferred. -/
structure Slots (N : Nat) (fr : List (Nat × SV)) (a : Act) : Prop where
  defers : a.defers = []
  size : a.tmps.size = N
  at' : ∀ t x, look fr t = some x → ∃ g, x = .g g ∧ GV.ok g ∧ a.tmps[t]? = some g.val
abbrev cw (P : Program) (N : Nat) (w : World) : Ctx := ⟨P, N, w, PH.no⟩
theorem Slots.rel {P : Program} {N : Nat} {fr : List (Nat × SV)} {a : Act} (h : Slots N fr a) (w : World) : Rel (cw P N w) ⟨fr, [], [], PH.no⟩ a w := by
  refine ⟨fun _ => none, ⟨by rw [h.defers]; exact Marks.nil _, h.size, fun t x hx => ?_⟩, ⟨Kept.refl _ _, (fun k y hk => by cases hk), (fun k k' y y' b o c o' c' hk => by cases hk), (fun k y b o c hk => by cases hk), (fun b o hb => by cases hb), (fun b hb => absurd rfl hb), fun u hu => by cases hu⟩⟩
  obtain ⟨g, rfl, h1, h2⟩ := h.at' t x hx
  exact ⟨_, h2, h1, rfl⟩
/-- How a piece ends: plain slots, and nothing that was there has changed. -/
def pieceQ (R : Exit → List (Nat × SV) → Prop) : QT := fun e τ => (e = .normal ∨ e = .ret ∨ ∃ id, e = .exit id) ∧ τ.ph = [] ∧ ∃ fr, frG fr ∧ R e fr ∧ ∀ t x, look fr t = some x → look τ.fr t = some x
theorem pieceQ_ok {R : Exit → List (Nat × SV) → Prop} : QOk (pieceQ R) := fun σ h => by
  rcases h.1 with h | h | ⟨id, h⟩ <;> cases h
theorem Rel.slots {P : Program} {N : Nat} {w : World} {τ : SS} {a : Act} {w' : World} (h : Rel (cw P N w) τ a w') (hp : τ.ph = []) {fr : List (Nat × SV)} (hg : frG fr) (hs : ∀ t x, look fr t = some x → look τ.fr t = some x) : Slots N fr a ∧ Kept PH.no w w' := by
  obtain ⟨loc, hF, hH⟩ := h
  refine ⟨⟨?_, hF.size, fun t x hx => ?_⟩, hH.kept⟩
  · cases hd : a.defers with
    | nil => rfl
    | cons d ds =>
      obtain ⟨D, u, _, hu, _⟩ := hF.defers.2 d (by rw [hd]; simp)
      rw [hp] at hu; cases hu
  · obtain ⟨g, rfl⟩ := hg t x hx
    obtain ⟨v, hv, h1, h2⟩ := hF.slots t _ (hs t _ hx)
    exact ⟨g, rfl, h1, by rw [hv, h2]⟩
/-- A piece of code from a fresh beginning. -/
theorem piece {P : Program} {N : Nat} {ns : List (Nat × Nat)} {cd : Cd} {code : Code} {fr : List (Nat × SV)} {a : Act} {w : World} {R : Exit → List (Nat × SV) → Prop} {Q : Exit → Act → World → Prop} (hc : comp P N ns code = er cd) (hn : noRaw cd = true) (hp : plainC code = true)
    (hs : Slots N fr a) (h : vc (cw P N w) cd (pieceQ R) ⟨fr, [], [], PH.no⟩) (hQ : ∀ e fr' a' w', R e fr' → Slots N fr' a' → Kept PH.no w w' → (e = .normal ∨ e = .ret ∨ ∃ id, e = .exit id) → Q e a' w') : code.wpIn (fenceR none) 0 P Q a w := by
  refine wpIn_mono (vc_sound_round (C := cw P N w) ns none cd code (pieceQ R) ⟨fr, [], [], PH.no⟩ a w hc hn hp pieceQ_ok h (hs.rel w)) fun e a' w' hq => ?_
  obtain ⟨τ, ⟨he, hph, fr', hg, hR, hl⟩, hrel⟩ := hq
  obtain ⟨h1, h2⟩ := hrel.slots hph hg hl
  exact hQ e fr' a' w' hR h1 h2 he
end Go.Proofs.Ytdpknchgoeboaaa.Vc

/- A region that asks for a round: what stands before the call, the call of yield, what stands behind it. -/
set_option linter.unusedVariables false
set_option linter.unusedSimpArgs false
namespace Go.Proofs.Ytdpknchgoeboaaa.Vc
open Go Go.Shelf

theorem listIn_app {P : Program} {ops : Array Oper} {Q1 Q : Exit → Act → World → Prop} (ro : Option Nat) {L2 : List Oper} (hlet : ∀ a w, ¬ Q1 .outgrown a w) (hpan : ∀ c a w, ¬ Q1 (.panic c) a w) (hK : ∀ a w, Q1 .normal a w → wpListIn (fenceR ro) 0 P ops Q L2 a w) :
    ∀ (L1 : List Oper) (a : Act) (w : World), (∀ o ∈ L1, plainO o = true) → wpList P ops Q1 L1 a w → wpListIn (fenceR ro) 0 P ops Q (L1 ++ L2) a w
  | [], a, w, _, h => hK a w h
  | o :: L, a, w, hp, h => by
    have ih := fun (a : Act) (w : World) => listIn_app (P := P) (ops := ops) (Q1 := Q1) (Q := Q) ro hlet hpan hK L a w (fun o ho => hp o (List.mem_cons_of_mem _ ho))
    have hno : ∀ c, o.op ≠ .defer c := fun c e => by
      have := hp o (by simp)
      rw [plainO, e] at this; cases this
    have hl : ¬ LetsOut Q1 := fun ⟨a, w, h⟩ => hlet a w h
    unfold wpList at h
    rw [List.cons_append]
    unfold wpListIn
    by_cases hw : Region.wanted o (yielded ops a.tmps) = true
    · rw [if_pos hw] at h ⊢
      rcases h with h | ⟨_, h⟩
      · refine ⟨fun _ _ => trivial, ?_⟩
        have hsem : o.semAt ro a.eval = execOp a.eval o := semAt_plain ro _ o hno
        rw [hsem]
        unfold Oper.wp at h
        generalize (execOp a.eval o).run P w = r at h ⊢
        cases r with
        | ok x w' =>
          cases x with
          | value v => exact ih _ _ h
          | skip => exact ih _ _ h
          | defer d => exact ih _ _ h
          | enter f args =>
            refine ⟨(fun h => by cases h), ((callsR ro _).2 h).mono fun e w2 he => ?_⟩
            cases e with
            | returned v => exact ih _ _ he
            | panicked ch => exact absurd he (hpan _ _ _)
            | outgrown => exact absurd he hl
          | row row args =>
            refine ⟨(fun h => by cases h), fun c cs _ => ?_⟩
            obtain ⟨v, w2, h1, h2⟩ := h c cs
            exact ⟨v, w2, ih _ _ h1, stepsIn_wide.2 h2⟩
          | _ => exact h.elim
        | halt x w' =>
          cases x with
          | panic v => exact absurd h (hpan _ _ _)
          | _ => exact h.elim
      · exact absurd h hl
    · rw [if_neg hw] at h ⊢
      exact ⟨fun _ _ => trivial, ih _ _ h⟩

/-- The region. n: where the call of yield stands; d: its slot. -/
theorem yield_reg {P : Program} {N : Nat} {id : Nat} {ops : Array Oper} {Q : Exit → Act → World → Prop} {C : Ctx} (hCP : C.P = P) (hCN : C.N = N) (hd : ops.all (dstOk N) = true) (hg : ops.all (guardOk ops) = true) (hpl : ops.all plainO = true)
    (n d tx l : Nat) (o : Oper) (c : Call) (hn : ops.toList.drop n = o :: ops.toList.drop (n + 1)) (hoc : o.op = .call c) (hog : o.guard = none) (hod : o.dst = some d) (hcc : c.callee = .value (.tmp tx))
    (s1 s2 : List Seg) (h1 : cSegs P ops (ops.toList.take n) = s1.map erSeg) (h2 : cSegs P ops (ops.toList.drop (n + 1)) = s2.map erSeg)
    {σ : SS} {a : Act} {w : World} (hR : Rel C σ a w) (K1 : SS → Prop) (hK1 : vcSegs C s1 K1 σ)
    (hY : ∀ τ a w, K1 τ → Rel C τ a w → a.eval (.tmp tx) = .func (.yield l) #[] #[] ∧ YieldAt Fence.wide 0 P l (c.args.map a.eval) w fun e w2 => ∃ b, e = .returned (.bool b) ∧ ∃ (fr : List (Nat × SV)) (Q2 : SS → Prop), Slots N fr (a.put (some d) (.bool b)) ∧ vcSegs (cw P N w2) s2 Q2 ⟨fr, [], [], PH.no⟩ ∧ ∀ τ2 a2 w3, Q2 τ2 → Rel (cw P N w2) τ2 a2 w3 → Q .normal a2 w3) :
    (Code.region id ops false).wpIn (fenceR none) 0 P Q a w := by
  subst hCP; subst hCN
  simp only [Array.all_eq_true_iff_forall_mem] at hd hg hpl
  have hmem : ∀ (l : List Oper), (∀ o ∈ l, o ∈ ops.toList) → ∀ x ∈ grp ops l, ∀ o ∈ x.2, gOf ops o = x.1 ∧ dstOk C.N o = true ∧ guardOk ops o = true := fun l hl x hx o ho => by
    obtain ⟨h1, h2⟩ := grp_mem ops l x hx o ho
    have := hl o h2
    exact ⟨h1, hd o (by simpa using this), hg o (by simpa using this)⟩
  refine wpIn_region_list ?_
  rw [← List.take_append_drop n ops.toList, hn]
  refine listIn_app (Q1 := fun e a w => e = .normal ∧ ∃ τ, K1 τ ∧ Rel C τ a w) none (fun a w h => by cases h.1) (fun c a w h => by cases h.1) ?_ _ a w (fun o ho => hpl o (by simpa using List.mem_of_mem_take ho)) ?_
  · rintro a1 w1 ⟨_, τ, hK, hR1⟩
    obtain ⟨hev, fn, tmps, assign, body, hy, hround⟩ := hY τ a1 w1 hK hR1
    unfold wpListIn
    rw [if_pos (by unfold Region.wanted; rw [hog])]
    have hrun : (execOp a1.eval o).run C.P w1 = .ok (.round l fn tmps assign body) w1 := by
      rw [← hy]
      unfold execOp
      rw [hoc]
      simp only [resolve, hcc, hev, Deferred.ofValue, Sem.run_bind, Sem.run_pure, Result.andThen, invoke]
      simp
    refine ⟨fun _ _ => trivial, ?_⟩
    rw [show o.semAt none a1.eval = execOp a1.eval o from rfl, hrun]
    refine ⟨(fun h => by cases h), hround.mono fun e w2 he => ?_⟩
    obtain ⟨b, rfl, fr, Q2, hS, hv, hQ2⟩ := he
    show wpListIn _ _ _ _ _ _ (a1.put o.dst (.bool b)) w2
    rw [hod]
    have hb : ∀ o' ∈ ops.toList.drop (n + 1), o' ∈ ops.toList := fun o' ho' => List.mem_of_mem_drop ho'
    have hs2 := segs_sound (C := cw C.P C.N w2) (ops := ops) (K := Q2) (Q := fun e a w => e = .normal ∧ ∃ τ, Q2 τ ∧ Rel (cw C.P C.N w2) τ a w) (fun σ' a' w' hK hR' => ⟨rfl, σ', hK, hR'⟩) s2 (grp ops (ops.toList.drop (n + 1))) ⟨fr, [], [], PH.no⟩ _ w2 h2 (hmem _ hb) (hS.rel w2) hv
    rw [grp_flat] at hs2
    have := listIn_app (Q := Q) (L2 := []) none (fun a w h => by cases h.1) (fun c a w h => by cases h.1) (fun a w h => by
      obtain ⟨_, τ2, q1, q2⟩ := h
      exact hQ2 τ2 a w q1 q2) _ _ w2 (fun o ho => hpl o (by simpa using hb o ho)) hs2
    rwa [List.append_nil] at this
  · have := segs_sound (C := C) (ops := ops) (K := K1) (Q := fun e a w => e = .normal ∧ ∃ τ, K1 τ ∧ Rel C τ a w) (fun σ' a' w' hK hR' => ⟨rfl, σ', hK, hR'⟩) s1 (grp ops (ops.toList.take n)) σ a w h1 (hmem _ fun o ho => List.mem_of_mem_take ho) hR hK1
    rwa [grp_flat] at this

/-! ### Parts of code -/
def atL : Code → Code
  | .seq a _ => a
  | .cond _ a _ => a
  | .block _ a => a
  | .loop a => a
  | c => c
def atR : Code → Code
  | .seq _ b => b
  | .cond _ _ b => b
  | c => c
def regOps : Code → Array Oper
  | .region _ ops _ => ops
  | _ => #[]
def regId : Code → Nat
  | .region id _ _ => id
  | _ => 0
end Go.Proofs.Ytdpknchgoeboaaa.Vc

/- What Walk answers is an iterator over the steps that it captured. -/
set_option linter.unusedVariables false
set_option linter.unusedSimpArgs false
set_option maxRecDepth 100000
namespace Go.Proofs.Ytdpknchgoeboaaa.Vc
open Go Go.Proofs Go.Shelf

def gStp (x : Int × Int) : GV := .c (.s (.int .i64 x.1)) (.c (.s (.int .i64 x.2)) .u)
def encStp (x : Int × Int) : List Value := [.int .i64 x.1, .int .i64 x.2]
noncomputable def w1W : Code := Try.f56.body.getD .skip
noncomputable def w1X : Code := atL (atL (atR w1W))
noncomputable def w1R : Code := atR (atR w1X)
noncomputable def w1S : Code := atL (atL w1R)
noncomputable def w1Y : Code := atL (atR w1S)
theorem w1_shape : w1W = .seq (atL w1W) (.block 0 (.loop (.seq (atL w1X) (.seq (.cond (.tmp 8) .skip (.exit 0)) (.seq (.block 1 (.seq (atL w1S) (.seq (.region (regId w1Y) (regOps w1Y) false) (.cond (.tmp 17) .ret .skip)))) (atR w1R)))))) := by kernel_rfl
theorem w1_ops : (regOps w1Y).all (dstOk 19) = true ∧ (regOps w1Y).all (guardOk (regOps w1Y)) = true ∧ (regOps w1Y).all plainO = true := ⟨by kernel_rfl, by kernel_rfl, by kernel_rfl⟩
noncomputable def w1o : Oper := ((regOps w1Y).toList[5]?).getD default
noncomputable def w1c : Call := match w1o.op with | .call c => c | _ => default
theorem w1_o : (regOps w1Y).toList.drop 5 = w1o :: (regOps w1Y).toList.drop 6 := by kernel_rfl
theorem w1_call : w1o.op = .call w1c ∧ w1o.guard = none ∧ w1o.dst = some 16 ∧ w1c.callee = .value (.tmp 11) ∧ w1c.args = #[.tmp 13, .tmp 15] := ⟨by kernel_rfl, by kernel_rfl, by kernel_rfl, by kernel_rfl, by kernel_rfl⟩

theorem slots_eval {N : Nat} {fr : List (Nat × SV)} {a : Act} (h : Slots N fr a) {t : Nat} {v : Value} (ht : look fr t = some (.g (.s v))) : a.eval (.tmp t) = v := by
  obtain ⟨g, e, _, h2⟩ := h.at' t _ ht
  cases e
  simp [Act.eval, h2, GV.val]
theorem frG_of {fr : List (Nat × SV)} (h : fr.all (fun p => match p.2 with | .g _ => true | _ => false) = true) : frG fr := by
  intro t x hx
  induction fr with
  | nil => simp [look] at hx
  | cons p fr ih =>
    obtain ⟨k, y⟩ := p
    simp only [List.all_cons, Bool.and_eq_true] at h
    simp only [look] at hx
    split at hx
    · cases hx
      cases x with
      | g x => exact ⟨x, rfl⟩
      | _ => simp at h
    · exact ih h.2 hx
/-- The slots at the head of the loop. -/
def hd1 (yv v : Value) (n i : Nat) : List (Nat × SV) := [(0, .g (.s yv)), (5, .g (.s v)), (6, .g (.s (.int .i64 (n)))), (7, .g (.s (.int .i64 (i))))]
theorem w1_c0 (w : World) (ui : PH) (hu : ui.le w) {b : Nat} {e : TypeId} {v yv : Value} {n : Nat} {a : Option Addr} {c : Nat} (hv : v = .slice a n c) (hb : ui b = some (.cells #[v] e (0, 0))) :
    vc (cw Try.prog 19 w) (.rg [⟨none, [(some 5, .ld (.t 1) 1 false), (some 6, .len (.t 5)), (some 7, .mv (.c (.int .i64 0)))]⟩] [0, 5, 6, 7]) (pieceQ fun e fr => e = .normal ∧ fr = hd1 yv v n 0) ⟨[(0, .g (.s yv)), (1, .g (.s (.pointer (some ⟨b, 0, none⟩))))], [], [], PH.no⟩ := by
  have hk : ∀ {l : List PH}, KN (⟨Try.prog, 19, w, PH.no⟩ : Ctx).u0 l ui := kn_u hu
  subst hv
  simp (maxSteps := 2000000) only [vc_skip, vc_ret, vc_exit, vc_seq, vc_block, vc_scope, scopeQ_n, scopeQ_r, scopeQ_e, vc_rg, vc_rgq, vc_rga, vc_ite, thenQ_n, thenQ_r, thenQ_e, blockQ_n, blockQ_r, blockQ_e, kKeep_eq, loopQ_r, loopQ_e, loopQ_n, finQ_r, finQ_n, segs_nil, segs_n, segs_g, ops_nil, ops_cons, qsegs_nil, qsegs_n, qsegs_g, qops_nil, qops_cons, ot_done, ot_op, ot_or, List.contains_cons, List.contains_nil, Bool.or_false, Bool.or_true, Bool.true_or, Bool.false_or, vcqOp, vcOp, isRd, RO.isGh, skip_mk, skipL, ev, evL, gvL, scL, look, updL, put_mk, put_mk0, keep_mk, keepL, rowE, rowD, bndN, binV, binC, unV, GV.getT, GV.fld, GV.sz, GV.same, GV.setT, Value.oneCell', cond_true, cond_false, Nat.reduceEqDiff, Nat.reduceAdd, Nat.reduceMul, Nat.reduceSub, Nat.reduceBEq, Nat.reduceLeDiff, ↓reduceIte, reduceCtorEq, List.nil_append, List.cons_append, List.append_nil, Nat.zero_add, Nat.add_zero, Bool.and_true, Bool.true_and, Bool.not_true, Bool.not_false, BEq.rfl, decide_true, decide_false, true_and, and_true, initF, initP, List.map_cons, List.map_nil, Option.map_some, szAll, List.length_cons, List.length_nil, finW_r, finW_n, resL, resOne, Option.bind_some, true_imp_iff, false_imp_iff, Bool.true_eq_false, Bool.false_eq_true, Int.toNat_natCast, Int.reduceToNat, Int.reduceLE, Int.reduceLT, Int.reduceAdd, Int.reduceSub, Int.reduceEq, decide_eq_true_eq, decide_eq_false_iff_not, kill, SV.mentions, ne_eq, not_false_eq_true, not_true_eq_false, List.drop_zero, List.take_succ_cons, List.take_zero, dOk, ↓br_tt, ↓br_ff, ↓br_tf, ↓br_ft, br_t, br_f, Bool.bne_false, Bool.bne_true, GV.bldT, GV.bldC, same_int, getT_nil, setT_nil, getD_gi, List.length_map, fits_s, fits_c, fits_ar, arr_ar, get_nil, gStamp_sz, gStamp_fits, gStamp_isS, gStamp_same, gStamp_fld0, gStamp_get0, gStamp_set0, gStamp_fld1, gStamp_get1, gStamp_set1, gStamp_zero, getD_gStamp, gOp_sz, gOp_fits, gOp_isS, gOp_same, gOp_fld0, gOp_get0, gOp_set0, gOp_fld1, gOp_get1, gOp_set1, gOp_fld2, gOp_get2, gOp_set2, gOp_fld3, gOp_get3, gOp_set3, gOp_fld4, gOp_get4, gOp_set4, gOp_fld5, gOp_get5, gOp_set5, gOp_fld6, gOp_get6, gOp_set6, gOp_zero, getD_gOp, gPlace_sz, gPlace_fits, gPlace_isS, gPlace_same, gPlace_fld0, gPlace_get0, gPlace_set0, gPlace_fld1, gPlace_get1, gPlace_set1, gPlace_zero, getD_gPlace, gUndo_sz, gUndo_fits, gUndo_isS, gUndo_same, gUndo_fld0, gUndo_get0, gUndo_set0, gUndo_fld1, gUndo_get1, gUndo_set1, gUndo_fld2, gUndo_get2, gUndo_set2, gUndo_fld3, gUndo_get3, gUndo_set3, gUndo_fld4, gUndo_get4, gUndo_set4, gUndo_zero, getD_gUndo, gTreeNode_sz, gTreeNode_fits, gTreeNode_isS, gTreeNode_same, gTreeNode_fld0, gTreeNode_get0, gTreeNode_set0, gTreeNode_fld1, gTreeNode_get1, gTreeNode_set1, gTreeNode_fld2, gTreeNode_get2, gTreeNode_set2, gTreeNode_fld3, gTreeNode_get3, gTreeNode_set3, gTreeNode_zero, getD_gTreeNode, gAttr_sz, gAttr_fits, gAttr_isS, gAttr_same, gAttr_fld0, gAttr_get0, gAttr_set0, gAttr_fld1, gAttr_get1, gAttr_set1, getD_gAttr, gChild_sz, gChild_fits, gChild_isS, gChild_same, gChild_fld0, gChild_get0, gChild_set0, gChild_fld1, gChild_get1, gChild_set1, gChild_zero, getD_gChild, ptr, nptr_some, nptr_none]
  refine ld_of (.s (.slice a n c)) (seen_c0 hk hb (j := 0) (v := .slice a n c) rfl rfl) rfl ?_
  simp (maxSteps := 2000000) only [vc_skip, vc_ret, vc_exit, vc_seq, vc_block, vc_scope, scopeQ_n, scopeQ_r, scopeQ_e, vc_rg, vc_rgq, vc_rga, vc_ite, thenQ_n, thenQ_r, thenQ_e, blockQ_n, blockQ_r, blockQ_e, kKeep_eq, loopQ_r, loopQ_e, loopQ_n, finQ_r, finQ_n, segs_nil, segs_n, segs_g, ops_nil, ops_cons, qsegs_nil, qsegs_n, qsegs_g, qops_nil, qops_cons, ot_done, ot_op, ot_or, List.contains_cons, List.contains_nil, Bool.or_false, Bool.or_true, Bool.true_or, Bool.false_or, vcqOp, vcOp, isRd, RO.isGh, skip_mk, skipL, ev, evL, gvL, scL, look, updL, put_mk, put_mk0, keep_mk, keepL, rowE, rowD, bndN, binV, binC, unV, GV.getT, GV.fld, GV.sz, GV.same, GV.setT, Value.oneCell', cond_true, cond_false, Nat.reduceEqDiff, Nat.reduceAdd, Nat.reduceMul, Nat.reduceSub, Nat.reduceBEq, Nat.reduceLeDiff, ↓reduceIte, reduceCtorEq, List.nil_append, List.cons_append, List.append_nil, Nat.zero_add, Nat.add_zero, Bool.and_true, Bool.true_and, Bool.not_true, Bool.not_false, BEq.rfl, decide_true, decide_false, true_and, and_true, initF, initP, List.map_cons, List.map_nil, Option.map_some, szAll, List.length_cons, List.length_nil, finW_r, finW_n, resL, resOne, Option.bind_some, true_imp_iff, false_imp_iff, Bool.true_eq_false, Bool.false_eq_true, Int.toNat_natCast, Int.reduceToNat, Int.reduceLE, Int.reduceLT, Int.reduceAdd, Int.reduceSub, Int.reduceEq, decide_eq_true_eq, decide_eq_false_iff_not, kill, SV.mentions, ne_eq, not_false_eq_true, not_true_eq_false, List.drop_zero, List.take_succ_cons, List.take_zero, dOk, ↓br_tt, ↓br_ff, ↓br_tf, ↓br_ft, br_t, br_f, Bool.bne_false, Bool.bne_true, GV.bldT, GV.bldC, same_int, getT_nil, setT_nil, getD_gi, List.length_map, fits_s, fits_c, fits_ar, arr_ar, get_nil, gStamp_sz, gStamp_fits, gStamp_isS, gStamp_same, gStamp_fld0, gStamp_get0, gStamp_set0, gStamp_fld1, gStamp_get1, gStamp_set1, gStamp_zero, getD_gStamp, gOp_sz, gOp_fits, gOp_isS, gOp_same, gOp_fld0, gOp_get0, gOp_set0, gOp_fld1, gOp_get1, gOp_set1, gOp_fld2, gOp_get2, gOp_set2, gOp_fld3, gOp_get3, gOp_set3, gOp_fld4, gOp_get4, gOp_set4, gOp_fld5, gOp_get5, gOp_set5, gOp_fld6, gOp_get6, gOp_set6, gOp_zero, getD_gOp, gPlace_sz, gPlace_fits, gPlace_isS, gPlace_same, gPlace_fld0, gPlace_get0, gPlace_set0, gPlace_fld1, gPlace_get1, gPlace_set1, gPlace_zero, getD_gPlace, gUndo_sz, gUndo_fits, gUndo_isS, gUndo_same, gUndo_fld0, gUndo_get0, gUndo_set0, gUndo_fld1, gUndo_get1, gUndo_set1, gUndo_fld2, gUndo_get2, gUndo_set2, gUndo_fld3, gUndo_get3, gUndo_set3, gUndo_fld4, gUndo_get4, gUndo_set4, gUndo_zero, getD_gUndo, gTreeNode_sz, gTreeNode_fits, gTreeNode_isS, gTreeNode_same, gTreeNode_fld0, gTreeNode_get0, gTreeNode_set0, gTreeNode_fld1, gTreeNode_get1, gTreeNode_set1, gTreeNode_fld2, gTreeNode_get2, gTreeNode_set2, gTreeNode_fld3, gTreeNode_get3, gTreeNode_set3, gTreeNode_zero, getD_gTreeNode, gAttr_sz, gAttr_fits, gAttr_isS, gAttr_same, gAttr_fld0, gAttr_get0, gAttr_set0, gAttr_fld1, gAttr_get1, gAttr_set1, getD_gAttr, gChild_sz, gChild_fits, gChild_isS, gChild_same, gChild_fld0, gChild_get0, gChild_set0, gChild_fld1, gChild_get1, gChild_set1, gChild_zero, getD_gChild, ptr, nptr_some, nptr_none]
  exact ⟨.inl rfl, rfl, hd1 yv (.slice a n c) n 0, frG_of rfl, ⟨rfl, rfl⟩, fun t x hx => by simpa [hd1] using hx⟩
theorem w1_cA (w : World) {v yv : Value} {n i : Nat} :
    vc (cw Try.prog 19 w) (.rg [⟨none, [(some 8, .bin .lss (.t 7) (.t 6))]⟩] [0, 5, 6, 7, 8]) (pieceQ fun e fr => e = .normal ∧ fr = (8, .g (.s (.bool (decide ((i : Int) < n))))) :: hd1 yv v n i) ⟨hd1 yv v n i, [], [], PH.no⟩ := by
  unfold hd1
  simp (maxSteps := 2000000) only [vc_skip, vc_ret, vc_exit, vc_seq, vc_block, vc_scope, scopeQ_n, scopeQ_r, scopeQ_e, vc_rg, vc_rgq, vc_rga, vc_ite, thenQ_n, thenQ_r, thenQ_e, blockQ_n, blockQ_r, blockQ_e, kKeep_eq, loopQ_r, loopQ_e, loopQ_n, finQ_r, finQ_n, segs_nil, segs_n, segs_g, ops_nil, ops_cons, qsegs_nil, qsegs_n, qsegs_g, qops_nil, qops_cons, ot_done, ot_op, ot_or, List.contains_cons, List.contains_nil, Bool.or_false, Bool.or_true, Bool.true_or, Bool.false_or, vcqOp, vcOp, isRd, RO.isGh, skip_mk, skipL, ev, evL, gvL, scL, look, updL, put_mk, put_mk0, keep_mk, keepL, rowE, rowD, bndN, binV, binC, unV, GV.getT, GV.fld, GV.sz, GV.same, GV.setT, Value.oneCell', cond_true, cond_false, Nat.reduceEqDiff, Nat.reduceAdd, Nat.reduceMul, Nat.reduceSub, Nat.reduceBEq, Nat.reduceLeDiff, ↓reduceIte, reduceCtorEq, List.nil_append, List.cons_append, List.append_nil, Nat.zero_add, Nat.add_zero, Bool.and_true, Bool.true_and, Bool.not_true, Bool.not_false, BEq.rfl, decide_true, decide_false, true_and, and_true, initF, initP, List.map_cons, List.map_nil, Option.map_some, szAll, List.length_cons, List.length_nil, finW_r, finW_n, resL, resOne, Option.bind_some, true_imp_iff, false_imp_iff, Bool.true_eq_false, Bool.false_eq_true, Int.toNat_natCast, Int.reduceToNat, Int.reduceLE, Int.reduceLT, Int.reduceAdd, Int.reduceSub, Int.reduceEq, decide_eq_true_eq, decide_eq_false_iff_not, kill, SV.mentions, ne_eq, not_false_eq_true, not_true_eq_false, List.drop_zero, List.take_succ_cons, List.take_zero, dOk, ↓br_tt, ↓br_ff, ↓br_tf, ↓br_ft, br_t, br_f, Bool.bne_false, Bool.bne_true, GV.bldT, GV.bldC, same_int, getT_nil, setT_nil, getD_gi, List.length_map, fits_s, fits_c, fits_ar, arr_ar, get_nil, gStamp_sz, gStamp_fits, gStamp_isS, gStamp_same, gStamp_fld0, gStamp_get0, gStamp_set0, gStamp_fld1, gStamp_get1, gStamp_set1, gStamp_zero, getD_gStamp, gOp_sz, gOp_fits, gOp_isS, gOp_same, gOp_fld0, gOp_get0, gOp_set0, gOp_fld1, gOp_get1, gOp_set1, gOp_fld2, gOp_get2, gOp_set2, gOp_fld3, gOp_get3, gOp_set3, gOp_fld4, gOp_get4, gOp_set4, gOp_fld5, gOp_get5, gOp_set5, gOp_fld6, gOp_get6, gOp_set6, gOp_zero, getD_gOp, gPlace_sz, gPlace_fits, gPlace_isS, gPlace_same, gPlace_fld0, gPlace_get0, gPlace_set0, gPlace_fld1, gPlace_get1, gPlace_set1, gPlace_zero, getD_gPlace, gUndo_sz, gUndo_fits, gUndo_isS, gUndo_same, gUndo_fld0, gUndo_get0, gUndo_set0, gUndo_fld1, gUndo_get1, gUndo_set1, gUndo_fld2, gUndo_get2, gUndo_set2, gUndo_fld3, gUndo_get3, gUndo_set3, gUndo_fld4, gUndo_get4, gUndo_set4, gUndo_zero, getD_gUndo, gTreeNode_sz, gTreeNode_fits, gTreeNode_isS, gTreeNode_same, gTreeNode_fld0, gTreeNode_get0, gTreeNode_set0, gTreeNode_fld1, gTreeNode_get1, gTreeNode_set1, gTreeNode_fld2, gTreeNode_get2, gTreeNode_set2, gTreeNode_fld3, gTreeNode_get3, gTreeNode_set3, gTreeNode_zero, getD_gTreeNode, gAttr_sz, gAttr_fits, gAttr_isS, gAttr_same, gAttr_fld0, gAttr_get0, gAttr_set0, gAttr_fld1, gAttr_get1, gAttr_set1, getD_gAttr, gChild_sz, gChild_fits, gChild_isS, gChild_same, gChild_fld0, gChild_get0, gChild_set0, gChild_fld1, gChild_get1, gChild_set1, gChild_zero, getD_gChild, ptr, nptr_some, nptr_none]
  exact ⟨.inl rfl, rfl, _, frG_of rfl, ⟨rfl, rfl⟩, fun t x hx => by
    simp only [look] at hx ⊢
    (repeat' split at hx) <;> simp_all⟩
theorem w1_cE (w : World) {v yv : Value} {n i : Nat} (hn : n ≤ 9223372036854775800) (hi : i < n) :
    vc (cw Try.prog 19 w) (.rg [⟨none, [(some 18, .bin .add (.t 7) (.c (.int .i64 1))), (some 7, .mv (.t 18))]⟩] [0, 5, 6, 7]) (pieceQ fun e fr => e = .normal ∧ fr = hd1 yv v n (i + 1)) ⟨hd1 yv v n i, [], [], PH.no⟩ := by
  unfold hd1
  simp (maxSteps := 2000000) only [vc_skip, vc_ret, vc_exit, vc_seq, vc_block, vc_scope, scopeQ_n, scopeQ_r, scopeQ_e, vc_rg, vc_rgq, vc_rga, vc_ite, thenQ_n, thenQ_r, thenQ_e, blockQ_n, blockQ_r, blockQ_e, kKeep_eq, loopQ_r, loopQ_e, loopQ_n, finQ_r, finQ_n, segs_nil, segs_n, segs_g, ops_nil, ops_cons, qsegs_nil, qsegs_n, qsegs_g, qops_nil, qops_cons, ot_done, ot_op, ot_or, List.contains_cons, List.contains_nil, Bool.or_false, Bool.or_true, Bool.true_or, Bool.false_or, vcqOp, vcOp, isRd, RO.isGh, skip_mk, skipL, ev, evL, gvL, scL, look, updL, put_mk, put_mk0, keep_mk, keepL, rowE, rowD, bndN, binV, binC, unV, GV.getT, GV.fld, GV.sz, GV.same, GV.setT, Value.oneCell', cond_true, cond_false, Nat.reduceEqDiff, Nat.reduceAdd, Nat.reduceMul, Nat.reduceSub, Nat.reduceBEq, Nat.reduceLeDiff, ↓reduceIte, reduceCtorEq, List.nil_append, List.cons_append, List.append_nil, Nat.zero_add, Nat.add_zero, Bool.and_true, Bool.true_and, Bool.not_true, Bool.not_false, BEq.rfl, decide_true, decide_false, true_and, and_true, initF, initP, List.map_cons, List.map_nil, Option.map_some, szAll, List.length_cons, List.length_nil, finW_r, finW_n, resL, resOne, Option.bind_some, true_imp_iff, false_imp_iff, Bool.true_eq_false, Bool.false_eq_true, Int.toNat_natCast, Int.reduceToNat, Int.reduceLE, Int.reduceLT, Int.reduceAdd, Int.reduceSub, Int.reduceEq, decide_eq_true_eq, decide_eq_false_iff_not, kill, SV.mentions, ne_eq, not_false_eq_true, not_true_eq_false, List.drop_zero, List.take_succ_cons, List.take_zero, dOk, ↓br_tt, ↓br_ff, ↓br_tf, ↓br_ft, br_t, br_f, Bool.bne_false, Bool.bne_true, GV.bldT, GV.bldC, same_int, getT_nil, setT_nil, getD_gi, List.length_map, fits_s, fits_c, fits_ar, arr_ar, get_nil, gStamp_sz, gStamp_fits, gStamp_isS, gStamp_same, gStamp_fld0, gStamp_get0, gStamp_set0, gStamp_fld1, gStamp_get1, gStamp_set1, gStamp_zero, getD_gStamp, gOp_sz, gOp_fits, gOp_isS, gOp_same, gOp_fld0, gOp_get0, gOp_set0, gOp_fld1, gOp_get1, gOp_set1, gOp_fld2, gOp_get2, gOp_set2, gOp_fld3, gOp_get3, gOp_set3, gOp_fld4, gOp_get4, gOp_set4, gOp_fld5, gOp_get5, gOp_set5, gOp_fld6, gOp_get6, gOp_set6, gOp_zero, getD_gOp, gPlace_sz, gPlace_fits, gPlace_isS, gPlace_same, gPlace_fld0, gPlace_get0, gPlace_set0, gPlace_fld1, gPlace_get1, gPlace_set1, gPlace_zero, getD_gPlace, gUndo_sz, gUndo_fits, gUndo_isS, gUndo_same, gUndo_fld0, gUndo_get0, gUndo_set0, gUndo_fld1, gUndo_get1, gUndo_set1, gUndo_fld2, gUndo_get2, gUndo_set2, gUndo_fld3, gUndo_get3, gUndo_set3, gUndo_fld4, gUndo_get4, gUndo_set4, gUndo_zero, getD_gUndo, gTreeNode_sz, gTreeNode_fits, gTreeNode_isS, gTreeNode_same, gTreeNode_fld0, gTreeNode_get0, gTreeNode_set0, gTreeNode_fld1, gTreeNode_get1, gTreeNode_set1, gTreeNode_fld2, gTreeNode_get2, gTreeNode_set2, gTreeNode_fld3, gTreeNode_get3, gTreeNode_set3, gTreeNode_zero, getD_gTreeNode, gAttr_sz, gAttr_fits, gAttr_isS, gAttr_same, gAttr_fld0, gAttr_get0, gAttr_set0, gAttr_fld1, gAttr_get1, gAttr_set1, getD_gAttr, gChild_sz, gChild_fits, gChild_isS, gChild_same, gChild_fld0, gChild_get0, gChild_set0, gChild_fld1, gChild_get1, gChild_set1, gChild_zero, getD_gChild, ptr, nptr_some, nptr_none]
  rw [wrap_n (by omega)]
  exact ⟨.inl rfl, rfl, _, frG_of rfl, ⟨rfl, rfl⟩, fun t x hx => by simpa using hx⟩
/-- Ahead of the call of yield: the variable of the round. -/
theorem w1_cB (w : World) (ui : PH) (hu : ui.le w) {yv : Value} {b0 o0 c : Nat} {xs : List (Int × Int)} (hS : SlR ui (.slice (some ⟨b0, o0, none⟩) xs.length c) 2 (xs.map gStp)) {i : Nat} (hi : i < xs.length) :
    vc (cw Try.prog 19 w) (.rg [⟨none, [(some 9, .idxS (.t 5) (.t 7) 2), (some 10, .ld (.t 9) 2 true), (some 4, .new 117 (.c (.s (.int .i64 0)) (.c (.s (.int .i64 0)) .u))), (none, .st (.t 4) (.t 10) 2)]⟩] [0, 4, 5, 6, 7])
      (fun e τ => e = .normal ∧ τ.ph = [] ∧ vcSegs (cw Try.prog 19 w) [⟨none, [(some 11, .mv (.t 0)), (some 12, .fldA (.t 4) 0 0), (some 13, .ld (.t 12) 1 false), (some 14, .fldA (.t 4) 1 1), (some 15, .ld (.t 14) 1 false)]⟩]
        (fun τ => τ.ph = [] ∧ ∀ t x, look ([(11, .g (.s yv)), (13, .g (.s (.int .i64 (xs.getD i (0, 0)).1))), (15, .g (.s (.int .i64 (xs.getD i (0, 0)).2)))] ++ hd1 yv (.slice (some ⟨b0, o0, none⟩) xs.length c) xs.length i) t = some x → look τ.fr t = some x) τ) ⟨hd1 yv (.slice (some ⟨b0, o0, none⟩) xs.length c) xs.length i, [], [], PH.no⟩ := by
  have hk : ∀ {l : List PH}, KN (⟨Try.prog, 19, w, PH.no⟩ : Ctx).u0 l ui := kn_u hu
  rcases hS.shape with ⟨h1, _⟩ | ⟨_, b, o, c', h2, h3, h4⟩
  · have : xs = [] := by simpa using h1
    subst this; simp at hi
  simp only [Value.slice.injEq, Option.some.injEq, List.length_map] at h2 h3
  obtain ⟨h2, _, rfl⟩ := h2
  cases h2
  have hseen := fun {C : Ctx} {ph : List PH} {m : PH} (hu : KN C.u0 (m :: ph) ui) => h4 hu i (gStp (xs.getD i (0, 0))) (by rw [List.getElem?_map, List.getD_eq_getElem?_getD, List.getElem?_eq_getElem hi]; rfl)
  generalize xs.getD i (0, 0) = q at hseen ⊢
  unfold hd1
  simp (maxSteps := 2000000) only [vc_skip, vc_ret, vc_exit, vc_seq, vc_block, vc_scope, scopeQ_n, scopeQ_r, scopeQ_e, vc_rg, vc_rgq, vc_rga, vc_ite, thenQ_n, thenQ_r, thenQ_e, blockQ_n, blockQ_r, blockQ_e, kKeep_eq, loopQ_r, loopQ_e, loopQ_n, finQ_r, finQ_n, segs_nil, segs_n, segs_g, ops_nil, ops_cons, qsegs_nil, qsegs_n, qsegs_g, qops_nil, qops_cons, ot_done, ot_op, ot_or, List.contains_cons, List.contains_nil, Bool.or_false, Bool.or_true, Bool.true_or, Bool.false_or, vcqOp, vcOp, isRd, RO.isGh, skip_mk, skipL, ev, evL, gvL, scL, look, updL, put_mk, put_mk0, keep_mk, keepL, rowE, rowD, bndN, binV, binC, unV, GV.getT, GV.fld, GV.sz, GV.same, GV.setT, Value.oneCell', cond_true, cond_false, Nat.reduceEqDiff, Nat.reduceAdd, Nat.reduceMul, Nat.reduceSub, Nat.reduceBEq, Nat.reduceLeDiff, ↓reduceIte, reduceCtorEq, List.nil_append, List.cons_append, List.append_nil, Nat.zero_add, Nat.add_zero, Bool.and_true, Bool.true_and, Bool.not_true, Bool.not_false, BEq.rfl, decide_true, decide_false, true_and, and_true, initF, initP, List.map_cons, List.map_nil, Option.map_some, szAll, List.length_cons, List.length_nil, finW_r, finW_n, resL, resOne, Option.bind_some, true_imp_iff, false_imp_iff, Bool.true_eq_false, Bool.false_eq_true, Int.toNat_natCast, Int.reduceToNat, Int.reduceLE, Int.reduceLT, Int.reduceAdd, Int.reduceSub, Int.reduceEq, decide_eq_true_eq, decide_eq_false_iff_not, kill, SV.mentions, ne_eq, not_false_eq_true, not_true_eq_false, List.drop_zero, List.take_succ_cons, List.take_zero, dOk, ↓br_tt, ↓br_ff, ↓br_tf, ↓br_ft, br_t, br_f, Bool.bne_false, Bool.bne_true, GV.bldT, GV.bldC, same_int, getT_nil, setT_nil, getD_gi, List.length_map, fits_s, fits_c, fits_ar, arr_ar, get_nil, gStamp_sz, gStamp_fits, gStamp_isS, gStamp_same, gStamp_fld0, gStamp_get0, gStamp_set0, gStamp_fld1, gStamp_get1, gStamp_set1, gStamp_zero, getD_gStamp, gOp_sz, gOp_fits, gOp_isS, gOp_same, gOp_fld0, gOp_get0, gOp_set0, gOp_fld1, gOp_get1, gOp_set1, gOp_fld2, gOp_get2, gOp_set2, gOp_fld3, gOp_get3, gOp_set3, gOp_fld4, gOp_get4, gOp_set4, gOp_fld5, gOp_get5, gOp_set5, gOp_fld6, gOp_get6, gOp_set6, gOp_zero, getD_gOp, gPlace_sz, gPlace_fits, gPlace_isS, gPlace_same, gPlace_fld0, gPlace_get0, gPlace_set0, gPlace_fld1, gPlace_get1, gPlace_set1, gPlace_zero, getD_gPlace, gUndo_sz, gUndo_fits, gUndo_isS, gUndo_same, gUndo_fld0, gUndo_get0, gUndo_set0, gUndo_fld1, gUndo_get1, gUndo_set1, gUndo_fld2, gUndo_get2, gUndo_set2, gUndo_fld3, gUndo_get3, gUndo_set3, gUndo_fld4, gUndo_get4, gUndo_set4, gUndo_zero, getD_gUndo, gTreeNode_sz, gTreeNode_fits, gTreeNode_isS, gTreeNode_same, gTreeNode_fld0, gTreeNode_get0, gTreeNode_set0, gTreeNode_fld1, gTreeNode_get1, gTreeNode_set1, gTreeNode_fld2, gTreeNode_get2, gTreeNode_set2, gTreeNode_fld3, gTreeNode_get3, gTreeNode_set3, gTreeNode_zero, getD_gTreeNode, gAttr_sz, gAttr_fits, gAttr_isS, gAttr_same, gAttr_fld0, gAttr_get0, gAttr_set0, gAttr_fld1, gAttr_get1, gAttr_set1, getD_gAttr, gChild_sz, gChild_fits, gChild_isS, gChild_same, gChild_fld0, gChild_get0, gChild_set0, gChild_fld1, gChild_get1, gChild_set1, gChild_zero, getD_gChild, ptr, nptr_some, nptr_none]
  refine ⟨⟨by omega, by omega⟩, ld_of _ (hseen hk) rfl ?_⟩
  unfold gStp
  simp (maxSteps := 2000000) only [vc_skip, vc_ret, vc_exit, vc_seq, vc_block, vc_scope, scopeQ_n, scopeQ_r, scopeQ_e, vc_rg, vc_rgq, vc_rga, vc_ite, thenQ_n, thenQ_r, thenQ_e, blockQ_n, blockQ_r, blockQ_e, kKeep_eq, loopQ_r, loopQ_e, loopQ_n, finQ_r, finQ_n, segs_nil, segs_n, segs_g, ops_nil, ops_cons, qsegs_nil, qsegs_n, qsegs_g, qops_nil, qops_cons, ot_done, ot_op, ot_or, List.contains_cons, List.contains_nil, Bool.or_false, Bool.or_true, Bool.true_or, Bool.false_or, vcqOp, vcOp, isRd, RO.isGh, skip_mk, skipL, ev, evL, gvL, scL, look, updL, put_mk, put_mk0, keep_mk, keepL, rowE, rowD, bndN, binV, binC, unV, GV.getT, GV.fld, GV.sz, GV.same, GV.setT, Value.oneCell', cond_true, cond_false, Nat.reduceEqDiff, Nat.reduceAdd, Nat.reduceMul, Nat.reduceSub, Nat.reduceBEq, Nat.reduceLeDiff, ↓reduceIte, reduceCtorEq, List.nil_append, List.cons_append, List.append_nil, Nat.zero_add, Nat.add_zero, Bool.and_true, Bool.true_and, Bool.not_true, Bool.not_false, BEq.rfl, decide_true, decide_false, true_and, and_true, initF, initP, List.map_cons, List.map_nil, Option.map_some, szAll, List.length_cons, List.length_nil, finW_r, finW_n, resL, resOne, Option.bind_some, true_imp_iff, false_imp_iff, Bool.true_eq_false, Bool.false_eq_true, Int.toNat_natCast, Int.reduceToNat, Int.reduceLE, Int.reduceLT, Int.reduceAdd, Int.reduceSub, Int.reduceEq, decide_eq_true_eq, decide_eq_false_iff_not, kill, SV.mentions, ne_eq, not_false_eq_true, not_true_eq_false, List.drop_zero, List.take_succ_cons, List.take_zero, dOk, ↓br_tt, ↓br_ff, ↓br_tf, ↓br_ft, br_t, br_f, Bool.bne_false, Bool.bne_true, GV.bldT, GV.bldC, same_int, getT_nil, setT_nil, getD_gi, List.length_map, fits_s, fits_c, fits_ar, arr_ar, get_nil, gStamp_sz, gStamp_fits, gStamp_isS, gStamp_same, gStamp_fld0, gStamp_get0, gStamp_set0, gStamp_fld1, gStamp_get1, gStamp_set1, gStamp_zero, getD_gStamp, gOp_sz, gOp_fits, gOp_isS, gOp_same, gOp_fld0, gOp_get0, gOp_set0, gOp_fld1, gOp_get1, gOp_set1, gOp_fld2, gOp_get2, gOp_set2, gOp_fld3, gOp_get3, gOp_set3, gOp_fld4, gOp_get4, gOp_set4, gOp_fld5, gOp_get5, gOp_set5, gOp_fld6, gOp_get6, gOp_set6, gOp_zero, getD_gOp, gPlace_sz, gPlace_fits, gPlace_isS, gPlace_same, gPlace_fld0, gPlace_get0, gPlace_set0, gPlace_fld1, gPlace_get1, gPlace_set1, gPlace_zero, getD_gPlace, gUndo_sz, gUndo_fits, gUndo_isS, gUndo_same, gUndo_fld0, gUndo_get0, gUndo_set0, gUndo_fld1, gUndo_get1, gUndo_set1, gUndo_fld2, gUndo_get2, gUndo_set2, gUndo_fld3, gUndo_get3, gUndo_set3, gUndo_fld4, gUndo_get4, gUndo_set4, gUndo_zero, getD_gUndo, gTreeNode_sz, gTreeNode_fits, gTreeNode_isS, gTreeNode_same, gTreeNode_fld0, gTreeNode_get0, gTreeNode_set0, gTreeNode_fld1, gTreeNode_get1, gTreeNode_set1, gTreeNode_fld2, gTreeNode_get2, gTreeNode_set2, gTreeNode_fld3, gTreeNode_get3, gTreeNode_set3, gTreeNode_zero, getD_gTreeNode, gAttr_sz, gAttr_fits, gAttr_isS, gAttr_same, gAttr_fld0, gAttr_get0, gAttr_set0, gAttr_fld1, gAttr_get1, gAttr_set1, getD_gAttr, gChild_sz, gChild_fits, gChild_isS, gChild_same, gChild_fld0, gChild_get0, gChild_set0, gChild_fld1, gChild_get1, gChild_set1, gChild_zero, getD_gChild, ptr, nptr_some, nptr_none]
  refine ⟨by rw [show GV.c (.s (.int .i64 q.1)) (.c (.s (.int .i64 q.2)) .u) = gStamp ⟨q.1, q.2⟩ from rfl, gStamp_same]; trivial, fun t x hx => ?_⟩
  (repeat' split at hx) <;> simp_all
theorem w1_cY (w : World) {yv v : Value} {n i : Nat} {b : Bool} :
    vcSegs (cw Try.prog 19 w) [⟨none, [(some 17, .un .not (.t 16))]⟩] (fun τ => τ.ph = [] ∧ ∀ t x, look ((17, .g (.s (.bool !b))) :: hd1 yv v n i) t = some x → look τ.fr t = some x) ⟨(16, .g (.s (.bool b))) :: hd1 yv v n i, [], [], PH.no⟩ := by
  unfold hd1
  simp (maxSteps := 2000000) only [vc_skip, vc_ret, vc_exit, vc_seq, vc_block, vc_scope, scopeQ_n, scopeQ_r, scopeQ_e, vc_rg, vc_rgq, vc_rga, vc_ite, thenQ_n, thenQ_r, thenQ_e, blockQ_n, blockQ_r, blockQ_e, kKeep_eq, loopQ_r, loopQ_e, loopQ_n, finQ_r, finQ_n, segs_nil, segs_n, segs_g, ops_nil, ops_cons, qsegs_nil, qsegs_n, qsegs_g, qops_nil, qops_cons, ot_done, ot_op, ot_or, List.contains_cons, List.contains_nil, Bool.or_false, Bool.or_true, Bool.true_or, Bool.false_or, vcqOp, vcOp, isRd, RO.isGh, skip_mk, skipL, ev, evL, gvL, scL, look, updL, put_mk, put_mk0, keep_mk, keepL, rowE, rowD, bndN, binV, binC, unV, GV.getT, GV.fld, GV.sz, GV.same, GV.setT, Value.oneCell', cond_true, cond_false, Nat.reduceEqDiff, Nat.reduceAdd, Nat.reduceMul, Nat.reduceSub, Nat.reduceBEq, Nat.reduceLeDiff, ↓reduceIte, reduceCtorEq, List.nil_append, List.cons_append, List.append_nil, Nat.zero_add, Nat.add_zero, Bool.and_true, Bool.true_and, Bool.not_true, Bool.not_false, BEq.rfl, decide_true, decide_false, true_and, and_true, initF, initP, List.map_cons, List.map_nil, Option.map_some, szAll, List.length_cons, List.length_nil, finW_r, finW_n, resL, resOne, Option.bind_some, true_imp_iff, false_imp_iff, Bool.true_eq_false, Bool.false_eq_true, Int.toNat_natCast, Int.reduceToNat, Int.reduceLE, Int.reduceLT, Int.reduceAdd, Int.reduceSub, Int.reduceEq, decide_eq_true_eq, decide_eq_false_iff_not, kill, SV.mentions, ne_eq, not_false_eq_true, not_true_eq_false, List.drop_zero, List.take_succ_cons, List.take_zero, dOk, ↓br_tt, ↓br_ff, ↓br_tf, ↓br_ft, br_t, br_f, Bool.bne_false, Bool.bne_true, GV.bldT, GV.bldC, same_int, getT_nil, setT_nil, getD_gi, List.length_map, fits_s, fits_c, fits_ar, arr_ar, get_nil, gStamp_sz, gStamp_fits, gStamp_isS, gStamp_same, gStamp_fld0, gStamp_get0, gStamp_set0, gStamp_fld1, gStamp_get1, gStamp_set1, gStamp_zero, getD_gStamp, gOp_sz, gOp_fits, gOp_isS, gOp_same, gOp_fld0, gOp_get0, gOp_set0, gOp_fld1, gOp_get1, gOp_set1, gOp_fld2, gOp_get2, gOp_set2, gOp_fld3, gOp_get3, gOp_set3, gOp_fld4, gOp_get4, gOp_set4, gOp_fld5, gOp_get5, gOp_set5, gOp_fld6, gOp_get6, gOp_set6, gOp_zero, getD_gOp, gPlace_sz, gPlace_fits, gPlace_isS, gPlace_same, gPlace_fld0, gPlace_get0, gPlace_set0, gPlace_fld1, gPlace_get1, gPlace_set1, gPlace_zero, getD_gPlace, gUndo_sz, gUndo_fits, gUndo_isS, gUndo_same, gUndo_fld0, gUndo_get0, gUndo_set0, gUndo_fld1, gUndo_get1, gUndo_set1, gUndo_fld2, gUndo_get2, gUndo_set2, gUndo_fld3, gUndo_get3, gUndo_set3, gUndo_fld4, gUndo_get4, gUndo_set4, gUndo_zero, getD_gUndo, gTreeNode_sz, gTreeNode_fits, gTreeNode_isS, gTreeNode_same, gTreeNode_fld0, gTreeNode_get0, gTreeNode_set0, gTreeNode_fld1, gTreeNode_get1, gTreeNode_set1, gTreeNode_fld2, gTreeNode_get2, gTreeNode_set2, gTreeNode_fld3, gTreeNode_get3, gTreeNode_set3, gTreeNode_zero, getD_gTreeNode, gAttr_sz, gAttr_fits, gAttr_isS, gAttr_same, gAttr_fld0, gAttr_get0, gAttr_set0, gAttr_fld1, gAttr_get1, gAttr_set1, getD_gAttr, gChild_sz, gChild_fits, gChild_isS, gChild_same, gChild_fld0, gChild_get0, gChild_set0, gChild_fld1, gChild_get1, gChild_set1, gChild_zero, getD_gChild, ptr, nptr_some, nptr_none]
  intro t x hx
  (repeat' split at hx) <;> simp_all

theorem hd1_key {yv v : Value} {n i : Nat} {t : Nat} {x : SV} (h : look (hd1 yv v n i) t = some x) : t = 0 ∨ t = 5 ∨ t = 6 ∨ t = 7 := by
  simp only [hd1, look] at h
  split at h
  · exact .inl ‹_›
  · split at h
    · exact .inr (.inl ‹_›)
    · split at h
      · exact .inr (.inr (.inl ‹_›))
      · split at h
        · exact .inr (.inr (.inr ‹_›))
        · cases h
theorem look_pre {pre fr : List (Nat × SV)} {t : Nat} {x : SV} (h : look fr t = some x) (hn : look pre t = none) : look (pre ++ fr) t = some x := by
  rw [look_app, hn, h]; rfl
theorem frG_hd1 {yv v : Value} {n i : Nat} : frG (hd1 yv v n i) := frG_of rfl
theorem frG_cons {t : Nat} {g : GV} {fr : List (Nat × SV)} (h : frG fr) : frG ((t, .g g) :: fr) := by
  intro k x hx
  simp only [look] at hx
  split at hx
  · cases hx; exact ⟨g, rfl⟩
  · exact h k x hx
theorem Slots.sub {N : Nat} {fr fr' : List (Nat × SV)} {a : Act} (h : Slots N fr a) (hs : ∀ t x, look fr' t = some x → look fr t = some x) : Slots N fr' a := ⟨h.defers, h.size, fun t x hx => h.at' t x (hs t x hx)⟩
theorem walk1_iter (ui : PH) {b : Nat} {e : TypeId} {v : Value} {xs : List (Int × Int)} (hb : ui b = some (.cells #[v] e (0, 0))) (hS : SlR ui v 2 (xs.map gStp)) (hl : xs.length ≤ 9223372036854775800) :
    Iter Try.prog f_tree_Tree_Walk_1 [ptr b] ui (xs.map encStp) := by
  intro l J Jx W hu hJ hJx hY h0
  obtain ⟨yv, hyv⟩ : ∃ yv : Value, yv = .func (.yield l) #[] #[] := ⟨_, rfl⟩
  have hy1 : yv.oneCell' = true := by rw [hyv]; rfl
  obtain ⟨a0, c0, hv⟩ := slr_len hS
  rw [List.length_map] at hv
  have hbody : Try.f56.body = some w1W := by kernel_rfl
  refine callsIn_of_wp_marks Try.func56 hbody trivial ?_ rfl
  -- the end
  have fin : ∀ (fr : List (Nat × SV)) (a : Act) (w : World), Slots 19 fr a → (J xs.length w ∨ Jx w) → LeavesInM Fence.wide 0 Try.prog Try.f56 a.tmps (fun e W' => (∃ v, e = .returned v) ∧ (J (xs.map encStp).length W' ∨ Jx W')) a.defers .returning w := fun fr a w hs h => by
    rw [hs.defers]
    have hres := (results_run (fn := Try.f56) (hs.rel (P := Try.prog) w) (rv := []) (rs := []) (by kernel_rfl) rfl).2
    exact ⟨_, hres, ⟨_, rfl⟩, by rw [List.length_map]; exact h⟩
  have hN : Try.f56.ntmps = 19 := by kernel_rfl
  have hs0 : Slots 19 [(0, .g (.s yv)), (1, .g (.s (.pointer (some ⟨b, 0, none⟩))))] { tmps := #[Value.func (.yield l) #[] #[]] ++ [ptr b].toArray ++ Array.replicate (Try.f56.ntmps - (#[Value.func (.yield l) #[] #[]] ++ [ptr b].toArray).size) undef, defers := [] } := by
    refine ⟨rfl, by rw [hN]; simp, fun t x hx => ?_⟩
    simp only [look] at hx
    split at hx
    · rename_i ht; subst ht; cases hx; exact ⟨_, rfl, hy1, by rw [hyv]; simp [GV.val]⟩
    · split at hx
      · rename_i ht; subst ht; cases hx; exact ⟨_, rfl, rfl, by simp [GV.val, ptr]⟩
      · cases hx
  rw [w1_shape]
  refine wpIn_seq (piece (P := Try.prog) (N := 19) (ns := []) (cd := .rg [⟨none, [(some 5, .ld (.t 1) 1 false), (some 6, .len (.t 5)), (some 7, .mv (.c (.int .i64 0)))]⟩] [0, 5, 6, 7]) (by kernel_rfl) rfl (by kernel_rfl) hs0 (w1_c0 W ui hu hv hb) fun e fr' a1 W1 hR hs1 hk1 _ => ?_)
  obtain ⟨rfl, rfl⟩ := hR
  have keep : ∀ {w w' : World}, ui.le w → Kept PH.no w w' → ui.le w' := fun {w w'} h hk b o hb => by
    have := h b o hb
    rw [hk.2.2.2.2 b (Array.getElem?_eq_some_iff.1 this).1 rfl]; exact this
  refine wpIn_block (wpIn_loop_ghost (fun k a w => ∃ i, i ≤ xs.length ∧ k = xs.length - i ∧ Slots 19 (hd1 yv v xs.length i) a ∧ ui.le w ∧ J i w) xs.length ⟨0, by omega, by omega, hs1, keep hu hk1, hJ 0 W W1 h0 hk1⟩ ?_)
  rintro k a w ⟨i, hi, rfl, hs, hui, hj⟩
  refine wpIn_seq (piece (P := Try.prog) (N := 19) (ns := []) (cd := .rg [⟨none, [(some 8, .bin .lss (.t 7) (.t 6))]⟩] [0, 5, 6, 7, 8]) (by kernel_rfl) rfl (by kernel_rfl) hs (w1_cA w) fun e fr' a2 w2 hR hs2 hk2 _ => ?_)
  obtain ⟨rfl, rfl⟩ := hR
  have hui2 := keep hui hk2
  have hj2 := hJ i w w2 hj hk2
  refine wpIn_seq (wpIn_cond_split (t := decide ((i : Int) < xs.length)) (slots_eval hs2 rfl) (fun ht => wpIn_skip ?_) (fun ht => wpIn_exit ?_))
  · have hlt : i < xs.length := by simpa using ht
    obtain ⟨b1, o1, c1, rfl⟩ : ∃ b1 o1 c1, v = .slice (some ⟨b1, o1, none⟩) xs.length c1 := by
      rcases hS.shape with ⟨h1, _⟩ | ⟨_, b1, o1, c1, h2, _⟩
      · have : xs = [] := by simpa using h1
        subst this; simp at hlt
      · rw [List.length_map] at h2
        exact ⟨b1, o1, c1, h2⟩
    have hs2' : Slots 19 (hd1 yv (.slice (some ⟨b1, o1, none⟩) xs.length c1) xs.length i) a2 := hs2.sub fun t x hx => look_pre (pre := [(8, _)]) hx (by rcases hd1_key hx with rfl | rfl | rfl | rfl <;> rfl)
    refine wpIn_seq (wpIn_block (wpIn_seq ?_))
    have hcB := vc_sound_round (C := cw Try.prog 19 w2) [] none _ (atL w1S) _ _ a2 w2 (by kernel_rfl) rfl (by kernel_rfl) (fun σ h => by cases h.1) (w1_cB w2 ui hui2 hS hlt) (hs2'.rel w2)
    refine wpIn_mono hcB fun e a3 w3 hq => ?_
    obtain ⟨τ, ⟨rfl, hph, hseg⟩, hrel⟩ := hq
    refine wpIn_seq (yield_reg (P := Try.prog) (N := 19) (C := cw Try.prog 19 w2) rfl rfl w1_ops.1 w1_ops.2.1 w1_ops.2.2 5 16 11 l w1o w1c w1_o w1_call.1 w1_call.2.1 w1_call.2.2.1 w1_call.2.2.2.1 _ [⟨none, [(some 17, .un .not (.t 16))]⟩] (by kernel_rfl) (by kernel_rfl) hrel _ hseg ?_)
    rintro τ1 a4 w4 ⟨hp1, hl1⟩ hr1
    obtain ⟨hs4, hk4⟩ := hr1.slots hp1 (frG_of rfl) hl1
    refine ⟨by rw [← hyv]; exact slots_eval hs4 rfl, ?_⟩
    have hargs : w1c.args.map a4.eval = (encStp (xs.getD i (0, 0))).toArray := by
      rw [w1_call.2.2.2.2]
      simp only [List.map_toArray, List.map_cons, List.map_nil]
      rw [slots_eval hs4 (t := 13) rfl, slots_eval hs4 (t := 15) rfl]
      rfl
    rw [hargs]
    have hget : (xs.map encStp)[i]? = some (encStp (xs.getD i (0, 0))) := by
      rw [List.getElem?_map, List.getD_eq_getElem?_getD, List.getElem?_eq_getElem hlt]; rfl
    obtain ⟨fn, tmps, assign, body, hy, hround⟩ := hY i _ w4 hget (hJ i w2 w4 hj2 hk4)
    refine ⟨fn, tmps, assign, body, hy, hround.mono fun e w5 he => ?_⟩
    have putS : ∀ bb : Bool, Slots 19 ((16, .g (.s (.bool bb))) :: hd1 yv (.slice (some ⟨b1, o1, none⟩) xs.length c1) xs.length i) (a4.put (some 16) (.bool bb)) := fun bb => by
      refine ⟨hs4.defers, by simp [Act.put, hs4.size], fun t x hx => ?_⟩
      simp only [look] at hx
      split at hx
      · rename_i ht; subst ht; cases hx
        exact ⟨_, rfl, rfl, by simp only [Act.put]; rw [Array.getElem?_setIfInBounds_self_of_lt (by rw [hs4.size]; omega)]; rfl⟩
      · rename_i ht
        obtain ⟨g, rfl, h1, h2⟩ := hs4.at' t x (look_pre hx (by rcases hd1_key hx with rfl | rfl | rfl | rfl <;> rfl))
        exact ⟨g, rfl, h1, by simp only [Act.put]; rw [Array.getElem?_setIfInBounds_ne (fun e => ht e.symm)]; exact h2⟩
    rcases he with ⟨rfl, hj5, hui5⟩ | ⟨rfl, hjx⟩
    · refine ⟨true, rfl, _, _, putS true, w1_cY w5, fun τ2 a5 w6 hq2 hr2 => ?_⟩
      obtain ⟨hs6, hk6⟩ := hr2.slots hq2.1 (frG_of rfl) hq2.2
      refine wpIn_cond_split (t := !true) (slots_eval hs6 rfl) (fun ht => by cases ht) (fun ht => wpIn_skip ?_)
      have hs6' : Slots 19 (hd1 yv (.slice (some ⟨b1, o1, none⟩) xs.length c1) xs.length i) a5 := hs6.sub fun t x hx => look_pre (pre := [(17, _)]) hx (by rcases hd1_key hx with rfl | rfl | rfl | rfl <;> rfl)
      refine piece (P := Try.prog) (N := 19) (ns := []) (cd := .rg [⟨none, [(some 18, .bin .add (.t 7) (.c (.int .i64 1))), (some 7, .mv (.t 18))]⟩] [0, 5, 6, 7]) (code := atR w1R) (by kernel_rfl) rfl (by kernel_rfl) hs6' (w1_cE w6 hl hlt) fun e fr' a7 w7 hR hs7 hk7 _ => ?_
      obtain ⟨rfl, rfl⟩ := hR
      exact ⟨xs.length - (i + 1), by omega, i + 1, by omega, rfl, hs7, keep (keep hui5 hk6) hk7, hJ _ _ _ (hJ _ _ _ hj5 hk6) hk7⟩
    · refine ⟨false, rfl, _, _, putS false, w1_cY w5, fun τ2 a5 w6 hq2 hr2 => ?_⟩
      obtain ⟨hs6, hk6⟩ := hr2.slots hq2.1 (frG_of rfl) hq2.2
      refine wpIn_cond_split (t := !false) (slots_eval hs6 rfl) (fun ht => wpIn_ret ?_) (fun ht => by cases ht)
      exact fin _ a5 w6 hs6 (.inr (hJx _ _ hjx hk6))
  · have hge : i = xs.length := by
      have : ¬ (i : Int) < xs.length := by simpa using ht
      omega
    exact fin _ a2 w2 hs2 (.inl (hge ▸ hj2))
end Go.Proofs.Ytdpknchgoeboaaa.Vc

/- The code of some functions of the program, its types resolved: printed by a program of this claim. -/
set_option linter.unusedVariables false
set_option maxRecDepth 100000
namespace Go.Proofs.Ytdpknchgoeboaaa.Vc
open Go Go.Proofs

abbrev f_tree_Tree_steps : Nat := 55
def c_tree_Tree_steps_L0 : Cd :=
 (.seq (.rg [⟨none, [(some 22, .bin .lss (.t 21) (.t 20))]⟩] [0, 2, 3, 19, 20, 21, 22])
 (.seq (.ite (.t 22)
 .skip
 (.exit 0))
 (.seq (.block 1 (.seq (.rg [⟨none, [(some 23, .idxS (.t 19) (.t 21) 2), (some 24, .ld (.t 23) 2 true), (some 10, .new 69 (.c (.s (.string ⟨#[]⟩)) (.c (.s (.int .i64 0)) .u))), (none, .st (.t 10) (.t 24) 2)]⟩] [0, 2, 3, 10, 19, 20, 21])
 (.rg [⟨none, [(some 25, .mv (.t 0)), (some 26, .fldA (.t 10) 1 1), (some 27, .ld (.t 26) 1 false), (some 28, .mv (.t 2)), (some 29, .bin .add (.t 28) (.c (.int .i64 1))), (some 30, .mv (.t 3)), (some 31, .call 55 [(.t 25), (.t 27), (.t 29), (.t 30)]), (some 3, .mv (.t 31))]⟩] [0, 2, 3, 19, 20, 21])))
 (.rg [⟨none, [(some 32, .bin .add (.t 21) (.c (.int .i64 1))), (some 21, .mv (.t 32))]⟩] [0, 2, 3, 19, 20, 21]))))
def c_tree_Tree_steps : Cd :=
 (.seq (.rg [⟨none, [(some 8, .mv (.c (.slice none 0 0)))]⟩] [0, 1, 2, 3])
 (.seq (.rg [⟨none, [(some 11, .mv (.t 3)), (some 12, .mv (.t 2)), (some 13, .mv (.t 1)), (some 14, .bld (.c (.s (.int .i64 0)) (.c (.s (.int .i64 0)) .u)) [(0, (.t 12)), (1, (.t 13))]), (some 15, .bldS 117 2 (.c (.s (.int .i64 0)) (.c (.s (.int .i64 0)) .u)) [(.t 14)]), (some 16, .app 117 2 16 (.c (.s (.int .i64 0)) (.c (.s (.int .i64 0)) .u)) (.t 11) (.t 15)), (some 3, .mv (.t 16))]⟩] [0, 1, 2, 3])
 (.seq (.seq (.rg [⟨none, [(some 17, .mv (.t 0)), (some 18, .mv (.t 1)), (some 19, .call 28 [(.t 17), (.t 18)]), (some 20, .len (.t 19)), (some 21, .mv (.c (.int .i64 0)))]⟩] [0, 2, 3, 19, 20, 21])
 (.block 0 (.loop c_tree_Tree_steps_L0)))
 (.seq (.rg [⟨none, [(some 33, .mv (.t 3)), (some 8, .mv (.t 33))]⟩] [8])
 .ret))))
theorem k_tree_Tree_steps : Ok Try.prog 55 c_tree_Tree_steps 34 [] [.tmp 8] := Ok.mk' Try.func55 (by kernel_rfl) (by kernel_rfl) (by kernel_rfl)

abbrev f_law12_TreeSound : Nat := 7
noncomputable def c_law12_TreeSound_W0 : Code := ((((Try.f7.body.map rawsC).getD [])[0]?).getD .skip)
noncomputable def c_law12_TreeSound_L0 : Cd :=
 (.seq (.rg [⟨none, [(some 32, .bin .lss (.t 31) (.t 30))]⟩] [2, 3, 5, 29, 30, 31, 32])
 (.seq (.ite (.t 32)
 .skip
 (.exit 0))
 (.seq (.block 1 (.seq (.rg [⟨none, [(some 33, .idxS (.t 29) (.t 31) 1), (some 34, .ld (.t 33) 1 false), (some 7, .new 2 (.s (.int .i64 0))), (none, .st (.t 7) (.t 34) 1)]⟩] [2, 3, 5, 7, 29, 30, 31])
 (.seq (.rg [⟨none, [(none, .gh), (some 35, .ld (.t 3) 1 false), (some 36, .ld (.t 7) 1 false), (some 37, .call 25 [(.t 35), (.t 36)])]⟩] [2, 3, 5, 7, 29, 30, 31, 37])
 (.block 2 (.raw c_law12_TreeSound_W0)))))
 (.rg [⟨none, [(some 115, .bin .add (.t 31) (.c (.int .i64 1))), (some 31, .mv (.t 115))]⟩] [2, 3, 5, 29, 30, 31]))))
noncomputable def c_law12_TreeSound_L1 : Cd :=
 (.seq (.rg [⟨none, [(some 120, .bin .lss (.t 119) (.t 118))]⟩] [2, 3, 5, 117, 118, 119, 120])
 (.seq (.ite (.t 120)
 .skip
 (.exit 6))
 (.seq (.block 7 (.seq (.rg [⟨none, [(some 121, .idxS (.t 117) (.t 119) 4), (some 122, .ld (.t 121) 4 true), (some 16, .new 62 (.c (.s (.int .i64 0)) (.c (.s (.int .i64 0)) (.c (.s (.string ⟨#[]⟩)) (.c (.s (.slice none 0 0)) .u))))), (none, .st (.t 16) (.t 122) 4)]⟩] [2, 3, 5, 16, 117, 118, 119])
 (.seq (.rg [⟨none, [(some 123, .ld (.t 5) 1 false), (some 124, .fldA (.t 16) 0 0), (some 125, .ld (.t 124) 1 false), (some 126, .mlk (some .i64) (.t 123) (.t 125) (.int .i64 0) false), (some 127, .bin .neq (.t 126) (.c (.int .i64 1)))]⟩] [2, 3, 5, 117, 118, 119, 127])
 (.ite (.t 127)
 (.seq (.rg [⟨none, [(none, .st (.t 2) (.c (.bool false)) 1)]⟩] [2])
 .ret)
 .skip))))
 (.rg [⟨none, [(some 128, .bin .add (.t 119) (.c (.int .i64 1))), (some 119, .mv (.t 128))]⟩] [2, 3, 5, 117, 118, 119]))))
noncomputable def c_law12_TreeSound : Cd :=
 (.seq (.rg [⟨none, [(some 2, .new 4 (.s (.bool false)))]⟩] [0, 2])
 (.seq (.rg [⟨none, [(some 18, .mv (.t 0)), (some 19, .call 12 [(.t 18)]), (some 17, .mv (.t 19)), (some 20, .ext (.t 17) 0), (some 21, .ext (.t 17) 1), (some 3, .new 25 (.s (.pointer none))), (none, .st (.t 3) (.t 20) 1), (some 4, .mv (.t 21))]⟩] [2, 3])
 (.seq (.seq (.rg [⟨none, [(some 22, .call 9 []), (some 23, .un .not (.t 22)), (some 24, .mv (.t 23))]⟩, ⟨some (24, false), [(some 25, .ld (.t 3) 1 false), (some 26, .eqA false 25 (.t 25) (.c (.pointer none)))]⟩, ⟨none, [(some 27, .pick (.t 24) (.c (.bool true)) (.t 26))]⟩] [2, 3, 27])
 (.ite (.t 27)
 (.seq (.rg [⟨none, [(none, .st (.t 2) (.c (.bool false)) 1)]⟩] [2])
 .ret)
 .skip))
 (.seq (.rg [⟨none, [(some 28, .mkm), (some 5, .new 55 (.s (.map none))), (none, .st (.t 5) (.t 28) 1)]⟩] [2, 3, 5])
 (.seq (.seq (.rg [⟨none, [(some 29, .bldS 2 1 (.s (.int .i64 0)) [(.c (.int .i64 1)), (.c (.int .i64 2))]), (some 30, .len (.t 29)), (some 31, .mv (.c (.int .i64 0))), (none, .gh)]⟩] [2, 3, 5, 29, 30, 31])
 (.block 0 (.loop c_law12_TreeSound_L0)))
 (.seq (.seq (.rg [⟨none, [(some 116, .ld (.t 3) 1 false), (some 117, .call 13 [(.t 116)]), (some 118, .len (.t 117)), (some 119, .mv (.c (.int .i64 0)))]⟩] [2, 3, 5, 117, 118, 119])
 (.block 6 (.loop c_law12_TreeSound_L1)))
 (.seq (.rg [⟨none, [(some 129, .ld (.t 5) 1 false), (some 130, .mln (some .i64) (.t 129)), (some 131, .ld (.t 3) 1 false), (some 132, .call 14 [(.t 131)]), (some 133, .bin .eql (.t 130) (.t 132)), (none, .st (.t 2) (.t 133) 1)]⟩] [2])
 .ret)))))))
theorem k_law12_TreeSound : Ok Try.prog 7 c_law12_TreeSound 134 [] [.cell 2 1 false] := Ok.mk' Try.func7 (by kernel_rfl) (by kernel_rfl) (by kernel_rfl)

def c_law12_TreeSound_A0 : Cd :=
 (.seq (.rg [⟨none, [(some 8, .mv (.t 38))]⟩] [2, 3, 5, 7, 8, 39])
 (.rg [⟨none, [(some 9, .mv (.t 39))]⟩] [2, 3, 5, 7, 8, 9]))
theorem kA0_law12_TreeSound : comp Try.prog 134 [] (rfAs c_law12_TreeSound_W0) = er c_law12_TreeSound_A0 := by kernel_rfl
def c_law12_TreeSound_B0_L0 : Cd :=
 (.seq (.rg [⟨none, [(some 89, .bin .lss (.t 88) (.t 87))]⟩] [2, 3, 9, 10, 12, 86, 87, 88, 89])
 (.seq (.ite (.t 89)
 .skip
 (.exit 4))
 (.seq (.block 5 (.seq (.rg [⟨none, [(some 90, .idxS (.t 86) (.t 88) 2), (some 91, .ld (.t 90) 2 true), (some 14, .new 69 (.c (.s (.string ⟨#[]⟩)) (.c (.s (.int .i64 0)) .u))), (none, .st (.t 14) (.t 91) 2)]⟩] [2, 3, 9, 10, 12, 14, 86, 87, 88])
 (.seq (.rg [⟨none, [(some 92, .fldA (.t 14) 1 1), (some 93, .ld (.t 92) 1 false), (some 94, .mv (.t 9)), (some 95, .bin .eql (.t 93) (.t 94)), (some 96, .mv (.t 95))]⟩, ⟨some (96, true), [(some 97, .fldA (.t 14) 0 0), (some 98, .ld (.t 97) 1 false), (some 99, .fldA (.t 10) 2 2), (some 100, .ld (.t 99) 1 false), (some 101, .bin .eql (.t 98) (.t 100))]⟩, ⟨none, [(some 102, .pick (.t 96) (.t 101) (.c (.bool false)))]⟩] [2, 3, 9, 10, 12, 86, 87, 88, 102])
 (.ite (.t 102)
 (.rg [⟨none, [(some 103, .mv (.t 12)), (some 104, .bin .add (.t 103) (.c (.int .i64 1))), (some 12, .mv (.t 104))]⟩] [2, 3, 9, 10, 12, 86, 87, 88])
 .skip))))
 (.rg [⟨none, [(some 105, .bin .add (.t 88) (.c (.int .i64 1))), (some 88, .mv (.t 105))]⟩] [2, 3, 9, 10, 12, 86, 87, 88]))))
def c_law12_TreeSound_B0 : Cd :=
 (.block 3 (.seq (.rg [⟨none, [(some 40, .ld (.t 5) 1 false), (some 41, .mv (.t 9)), (some 42, .mlk (some .i64) (.t 40) (.t 41) (.int .i64 0) false), (some 43, .bin .add (.t 42) (.c (.int .i64 1))), (none, .mup (some .i64) (.t 40) (.t 41) (.t 43))]⟩] [2, 3, 7, 8, 9])
 (.seq (.rg [⟨none, [(some 45, .ld (.t 3) 1 false), (some 46, .mv (.t 9)), (some 47, .call 26 [(.t 45), (.t 46)]), (some 44, .mv (.t 47)), (some 48, .ext (.t 44) 0), (some 49, .ext (.t 44) 1), (some 10, .new 62 (.c (.s (.int .i64 0)) (.c (.s (.int .i64 0)) (.c (.s (.string ⟨#[]⟩)) (.c (.s (.slice none 0 0)) .u))))), (none, .st (.t 10) (.t 48) 4), (some 11, .mv (.t 49))]⟩] [2, 3, 7, 8, 9, 10, 11])
 (.seq (.seq (.rg [⟨none, [(some 50, .mv (.t 11)), (some 51, .un .not (.t 50)), (some 52, .mv (.t 51))]⟩, ⟨some (52, false), [(some 53, .fldA (.t 10) 0 0), (some 54, .ld (.t 53) 1 false), (some 55, .mv (.t 9)), (some 56, .bin .neq (.t 54) (.t 55))]⟩, ⟨none, [(some 57, .pick (.t 52) (.c (.bool true)) (.t 56)), (some 58, .mv (.t 57))]⟩, ⟨some (58, false), [(some 59, .mv (.t 8)), (some 60, .bin .eql (.t 59) (.c (.int .i64 0))), (some 61, .mv (.t 9)), (some 62, .ld (.t 7) 1 false), (some 63, .bin .eql (.t 61) (.t 62)), (some 64, .eqA true 4 (.t 60) (.t 63))]⟩, ⟨none, [(some 65, .pick (.t 58) (.c (.bool true)) (.t 64)), (some 66, .mv (.t 65))]⟩, ⟨some (66, false), [(some 67, .ld (.t 3) 1 false), (some 68, .mv (.t 9)), (some 69, .ld (.t 7) 1 false), (some 70, .call 27 [(.t 67), (.t 68), (.t 69)]), (some 71, .un .not (.t 70))]⟩, ⟨none, [(some 72, .pick (.t 66) (.c (.bool true)) (.t 71)), (some 73, .mv (.t 72))]⟩, ⟨some (73, false), [(some 74, .ld (.t 3) 1 false), (some 75, .mv (.t 9)), (some 76, .ld (.t 7) 1 false), (some 77, .bin .sub (.c (.int .i64 3)) (.t 76)), (some 78, .call 27 [(.t 74), (.t 75), (.t 77)])]⟩, ⟨none, [(some 79, .pick (.t 73) (.c (.bool true)) (.t 78))]⟩] [2, 3, 7, 9, 10, 79])
 (.ite (.t 79)
 (.seq (.rg [⟨none, [(none, .st (.t 2) (.c (.bool false)) 1)]⟩] [2])
 .ret)
 .skip))
 (.seq (.seq (.rg [⟨none, [(some 80, .mv (.t 9)), (some 81, .ld (.t 7) 1 false), (some 82, .bin .eql (.t 80) (.t 81))]⟩] [2, 3, 9, 10, 82])
 (.ite (.t 82)
 (.exit 3)
 .skip))
 (.seq (.rg [⟨none, [(some 12, .mv (.c (.int .i64 0)))]⟩] [2, 3, 9, 10, 12])
 (.seq (.seq (.rg [⟨none, [(some 83, .ld (.t 3) 1 false), (some 84, .fldA (.t 10) 1 1), (some 85, .ld (.t 84) 1 false), (some 86, .call 28 [(.t 83), (.t 85)]), (some 87, .len (.t 86)), (some 88, .mv (.c (.int .i64 0)))]⟩] [2, 3, 9, 10, 12, 86, 87, 88])
 (.block 4 (.loop c_law12_TreeSound_B0_L0)))
 (.seq (.rg [⟨none, [(some 106, .mv (.t 12)), (some 107, .bin .neq (.t 106) (.c (.int .i64 1))), (some 108, .mv (.t 107))]⟩, ⟨some (108, false), [(some 109, .ld (.t 3) 1 false), (some 110, .fldA (.t 10) 1 1), (some 111, .ld (.t 110) 1 false), (some 112, .mv (.t 9)), (some 113, .call 27 [(.t 109), (.t 111), (.t 112)])]⟩, ⟨none, [(some 114, .pick (.t 108) (.c (.bool true)) (.t 113))]⟩] [2, 114])
 (.ite (.t 114)
 (.seq (.rg [⟨none, [(none, .st (.t 2) (.c (.bool false)) 1)]⟩] [2])
 .ret)
 .skip)))))))))
theorem kB0_law12_TreeSound : comp Try.prog 134 [] (rfBd c_law12_TreeSound_W0) = er c_law12_TreeSound_B0 := by kernel_rfl
end Go.Proofs.Ytdpknchgoeboaaa.Vc

/- A variable that was handed out is one's own again. -/
set_option linter.unusedVariables false
set_option linter.unusedSimpArgs false
namespace Go.Proofs.Ytdpknchgoeboaaa.Vc
open Go Go.Shelf
section
variable {C : Ctx} {σ : SS} {a : Act} {w : World} {K : KT}
theorem Rel.ownBox (h : Rel C σ a w) {t : Nat} (k : Nat) {v : Value} {g : GV} {u m' : PH} (ht : look σ.fr t = some (.g (.s v))) (hk : look σ.pv k = none) (hp : PtO u v g) (hm : σ.m = uni u m') (hd : dis u m') :
    Rel C ⟨(t, .ref k []) :: σ.fr, (k, .box g) :: σ.pv, σ.ph, m'⟩ a w := by
  obtain ⟨loc, hF, hH⟩ := h
  obtain ⟨v', hv, hvs⟩ := hF.slots t _ ht
  have hvv : v' = v := hvs.2
  subst hvv
  have hmle : ∀ j, σ.m j = none → m' j = none := fun j hj => by
    rw [hm] at hj
    cases h1 : m' j with
    | none => rfl
    | some o => simp [uni, h1] at hj
  have hm'le : ∀ j o, m' j = some o → σ.m j = some o := fun j o hj => by
    rw [hm]; exact sub_uni_r hd j o hj
  obtain ⟨hok, b0, e, hv0, hu⟩ := hp
  have hub : u b0 = some (.cells g.flat.toArray e (0, 0)) := by rw [hu]; simp [one]
  have hmb : σ.m b0 = some (.cells g.flat.toArray e (0, 0)) := by rw [hm]; simp [uni, hub]
  have hb : w.heap[b0]? = some (.cells g.flat.toArray e (0, 0)) := hH.mle b0 _ hmb
  have hoff : g.offs [] = 0 := by cases g <;> rfl
  have hget : g.get [] = some g := by cases g <;> rfl
  refine ⟨fun j => if j = k then some (b0, 0, 0) else loc j, ⟨hF.defers, hF.size, fun s x hx => ?_⟩, ⟨hH.kept, fun j y hj => ?_, fun j j' y y' b o c o' c' g1 g2 g3 g4 g5 g6 => ?_, fun j y b o c g1 g2 g3 => ?_, fun j o hj => hH.mle j o (hm'le j o hj), fun j hj => hH.mmine j (fun e => hj (hmle j e)), fun u' hu => ⟨(hH.phs u' hu).1, fun j hj => ⟨((hH.phs u' hu).2 j hj).1, hmle j ((hH.phs u' hu).2 j hj).2⟩⟩⟩⟩
  · simp only [look] at hx
    split at hx
    · rename_i e1; subst e1
      simp at hx; subst hx
      exact ⟨v', hv, g, b0, 0, g, by simp [look], by simp, hget, by rw [hoff]; exact hv0⟩
    · obtain ⟨v2, hv2, hr2⟩ := hF.slots s x hx
      refine ⟨v2, hv2, hr2.weaken fun j hj => ?_⟩
      have hjk : j ≠ k := fun e => hr2.there j hj (e ▸ hk)
      exact ⟨by simp [hjk], by simp [look, hjk]⟩
  · simp only [look] at hj
    split at hj
    · rename_i e1; subst e1
      simp at hj; subst hj
      exact ⟨hok, b0, 0, e, by simp, hb⟩
    · rename_i hjk
      have hp := hH.pvs j y hj
      cases y with
      | box g => simpa [PVr, hjk] using hp
      | row e' z' df' xs' => simpa [PVr, hjk] using hp
      | ro z' df' xs' => simpa [PVr, hjk] using hp
  · simp only [look] at g1 g4
    by_cases hj : j = k
    · by_cases hj' : j' = k
      · rw [hj, hj']
      · simp only [hj, if_true] at g3
        simp only [hj', if_false] at g4 g6
        have e2 := (hH.priv j' y' b o' c' g4 g5 g6).2.1
        simp only [Option.some.injEq, Prod.mk.injEq] at g3
        rw [← g3.1, hmb] at e2; cases e2
    · simp only [hj, if_false] at g1 g3
      by_cases hj' : j' = k
      · simp only [hj', if_true] at g6
        have e2 := (hH.priv j y b o c g1 g2 g3).2.1
        simp only [Option.some.injEq, Prod.mk.injEq] at g6
        rw [← g6.1, hmb] at e2; cases e2
      · simp only [hj', if_false] at g4 g6
        exact hH.apart j j' y y' b o c o' c' g1 g2 g3 g4 g5 g6
  · simp only [look] at g1
    by_cases hj : j = k
    · simp only [hj, if_true, Option.some.injEq, Prod.mk.injEq] at g3
      obtain ⟨rfl, _, _⟩ := g3
      have hmb' : σ.m b0 ≠ none := by rw [hmb]; simp
      refine ⟨hH.mmine b0 hmb', (hd b0).resolve_left (by rw [hub]; simp), fun u' hu' => ?_⟩
      cases hub' : u' b0 with
      | none => rfl
      | some x => exact absurd ((hH.phs u' hu').2 b0 (by simp [hub'])).2 hmb'
    · simp only [hj, if_false] at g1 g3
      obtain ⟨e1, e2, e3⟩ := hH.priv j y b o c g1 g2 g3
      exact ⟨e1, hmle b e2, e3⟩
/-- A variable that was handed out is one's own again. -/
theorem gh_ownBox (t k : Nat) {v : Value} {g : GV} (u m' : PH) (ht : look σ.fr t = some (.g (.s v))) (hk : look σ.pv k = none) (hp : PtO u v g) (hm : σ.m = uni u m') (hd : dis u m')
    (hK : K ⟨(t, .ref k []) :: σ.fr, (k, .box g) :: σ.pv, σ.ph, m'⟩) : ghC C K σ := by
  constructor
  intro a w hR
  exact ⟨_, hR.ownBox k ht hk hp hm hd, hK⟩
end
end Go.Proofs.Ytdpknchgoeboaaa.Vc

/- A tree's steps, and what Walk answers. -/
set_option linter.unusedVariables false
set_option linter.unusedSimpArgs false
set_option maxRecDepth 100000
namespace Go.Proofs.Ytdpknchgoeboaaa.Vc
open Go Go.Proofs Go.Shelf

/-- A call that has memory at its disposal, apart from all that is only read. -/
theorem call_apart {C : Ctx} {σ : SS} {f : Nat} {args : List Opd} {d : Option Nat} {K : KT} {svs : List SV} {Q : List GV → PH → Prop} (m1 mr : PH) (hd : ∀ t, d = some t → t < C.N) (ha : evL σ args = some svs) (hm : σ.m = uni m1 mr) (hdis : dis m1 mr)
    (hs : ∀ w vs, ArgsV C σ w svs vs → C.u0.le w → (∀ u ∈ σ.ph, u.le w) → (∀ b o, C.u0 b = some o → m1 b = none) → (∀ u ∈ σ.ph, dis m1 u) → Spec C.P f vs m1 w Q)
    (hK : ∀ rs m', (∀ r ∈ rs, r.ok) → Q rs m' → dis m' mr → K ({ σ with m := uni m' mr }.put d (retS rs))) : vcCall C f args d K σ := by
  constructor
  rintro a w ⟨loc, hF, hH⟩
  have hs1 : ∀ b, m1 b ≠ none → σ.m b ≠ none := fun b hb => by
    rw [hm]
    cases h1 : m1 b with
    | none => exact absurd h1 hb
    | some o => simp [uni, h1]
  have h0 : ∀ b o, C.u0 b = some o → m1 b = none := fun b o hb => by
    cases h1 : m1 b with
    | none => rfl
    | some x =>
      have hmine := hH.mmine b (hs1 b (by rw [h1]; simp))
      unfold Ctx.u0 at hb
      split at hb
      · rename_i h2
        have h2 : C.m0 b = none := by simpa using h2
        have hlt : b < C.w0.heap.size := (Array.getElem?_eq_some_iff.1 hb).1
        exact (hmine.elim (fun h => by omega) fun h => absurd h2 h)
      · cases hb
  have h1 : ∀ u ∈ σ.ph, dis m1 u := fun u hu b => by
    cases hu' : u b with
    | none => exact .inr rfl
    | some x =>
      have := ((hH.phs u hu).2 b (by rw [hu']; simp)).2
      refine .inl ?_
      cases h1 : m1 b with
      | none => rfl
      | some y => exact absurd this (hs1 b (by rw [h1]; simp))
  obtain ⟨h⟩ := call_with (C := C) (σ := σ) (K := K) (Q := Q) m1 mr hd ha hm hdis (fun w vs g1 g2 g3 => hs w vs g1 g2 g3 h0 h1) hK
  exact h a w ⟨loc, hF, hH⟩

section
variable {u : PH} {L : Lay} {T : PT}
theorem steps_spec (hT : TM u L T) (hkd : T.kidsOk) (hg : VGood T.view) (hlen : T.nodes.length ≤ 1099511627776) : ∀ (f : Nat) (w : World) (mu : PH) (n : Int) (d k : Nat) (v : Value) (xs : List (Int × Int)), u.le w → dis mu u → LeadsN T.view k n → T.nodes.length < k + f → d ≤ k →
    SlO mu v 117 2 (xs.map gStp) → xs.length + (stepsA T f n d).length ≤ 1099511627776 →
    Spec Try.prog f_tree_Tree_steps [ptr (L .t), .int .i64 n, .int .i64 d, v] mu w fun rs m' => ∃ v', rs = [.s v'] ∧ SlO m' v' 117 2 ((xs ++ stepsA T f n d).map gStp) := by
  intro f
  induction f with
  | zero => intro w mu n d k v xs hu hd hl hf; have := hl.few; omega
  | succ f ih =>
    intro w mu n d k v xs hu hdu hl hf hdk hv hb
    have hfew := hl.few
    have hcf := childA_few hkd hg n
    obtain ⟨va, vc', rfl⟩ : ∃ a c, v = .slice a xs.length c := by
      obtain ⟨a, c, h⟩ := slr_len hv.toR
      exact ⟨a, c, by rw [h, List.length_map]⟩
    refine spec_of k_tree_Tree_steps [.g (.s (ptr (L .t))), .g (.s (.int .i64 n)), .g (.s (.int .i64 d)), .g (.s (.slice va xs.length vc'))] (by simp) (by simp [AV.ok, GV.ok, Value.oneCell', ptr]) ?_
    have hu0 : ∀ b o, u b = some o → (⟨Try.prog, 34, w, mu⟩ : Ctx).u0 b = some o := fun b o h => by
      have : mu b = none := (hdu b).resolve_right (by rw [h]; simp)
      simp only [Ctx.u0, this, Option.isNone_none, if_true]
      exact hu b o h
    have hlist : stepsA T (f + 1) n d = ((d : Int), n) :: (childA T n).flatMap fun c => stepsA T f c.node (d + 1) := rfl
    rw [hlist] at hb ⊢
    simp only [List.length_cons] at hb
    simp (maxSteps := 2000000) only [c_tree_Tree_steps, vc_seq, vc_rg, thenQ_n, kKeep_eq, segs_nil, segs_n, ops_nil, ops_cons, vcOp, ev, evL, gvL, look, updL, put_mk, keep_mk, keepL, rowE, GV.getT, GV.sz, GV.setT, Value.oneCell', cond_true, Nat.reduceEqDiff, Nat.reduceAdd, ↓reduceIte, reduceCtorEq, Nat.zero_add, Nat.add_zero, Bool.and_true, Bool.true_and, true_and, and_true, initF, initP, List.map_cons, List.map_nil, Option.map_some, szAll, List.length_cons, List.length_nil, Int.reduceAdd, List.drop_zero, List.take_succ_cons, List.take_zero, GV.bldT, GV.bldC, same_int, ptr]
    refine ⟨⟨rfl, rfl⟩, app_of rfl rfl mu PH.no (xs.map gStp) hv (uni_no_r _).symm (dis_no_r _) (by simp only [List.length_map, List.length_cons, List.length_nil]; omega) fun v1 m1 hv1 hs1 _ => ?_⟩
    simp (maxSteps := 2000000) only [uni_no_r, vc_seq, vc_rg, thenQ_n, kKeep_eq, segs_nil, segs_n, ops_nil, ops_cons, vcOp, ev, look, put_mk, keep_mk, keepL, Nat.reduceEqDiff, ↓reduceIte, reduceCtorEq]
    refine call_frzm rfl rfl (Q := fun rs m' => ∃ v, rs = [.s v] ∧ SlO m' v 69 2 ((childA T n).map gChild)) (fun w' vs hvv hw _ _ => ?_) fun rs mC _ hq => ?_
    · obtain ⟨vs, rfl, _, hvv⟩ := argsV_g hvv
      obtain ⟨vs, rfl, _, hvv⟩ := argsV_g hvv
      obtain rfl := argsV_nil hvv
      exact Children_spec (fun b o h => hw b o (hu0 b o h)) hT n hkd hg hlen
    obtain ⟨vC, rfl, hvC⟩ := hq
    have hvR := hvC.toR
    obtain ⟨aC, cC, rfl⟩ := slr_len hvR
    simp (maxSteps := 2000000) only [retS, List.length_map, vc_block, thenQ_n, kKeep_eq, segs_nil, ops_nil, ops_cons, vcOp, ev, look, put_mk, keep_mk, keepL, Value.oneCell', cond_true, Nat.reduceEqDiff, ↓reduceIte, reduceCtorEq, List.length_map]
    refine vc_loop (ι := Nat × Value × PH) (fun q => ⟨[(0, .g (.s (.pointer (some ⟨L .t, 0, none⟩)))), (2, .g (.s (.int .i64 (d)))), (3, .g (.s (q.2.1))), (19, .g (.s (.slice aC (childA T n).length cC))), (20, .g (.s (.int .i64 ((childA T n).length)))), (21, .g (.s (.int .i64 (q.1))))], [], [mC], q.2.2⟩)
      (fun q => q.1 ≤ (childA T n).length ∧ q.2.1.oneCell' = true ∧ SlO q.2.2 q.2.1 117 2 ((xs ++ ((d : Int), n) :: ((childA T n).take q.1).flatMap fun c => stepsA T f c.node (d + 1)).map gStp)) (fun q => (childA T n).length - q.1) (0, v1, m1) ⟨by simp, hv1, by simpa [gStp] using hs1⟩ (ge_of ?_ ?_ rfl rfl rfl) ?_
    · simp [frIn, look, ptr]
    · simp [pvIn, look]
    rintro ⟨i, v2, m2⟩ ⟨hi, hv2, hs2⟩
    simp only at hi hv2 hs2
    generalize hQ : loopQ _ _ _ _ _ = Q
    simp (maxSteps := 2000000) only [c_tree_Tree_steps_L0, vc_skip, vc_exit, vc_seq, vc_block, vc_rg, vc_ite, thenQ_n, thenQ_e, kKeep_eq, segs_nil, segs_n, ops_nil, ops_cons, vcOp, ev, look, put_mk, keep_mk, keepL, rowE, binV, binC, Nat.reduceEqDiff, ↓reduceIte, reduceCtorEq, Bool.true_and, true_and, decide_eq_true_eq, decide_eq_false_iff_not, br_t, gChild_zero]
    refine ⟨fun hlt => ?_, fun hge => ?_⟩
    · obtain ⟨bC, oC, cC', hsh, hseen⟩ : ∃ b o c', (Value.slice aC (childA T n).length cC = .slice (some ⟨b, o, none⟩) (childA T n).length c') ∧ ∀ {C : Ctx} {ph : List PH} {m : PH}, KN C.u0 (m :: ph) mC → ∀ i x, ((childA T n).map gChild)[i]? = some x → Seen C ph m b (o + i * 2) x := by
        rcases hvR.shape with ⟨h1, _⟩ | ⟨_, b, o, c', h2, h3, h4⟩
        · have h1 : (childA T n).length = 0 := by simpa using h1
          omega
        · rw [List.length_map] at h2
          exact ⟨b, o, c', h2, h4⟩
      simp only [Value.slice.injEq, true_and] at hsh
      obtain ⟨rfl, rfl⟩ := hsh
      obtain ⟨c, hc⟩ : ∃ c, (childA T n)[i]? = some c := ⟨_, List.getElem?_eq_getElem (by omega)⟩
      have hcm : c ∈ childA T n := List.mem_of_getElem? hc
      obtain ⟨htc, y, hy, hyp, hyn⟩ := (mem_childA hkd hg).1 hcm
      have hlc : LeadsN T.view (k + 1) c.node := ⟨htc, y.view, PT.view_get hy, by rw [show y.view.parent = n from hyp]; exact hl⟩
      have htake : ((childA T n).take (i + 1)) = (childA T n).take i ++ [c] := by rw [List.take_add_one, hc]; rfl
      have hfl : ((childA T n).take (i + 1)).flatMap (fun c => stepsA T f c.node (d + 1)) = (((childA T n).take i).flatMap fun c => stepsA T f c.node (d + 1)) ++ stepsA T f c.node (d + 1) := by
        rw [htake, List.flatMap_append]; simp
      have hlen2 : (((childA T n).take (i + 1)).flatMap fun c => stepsA T f c.node (d + 1)).length ≤ ((childA T n).flatMap fun c => stepsA T f c.node (d + 1)).length := by
        conv => rhs; rw [← List.take_append_drop (i + 1) (childA T n), List.flatMap_append, List.length_append]
        omega
      rw [hfl, List.length_append] at hlen2
      refine ⟨⟨by omega, by omega⟩, ld_of _ (hseen (KN.mem (by simp)) i (gChild c) (by rw [List.getElem?_map, hc]; rfl)) rfl ?_⟩
      simp (maxSteps := 2000000) only [vc_rg, thenQ_n, kKeep_eq, segs_nil, segs_n, ops_nil, ops_cons, vcOp, ev, look, updL, put_mk, put_mk0, keep_mk, keepL, binV, binC, GV.getT, Value.oneCell', cond_true, Nat.reduceEqDiff, ↓reduceIte, reduceCtorEq, List.nil_append, Bool.and_true, Bool.true_and, Bool.not_false, true_and, and_true, Int.toNat_natCast, getT_nil, setT_nil, fits_s, gChild_sz, gChild_same, gChild_fld1, gChild_get1]
      rw [wrap_n (by omega)]
      refine call_apart m2 PH.no (dOk_spec rfl) rfl (uni_no_r _).symm (dis_no_r _) (Q := fun rs m' => ∃ v', rs = [.s v'] ∧ SlO m' v' 117 2 (((xs ++ ((d : Int), n) :: ((childA T n).take i).flatMap fun c => stepsA T f c.node (d + 1)) ++ stepsA T f c.node (d + 1)).map gStp)) (fun w' vs hvv hw _ ha0 _ => ?_) fun rs m4 _ hq _ => ?_
      · obtain ⟨vs, rfl, _, hvv⟩ := argsV_g hvv
        obtain ⟨vs, rfl, _, hvv⟩ := argsV_g hvv
        obtain ⟨vs, rfl, _, hvv⟩ := argsV_g hvv
        obtain ⟨vs, rfl, _, hvv⟩ := argsV_g hvv
        obtain rfl := argsV_nil hvv
        refine ih w' m2 c.node (d + 1) (k + 1) v2 _ (fun b o h => hw b o (hu0 b o h)) (fun b => ?_) hlc (by omega) (by omega) hs2 ?_
        · cases hb : u b with
          | none => exact .inr rfl
          | some o => exact .inl (ha0 b o (hu0 b o hb))
        · simp only [List.length_append, List.length_cons]; omega
      obtain ⟨v4, rfl, hs4⟩ := hq
      simp (maxSteps := 2000000) only [retS, uni_no_r, vc_rg, thenQ_n, blockQ_n, kKeep_eq, segs_nil, segs_n, ops_nil, ops_cons, vcOp, ev, look, put_mk, keep_mk, keepL, binV, binC, Value.oneCell', cond_true, Nat.reduceEqDiff, ↓reduceIte, reduceCtorEq, Bool.true_and, true_and]
      have hv4 : v4.oneCell' = true := by obtain ⟨a4, c4, rfl⟩ := slr_len hs4.toR; rfl
      subst hQ; simp only [loopQ_n]; refine ⟨(i + 1, v4, m4), ?_, ?_, ge_of ?_ ?_ rfl rfl rfl⟩
      · refine ⟨by simp only; omega, hv4, ?_⟩
        simp only
        rw [hfl]
        simpa [List.append_assoc] using hs4
      · simp only; omega
      · simp only [frIn, look, Nat.reduceEqDiff, ↓reduceIte, reduceCtorEq, Bool.and_true, Bool.true_and, true_and, and_true]
        rw [wrap_n (by omega)]
        try simp
      · simp [pvIn, look]
    · subst hQ
      simp (maxSteps := 2000000) only [vc_ret, vc_seq, vc_rg, thenQ_n, blockQ_e, kKeep_eq, loopQ_e, finQ_r, segs_nil, segs_n, ops_nil, ops_cons, vcOp, ev, look, put_mk, keep_mk, keepL, Value.oneCell', Nat.reduceEqDiff, ↓reduceIte, reduceCtorEq]
      have hi' : i = (childA T n).length := by omega
      subst hi'
      rw [List.take_length] at hs2
      exact fin_m (rs := [.s v2]) _ rfl (fun _ _ h => h) ⟨v2, rfl, hs2⟩
/-- What Walk answers from a node that is there. -/
theorem Walk_spec {w : World} (hu : u.le w) (hT : TM u L T) (hkd : T.kidsOk) (hg : VGood T.view) (hlen : T.nodes.length ≤ 1099511627776) (top : Int) (ht : topB top = true) :
    Spec Try.prog f_tree_Tree_Walk [ptr (L .t), .int .i64 top] PH.no w fun rs m' => ∃ b e v, rs = [.s (.func (.func f_tree_Tree_Walk_1) #[] #[ptr b])] ∧ m' b = some (.cells #[v] e (0, 0)) ∧ SlR m' v 2 ((walkA T top).map gStp) := by
  refine spec_of k_tree_Tree_Walk [.g (.s (ptr (L .t))), .g (.s (.int .i64 top))] (by simp) (by simp [AV.ok, GV.ok, Value.oneCell', ptr]) ?_
  have hk : ∀ {l : List PH}, KN (⟨Try.prog, 22, w, PH.no⟩ : Ctx).u0 l u := kn_u hu
  have htv : T.view top ≠ none := by
    rcases topB_iff.1 ht with rfl | rfl
    · exact hg.one
    · exact hg.two
  obtain ⟨x, hx⟩ : ∃ x, T.get top = some x := by
    cases hx : T.get top with
    | none => exact absurd (PT.view_none.2 hx) htv
    | some x => exact ⟨x, rfl⟩
  simp (maxSteps := 2000000) only [c_tree_Tree_Walk, vc_seq, vc_rg, thenQ_n, kKeep_eq, segs_nil, segs_n, ops_nil, ops_cons, vcOp, ev, look, updL, put_mk, keep_mk, keepL, Value.oneCell', cond_true, Nat.reduceEqDiff, ↓reduceIte, reduceCtorEq, Nat.zero_add, Bool.true_and, true_and, initF, initP, ptr]
  refine call_is _ [.s (.bool false)] rfl rfl (fun w' vs hv hw => ?_) ?_
  · obtain ⟨vs, rfl, _, hv⟩ := argsV_g hv
    obtain rfl := argsV_nil hv
    intro _
    exact none_spec (fun b o h => hw b o (by rw [u0_no]; exact hu b o h)) hT
  simp (maxSteps := 2000000) only [retS, segs_g, ops_nil, ops_cons, vcOp, ev, look, put_mk, unV, ↓reduceIte, reduceCtorEq, Nat.add_zero, Bool.not_false, ↓br_tt]
  refine ld_of _ (hT.s_map hk) rfl ?_
  simp (maxSteps := 2000000) only [ops_cons, vcOp, ev, look, put_mk, Nat.reduceEqDiff, ↓reduceIte, reduceCtorEq]
  refine hT.lk hk top ?_
  rw [hx]
  simp (maxSteps := 2000000) only [ops_cons, vcOp, ev, look, put_mk, Value.oneCell', cond_true, ↓reduceIte, nptr_some]
  refine eq_of (eqNode _) ?_
  simp (maxSteps := 2000000) only [vc_rg, vc_ite, thenQ_n, kKeep_eq, segs_nil, segs_n, ops_nil, ops_cons, vcOp, ev, look, put_mk, keep_mk, keepL, Value.oneCell', cond_true, Nat.reduceEqDiff, ↓reduceIte, reduceCtorEq, Bool.not_false, ↓br_tt, Bool.bne_true]
  refine call_ownm rfl rfl (Q := fun rs m' => ∃ v', rs = [.s v'] ∧ SlO m' v' 117 2 (([] ++ walkA T top).map gStp)) (fun w' vs hv hw _ _ => ?_) fun rs m1 _ hq _ => ?_
  · obtain ⟨vs, rfl, _, hv⟩ := argsV_g hv
    obtain ⟨vs, rfl, _, hv⟩ := argsV_g hv
    obtain ⟨vs, rfl, _, hv⟩ := argsV_g hv
    obtain ⟨vs, rfl, _, hv⟩ := argsV_g hv
    obtain rfl := argsV_nil hv
    refine steps_spec hT hkd hg hlen (T.nodes.length + 1) w' PH.no top 0 0 _ [] (fun b o h => hw b o (by rw [u0_no]; exact hu b o h)) (dis_no _) (leads_top ht) (by omega) (by omega) ⟨fun x hx => by simp at hx, .inl ⟨rfl, rfl⟩⟩ ?_
    have := stepsA_few hkd hg (f := T.nodes.length + 1) (d := 0) htv (leads_top ht)
    simp only [List.length_nil]
    omega
  obtain ⟨v1, rfl, hs1⟩ := hq
  rw [List.nil_append] at hs1
  have hv1 : v1.oneCell' = true := by obtain ⟨a4, c4, rfl⟩ := slr_len hs1.toR; rfl
  simp (maxSteps := 2000000) only [retS, uni_no_r, vc_seq, vc_rg, thenQ_n, kKeep_eq, segs_nil, segs_n, ops_nil, ops_cons, vcOp, ev, look, updL, put_mk, put_mk0, keep_mk, keepL, GV.getT, GV.sz, GV.same, GV.setT, Nat.reduceEqDiff, ↓reduceIte, reduceCtorEq, Bool.and_true, Bool.true_and, true_and, and_true]
  refine gh_pubBox 5 5 rfl rfl fun v u2 hv hp hd => ?_
  obtain ⟨hok, b, e, rfl, rfl⟩ := hp
  simp (maxSteps := 2000000) only [dropK, vc_ret, thenQ_n, kKeep_eq, finQ_r, segs_nil, ops_nil, ops_cons, vcOp, ev, evL, scL, look, put_mk, keep_mk, keepL, cond_true, ↓reduceIte, BEq.rfl, Option.map_some, kill, SV.mentions]
  exact fin_m (rs := [.s (.func (.func f_tree_Tree_Walk_1) #[] #[ptr b])]) _ rfl (fun _ _ h => h) ⟨b, e, v1, rfl, by simp [uni, one, GV.flat], hs1.toR.up (sub_uni_r hd)⟩
end
end Go.Proofs.Ytdpknchgoeboaaa.Vc

/- A tree asked for a node, and whether one is below another. -/
set_option linter.unusedVariables false
set_option linter.unusedSimpArgs false
set_option maxRecDepth 100000
namespace Go.Proofs.Ytdpknchgoeboaaa.Vc
open Go Go.Proofs

section
variable {w : World} {u : PH} {L : Lay} {T : PT}
theorem Node_spec (hu : u.le w) (hT : TM u L T) (n : Int) (hsm : ∀ x, T.get n = some x → x.small) :
    Spec Try.prog f_tree_Tree_Node [ptr (L .t), .int .i64 n] PH.no w fun rs m' => (T.get n = none → rs = [gTreeNode zTreeNode, .s (.bool false)]) ∧ ∀ x, T.get n = some x → ∃ v, rs = [gTreeNode ⟨n, x.parent, x.name, v⟩, .s (.bool true)] ∧ SlO m' v 103 2 ((attrsOf x).map gAttr) := by
  refine spec_of k_tree_Tree_Node [.g (.s (ptr (L .t))), .g (.s (.int .i64 n))] (by simp) (by simp [AV.ok, GV.ok, Value.oneCell', ptr]) ?_
  have hk : ∀ {l : List PH}, KN (⟨Try.prog, 21, w, PH.no⟩ : Ctx).u0 l u := kn_u hu
  simp (maxSteps := 2000000) only [c_tree_Tree_Node, vc_seq, vc_rg, thenQ_n, kKeep_eq, segs_nil, segs_n, ops_nil, ops_cons, vcOp, ev, look, updL, put_mk, keep_mk, keepL, Value.oneCell', cond_true, Nat.reduceEqDiff, ↓reduceIte, reduceCtorEq, Nat.zero_add, Bool.true_and, true_and, initF, initP, gTreeNode_zero, ptr]
  refine call_is _ [.s (.bool false)] rfl rfl (fun w' vs hv hw => ?_) ?_
  · obtain ⟨vs, rfl, _, hv⟩ := argsV_g hv
    obtain rfl := argsV_nil hv
    intro _
    exact none_spec (fun b o h => hw b o (by rw [u0_no]; exact hu b o h)) hT
  simp (maxSteps := 2000000) only [retS, segs_g, ops_nil, ops_cons, vcOp, ev, look, put_mk, ↓reduceIte, reduceCtorEq, Nat.add_zero, ↓br_ff]
  refine ld_of _ (hT.s_map hk) rfl ?_
  simp (maxSteps := 2000000) only [ops_cons, vcOp, ev, look, put_mk, Nat.reduceEqDiff, ↓reduceIte, reduceCtorEq]
  refine hT.lk hk n ?_
  cases hx : T.get n with
  | none =>
    simp (maxSteps := 2000000) only [ops_cons, vcOp, ev, look, put_mk, Value.oneCell', cond_true, ↓reduceIte, reduceCtorEq, true_imp_iff, false_imp_iff, nptr_none]
    refine eq_of eqNode0 ?_
    simp (maxSteps := 2000000) only [vc_ret, vc_seq, vc_rg, vc_ite, thenQ_n, thenQ_r, kKeep_eq, finQ_r, segs_nil, segs_n, ops_nil, ops_cons, vcOp, ev, evL, gvL, look, updL, put_mk, put_mk0, keep_mk, keepL, Value.oneCell', cond_true, Nat.reduceEqDiff, ↓reduceIte, reduceCtorEq, Bool.and_true, Bool.true_and, true_and, and_true, List.map_nil, ↓br_tt, ↓br_ft, Bool.bne_false, GV.bldT, GV.bldC, getT_nil, setT_nil, gTreeNode_sz, gTreeNode_same]
    refine fin_g (rs := [gTreeNode zTreeNode, .s (.bool false)]) rfl ⟨rfl, fun x => trivial⟩
  | some x =>
    simp (maxSteps := 2000000) only [ops_cons, vcOp, ev, look, put_mk, Value.oneCell', cond_true, ↓reduceIte, reduceCtorEq, Bool.true_and, true_and, false_imp_iff, nptr_some]
    refine eq_of (eqNode _) ?_
    simp (maxSteps := 2000000) only [vc_skip, vc_seq, vc_rg, vc_ite, thenQ_n, kKeep_eq, segs_nil, segs_n, ops_nil, ops_cons, vcOp, ev, look, put_mk, keep_mk, keepL, Value.oneCell', cond_true, Nat.reduceEqDiff, ↓reduceIte, reduceCtorEq, ↓br_ft, Bool.bne_false]
    refine call_ownm rfl rfl (Q := fun rs m' => ∃ v, rs = [gTreeNode ⟨n, x.parent, x.name, v⟩] ∧ SlO m' v 103 2 ((attrsOf x).map gAttr)) (fun w' vs hv hw _ _ => ?_) fun rs m1 _ hq _ => ?_
    · obtain ⟨vs, rfl, _, hv⟩ := argsV_g hv
      obtain ⟨vs, rfl, _, hv⟩ := argsV_g hv
      obtain rfl := argsV_nil hv
      exact told_spec w' u (fun b o h => hw b o (by rw [u0_no]; exact hu b o h)) L T hT n x hx (hsm x hx)
    obtain ⟨v, rfl, hv⟩ := hq
    simp (maxSteps := 2000000) only [retS, uni_no_r, vc_ret, thenQ_n, kKeep_eq, finQ_r, segs_nil, ops_nil, ops_cons, vcOp, ev, look, updL, put_mk, put_mk0, keep_mk, keepL, Value.oneCell', cond_true, Nat.reduceEqDiff, ↓reduceIte, reduceCtorEq, Bool.and_true, Bool.true_and, true_and, and_true, getT_nil, setT_nil, gTreeNode_sz, gTreeNode_same]
    refine fin_m (rs := [gTreeNode ⟨n, x.parent, x.name, v⟩, .s (.bool true)]) _ rfl (fun _ _ h => h) fun y hy => ?_
    cases hy
    exact ⟨v, rfl, hv⟩
theorem BelowX_spec (hu : u.le w) (hT : TM u L T) (n a : Int) (hl : T.nodes.length < 9223372036854775800) : Spec Try.prog f_tree_Tree_Below [ptr (L .t), .int .i64 n, .int .i64 a] PH.no w fun rs _ => rs = [.s (.bool (T.has n && T.has a && T.below n a))] := by
  refine spec_val k_tree_Tree_Below (Qf := fun rs => rs = [.s (.bool (T.has n && T.has a && T.below n a))]) [.g (.s (ptr (L .t))), .g (.s (.int .i64 n)), .g (.s (.int .i64 a))] (by simp) (by simp [AV.ok, GV.ok, Value.oneCell', ptr]) ?_
  have hk : ∀ {l : List PH}, KN (⟨Try.prog, 34, w, PH.no⟩ : Ctx).u0 l u := kn_u hu
  simp (maxSteps := 2000000) only [c_tree_Tree_Below, vc_seq, vc_rg, thenQ_n, kKeep_eq, segs_nil, segs_n, ops_nil, ops_cons, vcOp, ev, look, put_mk, keep_mk, keepL, Value.oneCell', cond_true, Nat.reduceEqDiff, Nat.reduceAdd, ↓reduceIte, reduceCtorEq, Nat.zero_add, initF, initP, Int.reduceAdd, ptr]
  refine call_is _ [.s (.bool false)] rfl rfl (fun w' vs hv hw => ?_) ?_
  · obtain ⟨vs, rfl, _, hv⟩ := argsV_g hv
    obtain rfl := argsV_nil hv
    intro _
    exact none_spec (fun b o h => hw b o (by rw [u0_no]; exact hu b o h)) hT
  simp (maxSteps := 2000000) only [retS, segs_g, ops_nil, ops_cons, vcOp, ev, look, put_mk, unV, ↓reduceIte, reduceCtorEq, Nat.add_zero, Bool.not_false, ↓br_tt]
  refine ld_of _ (hT.s_map hk) rfl ?_
  simp (maxSteps := 2000000) only [ops_cons, vcOp, ev, look, put_mk, Nat.reduceEqDiff, ↓reduceIte, reduceCtorEq]
  refine hT.lk hk n ?_
  cases hx : T.get n with
  | none =>
    simp (maxSteps := 2000000) only [ops_cons, vcOp, ev, look, put_mk, Value.oneCell', cond_true, ↓reduceIte, nptr_none]
    refine eq_of eqNode0 ?_
    simp (maxSteps := 2000000) only [vc_ret, thenQ_n, kKeep_eq, segs_nil, segs_n, segs_g, ops_nil, ops_cons, vcOp, RO.isGh, skip_mk, skipL, ev, look, put_mk, keep_mk, keepL, Value.oneCell', cond_true, cond_false, Nat.reduceEqDiff, ↓reduceIte, Bool.not_true, finW_r, resL, resOne, ↓br_tt, ↓br_ft, Bool.bne_true]
    rw [show T.has n = false by rw [PT.has, hx]; rfl]; rfl
  | some x =>
    simp (maxSteps := 2000000) only [ops_cons, vcOp, ev, look, put_mk, Value.oneCell', cond_true, ↓reduceIte, nptr_some]
    refine eq_of (eqNode _) ?_
    simp (maxSteps := 2000000) only [segs_n, segs_g, ops_nil, ops_cons, vcOp, ev, look, put_mk, Value.oneCell', cond_true, Nat.reduceEqDiff, ↓reduceIte, reduceCtorEq, Nat.add_zero, Bool.not_false, ↓br_tt, Bool.bne_true]
    refine ld_of _ (hT.s_map hk) rfl ?_
    simp (maxSteps := 2000000) only [ops_cons, vcOp, ev, look, put_mk, Nat.reduceEqDiff, ↓reduceIte, reduceCtorEq]
    refine hT.lk hk a ?_
    cases hy : T.get a with
    | none =>
      simp (maxSteps := 2000000) only [ops_cons, vcOp, ev, look, put_mk, Value.oneCell', cond_true, ↓reduceIte, nptr_none]
      refine eq_of eqNode0 ?_
      simp (maxSteps := 2000000) only [vc_ret, thenQ_n, kKeep_eq, segs_nil, segs_n, segs_g, ops_nil, ops_cons, vcOp, RO.isGh, skip_mk, skipL, ev, look, put_mk, keep_mk, keepL, Value.oneCell', cond_true, cond_false, Nat.reduceEqDiff, ↓reduceIte, Bool.not_true, finW_r, resL, resOne, ↓br_tt, ↓br_ft, Bool.bne_true]
      rw [show T.has a = false by rw [PT.has, hy]; rfl, Bool.and_false]; rfl
    | some y =>
      simp (maxSteps := 2000000) only [ops_cons, vcOp, ev, look, put_mk, Value.oneCell', cond_true, ↓reduceIte, nptr_some]
      refine eq_of (eqNode _) ?_
      simp (maxSteps := 2000000) only [segs_n, segs_g, ops_nil, ops_cons, vcOp, ev, look, put_mk, Value.oneCell', cond_true, Nat.reduceEqDiff, ↓reduceIte, reduceCtorEq, Bool.not_false, ↓br_tt, Bool.bne_true]
      refine call_is _ [.s (.bool (T.below n a))] rfl rfl (fun w' vs hv hw => ?_) ?_
      · obtain ⟨vs, rfl, _, hv⟩ := argsV_g hv
        obtain ⟨vs, rfl, _, hv⟩ := argsV_g hv
        obtain ⟨vs, rfl, _, hv⟩ := argsV_g hv
        obtain rfl := argsV_nil hv
        intro _
        exact below_spec (fun b o h => hw b o (by rw [u0_no]; exact hu b o h)) hT n a hl
      simp (maxSteps := 2000000) only [retS, vc_ret, thenQ_n, kKeep_eq, segs_nil, segs_n, ops_nil, ops_cons, vcOp, ev, look, put_mk, keep_mk, keepL, Value.oneCell', cond_true, Nat.reduceEqDiff, ↓reduceIte, finW_r, resL, resOne, ↓br_tt]
      rw [show T.has a = true by rw [PT.has, hy]; rfl, show T.has n = true by rw [PT.has, hx]; rfl]; rfl
end
end Go.Proofs.Ytdpknchgoeboaaa.Vc

/- TreeSound: one step of a walk. -/
set_option linter.unusedVariables false
set_option linter.unusedSimpArgs false
set_option maxRecDepth 100000
namespace Go.Proofs.Ytdpknchgoeboaaa.Vc
open Go Go.Proofs Go.Shelf

theorem mget_rawK : ∀ {l : List Int} {n : Int}, n ∉ l → mget (rawK l) (.int .i64 n) = none
  | [], n, _ => rfl
  | k :: l, n, h => by
    rw [List.mem_cons, not_or] at h
    have hk : keq (.int .i64 k) (.int .i64 n) = false := by simp [keq, Ne.symm h.1]
    show (bif keq (.int .i64 k) (.int .i64 n) then _ else mget (rawK l) (.int .i64 n)) = none
    rw [hk, cond_false]
    exact mget_rawK h.2
theorem mget_rawK1 : ∀ {l : List Int} {n : Int}, n ∈ l → mget (rawK l) (.int .i64 n) = some (.int .i64 1)
  | k :: l, n, h => by
    show (bif keq (.int .i64 k) (.int .i64 n) then some (.int .i64 1) else mget (rawK l) (.int .i64 n)) = _
    by_cases hk : k = n
    · subst hk; simp [keq]
    · have hq : keq (.int .i64 k) (.int .i64 n) = false := by simp [keq, hk]
      rw [hq, cond_false]
      exact mget_rawK1 ((List.mem_cons.1 h).resolve_left fun e => hk e.symm)
/-- The law's variables, as they lie while it walks. -/
structure SVars (ph : List PH) (L : Lay) (T : PT) (mT : PH) (b3 b5 b7 bm : Nat) (top : Int) : Prop where
  tree : mT ∈ ph
  v3 : ∃ u ∈ ph, ∃ e, u b3 = some (.cells #[ptr (L .t)] e (0, 0))
  v5 : ∃ u ∈ ph, ∃ e, u b5 = some (.cells #[.map (some bm)] e (0, 0))
  v7 : ∃ u ∈ ph, ∃ e, u b7 = some (.cells #[.int .i64 top] e (0, 0))
theorem SVars.up {ph ph' : List PH} {L : Lay} {T : PT} {mT : PH} {b3 b5 b7 bm : Nat} {top : Int} (h : SVars ph L T mT b3 b5 b7 bm top) (hs : ∀ u ∈ ph, u ∈ ph') : SVars ph' L T mT b3 b5 b7 bm top :=
  ⟨hs _ h.tree, h.v3.imp fun u q => ⟨hs u q.1, q.2⟩, h.v5.imp fun u q => ⟨hs u q.1, q.2⟩, h.v7.imp fun u q => ⟨hs u q.1, q.2⟩⟩
theorem seen_ph {C : Ctx} {ph : List PH} {m : PH} {b : Nat} {v : Value} (h : ∃ u ∈ ph, ∃ e, u b = some (.cells #[v] e (0, 0))) (hv : v.oneCell' = true) : Seen C ph m b 0 (.s v) := by
  obtain ⟨u, hu, e, hb⟩ := h
  exact seen_c0 (KN.mem (List.mem_cons_of_mem _ hu)) hb (j := 0) rfl hv
/-- What is counted so far, and what would be answered. -/
def SMem (b2 bm : Nat) (V : List Int) (m : PH) : Prop := (∃ e, m b2 = some (.cells #[.bool false] e (0, 0))) ∧ ∃ o, m bm = some o ∧ MapI (some .i64) o (rawK V)

theorem has_top {T : PT} (hg : VGood T.view) {top : Int} (ht : topB top = true) : T.has top = true := has_iff.2 (by
  rcases topB_iff.1 ht with rfl | rfl
  · exact hg.one
  · exact hg.two)
theorem topB_other {top : Int} (ht : topB top = true) : topB (3 - top) = true := by
  rcases topB_iff.1 ht with rfl | rfl <;> rfl
theorem sound_round {w : World} {m0 : PH} {Q : QT} {ph : List PH} {m mT : PH} {L : Lay} {T : PT} {b2 b3 b5 b7 bm : Nat} {top d n : Int} {V : List Int} {x : PN} (hT : TM mT L T) (hkd : T.kidsOk) (hg : VGood T.view) (hlen : T.nodes.length ≤ 1099511627776)
    (hsm : ∀ n x, T.get n = some x → x.small) (ht : topB top = true) (hv : SVars ph L T mT b3 b5 b7 bm top) (hst : StepOk T top d n x) (hnV : n ∉ V) (hm : SMem b2 bm V m) (hne : b2 ≠ bm)
    (hQ : ∀ τ : SS, (∀ u ∈ ph, u ∈ τ.ph) → SMem b2 bm (V ++ [n]) τ.m → Q .normal τ) :
    vc ⟨Try.prog, 134, w, m0⟩ c_law12_TreeSound_B0 Q ⟨[(2, .g (.s (.pointer (some ⟨b2, 0, none⟩)))), (3, .g (.s (.pointer (some ⟨b3, 0, none⟩)))), (5, .g (.s (.pointer (some ⟨b5, 0, none⟩)))), (7, .g (.s (.pointer (some ⟨b7, 0, none⟩)))), (8, .g (.s (.int .i64 (d)))), (9, .g (.s (.int .i64 (n))))], [], ph, m⟩ := by
  obtain ⟨hm2, o, hmb, hmo⟩ := hm
  have htop := has_top hg ht
  have hhas : T.has n = true := by rw [PT.has, hst.get]; rfl
  have hto := has_top hg (topB_other ht)
  have hTle : ∀ {w' : World} {l : List PH}, (∀ u ∈ l, u.le w') → (∀ u ∈ ph, u ∈ l) → mT.le w' := fun h hs => h mT (hs mT hv.tree)
  simp (maxSteps := 2000000) only [c_law12_TreeSound_B0, vc_seq, vc_block, vc_rg, segs_n, ops_cons, vcOp, ev, look, Nat.reduceEqDiff, ↓reduceIte, gTreeNode_zero]
  refine ld_of _ (seen_ph hv.v5 rfl) rfl ?_
  simp (maxSteps := 2000000) only [ops_cons, vcOp, ev, look, put_mk, Nat.reduceEqDiff, ↓reduceIte]
  refine ⟨o, _, .inl hmb, hmo, rfl, ?_⟩
  rw [lkS, cond_false, mget_rawK hnV]
  simp (maxSteps := 2000000) only [Option.getD_none, ops_cons, vcOp, ev, look, put_mk, binV, binC, Value.oneCell', cond_true, Nat.reduceEqDiff, Nat.reduceAdd, ↓reduceIte, Bool.true_and, true_and, Int.reduceAdd]
  refine ⟨o, _, hmb, hmo, rfl, fun o' ho' => ?_⟩
  rw [show IntKind.i64.wrap 1 = 1 by decide] at ho'
  rw [show mput (rawK V) (.int .i64 n) (.int .i64 1) = rawK (V ++ [n]) by rw [mput_rawK, putK, if_neg hnV]] at ho'
  have hm' : SMem b2 bm (V ++ [n]) (m.upd bm o') := ⟨hm2.imp fun e h => by rw [upd_ne hne]; exact h, o', upd_self _ _ _, ho'⟩
  generalize m.upd bm o' = m1 at hm'
  simp (maxSteps := 2000000) only [vc_seq, vc_rg, thenQ_n, kKeep_eq, segs_nil, segs_n, ops_nil, ops_cons, vcOp, ev, look, put_mk0, keep_mk, keepL, Nat.reduceEqDiff, ↓reduceIte]
  refine ld_of _ (seen_ph hv.v3 rfl) rfl ?_
  simp (maxSteps := 2000000) only [ops_cons, vcOp, ev, look, put_mk, Nat.reduceEqDiff, ↓reduceIte, ptr]
  refine call_val (dOk_spec rfl) rfl (Q := fun rs _ => ∃ v, rs = [gTreeNode ⟨n, x.parent, x.name, v⟩, .s (.bool true)]) (fun w' vs hvv hw hph => ?_) fun rs m4 _ hq => ?_
  · obtain ⟨vs, rfl, _, hvv⟩ := argsV_g hvv
    obtain ⟨vs, rfl, _, hvv⟩ := argsV_g hvv
    obtain rfl := argsV_nil hvv
    refine (Node_spec (hph mT hv.tree) hT n (hsm n)).mono fun rs m' h => ?_
    obtain ⟨v, h1, _⟩ := h.2 x hst.get
    exact ⟨v, h1⟩
  obtain ⟨va, rfl⟩ := hq
  simp (maxSteps := 2000000) only [retS, List.getElem?_cons_zero, List.getElem?_cons_succ, vc_seq, vc_rg, vc_ite, thenQ_n, kKeep_eq, segs_nil, segs_n, segs_g, ops_nil, ops_cons, vcOp, RO.isGh, skip_mk, skipL, ev, look, updL, put_mk, put_mk0, keep_mk, keepL, binV, binC, unV, GV.getT, Value.oneCell', cond_true, cond_false, Nat.reduceEqDiff, ↓reduceIte, List.nil_append, Bool.and_true, Bool.true_and, Bool.not_true, Bool.not_false, true_and, and_true, ↓br_tt, ↓br_ff, ↓br_tf, ↓br_ft, br_f, getT_nil, setT_nil, fits_s, gTreeNode_sz, gTreeNode_same, gTreeNode_fld0, gTreeNode_get0]
  refine ⟨fun _ => ?_, fun h => absurd h (by simp)⟩
  refine ld_of _ (seen_ph hv.v7 rfl) rfl ?_
  simp (maxSteps := 2000000) only [ops_cons, vcOp, ev, look, put_mk, binV, binC, Nat.reduceEqDiff, ↓reduceIte, Bool.true_and, true_and]
  have hz : ((d == 0) == (n == top)) = true := by
    rw [beq_iff_eq, Bool.eq_iff_iff, beq_iff_eq, beq_iff_eq]
    exact hst.zero
  refine eq_of (r := true) (by have := eqG_bool (P := Try.prog) Try.underlying4 (d == 0) (n == top); rwa [hz] at this) ?_
  simp (maxSteps := 2000000) only [segs_n, segs_g, ops_nil, ops_cons, vcOp, ev, look, put_mk, Value.oneCell', cond_true, Nat.reduceEqDiff, ↓reduceIte, Bool.not_true, ↓br_ff, ↓br_ft, Bool.bne_true]
  refine ld_of _ (seen_ph hv.v3 rfl) rfl ?_
  simp (maxSteps := 2000000) only [ops_cons, vcOp, ev, look, put_mk, Nat.reduceEqDiff, ↓reduceIte, ptr]
  refine ld_of _ (seen_ph hv.v7 rfl) rfl ?_
  simp (maxSteps := 2000000) only [ops_cons, vcOp, put_mk]
  refine call_is _ [.s (.bool true)] rfl rfl (fun w' vs hvv hw => ?_) ?_
  · obtain ⟨vs, rfl, _, hvv⟩ := argsV_g hvv
    obtain ⟨vs, rfl, _, hvv⟩ := argsV_g hvv
    obtain ⟨vs, rfl, _, hvv⟩ := argsV_g hvv
    obtain rfl := argsV_nil hvv
    intro hph
    have := BelowX_spec (hph mT hv.tree) hT n top (by omega)
    rw [hhas, htop, hst.below] at this
    exact this
  simp (maxSteps := 2000000) only [retS, segs_n, segs_g, ops_nil, ops_cons, vcOp, ev, look, put_mk, unV, Value.oneCell', cond_true, Nat.reduceEqDiff, ↓reduceIte, Bool.not_true, ↓br_ff, ↓br_ft]
  refine ld_of _ (seen_ph hv.v3 rfl) rfl ?_
  simp (maxSteps := 2000000) only [ops_cons, vcOp, ev, look, put_mk, Nat.reduceEqDiff, ↓reduceIte, ptr]
  refine ld_of _ (seen_ph hv.v7 rfl) rfl ?_
  simp (maxSteps := 2000000) only [ops_cons, vcOp, ev, look, put_mk, binV, binC, Value.oneCell', cond_true, ↓reduceIte, Bool.true_and, true_and]
  rw [show IntKind.i64.wrap (3 - top) = 3 - top by rcases topB_iff.1 ht with rfl | rfl <;> decide]
  refine call_is _ [.s (.bool false)] rfl rfl (fun w' vs hvv hw => ?_) ?_
  · obtain ⟨vs, rfl, _, hvv⟩ := argsV_g hvv
    obtain ⟨vs, rfl, _, hvv⟩ := argsV_g hvv
    obtain ⟨vs, rfl, _, hvv⟩ := argsV_g hvv
    obtain rfl := argsV_nil hvv
    intro hph
    have := BelowX_spec (hph mT hv.tree) hT n (3 - top) (by omega)
    rw [hst.other, Bool.and_false] at this
    exact this
  simp (maxSteps := 2000000) only [retS, vc_skip, vc_seq, vc_rg, vc_ite, thenQ_n, kKeep_eq, segs_nil, segs_n, ops_nil, ops_cons, vcOp, ev, look, put_mk, keep_mk, keepL, Value.oneCell', cond_true, Nat.reduceEqDiff, ↓reduceIte, ↓br_ft]
  refine ld_of _ (seen_ph hv.v7 rfl) rfl ?_
  simp (maxSteps := 2000000) only [vc_skip, vc_exit, vc_seq, vc_rg, vc_ite, thenQ_n, thenQ_e, blockQ_e, kKeep_eq, segs_nil, segs_n, ops_nil, ops_cons, vcOp, ev, look, put_mk, keep_mk, keepL, binV, binC, Value.oneCell', cond_true, Nat.reduceEqDiff, ↓reduceIte, Bool.true_and, true_and, br_t]
  refine ⟨fun _ => ?_, fun hnt => ?_⟩
  · exact hQ _ (fun u h => h) hm'
  have hnt : n ≠ top := by simpa using hnt
  have htn := hst.ntop hnt
  refine ld_of _ (seen_ph hv.v3 rfl) rfl ?_
  simp (maxSteps := 2000000) only [ops_cons, vcOp, ev, look, put_mk, GV.getT, Nat.reduceEqDiff, ↓reduceIte, List.nil_append, Bool.true_and, Bool.not_false, true_and, getT_nil, fits_s, gTreeNode_fld1, gTreeNode_get1, ptr]
  have hcf := childA_few hkd hg x.parent
  have hone := once_child hkd hg hst.get htn
  refine call_frz (dOk_spec rfl) rfl (Q := fun rs m' => ∃ v, rs = [.s v] ∧ SlO m' v 69 2 ((childA T x.parent).map gChild)) (fun w' vs hvv hw hph => ?_) fun rs mC _ hq => ?_
  · obtain ⟨vs, rfl, _, hvv⟩ := argsV_g hvv
    obtain ⟨vs, rfl, _, hvv⟩ := argsV_g hvv
    obtain rfl := argsV_nil hvv
    exact Children_spec (hph mT hv.tree) hT x.parent hkd hg hlen
  obtain ⟨vC, rfl, hvC⟩ := hq
  have hvR := hvC.toR
  obtain ⟨aC, cC, rfl⟩ := slr_len hvR
  simp (maxSteps := 2000000) only [retS, List.length_map, vc_block, thenQ_n, kKeep_eq, segs_nil, ops_nil, ops_cons, vcOp, ev, look, put_mk, keep_mk, keepL, Value.oneCell', cond_true, Nat.reduceEqDiff, ↓reduceIte, List.length_map]
  refine vc_loop (ι := Nat) (fun i => ⟨[(2, .g (.s (.pointer (some ⟨b2, 0, none⟩)))), (3, .g (.s (.pointer (some ⟨b3, 0, none⟩)))), (9, .g (.s (.int .i64 (n)))), (10, .ref 10 []), (12, .g (.s (.int .i64 ((((childA T x.parent).take i).countP (isCh n x.name) : Nat))))), (86, .g (.s (.slice aC (childA T x.parent).length cC))), (87, .g (.s (.int .i64 ((childA T x.parent).length)))), (88, .g (.s (.int .i64 (i))))], [(10, .box (gTreeNode ⟨n, x.parent, x.name, va⟩))], mC :: ph, m1⟩)
    (fun i => i ≤ (childA T x.parent).length) (fun i => (childA T x.parent).length - i) 0 (by simp) (ge_of ?_ ?_ rfl rfl rfl) ?_
  · simp [frIn, look]
  · simp [pvIn, look]
  rintro i hi
  generalize hQ : loopQ _ _ _ _ _ = Q
  simp (maxSteps := 2000000) only [c_law12_TreeSound_B0_L0, vc_skip, vc_exit, vc_seq, vc_block, vc_rg, vc_ite, thenQ_n, thenQ_e, blockQ_n, kKeep_eq, segs_nil, segs_n, segs_g, ops_nil, ops_cons, vcOp, RO.isGh, skip_mk, skipL, ev, look, updL, put_mk, put_mk0, keep_mk, keepL, rowE, rowD, binV, binC, GV.getT, Value.oneCell', cond_true, cond_false, Nat.reduceEqDiff, ↓reduceIte, List.nil_append, Bool.true_and, Bool.not_true, Bool.not_false, true_and, decide_eq_true_eq, decide_eq_false_iff_not, ↓br_tt, ↓br_ft, br_t, getT_nil, setT_nil, fits_s, gTreeNode_fld2, gTreeNode_get2, gChild_zero]
  refine ⟨fun hlt => ?_, fun hge => ?_⟩
  · obtain ⟨bC, oC, cC', hsh, hseen⟩ : ∃ b o c', (Value.slice aC (childA T x.parent).length cC = .slice (some ⟨b, o, none⟩) (childA T x.parent).length c') ∧ ∀ {C : Ctx} {ph : List PH} {m : PH}, KN C.u0 (m :: ph) mC → ∀ i y, ((childA T x.parent).map gChild)[i]? = some y → Seen C ph m b (o + i * 2) y := by
      rcases hvR.shape with ⟨h1, _⟩ | ⟨_, b, o, c', h2, h3, h4⟩
      · have h1 : (childA T x.parent).length = 0 := by simpa using h1
        omega
      · rw [List.length_map] at h2
        exact ⟨b, o, c', h2, h4⟩
    simp only [Value.slice.injEq, true_and] at hsh
    obtain ⟨rfl, rfl⟩ := hsh
    obtain ⟨c, hc⟩ : ∃ c, (childA T x.parent)[i]? = some c := ⟨_, List.getElem?_eq_getElem (by omega)⟩
    have htake : ((childA T x.parent).take (i + 1)) = (childA T x.parent).take i ++ [c] := by rw [List.take_add_one, hc]; rfl
    have hcnt : ((childA T x.parent).take i).countP (isCh n x.name) ≤ i := Nat.le_trans List.countP_le_length (by rw [List.length_take]; omega)
    have hcnt2 : ((childA T x.parent).take (i + 1)).countP (isCh n x.name) = ((childA T x.parent).take i).countP (isCh n x.name) + if isCh n x.name c then 1 else 0 := by rw [htake, List.countP_append, List.countP_singleton]
    refine ⟨⟨by omega, by omega⟩, ld_of _ (hseen (KN.mem (by simp)) i (gChild c) (by rw [List.getElem?_map, hc]; rfl)) rfl ?_⟩
    simp (maxSteps := 2000000) only [vc_skip, vc_seq, vc_rg, vc_ite, thenQ_n, blockQ_n, kKeep_eq, segs_nil, segs_n, segs_g, ops_nil, ops_cons, vcOp, RO.isGh, skip_mk, skipL, ev, look, updL, put_mk, put_mk0, keep_mk, keepL, binV, binC, GV.getT, Value.oneCell', cond_true, cond_false, Nat.reduceEqDiff, ↓reduceIte, List.nil_append, Bool.and_true, Bool.true_and, Bool.not_true, Bool.not_false, true_and, and_true, Int.toNat_natCast, decide_eq_true_eq, decide_eq_false_iff_not, ↓br_tt, ↓br_ft, br_t, getT_nil, setT_nil, fits_s, gTreeNode_fld2, gTreeNode_get2, gChild_sz, gChild_same, gChild_fld0, gChild_get0, gChild_fld1, gChild_get1]
    have hw : ∀ k : Nat, k ≤ 1099511627776 → IntKind.i64.wrap ((k : Int) + 1) = ((k + 1 : Nat) : Int) := fun k hk => by rw [wrap_n (by omega)]
    have hno : isCh n x.name c = false → (((childA T x.parent).take i).countP (isCh n x.name) : Int) = ((((childA T x.parent).take (i + 1)).countP (isCh n x.name) : Nat) : Int) := fun h => by rw [hcnt2, h]; simp
    refine ⟨fun h1 => ⟨fun h2 => ?_, fun h2 => ?_⟩, fun h1 => ?_⟩
    · have hy : isCh n x.name c = true := by simp only [isCh, h2, beq_iff_eq.1 h1, decide_true, Bool.and_self]
      have e : ((((childA T x.parent).take i).countP (isCh n x.name) + 1 : Nat) : Int) = ((((childA T x.parent).take (i + 1)).countP (isCh n x.name) : Nat) : Int) := by rw [hcnt2, hy]; simp
      rw [hw _ (by omega), hw _ (by omega), e]
      subst hQ; simp only [loopQ_n]; refine ⟨i + 1, ?_, ?_, ge_of ?_ ?_ rfl rfl rfl⟩
      · omega
      · omega
      · simp [frIn, look]
      · simp [pvIn, look]
    · rw [hw _ (by omega), hno (by simp [isCh, h2])]
      subst hQ; simp only [loopQ_n]; refine ⟨i + 1, ?_, ?_, ge_of ?_ ?_ rfl rfl rfl⟩
      · omega
      · omega
      · simp [frIn, look]
      · simp [pvIn, look]
    · rw [hw _ (by omega), hno (by simp only [isCh, beq_eq_false_iff_ne.1 h1, decide_false, Bool.false_and])]
      subst hQ; simp only [loopQ_n]; refine ⟨i + 1, ?_, ?_, ge_of ?_ ?_ rfl rfl rfl⟩
      · omega
      · omega
      · simp [frIn, look]
      · simp [pvIn, look]
  · subst hQ
    have hi' : i = (childA T x.parent).length := by omega
    subst hi'
    rw [List.take_length, hone]
    simp (maxSteps := 2000000) only [vc_seq, vc_rg, vc_ite, thenQ_n, blockQ_e, kKeep_eq, loopQ_e, segs_nil, segs_n, segs_g, ops_nil, ops_cons, vcOp, RO.isGh, skip_mk, skipL, ev, look, put_mk, keep_mk, keepL, binV, binC, Value.oneCell', cond_true, cond_false, Nat.reduceEqDiff, ↓reduceIte, Bool.true_and, Bool.not_false, true_and, ↓br_tt, br_f]
    refine ⟨fun _ => ?_, fun h => absurd h (by simp)⟩
    refine ld_of _ (seen_ph (hv.up fun u h => List.mem_cons_of_mem _ h).v3 rfl) rfl ?_
    simp (maxSteps := 2000000) only [ops_cons, vcOp, ev, look, put_mk, GV.getT, Nat.reduceEqDiff, ↓reduceIte, List.nil_append, Bool.true_and, Bool.not_false, true_and, getT_nil, fits_s, gTreeNode_fld1, gTreeNode_get1, ptr]
    refine call_is _ [.s (.bool false)] rfl rfl (fun w' vs hvv hw => ?_) ?_
    · obtain ⟨vs, rfl, _, hvv⟩ := argsV_g hvv
      obtain ⟨vs, rfl, _, hvv⟩ := argsV_g hvv
      obtain ⟨vs, rfl, _, hvv⟩ := argsV_g hvv
      obtain rfl := argsV_nil hvv
      intro hph
      have := BelowX_spec (hph mT (List.mem_cons_of_mem _ hv.tree)) hT x.parent n (by omega)
      rw [hst.acyc hnt, Bool.and_false] at this
      exact this
    simp (maxSteps := 2000000) only [retS, vc_skip, vc_ite, thenQ_n, blockQ_n, kKeep_eq, segs_nil, segs_n, ops_nil, ops_cons, vcOp, ev, look, put_mk, keep_mk, keepL, Value.oneCell', cond_true, Nat.reduceEqDiff, ↓reduceIte, ↓br_ft]
    exact hQ _ (fun u h => List.mem_cons_of_mem _ h) hm'
end Go.Proofs.Ytdpknchgoeboaaa.Vc

/- TreeSound: the walk. -/
set_option linter.unusedVariables false
set_option linter.unusedSimpArgs false
set_option maxRecDepth 100000
namespace Go.Proofs.Ytdpknchgoeboaaa.Vc
open Go Go.Proofs Go.Shelf

theorem nodup_new {α : Type} {A l : List α} {j : Nat} {n : α} (h : (A ++ l).Nodup) (hj : l[j]? = some n) : n ∉ A ++ l.take j := by
  obtain ⟨hlt, hn⟩ := List.getElem?_eq_some_iff.1 hj
  have e : l = l.take j ++ n :: l.drop (j + 1) := by
    rw [← hn, ← List.drop_eq_getElem_cons hlt, List.take_append_drop]
  rw [e, ← List.append_assoc, List.nodup_append] at h
  exact fun hm => h.2.2 n hm n (by simp) rfl
/-- What was met when so many walks are done. -/
def visI (T : PT) (i : Nat) : List Int := (([1, 2] : List Int).take i).flatMap fun t => (walkA T t).map Prod.snd
theorem visI_two (T : PT) : visI T 2 = visA T := by simp [visI, visA]
theorem visI_step {T : PT} (hkd : T.kidsOk) (hg : VGood T.view) {i : Nat} (hi : i < 2) : ∃ top, ([1, 2] : List Int)[i]? = some top ∧ topB top = true ∧ visI T (i + 1) = visI T i ++ (walkA T top).map Prod.snd ∧ (visI T i ++ (walkA T top).map Prod.snd).Nodup := by
  have h := visA_nodup hkd hg
  rcases (show i = 0 ∨ i = 1 by omega) with rfl | rfl
  · refine ⟨1, rfl, rfl, by simp [visI], ?_⟩
    rw [visA, List.nodup_append] at h
    simpa [visI] using h.1
  · refine ⟨2, rfl, rfl, by simp [visI], ?_⟩
    simpa [visI, visA] using h
theorem one_at (b : Nat) (o : Obj) : one b o b = some o := by simp [one]
theorem w0_ps : (rfPs c_law12_TreeSound_W0).toList = [38, 39] := by kernel_rfl
theorem w0_code : c_law12_TreeSound_W0 = .rangeFunc (.tmp 37) (rfPs c_law12_TreeSound_W0) (rfAs c_law12_TreeSound_W0) (rfBd c_law12_TreeSound_W0) := by kernel_rfl
theorem w0_plain : plainC (rfAs c_law12_TreeSound_W0) = true ∧ plainC (rfBd c_law12_TreeSound_W0) = true := ⟨by kernel_rfl, by kernel_rfl⟩

theorem told_few {T : PT} : (nodesTold T).length ≤ T.nodes.length := by
  unfold nodesTold toldL
  refine Nat.le_trans (List.length_filter_le _ _) (Nat.le_trans (List.length_filterMap_le _ _) ?_)
  simp [nodesK, sortZ]
theorem told_there {T : PT} (hkd : T.kidsOk) (hg : VGood T.view) {m : PH} {ts : List TreeNode} (h : TsOk m ts (nodesTold T)) {i : Nat} (hi : i < ts.length) : (ts.getD i zTreeNode).node ∈ visA T := by
  have hl := h.len
  obtain ⟨t, ht⟩ : ∃ t, (nodesTold T)[i]? = some t := ⟨_, List.getElem?_eq_getElem (by omega)⟩
  have h1 := (h.at i hi).1
  rw [List.getD_eq_getElem?_getD (l := nodesTold T), ht, Option.getD_some] at h1
  obtain ⟨n, _, x, hx, rfl⟩ := toldL_node (List.mem_of_getElem? ht)
  rw [h1]
  exact (mem_visA hkd hg).2 (by show T.view n ≠ none; rw [PT.view_get hx]; simp)

theorem sound_spec (w : World) (va : Value) (ops : List Op) (hb : ops.length ≤ 1048576) (ho : ∀ op ∈ ops, OpOk op) (u : PH) (hu : u.le w) (h : SlR u va 8 (ops.map gOp)) :
    Spec Try.prog f_law12_TreeSound [va] PH.no w fun rs _ => rs = [.s (.bool true)] := by
  refine spec_of k_law12_TreeSound [.ro va 8 (gOp zOp) (ops.map gOp)] (by simp) (by simpa [AV.ok, u0_no] using h.up hu.sub) ?_
  simp (maxSteps := 2000000) only [c_law12_TreeSound, vc_seq, vc_rg, thenQ_n, kKeep_eq, segs_nil, segs_n, ops_nil, ops_cons, vcOp, ev, look, updL, put_mk, keep_mk, keepL, ↓reduceIte, reduceCtorEq, Bool.true_and, true_and, initF, initP, List.length_map]
  refine call_frz (dOk_spec rfl) rfl (Q := fun rs m' => ∃ L T v, rs = [.s (ptr (L .t)), .s v] ∧ TM m' L T ∧ T.ok ops.length ∧ VGood T.view ∧ T.kidsOk) (fun w' vs hv hw _ => ?_) fun rs mT _ hq => ?_
  · obtain ⟨v1, vs, rfl, k1, hv⟩ := argsV_row (z := 8) (xs := ops.map gOp) rfl (by simp) hv
    obtain rfl := argsV_nil hv
    exact made_spec w' v1 ops hb ho w'.ph (fun _ _ h => h) k1
  obtain ⟨L, T, v0, rfl, hT, hok, hg, hkd⟩ := hq
  have hlen : T.nodes.length ≤ 1099511627776 := by have := hok.many; omega
  have hsm : ∀ n x, T.get n = some x → x.small := (ok_tells hok (by omega)).small
  have hnd : (T.nodes.map (·.1)).Nodup := by
    obtain ⟨_, _, _, _, _, _, h⟩ := hT
    exact h.nod
  simp (maxSteps := 2000000) only [retS, List.getElem?_cons_zero, List.getElem?_cons_succ, vc_seq, vc_rg, thenQ_n, kKeep_eq, segs_nil, segs_n, ops_nil, ops_cons, vcOp, ev, look, updL, put_mk, put_mk0, keep_mk, keepL, GV.getT, GV.sz, GV.same, GV.setT, Nat.reduceEqDiff, ↓reduceIte, reduceCtorEq, Bool.and_true, Bool.true_and, true_and, and_true, ptr]
  refine call_is _ [.s (.bool true)] rfl rfl (fun w' vs hv hw => ?_) ?_
  · obtain rfl := argsV_nil hv
    intro _
    exact begun_spec w'
  simp (maxSteps := 2000000) only [retS, segs_g, ops_nil, ops_cons, vcOp, ev, look, put_mk, unV, GV.getT, Value.oneCell', cond_true, Nat.reduceEqDiff, ↓reduceIte, reduceCtorEq, Bool.true_and, Bool.not_true, Bool.not_false, true_and, ↓br_ff, fits_s]
  refine eq_of (eqTree _) ?_
  simp (maxSteps := 2000000) only [vc_skip, vc_seq, vc_rg, vc_ite, thenQ_n, kKeep_eq, segs_nil, segs_n, ops_nil, ops_cons, vcOp, ev, look, put_mk, keep_mk, keepL, Value.oneCell', cond_true, Nat.reduceEqDiff, ↓reduceIte, ↓br_ft, Bool.bne_false]
  intro bm o hbm _
  simp (maxSteps := 2000000) only [uni_no_r, vc_seq, vc_rg, thenQ_n, kKeep_eq, segs_nil, segs_n, ops_nil, ops_cons, vcOp, ev, evL, gvL, look, updL, put_mk, put_mk0, keep_mk, keepL, GV.getT, GV.sz, GV.same, GV.setT, Value.oneCell', cond_true, Nat.reduceEqDiff, Nat.reduceAdd, ↓reduceIte, reduceCtorEq, Nat.zero_add, Bool.and_true, Bool.true_and, true_and, and_true, Option.map_some, szAll, List.length_cons, List.length_nil, Int.reduceAdd]
  refine gh_seq (gh_pubBox 2 2 rfl rfl fun v2 u2 _ hp2 hd2 => ?_)
  refine gh_seq (gh_pubBox 3 3 rfl rfl fun v3 u3 _ hp3 hd3 => ?_)
  refine gh_seq (gh_frz rfl hd3 ?_)
  refine gh_seq (gh_pubBox 5 5 rfl rfl fun v5 u5 _ hp5 hd5 => ?_)
  refine gh_seq (gh_frz rfl hd5 ?_)
  refine gh_seq (gh_pub 29 29 2 rfl rfl rfl fun v29 u29 hv29 hs29 hd29 => ?_)
  refine gh_frz rfl hd29 ?_
  obtain ⟨_, b2, e2, rfl, rfl⟩ := hp2
  obtain ⟨_, b3, e3, rfl, rfl⟩ := hp3
  obtain ⟨_, b5, e5, rfl, rfl⟩ := hp5
  have hs29 := hs29.toR
  obtain ⟨a29, c29, rfl⟩ := slr_len hs29
  simp (maxSteps := 2000000) only [dropK, vc_block, thenQ_n, kKeep_eq, segs_nil, ops_nil, look, keep_mk, keepL, cond_true, cond_false, Nat.reduceEqDiff, Nat.reduceAdd, Nat.reduceBEq, ↓reduceIte, reduceCtorEq, Nat.zero_add, BEq.rfl, List.length_cons, List.length_nil, Int.reduceAdd, kill, SV.mentions]
  have hne : b2 ≠ bm := fun e => by
    have := hd2 b2
    simp [one, e] at this
  refine vc_loop (ι := Nat × List PH × PH) (fun q => ⟨[(2, .g (.s (.pointer (some ⟨b2, 0, none⟩)))), (3, .g (.s (.pointer (some ⟨b3, 0, none⟩)))), (5, .g (.s (.pointer (some ⟨b5, 0, none⟩)))), (29, .g (.s (.slice a29 2 c29))), (30, .g (.s (.int .i64 ((2 : Nat))))), (31, .g (.s (.int .i64 (q.1))))], [], q.2.1, q.2.2⟩)
    (fun q => q.1 ≤ 2 ∧ (mT ∈ q.2.1 ∧ one b3 (.cells #[ptr (L .t)] e3 (0, 0)) ∈ q.2.1 ∧ one b5 (.cells #[.map (some bm)] e5 (0, 0)) ∈ q.2.1 ∧ u29 ∈ q.2.1) ∧ SMem b2 bm (visI T q.1) q.2.2) (fun q => 2 - q.1)
    (0, [u29, one b5 (.cells #[.map (some bm)] e5 (0, 0)), one b3 (.cells #[ptr (L .t)] e3 (0, 0)), mT], uni (one b2 (.cells #[.bool false] e2 (0, 0))) (one bm o)) ⟨by simp, by simp, ⟨e2, by simp [uni, one]⟩, o, by simp [uni, one, Ne.symm hne], by simpa [visI, rawK] using hbm _⟩ (ge_of ?_ ?_ rfl rfl rfl) ?_
  · simp [frIn, look]
  · simp [pvIn, look]
  clear hd2 hd3 hd5 hd29
  rintro ⟨i, phs, m⟩ ⟨hi, ⟨hpT, hp3, hp5, hp29⟩, hmem⟩
  simp only at hi hpT hp3 hp5 hp29 hmem
  generalize hQ : loopQ _ _ _ _ _ = Q
  simp (maxSteps := 2000000) only [c_law12_TreeSound_L0, vc_skip, vc_exit, vc_seq, vc_block, vc_rg, vc_ite, thenQ_n, thenQ_e, kKeep_eq, segs_nil, segs_n, ops_nil, ops_cons, vcOp, ev, look, put_mk, keep_mk, keepL, rowE, binV, binC, Nat.reduceEqDiff, ↓reduceIte, Bool.true_and, true_and, decide_eq_true_eq, decide_eq_false_iff_not, br_t]
  refine ⟨fun hlt => ?_, fun hge => ?_⟩
  · have hi2 : i < 2 := by omega
    obtain ⟨top, htopi, ht, hvis, hnod⟩ := visI_step hkd hg hi2
    obtain ⟨b9, o9, c9, hsh, hseen⟩ : ∃ b o c', (Value.slice a29 2 c29 = .slice (some ⟨b, o, none⟩) 2 c') ∧ ∀ {C : Ctx} {ph : List PH} {m : PH}, KN C.u0 (m :: ph) u29 → ∀ i y, (([1, 2] : List Int).map fun t => GV.s (.int .i64 t))[i]? = some y → Seen C ph m b (o + i * 1) y := by
      rcases hs29.shape with ⟨h1, _⟩ | ⟨_, b, o, c', h2, h3, h4⟩
      · cases h1
      · exact ⟨b, o, c', h2, h4⟩
    simp only [Value.slice.injEq, true_and] at hsh
    obtain ⟨rfl, rfl⟩ := hsh
    refine ⟨⟨by omega, by omega⟩, ld_of _ (hseen (KN.mem (List.mem_cons_of_mem _ hp29)) i (.s (.int .i64 top)) (by rw [List.getElem?_map, htopi]; rfl)) rfl ?_⟩
    simp (maxSteps := 2000000) only [vc_seq, vc_rg, thenQ_n, kKeep_eq, segs_nil, segs_n, ops_nil, ops_cons, vcOp, ev, look, updL, put_mk, put_mk0, keep_mk, keepL, GV.getT, GV.sz, GV.setT, Nat.reduceEqDiff, ↓reduceIte, Bool.and_true, Bool.true_and, true_and, and_true, Int.toNat_natCast, same_int]
    refine gh_seq (gh_pubBox 7 7 rfl rfl fun v7 u7 _ hp7 hd7 => ?_)
    refine gh_frz rfl hd7 ?_
    obtain ⟨_, b7, e7, rfl, rfl⟩ := hp7
    simp (maxSteps := 2000000) only [dropK, ops_cons, vcOp, ev, look, cond_true, cond_false, Nat.reduceEqDiff, ↓reduceIte, BEq.rfl, kill, SV.mentions]
    have hpt : ((GV.s (.int .i64 top)).flat.toArray : Array Value) = #[.int .i64 top] := rfl
    rw [hpt]
    generalize hu7 : one b7 (Obj.cells #[Value.int .i64 top] e7 (0, 0)) = u7
    have h7 : u7 b7 = some (.cells #[.int .i64 top] e7 (0, 0)) := by rw [← hu7]; simp [one]
    clear hd7 hu7
    refine ld_of _ (seen_ph ⟨_, List.mem_cons_of_mem _ hp3, e3, one_at _ _⟩ rfl) rfl ?_
    simp (maxSteps := 2000000) only [ops_cons, vcOp, ev, look, put_mk, Nat.reduceEqDiff, ↓reduceIte, ptr]
    refine ld_of _ (seen_ph ⟨u7, List.mem_cons_self, e7, h7⟩ rfl) rfl ?_
    simp (maxSteps := 2000000) only [ops_cons, vcOp, put_mk]
    refine call_frz (dOk_spec rfl) rfl (Q := fun rs m' => ∃ b e v, rs = [.s (.func (.func f_tree_Tree_Walk_1) #[] #[ptr b])] ∧ m' b = some (.cells #[v] e (0, 0)) ∧ SlR m' v 2 ((walkA T top).map gStp)) (fun w' vs hv hw hph => ?_) fun rs mW _ hq => ?_
    · obtain ⟨vs, rfl, _, hv⟩ := argsV_g hv
      obtain ⟨vs, rfl, _, hv⟩ := argsV_g hv
      obtain rfl := argsV_nil hv
      exact Walk_spec (hph mT (List.mem_cons_of_mem _ hpT)) hT hkd hg hlen top ht
    obtain ⟨bw, ew, vw, rfl, hbw, hsw⟩ := hq
    simp (maxSteps := 2000000) only [retS, vc_block, thenQ_n, kKeep_eq, segs_nil, ops_nil, look, put_mk, keep_mk, keepL, Nat.reduceEqDiff, ↓reduceIte, ptr]
    have htv : T.view top ≠ none := has_iff.1 (has_top hg ht)
    have hwl := stepsA_few hkd hg (f := T.nodes.length + 1) (d := 0) htv (leads_top ht)
    refine raw_rounds (ns := []) (code := c_law12_TreeSound_W0) (t := 37) (gf := f_tree_Tree_Walk_1) (lb := [ptr bw]) (ui := mW) (encs := (walkA T top).map encStp) w0_code rfl (enters_of Try.func56 (by kernel_rfl) rfl) (frG_of rfl) (List.mem_cons_self) (walk1_iter mW hbw hsw (by rw [walkA]; omega)) ?_ ?_ ?_
      c_law12_TreeSound_A0 c_law12_TreeSound_B0 kA0_law12_TreeSound rfl w0_plain.1 kB0_law12_TreeSound rfl w0_plain.2
      (fun j => [(2, .g (.s (.pointer (some ⟨b2, 0, none⟩)))), (3, .g (.s (.pointer (some ⟨b3, 0, none⟩)))), (5, .g (.s (.pointer (some ⟨b5, 0, none⟩)))), (7, .g (.s (.pointer (some ⟨b7, 0, none⟩)))), (8, .g (.s (.int .i64 (((walkA T top).getD j (0, 0)).1)))), (9, .g (.s (.int .i64 (((walkA T top).getD j (0, 0)).2))))])
      (fun j => frG_of rfl) (fun j _ m => SMem b2 bm (visI T i ++ ((walkA T top).map Prod.snd).take j) m) (fun _ _ _ => False) ?_ ?_ ?_ ?_ ?_
    · intro x hx
      obtain ⟨p, _, rfl⟩ := List.mem_map.1 hx
      have := congrArg List.length w0_ps
      have h2 : (encStp p).length = 2 := rfl
      rw [h2]
      simpa using this.symm
    · intro x hx v hv
      obtain ⟨p, _, rfl⟩ := List.mem_map.1 hx
      simp only [encStp, List.mem_cons, List.not_mem_nil, or_false] at hv
      rcases hv with rfl | rfl <;> rfl
    · intro t ht
      rw [w0_ps] at ht
      simp only [List.mem_cons, List.not_mem_nil, or_false] at ht
      show t < 134
      rcases ht with rfl | rfl <;> decide
    · simpa using hmem
    · intro j x w' m' ph m4 hx
      rw [List.getElem?_map] at hx
      obtain ⟨p, hp, rfl⟩ := Option.map_eq_some_iff.1 hx
      rw [w0_ps, List.getD_eq_getElem?_getD, hp, Option.getD_some]
      unfold encStp
      simp (maxSteps := 2000000) only [c_law12_TreeSound_A0, parFr, List.nil_append, List.cons_append, vc_seq, vc_rg, thenQ_n, kKeep_eq, segs_nil, segs_n, ops_nil, ops_cons, vcOp, ev, look, put_mk, keep_mk, keepL, Nat.reduceEqDiff, ↓reduceIte, List.nil_append, List.cons_append]
      refine ⟨rfl, rfl, fun t x hx => ?_⟩
      simp only [look] at hx ⊢
      (repeat' split at hx) <;> simp_all
    · intro j x w' m' ph m4 hx hu0 hph hI
      rw [List.getElem?_map] at hx
      obtain ⟨⟨d, n⟩, hp, rfl⟩ := Option.map_eq_some_iff.1 hx
      rw [List.getD_eq_getElem?_getD, hp, Option.getD_some]
      obtain ⟨x, hst⟩ := stepOk hkd hg ht (List.mem_of_getElem? hp)
      have hj : ((walkA T top).map Prod.snd)[j]? = some n := by rw [List.getElem?_map, hp]; rfl
      refine sound_round (mT := mT) hT hkd hg hlen hsm ht ⟨hph mT (by simp [hpT]), ⟨_, hph _ (List.mem_cons_of_mem _ (List.mem_cons_of_mem _ hp3)), e3, one_at _ _⟩, ⟨_, hph _ (List.mem_cons_of_mem _ (List.mem_cons_of_mem _ hp5)), e5, one_at _ _⟩, ⟨u7, hph u7 (by simp), e7, h7⟩⟩ hst (nodup_new hnod hj) hI hne fun τ hs hm => ?_
      refine ⟨fun u hu => hs u (hph u hu), ?_⟩
      show SMem b2 bm (visI T i ++ ((walkA T top).map Prod.snd).take (j + 1)) τ.m
      rw [List.take_add_one, hj, ← List.append_assoc]
      exact hm
    · intro u ph m4 hph hI
      rw [List.length_map, List.take_of_length_le (by simp), ← hvis] at hI
      simp (maxSteps := 2000000) only [vc_rg, thenQ_n, blockQ_n, kKeep_eq, segs_nil, segs_n, ops_nil, ops_cons, vcOp, ev, look, put_mk, keep_mk, keepL, binV, binC, Value.oneCell', cond_true, Nat.reduceEqDiff, ↓reduceIte, Bool.true_and, true_and]
      rw [wrap_n (by omega)]
      subst hQ; simp only [loopQ_n]; refine ⟨(i + 1, u :: ph, m4), ?_, ?_, ge_of ?_ ?_ rfl rfl rfl⟩
      · exact ⟨by simp only; omega, ⟨List.mem_cons_of_mem _ (hph _ (by simp [hpT])), List.mem_cons_of_mem _ (hph _ (by simp [hp3])), List.mem_cons_of_mem _ (hph _ (by simp [hp5])), List.mem_cons_of_mem _ (hph _ (by simp [hp29]))⟩, hI⟩
      · simp only; omega
      · simp [frIn, look]
      · simp [pvIn, look]
    · intro e c u ph m4 _ _ h
      exact h.elim
  · subst hQ
    have hi' : i = 2 := by omega
    subst hi'
    rw [visI_two] at hmem
    simp (maxSteps := 2000000) only [vc_seq, vc_rg, thenQ_n, blockQ_e, loopQ_e, segs_n, ops_cons, vcOp, ev, look, Nat.reduceEqDiff, ↓reduceIte, ptr]
    refine ld_of _ (seen_ph ⟨_, hp3, e3, one_at _ _⟩ rfl) rfl ?_
    simp (maxSteps := 2000000) only [ops_cons, vcOp, put_mk, ptr]
    refine call_frz (dOk_spec rfl) rfl (Q := fun rs m' => ∃ v ts, rs = [.s v] ∧ SlR m' v 4 (ts.map gTreeNode) ∧ TsOk m' ts (nodesTold T)) (fun w' vs hv hw hph => ?_) fun rs mN _ hq => ?_
    · obtain ⟨vs, rfl, _, hv⟩ := argsV_g hv
      obtain rfl := argsV_nil hv
      exact Nodes_spec w' mT (hph mT hpT) L T hT (ok_tells hok (by omega))
    obtain ⟨vN, ts, rfl, hvN, hts⟩ := hq
    obtain ⟨aN, cN, rfl⟩ := slr_len hvN
    have htl : ts.length ≤ 1099511627776 := by have := hts.len; have := told_few (T := T); omega
    simp (maxSteps := 2000000) only [retS, List.length_map, vc_block, thenQ_n, kKeep_eq, segs_nil, ops_nil, ops_cons, vcOp, ev, look, put_mk, keep_mk, keepL, Value.oneCell', cond_true, Nat.reduceEqDiff, ↓reduceIte, List.length_map]
    refine vc_loop (ι := Nat) (fun i => ⟨[(2, .g (.s (.pointer (some ⟨b2, 0, none⟩)))), (3, .g (.s (.pointer (some ⟨b3, 0, none⟩)))), (5, .g (.s (.pointer (some ⟨b5, 0, none⟩)))), (117, .g (.s (.slice aN ts.length cN))), (118, .g (.s (.int .i64 (ts.length)))), (119, .g (.s (.int .i64 (i))))], [], mN :: phs, m⟩) (fun i => i ≤ ts.length) (fun i => ts.length - i) 0 (by simp) (ge_of ?_ ?_ rfl rfl rfl) ?_
    · simp [frIn, look]
    · simp [pvIn, look]
    rintro i hi
    generalize hQ : loopQ _ _ _ _ _ = Q
    simp (maxSteps := 2000000) only [c_law12_TreeSound_L1, vc_skip, vc_exit, vc_seq, vc_block, vc_rg, vc_ite, thenQ_n, thenQ_e, kKeep_eq, segs_nil, segs_n, ops_nil, ops_cons, vcOp, ev, look, put_mk, keep_mk, keepL, rowE, binV, binC, Nat.reduceEqDiff, ↓reduceIte, Bool.true_and, true_and, decide_eq_true_eq, decide_eq_false_iff_not, br_t, gTreeNode_zero]
    obtain ⟨⟨e2', hb2⟩, om, hbm', hmo⟩ := hmem
    refine ⟨fun hlt => ?_, fun hge => ?_⟩
    · obtain ⟨bC, oC, cC', hsh, hseen⟩ : ∃ b o c', (Value.slice aN ts.length cN = .slice (some ⟨b, o, none⟩) ts.length c') ∧ ∀ {C : Ctx} {ph : List PH} {m : PH}, KN C.u0 (m :: ph) mN → ∀ i y, (ts.map gTreeNode)[i]? = some y → Seen C ph m b (o + i * 4) y := by
        rcases hvN.shape with ⟨h1, _⟩ | ⟨_, b, o, c', h2, h3, h4⟩
        · have h1 : ts.length = 0 := by simpa using h1
          omega
        · rw [List.length_map] at h2
          exact ⟨b, o, c', h2, h4⟩
      simp only [Value.slice.injEq, true_and] at hsh
      obtain ⟨rfl, rfl⟩ := hsh
      have hin := told_there hkd hg hts (i := i) (by omega)
      refine ⟨⟨by omega, by omega⟩, ld_of _ (hseen (KN.mem (by simp)) i (gTreeNode (ts.getD i zTreeNode)) (by rw [List.getElem?_map, List.getD_eq_getElem?_getD, List.getElem?_eq_getElem (by omega)]; rfl)) rfl ?_⟩
      generalize ts.getD i zTreeNode = t at hin
      simp (maxSteps := 2000000) only [vc_seq, vc_rg, thenQ_n, kKeep_eq, segs_nil, segs_n, ops_nil, ops_cons, vcOp, ev, look, updL, put_mk, put_mk0, keep_mk, keepL, Nat.reduceEqDiff, ↓reduceIte, Bool.and_true, Bool.true_and, true_and, and_true, Int.toNat_natCast, getT_nil, setT_nil, gTreeNode_sz, gTreeNode_same]
      refine ld_of _ (seen_ph ⟨_, List.mem_cons_of_mem _ hp5, e5, one_at _ _⟩ rfl) rfl ?_
      simp (maxSteps := 2000000) only [ops_cons, vcOp, ev, look, put_mk, GV.getT, Nat.reduceEqDiff, ↓reduceIte, List.nil_append, Bool.true_and, Bool.not_false, true_and, getT_nil, fits_s, gTreeNode_fld0, gTreeNode_get0]
      refine ⟨om, _, .inl hbm', hmo, rfl, ?_⟩
      rw [lkS, cond_false, mget_rawK1 hin]
      simp (maxSteps := 2000000) only [Option.getD_some, vc_skip, vc_seq, vc_rg, vc_ite, thenQ_n, blockQ_n, kKeep_eq, segs_nil, segs_n, ops_nil, ops_cons, vcOp, ev, look, put_mk, keep_mk, keepL, binV, binC, Value.oneCell', cond_true, Nat.reduceEqDiff, ↓reduceIte, Bool.true_and, true_and, br_t]
      refine ⟨fun h => absurd h (by decide), fun _ => ?_⟩
      rw [wrap_n (by omega)]
      subst hQ; simp only [loopQ_n]; refine ⟨i + 1, ?_, ?_, ge_of ?_ ?_ rfl rfl rfl⟩
      · omega
      · omega
      · simp [frIn, look]
      · simp [pvIn, look]
    · subst hQ
      simp (maxSteps := 2000000) only [vc_seq, vc_rg, thenQ_n, blockQ_e, loopQ_e, segs_n, ops_cons, vcOp, ev, look, Nat.reduceEqDiff, ↓reduceIte]
      refine ld_of _ (seen_ph ⟨_, List.mem_cons_of_mem _ hp5, e5, one_at _ _⟩ rfl) rfl ?_
      simp (maxSteps := 2000000) only [ops_cons, vcOp, ev, look, put_mk, ↓reduceIte]
      refine ⟨om, _, .inl hbm', hmo, ?_⟩
      rw [show (rawK (visA T)).length = T.nodes.length by rw [rawK, List.length_map, visA_len hkd hg hnd]]
      simp (maxSteps := 2000000) only [ops_cons, vcOp, ev, look, put_mk, Nat.reduceEqDiff, ↓reduceIte]
      refine ld_of _ (seen_ph ⟨_, List.mem_cons_of_mem _ hp3, e3, one_at _ _⟩ rfl) rfl ?_
      simp (maxSteps := 2000000) only [ops_cons, vcOp, put_mk, ptr]
      refine call_is _ [.s (.int .i64 T.nodes.length)] rfl rfl (fun w' vs hv hw => ?_) ?_
      · obtain ⟨vs, rfl, _, hv⟩ := argsV_g hv
        obtain rfl := argsV_nil hv
        intro hph
        exact Len_spec (hph mT (List.mem_cons_of_mem _ hpT)) hT
      simp (maxSteps := 2000000) only [retS, ops_cons, vcOp, ev, look, put_mk, binV, binC, Nat.reduceEqDiff, ↓reduceIte, Bool.true_and, BEq.rfl, true_and]
      refine st_of rfl _ e2' ⟨hb2, by simp⟩ ?_
      simp (maxSteps := 2000000) only [vc_ret, thenQ_n, kKeep_eq, finQ_r, segs_nil, ops_nil, look, put_mk0, keep_mk, keepL, Nat.reduceEqDiff, ↓reduceIte]
      have hm' : (m.upd b2 (.cells #[.bool true] e2' (0, 0))) = uni (one b2 (.cells #[.bool true] e2' (0, 0))) (fun j => if j = b2 then none else m j) := by
        funext j
        by_cases hj : j = b2
        · subst hj; simp [PH.upd, uni, one]
        · simp [PH.upd, uni, one, hj]
      have hd' : dis (one b2 (.cells #[.bool true] e2' (0, 0))) (fun j => if j = b2 then none else m j) := fun j => by
        by_cases hj : j = b2
        · exact .inr (by simp [hj])
        · exact .inl (by simp [one, hj])
      rw [show writeAt #[Value.bool false] 0 (GV.s (Value.bool true)).flat = #[Value.bool true] from rfl]
      exact ⟨fun a w hR => ⟨_, [.s (.bool true)], PH.no, hR.ownBox (t := 2) (g := .s (.bool true)) 2 rfl rfl ⟨rfl, b2, e2', rfl, rfl⟩ hm' hd', rfl, rfl, fun _ _ h => by cases h⟩⟩
end Go.Proofs.Ytdpknchgoeboaaa.Vc

/- TreeSound: where what is read is of bulk at most the row's bound, the law answers true and leaves its argument as it was. -/
set_option linter.unusedVariables false
set_option linter.unusedSimpArgs false
set_option maxRecDepth 100000
namespace Go.Proofs.Ytdpknchgoeboaaa.Vc
open Go Go.Proofs Go.Proofs.Ytdpknchgoeboaaa Go.ChangeShapes Go.WideShapes Go.ChangeAt

theorem TreeSound_open {H : Type} (enc : TypeId × Value → H) (W : World) (base : Nat) (vs : List Value) (h : RdBs enc Try.prog W base [24] vs 1048576) (_ : W.ShapedOpen Try.prog) : Spec Try.prog f_law12_TreeSound vs PH.no W fun rs _ => rs = [.s (.bool true)] := by
  obtain ⟨v1, vs, a, b, rfl, hab, h1, g1, h⟩ := rdbs_cons h
  obtain rfl := rdbs_nil h
  obtain ⟨ops, k1, l1, o1⟩ := open_Ops h1 g1
  exact sound_spec W v1 ops (by omega) o1 W.ph (fun _ _ h => h) k1

theorem TreeSound_reads (os : Os) {H : Type} (enc : TypeId × Value → H) : ∃ places, DataW.whole enc Try.prog ((World.holding Try.prog os ⟨#[], #[], []⟩).forCall (fun _ _ => 0) ⟨#[], #[.slice none 0 0], []⟩).memory Try.f7.params.toList Rows.treeSoundSpec.vars false (#[.slice none 0 0] : Array Value).toList 8 = some ([.nil], [], places) :=
  ⟨[], by kernel_rfl⟩
theorem TreeSound_lifted (os : Os) (started : os.Started) (H : Type) (enc : TypeId × Value → H) (F : Stop.Interp) :
    ReturnsInHanded {} Try.checked os f_law12_TreeSound .any ((Rows.OpenSpec.upto Rows.treeSoundSpec).preRow enc Try.prog Try.f7 Rows.treeSoundUptoRow.domain false Rows.treeSoundUptoRow.laid) (((Rows.OpenSpec.upto Rows.treeSoundSpec).at F).post enc Try.prog Try.f7 false true false false) := by
  obtain ⟨places, hx⟩ := TreeSound_reads os enc
  exact law_lifted_upto (C := Try.checked) Try_own Try_laidOut started (by kernel_rfl) Try.func7
    (witness_row_at (enc := enc) (C := Try.checked) false (World.holding Try.prog os ⟨#[], #[], []⟩) #[.slice none 0 0] rfl (by kernel_rfl) (by kernel_rfl) (by kernel_rfl)
      (OpenSpec.preRow_of_cond 8 hx (by kernel_rfl) (fun k hk => by cases hk; kernel_rfl) (by kernel_rfl) (laidMet_of_run' 8 (by kernel_rfl) (by kernel_rfl))))
    (by kernel_rfl) rfl (tb := 4) (by kernel_rfl) (by kernel_rfl) (ts := [24]) (by kernel_rfl) (fun ds h => by match ds, h with | [d0], _ => rfl) (TreeSound_open enc)
theorem TreeSound_upto : Rows.TreeSoundUptoSaid :=
  OpenClaim.holds_of_cond f_law12_TreeSound Try.f7 rfl rfl rfl rfl rfl rfl rfl ⟨rfl, rfl, rfl, rfl, rfl⟩ rfl rfl rfl rfl rfl (by kernel_rfl) Try.func7 (by kernel_rfl)
    (of_decide_eq_true (by kernel_rfl)) (by unfold Func.isWrapper; first | (rw [if_pos (by decide +kernel)]; kernel_rfl) | (rw [if_neg (by decide +kernel)]; exact ⟨rfl, rfl⟩))
    (fun os started H enc _ F => by rw [OpenClaim.pre_eq_preRow]; exact TreeSound_lifted os started H enc F)
#print axioms TreeSound_upto
end Go.Proofs.Ytdpknchgoeboaaa.Vc

