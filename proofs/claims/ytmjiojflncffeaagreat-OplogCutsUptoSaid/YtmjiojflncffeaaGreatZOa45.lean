/- Part 5 of what a law of this seat rests on. -/
import Derived.Test.YtmjiojflncffeaaGreatProg
import Derived.RangeFuncKeeps
import Derived.Shelf.Abstract
import Derived.Sort.LoopGhostIn
import Derived.RangeFuncCalls
import Derived.Test.YtmjiojflncffeaaGreatZOa44
/- What a tree tells makes that tree: plain. -/
set_option linter.unusedVariables false
set_option linter.unusedSimpArgs false
namespace Go.Proofs.YtmjiojflncffeaaGreat.Vc
open Go

theorem bytesLess_lt : ∀ (x y : List UInt8), _root_.Go.Op.bytesLess x y = decide (x < y)
  | [], [] => by simp [_root_.Go.Op.bytesLess]
  | _ :: _, [] => by simp [_root_.Go.Op.bytesLess]
  | [], _ :: _ => by simp [_root_.Go.Op.bytesLess]
  | a :: x, b :: y => by
    rw [_root_.Go.Op.bytesLess, bytesLess_lt x y]
    simp only [List.cons_lt_cons_iff]
    by_cases h1 : a < b <;> by_cases h2 : a = b <;> by_cases h3 : x < y <;> simp [h1, h2, h3]
theorem lt_of_le_ne {a b : List UInt8} (h : a ≤ b) (hn : a ≠ b) : a < b :=
  Classical.byContradiction fun hc => hn (List.le_antisymm h (show b ≤ a from hc))
theorem attrKeys_sorted {x : PN} (h : AttrOk x.attrs) : (attrKeys x).Pairwise (· < ·) := by
  have tr : ∀ a b c : List UInt8, decide (a ≤ b) = true → decide (b ≤ c) = true → decide (a ≤ c) = true := fun a b c h1 h2 => by simp only [decide_eq_true_eq] at *; exact List.le_trans h1 h2
  have to : ∀ a b : List UInt8, (decide (a ≤ b) || decide (b ≤ a)) = true := fun a b => by simp only [Bool.or_eq_true, decide_eq_true_eq]; exact List.le_total a b
  have h1 := List.pairwise_mergeSort tr to (x.attrs.map fun p => p.1.data.toList)
  have h2 : (attrKeys x).Nodup := by
    refine (List.mergeSort_perm _ _).nodup_iff.2 ?_
    have := h.nod
    rw [List.Nodup, List.pairwise_map] at this ⊢
    refine this.imp fun {a b} hab e => hab ?_
    have : a.1.data = b.1.data := Array.toList_inj.1 e
    exact ByteArray.ext this
  have h1 : (attrKeys x).Pairwise fun a b => decide (a ≤ b) = true := h1
  refine (h1.and h2).imp fun {a b} hab => lt_of_le_ne (of_decide_eq_true hab.1) hab.2
theorem mem_attrKeys {x : PN} {k : List UInt8} : k ∈ attrKeys x ↔ ∃ v, getS x.attrs (mkS k) = some v := by
  have h1 : k ∈ attrKeys x ↔ k ∈ x.attrs.map fun p => p.1.data.toList := (List.mergeSort_perm _ _).mem_iff
  rw [h1]
  have h2 := getS_none (l := x.attrs) (j := mkS k)
  constructor
  · intro h
    obtain ⟨p, hp, rfl⟩ := List.mem_map.1 h
    rw [← Option.ne_none_iff_exists']
    intro e
    refine h2.1 e (List.mem_map.2 ⟨p, hp, ?_⟩)
    exact ByteArray.ext (by simp [mkS])
  · rintro ⟨v, hv⟩
    refine Classical.byContradiction fun hc => ?_
    rw [h2.2 fun h => hc ?_] at hv
    · cases hv
    · obtain ⟨p, hp, e⟩ := List.mem_map.1 h
      exact List.mem_map.2 ⟨p, hp, by rw [e]; simp [mkS]⟩

theorem attrsA_of {f : List UInt8 → Attr} : ∀ (keys : List (List UInt8)) (prev : ByteArray), (∀ k ∈ keys, (f k).key.data.toList = k) → keys.Pairwise (· < ·) → (∀ k ∈ keys, prev.data.toList < k) → (∀ k ∈ keys, (f k).value ≠ ⟨#[]⟩ ∧ pairB (f k).key (f k).value = true) → attrsA prev (keys.map f) = true
  | [], _, _, _, _, _ => rfl
  | k :: l, prev, h1, h2, h3, h4 => by
    rw [List.pairwise_cons] at h2
    have e1 := h1 k (by simp)
    have e3 := h3 k (by simp)
    have e4 := h4 k (by simp)
    have ih := attrsA_of (f := f) l (f k).key (fun q hq => h1 q (by simp [hq])) h2.2 (fun q hq => by rw [e1]; exact h2.1 q hq) (fun q hq => h4 q (by simp [hq]))
    rw [List.map_cons, attrsA, ih, e4.2, decide_eq_false e4.1]
    have : leB (f k).key prev = false := by
      rw [leB, bytesLess_lt, e1, decide_eq_false (List.lt_asymm e3), decide_eq_false]
      · rfl
      · intro e
        rw [← e, e1] at e3
        exact List.lt_irrefl _ e3
    rw [this]; rfl
def lookA : List Attr → ByteArray → Option ByteArray
  | [], _ => none
  | a :: l, j => if a.key = j then some a.value else lookA l j
theorem attrsA_above : ∀ {l : List Attr} {k : ByteArray}, attrsA k l = true → ∀ a ∈ l, k.data.toList < a.key.data.toList
  | [], _, _, a, ha => by simp at ha
  | b :: l, k, h, a, ha => by
    obtain ⟨h1, _, _, h4⟩ := attrsA_cons h
    have hb : k.data.toList < b.key.data.toList := by
      rw [leB, bytesLess_lt, Bool.or_eq_false_iff] at h1
      refine lt_of_le_ne (show ¬ b.key.data.toList < k.data.toList from of_decide_eq_false h1.1) fun e => ?_
      exact of_decide_eq_false h1.2 (ByteArray.ext (Array.toList_inj.1 e.symm))
    rcases List.mem_cons.1 ha with rfl | ha
    · exact hb
    · exact List.lt_trans hb (attrsA_above h4 a ha)
theorem lookA_none : ∀ {l : List Attr} {j : ByteArray}, (∀ a ∈ l, a.key ≠ j) → lookA l j = none
  | [], _, _ => rfl
  | a :: l, j, h => by rw [lookA, if_neg (h a (by simp))]; exact lookA_none fun a ha => h a (by simp [ha])
theorem getS_laid : ∀ (l : List Attr) (s : List (ByteArray × ByteArray)) (k : ByteArray), AttrOk s → attrsA k l = true → ∀ j, getS (l.foldl (fun s a => setS s a.key a.value) s) j = (lookA l j).or (getS s j)
  | [], s, k, _, _, j => by simp [lookA]
  | a :: l, s, k, hs, h, j => by
    obtain ⟨_, hv, hp, h4⟩ := attrsA_cons h
    have hk : a.key.size ≤ 255 := by
      simp only [pairB, Bool.and_eq_true, decide_eq_true_eq] at hp
      exact hp.1.2
    rw [List.foldl_cons, getS_laid l (setS s a.key a.value) a.key (hs.set hk) h4 j, getS_set hs, lookA]
    by_cases e : a.key = j
    · subst e
      rw [lookA_none fun b hb e => by
        have := attrsA_above h4 b hb
        rw [e] at this
        exact List.lt_irrefl _ this]
      rw [if_pos rfl, if_pos rfl, if_neg (show ¬ a.value = empty from hv)]; rfl
    · rw [if_neg (fun q => e q.symm), if_neg e]
theorem laidA_get {l : List Attr} (h : attrsA ⟨#[]⟩ l = true) (j : ByteArray) : getS (laidA l) j = lookA l j := by
  have := getS_laid l [] ⟨#[]⟩ AttrOk.nil h j
  rw [laidA, this]
  cases lookA l j <;> rfl
theorem lookA_map {g : List UInt8 → ByteArray} : ∀ (keys : List (List UInt8)) (j : ByteArray), lookA (keys.map fun k => ⟨mkS k, g k⟩) j = if j.data.toList ∈ keys then some (g j.data.toList) else none
  | [], j => by simp [lookA]
  | k :: l, j => by
    rw [List.map_cons, lookA, lookA_map l j]
    by_cases e : mkS k = j
    · subst e; simp [mkS]
    · have : ¬ j.data.toList = k := fun q => e (ByteArray.ext (by rw [← q]; simp [mkS]))
      rw [if_neg e]
      simp [this]
theorem mkS_data (j : ByteArray) : mkS j.data.toList = j := ByteArray.ext (by simp [mkS])
theorem attrsOf_look (x : PN) (j : ByteArray) : lookA (attrsOf x) j = getS x.attrs j := by
  rw [attrsOf, lookA_map]
  have := mem_attrKeys (x := x) (k := j.data.toList)
  rw [mkS_data] at this
  split
  · rename_i h
    obtain ⟨v, hv⟩ := this.1 h
    rw [mkS_data, hv]; rfl
  · rename_i h
    cases hg : getS x.attrs j with
    | none => rfl
    | some v => exact absurd (this.2 ⟨v, hg⟩) h
theorem attrsOf_ok {x : PN} (h : AttrOk x.attrs) (hp : ∀ k w, getS x.attrs k = some w → pairB k w = true ∧ w ≠ empty) : attrsA ⟨#[]⟩ (attrsOf x) = true := by
  have hk : ∀ k ∈ attrKeys x, ∃ w, getS x.attrs (mkS k) = some w ∧ pairB (mkS k) w = true ∧ w ≠ empty := fun k hk => by
    obtain ⟨v, hv⟩ := mem_attrKeys.1 hk
    exact ⟨v, hv, hp _ _ hv⟩
  refine attrsA_of (f := fun k => ⟨mkS k, (getS x.attrs (mkS k)).getD ⟨#[]⟩⟩) (attrKeys x) ⟨#[]⟩ (fun k _ => by simp [mkS]) (attrKeys_sorted h) (fun k hk' => ?_) fun k hk' => ?_
  · obtain ⟨w, _, h2, _⟩ := hk k hk'
    cases k with
    | nil => simp [pairB, mkS] at h2
    | cons a l => simp
  · obtain ⟨w, h1, h2, h3⟩ := hk k hk'
    simp only [h1, Option.getD_some]
    exact ⟨h3, h2⟩

theorem rowsA_some : ∀ {l : List TN} {T : PT} {last : Int}, l.Pairwise (fun a b => a.node < b.node) → (∀ r ∈ l, last < r.node) →
    (∀ r ∈ l, attrsA ⟨#[]⟩ r.attrs = true ∧ topB r.node = (decide (r.parent = 0) && decide (r.name = ⟨#[]⟩)) ∧ (topB r.node = true ∨ nameB r.name = true)) → ∃ T', rowsA T last l = some T'
  | [], T, last, _, _, _ => ⟨T, rfl⟩
  | r :: l, T, last, h1, h2, h3 => by
    rw [List.pairwise_cons] at h1
    obtain ⟨e1, e2, e3⟩ := h3 r (by simp)
    have e0 := h2 r (by simp)
    obtain ⟨T', hT'⟩ := rowsA_some (l := l) (T := (T.row r).putAll r.node r.attrs) (last := r.node) h1.2 h1.1 fun q hq => h3 q (by simp [hq])
    refine ⟨T', ?_⟩
    rw [rowsA, if_pos, hT']
    rw [e1, Bool.and_true, rowA, decide_eq_false (by omega), e2, beq_self_eq_true, ← e2]
    rcases e3 with e | e <;> simp [e]
theorem rowGet_of : ∀ {l : List TN} {r : TN}, l.Pairwise (fun a b => a.node < b.node) → r ∈ l → rowGet l r.node = some (rowN r)
  | [], r, _, h => by simp at h
  | q :: l, r, h1, h => by
    rw [List.pairwise_cons] at h1
    rcases List.mem_cons.1 h with rfl | h
    · rw [rowGet, if_pos rfl]
    · have := h1.1 r h
      rw [rowGet, if_neg (by omega)]
      exact rowGet_of h1.2 h

theorem nodesK_sorted {T : PT} (h : (T.nodes.map (·.1)).Nodup) : (nodesK T).Pairwise (· < ·) := by
  have tr : ∀ a b c : Int, decide (a ≤ b) = true → decide (b ≤ c) = true → decide (a ≤ c) = true := fun a b c h1 h2 => by simp only [decide_eq_true_eq] at *; omega
  have to : ∀ a b : Int, (decide (a ≤ b) || decide (b ≤ a)) = true := fun a b => by simp only [Bool.or_eq_true, decide_eq_true_eq]; omega
  have h1 : (nodesK T).Pairwise fun a b => decide (a ≤ b) = true := List.pairwise_mergeSort tr to (T.nodes.map fun p : Int × PN => p.1)
  have h2 : (nodesK T).Nodup := (List.mergeSort_perm _ _).nodup_iff.2 h
  refine (h1.and h2).imp fun {a b} hab => ?_
  have := of_decide_eq_true hab.1
  have := hab.2
  omega
theorem toldL_node {T : PT} {l : List Int} {t : TN} (h : t ∈ toldL T l) : ∃ n ∈ l, ∃ x, T.get n = some x ∧ t = toldOf n x := by
  obtain ⟨n, hn, h2⟩ := List.mem_filterMap.1 (List.mem_filter.1 h).1
  cases hx : T.get n with
  | none => rw [hx] at h2; cases h2
  | some x => rw [hx] at h2; exact ⟨n, hn, x, hx, by simpa using h2.symm⟩
theorem toldL_sorted {T : PT} : ∀ {l : List Int}, l.Pairwise (· < ·) → (toldL T l).Pairwise (fun a b => a.node < b.node)
  | [], _ => List.Pairwise.nil
  | n :: l, h => by
    rw [List.pairwise_cons] at h
    have ih := toldL_sorted (T := T) h.2
    unfold toldL at ih ⊢
    rw [List.filterMap_cons]
    cases hx : T.get n with
    | none => exact ih
    | some x =>
      simp only [Option.map_some]
      rw [List.filter_cons]
      split
      · rw [List.pairwise_cons]
        refine ⟨fun t ht => ?_, ih⟩
        obtain ⟨m, hm, y, _, rfl⟩ := toldL_node (T := T) (l := l) ht
        exact h.1 m hm
      · exact ih
theorem mem_told {T : PT} {n : Int} {x : PN} (hx : T.get n = some x) : toldOf n x ∈ nodesTold T ↔ (toldOf n x).shown = true := by
  unfold nodesTold toldL
  rw [List.mem_filter]
  refine ⟨fun h => h.2, fun h => ⟨List.mem_filterMap.2 ⟨n, ?_, by rw [hx]; rfl⟩, h⟩⟩
  exact (List.mergeSort_perm _ _).mem_iff.2 (List.mem_map.2 ⟨(n, x), getA_mem hx, rfl⟩)
/-- What a tree tells is a tree, and looks like it. -/
theorem told_from {T : PT} {k : Nat} (hok : T.ok k) (hg : VGood T.view) : fromA (nodesTold T) ∧ viewOf (nodesTold T) = T.view := by
  have hs := toldL_sorted (T := T) (nodesK_sorted hok.nod)
  have hat : ∀ n x, T.get n = some x → attrsA ⟨#[]⟩ (attrsOf x) = true := fun n x hx => attrsOf_ok (hok.attrs n x hx).1 fun k w h => hg.pairs n _ k w (PT.view_get hx) h
  have heach : ∀ t ∈ nodesTold T, ∃ n x, T.get n = some x ∧ t = toldOf n x := fun t ht => by
    obtain ⟨n, _, x, hx, e⟩ := toldL_node ht
    exact ⟨n, x, hx, e⟩
  obtain ⟨T', hT'⟩ := rowsA_some (l := nodesTold T) (T := T0) (last := 0) hs (fun r hr => by
    obtain ⟨n, x, hx, rfl⟩ := heach r hr
    exact hg.pos n _ (PT.view_get hx)) fun r hr => by
    obtain ⟨n, x, hx, rfl⟩ := heach r hr
    refine ⟨hat n x hx, ?_, ?_⟩
    · show topB n = _
      cases ht : topB n with
      | true =>
        obtain ⟨e1, e2⟩ := hg.top n _ (PT.view_get hx) ht
        have e1 : x.parent = 0 := e1
        have e2 : x.name = ⟨#[]⟩ := e2
        simp [toldOf, e1, e2]
      | false =>
        have := hg.name n _ (PT.view_get hx) ht
        have hne : x.name ≠ ⟨#[]⟩ := fun e => by
          have this : nameB x.name = true := this
          rw [e] at this
          exact absurd this (by decide)
        simp [toldOf, hne]
    · show topB n = true ∨ _
      cases ht : topB n with
      | true => exact .inl rfl
      | false => exact .inr (hg.name n _ (PT.view_get hx) ht)
  have hR := rowsA_rowed hT'
  have hv : viewOf (nodesTold T) = T.view := by
    funext n
    unfold viewOf
    cases hx : T.get n with
    | none =>
      rw [PT.view_none.2 hx, rowGet_none fun r hr e => ?_]
      · cases h0 : T0.get n with
        | none => rfl
        | some y =>
          have := (T0_keys (PT.view_get h0)).1
          have hv := PT.view_none.2 hx
          rcases topB_iff.1 this with e | e
          · rw [e] at hv; exact absurd hv hg.one
          · rw [e] at hv; exact absurd hv hg.two
      · obtain ⟨m, x, hx', rfl⟩ := heach r hr
        have e : m = n := e
        rw [e, hx] at hx'; cases hx'
    | some x =>
      rw [PT.view_get hx]
      by_cases hsh : (toldOf n x).shown = true
      · have := rowGet_of hs ((mem_told hx).2 hsh)
        rw [show (toldOf n x).node = n from rfl] at this
        have h2 : rowGet (nodesTold T) n = some (rowN (toldOf n x)) := this
        rw [h2]
        simp only [Option.map_some, PN.view, rowN, toldOf, Option.some.injEq, AN.mk.injEq, true_and]
        funext j
        rw [laidA_get (hat n x hx), attrsOf_look]
      · simp only [TN.shown, Bool.or_eq_true, Bool.not_eq_true', decide_eq_true_eq, not_or] at hsh
        have ht : topB n = true := by
          have := hsh.1
          simpa [toldOf] using this
        have hl : (attrsOf x).length = 0 := by
          have := hsh.2
          simp only [toldOf] at this
          omega
        have hno : ∀ r ∈ nodesTold T, r.node ≠ n := fun r hr e => by
          obtain ⟨m, y, hy, rfl⟩ := heach r hr
          have e' : m = n := e
          rw [e'] at hr hy
          rw [hx] at hy; cases hy
          have := (mem_told hx).1 hr
          rw [TN.shown, Bool.or_eq_true, Bool.not_eq_true'] at this
          rcases this with q | q
          · rw [show (toldOf n x).node = n from rfl, ht] at q; cases q
          · have q' : 0 < (attrsOf x).length := of_decide_eq_true q
            omega
        rw [rowGet_none hno]
        have h0 : T0.get n = some PN.bare := by
          rcases topB_iff.1 ht with e | e <;> rw [e] <;> rfl
        rw [h0]
        obtain ⟨e1, e2⟩ := hg.top n _ (PT.view_get hx) ht
        have e1 : x.parent = 0 := e1
        have e2 : x.name = ⟨#[]⟩ := e2
        simp only [Option.map_some, PN.view, PN.bare, Option.some.injEq, AN.mk.injEq, e1, e2, true_and]
        funext j
        rw [← attrsOf_look x j, List.length_eq_zero_iff.1 hl]; rfl
  refine ⟨⟨T', hT', ?_⟩, hv⟩
  unfold PT.led
  rw [hR.view, hv]
  exact hg.led
end Go.Proofs.YtmjiojflncffeaaGreat.Vc

/- A log in memory; what is asked of it without changing it. -/
set_option linter.unusedVariables false
set_option linter.unusedSimpArgs false
set_option maxRecDepth 100000
namespace Go.Proofs.YtmjiojflncffeaaGreat.Vc
open Go Go.Proofs

theorem uni_rot {a b c : PH} (h : dis a b) : uni a (uni b c) = uni b (uni a c) := by rw [← uni_assoc, uni_comm h, uni_assoc]
/-- The log's own five cells. -/
def logC (L Lb : Lay) (fr : Int) (ov : Value) (red : Int) (e : TypeId) : Obj := .cells #[ptr (L .t), ptr (Lb .t), .int .i64 fr, ov, .int .i64 red] e (0, 0)
structure LogP (b : Nat) (L Lb : Lay) (p : PL) (ov : Value) (e : TypeId) (mo mT mB : PH) : Prop where
  d1 : dis (one b (logC L Lb p.fr ov p.red e)) (uni mo (uni mT mB))
  d2 : dis mo (uni mT mB)
  d3 : dis mT mB
  ops : SlO mo ov 97 22 (p.ds.map gDone)
  tree : TM mT L p.T
  base : TM mB Lb p.B
/-- A log, in memory of its own. -/
def LogM (m : PH) (b : Nat) (L Lb : Lay) (p : PL) : Prop := ∃ ov e mo mT mB, m = uni (one b (logC L Lb p.fr ov p.red e)) (uni mo (uni mT mB)) ∧ LogP b L Lb p ov e mo mT mB

theorem SlO.one {u : PH} {v : Value} {e : TypeId} {z : Nat} {xs : List GV} (h : SlO u v e z xs) : v.oneCell' = true := by
  rcases h.2 with ⟨h, _⟩ | ⟨a, c, h, _⟩ <;> rw [h] <;> rfl
section
variable {m : PH} {b : Nat} {L Lb : Lay} {p : PL}
/-- What is read of it. -/
theorem LogM.look (h : LogM m b L Lb p) : ∃ ov mT mB, SlR m ov 22 (p.ds.map gDone) ∧ (PH.sub mT m ∧ TM mT L p.T) ∧ (PH.sub mB m ∧ TM mB Lb p.B) ∧ ∀ {C : Ctx} {ph : List PH} {m' : PH}, KN C.u0 (m' :: ph) m →
    Seen C ph m' b 0 (.s (ptr (L .t))) ∧ Seen C ph m' b 1 (.s (ptr (Lb .t))) ∧ Seen C ph m' b 2 (.s (.int .i64 p.fr)) ∧ Seen C ph m' b 3 (.s ov) ∧ Seen C ph m' b 4 (.s (.int .i64 p.red)) := by
  obtain ⟨ov, e, mo, mT, mB, rfl, q⟩ := h
  have s1 : PH.sub (uni mo (uni mT mB)) (uni (one b (logC L Lb p.fr ov p.red e)) (uni mo (uni mT mB))) := sub_uni_r q.d1
  have s2 := PH.sub_trans (sub_uni_r q.d2) s1
  refine ⟨ov, mT, mB, q.ops.toR.up (PH.sub_trans (sub_uni_l _ _) s1), ⟨PH.sub_trans (sub_uni_l _ _) s2, q.tree⟩, ⟨PH.sub_trans (sub_uni_r q.d3) s2, q.base⟩, fun hk => ?_⟩
  have hb : uni (one b (logC L Lb p.fr ov p.red e)) (uni mo (uni mT mB)) b = some (logC L Lb p.fr ov p.red e) := sub_uni_l _ _ _ _ (one_self _ _)
  exact ⟨seen_cell hk hb rfl rfl, seen_cell hk hb rfl rfl, seen_cell hk hb rfl rfl, seen_cell hk hb rfl q.ops.one, seen_cell hk hb rfl rfl⟩
/-- Its tree, apart. -/
theorem LogM.tree (h : LogM m b L Lb p) : ∃ mT mr, m = uni mT mr ∧ dis mT mr ∧ TM mT L p.T ∧ ∀ {L' : Lay} {T' : PT} {mT' : PH}, L' .t = L .t → TM mT' L' T' → dis mT' mr → LogM (uni mT' mr) b L' Lb { p with T := T' } := by
  obtain ⟨ov, e, mo, mT, mB, rfl, q⟩ := h
  obtain ⟨d1, d2⟩ := dis_of_uni_r q.d1
  obtain ⟨d3, d4⟩ := dis_of_uni_r d2
  obtain ⟨d5, d6⟩ := dis_of_uni_r q.d2
  refine ⟨mT, uni (one b (logC L Lb p.fr ov p.red e)) (uni mo mB), ?_, dis_uni_r (dis_comm d3) (dis_uni_r (dis_comm d5) q.d3), q.tree, fun {L' T' mT'} hL hT hd => ?_⟩
  · rw [uni_rot d5, uni_rot d3]
  · obtain ⟨g1, g2⟩ := dis_of_uni_r hd
    obtain ⟨g3, g4⟩ := dis_of_uni_r g2
    have hlog : logC L' Lb p.fr ov p.red e = logC L Lb p.fr ov p.red e := by unfold logC; rw [hL]
    refine ⟨ov, e, mo, mT', mB, ?_, ⟨?_, dis_uni_r (dis_comm g3) d6, g4, q.ops, hT, q.base⟩⟩
    · show _ = uni (one b (logC L' Lb p.fr ov p.red e)) _
      rw [hlog, uni_rot (b := mT') (dis_comm g3), uni_rot (dis_comm g1)]
    · show dis (one b (logC L' Lb p.fr ov p.red e)) _
      rw [hlog]
      exact dis_uni_r d1 (dis_uni_r (dis_comm g1) d4)
/-- Its base, apart. -/
theorem LogM.base (h : LogM m b L Lb p) : ∃ mB mr, m = uni mB mr ∧ dis mB mr ∧ TM mB Lb p.B ∧ ∀ {L' : Lay} {T' : PT} {mB' : PH}, L' .t = Lb .t → TM mB' L' T' → dis mB' mr → LogM (uni mB' mr) b L L' { p with B := T' } := by
  obtain ⟨ov, e, mo, mT, mB, rfl, q⟩ := h
  obtain ⟨d1, d2⟩ := dis_of_uni_r q.d1
  obtain ⟨d3, d4⟩ := dis_of_uni_r d2
  obtain ⟨d5, d6⟩ := dis_of_uni_r q.d2
  refine ⟨mB, uni (one b (logC L Lb p.fr ov p.red e)) (uni mo mT), ?_, dis_uni_r (dis_comm d4) (dis_uni_r (dis_comm d6) (dis_comm q.d3)), q.base, fun {L' T' mT'} hL hT hd => ?_⟩
  · rw [uni_comm q.d3, uni_rot d6, uni_rot d4]
  · obtain ⟨g1, g2⟩ := dis_of_uni_r hd
    obtain ⟨g3, g4⟩ := dis_of_uni_r g2
    have hlog : logC L L' p.fr ov p.red e = logC L Lb p.fr ov p.red e := by unfold logC; rw [hL]
    refine ⟨ov, e, mo, mT, mT', ?_, ⟨?_, dis_uni_r d5 (dis_comm g3), dis_comm g4, q.ops, q.tree, hT⟩⟩
    · show _ = uni (one b (logC L L' p.fr ov p.red e)) _
      rw [hlog, uni_comm (a := mT) (b := mT') (dis_comm g4), uni_rot (b := mT') (dis_comm g3), uni_rot (dis_comm g1)]
    · show dis (one b (logC L L' p.fr ov p.red e)) _
      rw [hlog]
      exact dis_uni_r d1 (dis_uni_r d3 (dis_comm g1))
/-- Its list, apart; another list is stored. -/
theorem LogM.list (h : LogM m b L Lb p) : ∃ ov e mo mr, m = uni mo mr ∧ dis mo mr ∧ SlO mo ov 97 22 (p.ds.map gDone) ∧ mr b = some (logC L Lb p.fr ov p.red e) ∧ (∀ {C : Ctx} {ph : List PH} {m' : PH}, KN C.u0 (m' :: ph) m → Seen C ph m' b 3 (.s ov)) ∧
    ∀ {v' : Value} {mo' : PH} {ds' : List Done} {fr' red' : Int}, SlO mo' v' 97 22 (ds'.map gDone) → dis mo' mr → LogM (uni mo' (mr.upd b (logC L Lb fr' v' red' e))) b L Lb { p with ds := ds', fr := fr', red := red' } := by
  obtain ⟨ov, e, mo, mT, mB, rfl, q⟩ := h
  obtain ⟨d1, d2⟩ := dis_of_uni_r q.d1
  have hb : uni (one b (logC L Lb p.fr ov p.red e)) (uni mo (uni mT mB)) b = some (logC L Lb p.fr ov p.red e) := sub_uni_l _ _ _ _ (one_self _ _)
  refine ⟨ov, e, mo, uni (one b (logC L Lb p.fr ov p.red e)) (uni mT mB), uni_rot d1, dis_uni_r (dis_comm d1) q.d2, q.ops, sub_uni_l _ _ _ _ (one_self _ _), fun hk => seen_cell hk hb rfl q.ops.one, fun {v' mo' ds' fr' red'} hv hd => ?_⟩
  obtain ⟨g1, g2⟩ := dis_of_uni_r hd
  have hone : ∀ {x : PH} {o o' : Obj}, dis (one b o) x → dis (one b o') x := fun {x o o'} h j => by
    rcases h j with h1 | h1
    · left
      simp only [Vc.one] at h1 ⊢
      split at h1
      · cases h1
      · rename_i hj; rw [if_neg hj]
    · exact .inr h1
  refine ⟨v', e, mo', mT, mB, ?_, ⟨hone (dis_uni_r (dis_comm g1) d2), g2, q.d3, hv, q.tree, q.base⟩⟩
  rw [uni_one_upd, uni_rot (b := one b (logC L Lb fr' v' red' e)) (dis_comm (hone (dis_comm g1)))]
end
theorem SlR.cutAt {u : PH} {b o n c : Nat} {z : Nat} {xs : List GV} (h : SlR u (.slice (some ⟨b, o, none⟩) n c) z xs) {lo hi : Nat} (h1 : lo ≤ hi) (h2 : hi ≤ n) : SlR u (.slice (some ⟨b, if c = lo then o else o + lo * z, none⟩) (hi - lo) (c - lo)) z ((xs.drop lo).take (hi - lo)) := by
  obtain ⟨hels, ⟨h3, rfl⟩ | ⟨a, c', h3, h4, h5⟩⟩ := h
  · simp at h3
  · simp only [Value.slice.injEq, Option.some.injEq] at h3
    obtain ⟨rfl, rfl, rfl⟩ := h3
    refine ⟨hels.part _ _, .inr ⟨⟨b, if c = lo then o else o + lo * z, none⟩, c - lo, by rw [List.length_take, List.length_drop]; congr 1; omega, by rw [List.length_take, List.length_drop]; omega, fun hc => ?_⟩⟩
    obtain ⟨cs, e, fz, g1, g2, g3⟩ := h5 (by omega)
    simp only at g2 g3 ⊢
    rw [if_neg (by omega)]
    refine ⟨cs, e, fz, trivial, g2, fun j v hj => ?_⟩
    rw [Nat.add_assoc]
    exact g3 _ _ (flats_part hels (by omega) j v hj)

/-- A part of a slice that lies anywhere. -/
theorem ops_sl {C : Ctx} {σ : SS} {t z : Nat} {x : Opd} {lo hi : Option Opd} {r : List (Option Nat × RO)} {K : KT} {v : Value} {u : PH} {xs : List GV} {l h : Nat} (hx : ev σ x = some (.g (.s v))) (hs : SlR u v z xs) (hlo : bndN σ lo 0 = some l) (hhi : ∀ d : Nat, d = xs.length → bndN σ hi d = some h)
    (h1 : l ≤ h) (h2 : h ≤ xs.length) (hK : ∀ v', v'.oneCell' = true → SlR u v' z ((xs.drop l).take (h - l)) → vcSegOps C r K (σ.put (some t) (.g (.s v')))) : vcSegOps C ((some t, .sl z x lo hi) :: r) K σ := by
  rw [ops_cons]
  simp only [vcOp, hx]
  have hw := hs
  obtain ⟨hels, ⟨rfl, rfl⟩ | ⟨⟨b, o, sp⟩, c, rfl, hc, hs⟩⟩ := hs
  · obtain rfl : h = 0 := by simpa using h2
    obtain rfl : l = 0 := by omega
    simp only [hlo, hhi 0 rfl]
    exact ⟨⟨rfl, rfl⟩, hK _ rfl (by simpa using hw)⟩
  · cases sp with
    | none =>
      simp only [hlo, hhi _ rfl]
      refine ⟨⟨hc, by omega, by omega, by omega⟩, ?_⟩
      simp only [Int.toNat_natCast]
      exact hK _ rfl (SlR.cutAt hw h1 h2)
    | some sp =>
      have hc0 : c = 0 := by
        rcases Nat.eq_zero_or_pos c with h | h
        · exact h
        · obtain ⟨_, _, _, g, _⟩ := hs h
          cases g
      subst hc0
      have hx0 : xs = [] := List.length_eq_zero_iff.1 (by omega)
      subst hx0
      obtain rfl : h = 0 := by simpa using h2
      obtain rfl : l = 0 := by omega
      simp only [hlo, hhi 0 rfl, List.length_nil]
      exact ⟨⟨rfl, rfl⟩, hK _ rfl (by simpa using hw)⟩
end Go.Proofs.YtmjiojflncffeaaGreat.Vc

/- A log: made; what is asked of it. -/
set_option linter.unusedVariables false
set_option linter.unusedSimpArgs false
set_option maxRecDepth 100000
namespace Go.Proofs.YtmjiojflncffeaaGreat.Vc
open Go Go.Proofs

theorem eqLog (b : Nat) : EqG Tryz.prog 27 (.s (ptr b)) (.s (.pointer none)) false := eqG_ptr (e := 81) (by kernel_rfl) _
section
variable {w : World} {u : PH} {b : Nat} {L Lb : Lay} {p : PL}
theorem logNone_spec (hu : u.le w) (h : LogM u b L Lb p) : Spec Tryz.prog f_oplog_Log_none [ptr b] PH.no w fun rs _ => rs = [.s (.bool false)] := by
  refine spec_val k_oplog_Log_none (Qf := fun rs => rs = [.s (.bool false)]) [.g (.s (ptr b))] (by simp) (by simp [AV.ok, GV.ok, Value.oneCell', ptr]) ?_
  obtain ⟨ov, mT, mB, hS, hT, hB, hs⟩ := h.look
  simp (maxSteps := 2000000) only [c_oplog_Log_none, ptr, vc_seq, vc_rg, thenQ_n, kKeep_eq, segs_nil, segs_n, ops_nil, ops_cons, vcOp, ev, look, put_mk, keep_mk, keepL, Value.oneCell', cond_true, ↓reduceIte, reduceCtorEq, initF, initP, ptr]
  refine eq_of (eqLog b) ?_
  simp (maxSteps := 2000000) only [segs_g, ops_nil, ops_cons, vcOp, ev, look, put_mk, ↓reduceIte, reduceCtorEq, Nat.zero_add, ↓br_ff, Bool.bne_false]
  refine ld_of _ (hs (kn_u hu)).2.1 rfl ?_
  simp (maxSteps := 2000000) only [ptr, ops_cons, vcOp, ev, look, put_mk, Value.oneCell', cond_true, ↓reduceIte, ptr]
  refine eq_of (eqTree _) ?_
  simp (maxSteps := 2000000) only [vc_ret, thenQ_n, kKeep_eq, segs_nil, segs_n, ops_nil, ops_cons, vcOp, ev, look, put_mk, keep_mk, keepL, Value.oneCell', cond_true, Nat.reduceEqDiff, ↓reduceIte, finW_r, resL, resOne, ↓br_ft, Bool.bne_false]
theorem cloneO_spec (w : World) (v : Value) (ops : List Op) (hb : ops.length ≤ 1099511627776) (u : PH) (hu : u.le w) (h : SlR u v 8 (ops.map gOp)) :
    Spec Tryz.prog 37 [v] PH.no w fun rs m' => ∃ v', rs = [.s v'] ∧ SlO m' v' 26 8 (ops.map gOp) := by
  refine spec_of k_slices_CloneO [.ro v 8 (gOp zOp) (ops.map gOp)] (by simp) (by simpa [AV.ok, u0_no] using h.up hu.sub) ?_
  simp (maxSteps := 2000000) only [c_slices_CloneO, vc_skip, vc_ret, vc_seq, vc_rg, vc_ite, thenQ_n, thenQ_r, kKeep_eq, finQ_r, segs_nil, segs_n, ops_nil, ops_cons, vcOp, ev, evL, gvL, look, updL, put_mk, keep_mk, keepL, rowE, Value.oneCell', cond_true, cond_false, Nat.reduceEqDiff, Nat.reduceBEq, ↓reduceIte, reduceCtorEq, List.nil_append, Nat.zero_add, Bool.and_true, Bool.true_and, BEq.rfl, true_and, and_true, initF, initP, szAll, List.length_nil, kill, SV.mentions, ne_eq, not_false_eq_true, List.drop_zero, br_t, Bool.bne_false, List.length_map, gStamp_zero, gOp_zero]
  refine ⟨⟨26, by kernel_rfl⟩, fun r hr => ⟨fun h1 => ?_, fun h1 => ⟨by omega, ?_⟩⟩⟩
  · have : ops = [] := by
      cases ops with
      | nil => rfl
      | cons b bs => have := hr (by simp); rw [h1] at this; cases this
    subst this
    exact fin_m PH.no rfl (fun _ _ h => by cases h) ⟨_, rfl, ⟨fun x hx => by simp at hx, .inl ⟨rfl, rfl⟩⟩⟩
  · rw [show List.take ops.length (ops.map gOp) = ops.map gOp by rw [List.take_of_length_le (by simp)]]
    refine gh_pub 2 5 _ rfl rfl (by simp) fun v' u' ho hs hd => ?_
    simp (maxSteps := 2000000) only [vc_ret, thenQ_n, kKeep_eq, finQ_r, segs_nil, ops_nil, look, keep_mk, keepL, cond_true, cond_false, Nat.reduceBEq, ↓reduceIte, BEq.rfl, kill, SV.mentions]
    exact fin_m u' rfl (by rw [uni_no_r]; exact fun _ _ h => h) ⟨v', rfl, hs⟩
theorem cloneD_spec (w : World) (v : Value) (ds : List Done) (hb : ds.length ≤ 549755813888) (u : PH) (hu : u.le w) (h : SlR u v 22 (ds.map gDone)) :
    Spec Tryz.prog 43 [v] PH.no w fun rs m' => ∃ v', rs = [.s v'] ∧ SlO m' v' 97 22 (ds.map gDone) := by
  refine spec_of k_slices_CloneD [.ro v 22 (gDone zDone) (ds.map gDone)] (by simp) (by simpa [AV.ok, u0_no] using h.up hu.sub) ?_
  simp (maxSteps := 2000000) only [c_slices_CloneD, vc_skip, vc_ret, vc_seq, vc_rg, vc_ite, thenQ_n, thenQ_r, kKeep_eq, finQ_r, segs_nil, segs_n, ops_nil, ops_cons, vcOp, ev, evL, gvL, look, updL, put_mk, keep_mk, keepL, rowE, Value.oneCell', cond_true, cond_false, Nat.reduceEqDiff, Nat.reduceBEq, ↓reduceIte, reduceCtorEq, List.nil_append, Nat.zero_add, Bool.and_true, Bool.true_and, BEq.rfl, true_and, and_true, initF, initP, szAll, List.length_nil, kill, SV.mentions, ne_eq, not_false_eq_true, List.drop_zero, br_t, Bool.bne_false, List.length_map, gStamp_zero, gOp_zero, gPlace_zero, gUndo_zero, gDone_zero]
  refine ⟨⟨97, by kernel_rfl⟩, fun r hr => ⟨fun h1 => ?_, fun h1 => ⟨by omega, ?_⟩⟩⟩
  · have : ds = [] := by
      cases ds with
      | nil => rfl
      | cons b bs => have := hr (by simp); rw [h1] at this; cases this
    subst this
    exact fin_m PH.no rfl (fun _ _ h => by cases h) ⟨_, rfl, ⟨fun x hx => by simp at hx, .inl ⟨rfl, rfl⟩⟩⟩
  · rw [show List.take ds.length (ds.map gDone) = ds.map gDone by rw [List.take_of_length_le (by simp)]]
    refine gh_pub 2 5 _ rfl rfl (by simp) fun v' u' ho hs hd => ?_
    simp (maxSteps := 2000000) only [vc_ret, thenQ_n, kKeep_eq, finQ_r, segs_nil, ops_nil, look, keep_mk, keepL, cond_true, cond_false, Nat.reduceBEq, ↓reduceIte, BEq.rfl, kill, SV.mentions]
    exact fin_m u' rfl (by rw [uni_no_r]; exact fun _ _ h => h) ⟨v', rfl, hs⟩
theorem logNew_spec (w : World) : Spec Tryz.prog f_oplog_New [] PH.no w fun rs m' => ∃ b L Lb, rs = [.s (ptr b)] ∧ LogM m' b L Lb PL.new := by
  refine spec_of k_oplog_New [] (by simp) (by simp [AV.ok]) ?_
  simp (maxSteps := 2000000) only [c_oplog_New, vc_seq, vc_rg, thenQ_n, kKeep_eq, segs_nil, segs_n, ops_nil, ops_cons, vcOp, ev, put_mk, keep_mk, keepL, Value.oneCell', cond_true, initF, initP, ptr]
  refine call_ownm rfl rfl (Q := fun rs m' => ∃ L, rs = [.s (ptr (L .t))] ∧ TM m' L T0) (fun w' vs hv hw _ _ => ?_) fun rs mT _ hq _ => ?_
  · obtain rfl := argsV_nil hv
    exact New_spec w'
  obtain ⟨L, rfl, hT⟩ := hq
  simp (maxSteps := 2000000) only [retS, uni_no_r, ops_cons, vcOp, ev, evL, gvL, look, put_mk, GV.getT, GV.same, GV.setT, ↓reduceIte, Bool.and_true, and_true, List.map_cons, List.map_nil, Option.map_some, GV.bldT, GV.bldC, ptr]
  refine ⟨rfl, ?_⟩
  refine call_ownm rfl rfl (Q := fun rs m' => ∃ L, rs = [.s (ptr (L .t))] ∧ TM m' L T0) (fun w' vs hv hw _ _ => ?_) fun rs mB _ hq hd => ?_
  · obtain rfl := argsV_nil hv
    exact New_spec w'
  obtain ⟨Lb, rfl, hB⟩ := hq
  simp (maxSteps := 2000000) only [retS, GV.bldC, GV.bldT, ops_cons, vcOp, ev, evL, gvL, look, updL, put_mk, GV.getT, GV.same, GV.setT, Nat.reduceEqDiff, ↓reduceIte, Bool.and_true, Bool.true_and, true_and, and_true, List.map_cons, List.map_nil, Option.map_some, GV.bldT, GV.bldC, ptr]
  refine ⟨⟨rfl, rfl⟩, gh_pubBox 5 5 rfl rfl fun v u hv hp hd2 => ?_⟩
  obtain ⟨hok, b, e, rfl, rfl⟩ := hp
  have hd : dis mB mT := hd
  have hd2 : dis (one b (logC L Lb 0 (.slice none 0 0) 0 e)) (uni mB mT) := hd2
  simp (maxSteps := 2000000) only [vc_ret, thenQ_n, kKeep_eq, finQ_r, segs_nil, ops_nil, ops_cons, vcOp, ev, look, put_mk, keep_mk, keepL, cond_true, cond_false, ↓reduceIte, BEq.rfl, kill, SV.mentions]
  refine fin_m _ rfl (fun _ _ h => h) ⟨b, L, Lb, rfl, ?_⟩
  have em : uni mB mT = uni PH.no (uni mT mB) := by rw [uni_no, uni_comm hd]
  show LogM (uni (one b (logC L Lb 0 (.slice none 0 0) 0 e)) (uni mB mT)) b L Lb PL.new
  rw [em] at hd2 ⊢
  exact ⟨.slice none 0 0, e, PH.no, mT, mB, rfl, ⟨hd2, dis_no _, dis_comm hd, ⟨fun x hx => by simp [PL.new] at hx, .inl ⟨rfl, rfl⟩⟩, hT, hB⟩⟩
theorem logLen_spec (hu : u.le w) (h : LogM u b L Lb p) : Spec Tryz.prog f_oplog_Log_Len [ptr b] PH.no w fun rs _ => rs = [.s (.int .i64 p.ds.length)] := by
  refine spec_val k_oplog_Log_Len (Qf := fun rs => rs = [.s (.int .i64 p.ds.length)]) [.g (.s (ptr b))] (by simp) (by simp [AV.ok, GV.ok, Value.oneCell', ptr]) ?_
  obtain ⟨ov, mT, mB, hS, hT, hB, hs⟩ := h.look
  simp (maxSteps := 2000000) only [c_oplog_Log_Len, ptr, vc_seq, vc_rg, thenQ_n, kKeep_eq, segs_nil, segs_n, ops_nil, ops_cons, vcOp, ev, look, put_mk, keep_mk, keepL, Value.oneCell', cond_true, ↓reduceIte, reduceCtorEq, initF, initP, ptr]
  refine call_ism _ [.s (.bool false)] rfl rfl (fun w' vs hv hw _ _ => ?_) ?_
  · obtain ⟨vs, rfl, _, hv⟩ := argsV_g hv
    obtain rfl := argsV_nil hv
    exact logNone_spec (fun b o h => hw b o (by rw [u0_no]; exact hu b o h)) h
  simp (maxSteps := 2000000) only [retS, vc_skip, vc_seq, vc_rg, vc_ite, thenQ_n, kKeep_eq, segs_nil, segs_n, ops_nil, ops_cons, vcOp, ev, look, put_mk, keep_mk, keepL, ↓reduceIte, reduceCtorEq, Nat.zero_add, ↓br_ft]
  refine ld_of _ (hs (kn_u hu)).2.2.2.1 rfl ?_
  obtain ⟨a, c, rfl⟩ := slr_len hS
  simp (maxSteps := 2000000) only [List.length_map, vc_ret, thenQ_n, kKeep_eq, segs_nil, ops_nil, ops_cons, vcOp, ev, look, put_mk, keep_mk, keepL, ↓reduceIte, finW_r, resL, resOne, List.length_map]
end
end Go.Proofs.YtmjiojflncffeaaGreat.Vc

/- What is wrong with operations that come to a log. -/
set_option linter.unusedVariables false
set_option linter.unusedSimpArgs false
set_option maxRecDepth 100000
namespace Go.Proofs.YtmjiojflncffeaaGreat.Vc
open Go Go.Proofs

/-- Stamps, each counted once. -/
def cnt (ks : List (Int × Int)) : List ((Int × Int) × Value) := ks.map fun k => (k, .int .i64 1)
theorem mget_cnt : ∀ (ks : List (Int × Int)) (k : Int × Int), mget2 (cnt ks) k = if k ∈ ks then some (.int .i64 1) else none
  | [], _ => rfl
  | j :: ks, k => by
    have ih := mget_cnt ks k
    show (if j = k then some (.int .i64 1) else mget2 (cnt ks) k) = _
    rw [ih]
    by_cases h : j = k
    · subst h; simp
    · simp [h, Ne.symm h]
theorem mput_cnt (v : Value) : ∀ (ks : List (Int × Int)) (k : Int × Int), k ∉ ks → mput2 (cnt ks) k v = cnt ks ++ [(k, v)]
  | [], _, _ => rfl
  | j :: ks, k, h => by
    have h1 : j ≠ k := fun e => h (by simp [e])
    show (if j = k then (k, v) :: cnt ks else (j, .int .i64 1) :: mput2 (cnt ks) k v) = _
    rw [if_neg h1, mput_cnt v ks k fun hm => h (List.mem_cons_of_mem _ hm)]
    rfl
theorem mget_put2 (v : Value) : ∀ (l : List ((Int × Int) × Value)) (k : Int × Int), mget2 (mput2 l k v) k = some v
  | [], k => by simp [mput2, mget2]
  | (j, u) :: l, k => by
    by_cases h : j = k
    · simp [mput2, mget2, h]
    · simp only [mput2, if_neg h, mget2]
      exact mget_put2 v l k
theorem mapI_2 {o : Obj} {kd : Option IntKind} (h : MapI kd o []) : Map2 o [] := by
  obtain ⟨es, cl, rfl, h1, h2, _⟩ := h
  exact ⟨es, cl, rfl, by simpa using h1, h2, by simp⟩
/-- The next count of a stamp. -/
def cntV (ks : List (Int × Int)) (k : Int × Int) : Int := if k ∈ ks then 2 else 1
theorem cnt_get (ks : List (Int × Int)) (k : Int × Int) : (mget2 (cnt ks) k).getD (.int .i64 0) = .int .i64 (cntV ks k - 1) := by
  rw [mget_cnt, cntV]; split <;> rfl
theorem cnt_wrap (ks : List (Int × Int)) (k : Int × Int) : IntKind.i64.wrap (cntV ks k - 1 + 1) = cntV ks k := by
  rw [cntV]; split <;> decide
theorem mput_fresh {ks : List (Int × Int)} {k : Int × Int} (h : k ∉ ks) : mput2 (cnt ks) k (.int .i64 (cntV ks k)) = cnt (ks ++ [k]) := by
  rw [mput_cnt _ _ _ h, cntV, if_neg h]; simp [cnt]

/-- What is wrong with operations: what a log has, its frontier, the stamps ahead. -/
def lookE (ds : List Done) (fr : Int) : List (Int × Int) → List Op → Int
  | _, [] => 0
  | ks, op :: l => if checkE op ≠ 0 then checkE op else if op.stamp.time ≤ fr then 130 else if hasA ds op.k = true ∨ op.k ∈ ks then 5 else lookE ds fr (ks ++ [op.k]) l
theorem lookE_check {ds : List Done} {fr : Int} {ks : List (Int × Int)} {op : Op} {l : List Op} (h : checkE op ≠ 0) : lookE ds fr ks (op :: l) = checkE op := if_pos h
theorem lookE_old {ds : List Done} {fr : Int} {ks : List (Int × Int)} {op : Op} {l : List Op} (h : checkE op = 0) (h2 : op.stamp.time ≤ fr) : lookE ds fr ks (op :: l) = 130 := by
  rw [lookE, if_neg (by simp [h]), if_pos h2]
theorem lookE_twice {ds : List Done} {fr : Int} {ks : List (Int × Int)} {op : Op} {l : List Op} (h : checkE op = 0) (h2 : ¬ op.stamp.time ≤ fr) (h3 : hasA ds op.k = true ∨ op.k ∈ ks) : lookE ds fr ks (op :: l) = 5 := by
  rw [lookE, if_neg (by simp [h]), if_neg h2, if_pos h3]
theorem lookE_next {ds : List Done} {fr : Int} {ks : List (Int × Int)} {op : Op} {l : List Op} (h : checkE op = 0) (h2 : ¬ op.stamp.time ≤ fr) (h3 : ¬ (hasA ds op.k = true ∨ op.k ∈ ks)) : lookE ds fr ks (op :: l) = lookE ds fr (ks ++ [op.k]) l := by
  rw [lookE, if_neg (by simp [h]), if_neg h2, if_neg h3]
theorem drop_at {α : Type} {l : List α} {i : Nat} (h : i < l.length) (z : α) : l.drop i = l.getD i z :: l.drop (i + 1) := by
  rw [List.drop_eq_getElem_cons h, List.getD_eq_getElem?_getD, List.getElem?_eq_getElem h]; rfl
theorem take_at {α : Type} {l : List α} {i : Nat} (h : i < l.length) (z : α) : l.take (i + 1) = l.take i ++ [l.getD i z] := by
  rw [List.take_add_one, List.getD_eq_getElem?_getD, List.getElem?_eq_getElem h]; rfl
/-- Operations as they come in. -/
def OpsIn (ops : List Op) : Prop := ops.length ≤ 1048576 ∧ ∀ op ∈ ops, OpIn op ∧ OpOk op
theorem look_spec (w : World) (u : PH) (hu : u.le w) (b : Nat) (L Lb : Lay) (p : PL) (hL : LogM u b L Lb p) (hof : ∀ d ∈ p.ds, d.undo.of.oneCell' = true) (hr : Rising (p.ds.map Done.k)) (hl : p.ds.length ≤ 1099511627776) (v : Value) (ops : List Op) (hops : OpsIn ops) (hS : SlR w.ph v 8 (ops.map gOp)) :
    Spec Tryz.prog f_oplog_Log_look [ptr b, v] PH.no w fun rs _ => rs = [.s (.int .i64 (lookE p.ds p.fr [] ops))] := by
  refine spec_val k_oplog_Log_look (Qf := fun rs => rs = [.s (.int .i64 (lookE p.ds p.fr [] ops))]) [.g (.s (ptr b)), .ro v 8 (gOp zOp) (ops.map gOp)] (by simp) (by simpa [AV.ok, u0_no, GV.ok, Value.oneCell', ptr] using hS) ?_
  obtain ⟨ov, mT, mB, hSo, _, _, hs⟩ := hL.look
  simp (maxSteps := 2000000) only [c_oplog_Log_look, ptr, vc_seq, vc_rg, thenQ_n, kKeep_eq, segs_nil, segs_n, ops_nil, ops_cons, vcOp, ev, look, put_mk, keep_mk, keepL, Value.oneCell', cond_true, Nat.reduceEqDiff, ↓reduceIte, reduceCtorEq, Nat.zero_add, initF, initP, List.length_map, ptr]
  intro bm om hom _
  simp (maxSteps := 2000000) only [uni_no_r, vc_seq, vc_block, vc_rg, thenQ_n, kKeep_eq, segs_nil, segs_n, ops_nil, ops_cons, vcOp, ev, look, put_mk, keep_mk, keepL, Value.oneCell', cond_true, Nat.reduceEqDiff, ↓reduceIte, reduceCtorEq]
  refine vc_loop (ι := Nat × Obj) (fun q => ⟨[(0, .g (.s (.pointer (some ⟨b, 0, none⟩)))), (5, .g (.s (.map (some bm)))), (12, .row 1 0 (ops.length)), (13, .g (.s (.int .i64 (ops.length)))), (14, .g (.s (.int .i64 (q.1))))], [(1, .ro 8 (gOp zOp) (ops.map gOp))], [], one bm q.2⟩)
    (fun q => q.1 ≤ ops.length ∧ Map2 q.2 (cnt ((ops.take q.1).map Op.k)) ∧ lookE p.ds p.fr [] ops = lookE p.ds p.fr ((ops.take q.1).map Op.k) (ops.drop q.1)) (fun q => ops.length - q.1) (0, om) ⟨by simp, mapI_2 (hom none), rfl⟩ (ge_of ?_ ?_ rfl rfl rfl) ?_
  · simp [frIn, look]
  · simp [pvIn, look]
  rintro ⟨i, o⟩ ⟨hi, hm, he⟩
  simp only at hi hm he
  generalize hQ : loopQ _ _ _ _ _ = Q
  simp (maxSteps := 2000000) only [c_oplog_Log_look_L0, vc_skip, vc_exit, vc_seq, vc_block, vc_rg, vc_ite, thenQ_n, thenQ_e, kKeep_eq, segs_nil, segs_n, ops_nil, ops_cons, vcOp, ev, look, updL, put_mk, put_mk0, keep_mk, keepL, rowE, rowD, binV, binC, Nat.reduceEqDiff, ↓reduceIte, reduceCtorEq, Nat.zero_add, Bool.and_true, Bool.true_and, true_and, and_true, Int.toNat_natCast, decide_eq_true_eq, decide_eq_false_iff_not, br_t, getT_nil, setT_nil, gStamp_zero, gOp_sz, gOp_fits, gOp_same, gOp_zero, getD_gOp]
  refine ⟨fun hlt => ⟨⟨by omega, by omega⟩, ?_⟩, fun hge => ?_⟩
  case refine_2 =>
    subst hQ
    simp (maxSteps := 2000000) only [vc_ret, vc_seq, vc_rg, thenQ_n, blockQ_e, kKeep_eq, loopQ_e, segs_nil, segs_n, ops_nil, ops_cons, vcOp, ev, look, put_mk, keep_mk, keepL, Value.oneCell', cond_true, ↓reduceIte, finW_r, resL, resOne]
    rw [he, List.drop_eq_nil_of_le (by omega)]
    rfl
  have hlt' : i < ops.length := by omega
  obtain ⟨op, hop⟩ : ∃ op, ops.getD i zOp = op := ⟨_, rfl⟩
  obtain ⟨hin, hok⟩ := hops.2 op (hop ▸ getD_in hlt' zOp)
  have hd := drop_at hlt' zOp
  rw [hop] at hd ⊢
  rw [hd] at he
  refine call_fnv (checkOp_fn op hin) rfl rfl rfl fun _ => ?_
  by_cases hc : checkE op = 0
  case neg =>
    simp (maxSteps := 2000000) only [retS, bne_iff_ne.2 hc, vc_ret, vc_seq, vc_rg, vc_ite, thenQ_n, thenQ_r, blockQ_r, kKeep_eq, segs_nil, segs_n, ops_nil, ops_cons, vcOp, ev, look, put_mk, keep_mk, keepL, binV, binC, Value.oneCell', cond_true, Nat.reduceEqDiff, ↓reduceIte, reduceCtorEq, Bool.true_and, true_and, ↓br_tt]
    subst hQ
    simp (maxSteps := 2000000) only [thenQ_r, blockQ_r, loopQ_r, look, ↓reduceIte, finW_r, resL, resOne]
    rw [he, lookE_check hc]
  simp (maxSteps := 2000000) only [retS, hc, vc_skip, vc_ret, vc_seq, vc_rg, vc_rga, vc_ite, thenQ_n, thenQ_r, blockQ_r, kKeep_eq, segs_nil, segs_n, ops_nil, ops_cons, ot_op, ot_or, vcOp, ev, look, put_mk, keep_mk, keepL, binV, binC, Value.oneCell', cond_true, Nat.reduceEqDiff, ↓reduceIte, reduceCtorEq, List.nil_append, Bool.true_and, true_and, br_t, getT_nil, gStamp_fits, gOp_fld0, gOp_get0]
  generalize hks : (ops.take i).map Op.k = ks at *
  refine (fun (tail : ∀ o', Map2 o' (mput2 (cnt ks) op.k (.int .i64 (cntV ks op.k))) → ∀ σ : SS, Ge σ ⟨[(0, .g (.s (.pointer (some ⟨b, 0, none⟩)))), (5, .g (.s (.map (some bm)))), (7, .ref 7 []), (12, .row 1 0 (ops.length)), (13, .g (.s (.int .i64 (ops.length)))), (14, .g (.s (.int .i64 (i))))], [(1, .ro 8 (gOp zOp) (ops.map gOp)), (7, .box (gOp op))], [], one bm o'⟩ →
    vc ⟨Tryz.prog, 59, w, PH.no⟩ c_oplog_Log_look_R9 (blockQ 1 (thenQ (vc ⟨Tryz.prog, 59, w, PH.no⟩ (.rg [⟨none, [(some 58, .bin .add (.t 14) (.c (.int .i64 1))), (some 14, .mv (.t 58))]⟩] [0, 5, 12, 13, 14]) Q) Q)) σ) => ?main) ?pf
  case main =>
    simp (maxSteps := 2000000) only [Int.reduceBNe, Bool.true_and, true_and, true_imp_iff, false_imp_iff, Bool.false_eq_true]
    have hg := cnt_get ks op.k
    have hw := cnt_wrap ks op.k
    have ge7 : ∀ {m : PH} {fr : List (Nat × SV)}, frIn fr [(0, .g (.s (.pointer (some ⟨b, 0, none⟩)))), (5, .g (.s (.map (some bm)))), (7, .ref 7 []), (12, .row 1 0 (ops.length)), (13, .g (.s (.int .i64 (ops.length)))), (14, .g (.s (.int .i64 (i))))] → Ge ⟨fr, [(1, .ro 8 (gOp zOp) (ops.map gOp)), (7, .box (gOp op))], [], m⟩ ⟨[(0, .g (.s (.pointer (some ⟨b, 0, none⟩)))), (5, .g (.s (.map (some bm)))), (7, .ref 7 []), (12, .row 1 0 (ops.length)), (13, .g (.s (.int .i64 (ops.length)))), (14, .g (.s (.int .i64 (i))))], [(1, .ro 8 (gOp zOp) (ops.map gOp)), (7, .box (gOp op))], [], m⟩ := fun hf => ge_of hf (by simp [pvIn, look]) rfl rfl rfl
    refine ⟨⟨op.k, o, _, rfl, .inl (one_self _ _), hm, ?_⟩, ?_⟩
    · simp (maxSteps := 2000000) only [lkS2, hg, segs_nil, segs_n, ops_nil, ops_cons, ot_op, vcOp, ev, look, put_mk, binV, binC, Value.oneCell', cond_true, cond_false, Nat.reduceEqDiff, ↓reduceIte, Bool.true_and, true_and]
      refine ⟨op.k, o, _, rfl, one_self _ _, hm, fun o1 β ho1 hb1 => ?_⟩
      simp (maxSteps := 2000000) only [one_upd, List.getElem?_cons_succ, List.getElem?_cons_zero, segs_nil, segs_n, ops_nil, ops_cons, ot_op, vcOp, ev, look, put_mk, Nat.reduceEqDiff, ↓reduceIte]
      refine ⟨op.k, o1, _, β, rfl, one_self _ _, ho1, hb1, fun o2 ho2 => ?_⟩
      rw [mput2_ens, hw] at ho2
      simp (maxSteps := 2000000) only [one_upd, thenQ_n, kKeep_eq, segs_nil, ops_nil, ot_done, look, put_mk0, keep_mk, keepL, Nat.reduceEqDiff, ↓reduceIte, reduceCtorEq]
      exact tail o2 ho2 _ (ge7 (by simp [frIn, look]))
    · refine ⟨op.k, o, _, rfl, one_self _ _, hm, fun o1 β ho1 hb1 => ?_⟩
      simp (maxSteps := 2000000) only [one_upd, List.getElem?_cons_succ, List.getElem?_cons_zero, segs_nil, segs_n, ops_nil, ops_cons, ot_op, vcOp, ev, look, put_mk, Nat.reduceEqDiff, ↓reduceIte]
      refine ⟨op.k, o1, _, rfl, .inl (one_self _ _), ho1, ?_⟩
      simp (maxSteps := 2000000) only [lkS2, mget2_ens, hg, segs_nil, segs_n, ops_nil, ops_cons, ot_op, vcOp, ev, look, put_mk, binV, binC, Value.oneCell', cond_true, cond_false, Nat.reduceEqDiff, ↓reduceIte, Bool.true_and, true_and]
      refine ⟨op.k, o1, _, β, rfl, one_self _ _, ho1, hb1, fun o2 ho2 => ?_⟩
      rw [mput2_ens, hw] at ho2
      simp (maxSteps := 2000000) only [one_upd, thenQ_n, kKeep_eq, segs_nil, ops_nil, ot_done, look, put_mk0, keep_mk, keepL, Nat.reduceEqDiff, ↓reduceIte, reduceCtorEq]
      exact tail o2 ho2 _ (ge7 (by simp [frIn, look]))
  case pf =>
    intro o' ho' σ hσ
    unfold c_oplog_Log_look_R9
    rw [vc_seq]
    refine vc_gh_of_ge hσ ?_
    simp (maxSteps := 2000000) only [vc_rga, segs_nil, segs_n, ops_nil, ops_cons, ot_op, ot_or, vcOp, ev, look, put_mk, Nat.reduceEqDiff, ↓reduceIte, reduceCtorEq, List.nil_append, Nat.zero_add, Bool.true_and, true_and, getT_nil, gStamp_fits, gOp_fld0, gOp_get0]
    have hS3 := (hs (C := ⟨Tryz.prog, 59, w, PH.no⟩) (ph := []) (m' := one bm o') (kn_u hu)).2.2.2.1
    have hS2 := (hs (C := ⟨Tryz.prog, 59, w, PH.no⟩) (ph := []) (m' := one bm o') (kn_u hu)).2.2.1
    refine ⟨ld_of _ hS3 rfl ?_, ld_of _ hS3 rfl ?_⟩
    all_goals
      simp (maxSteps := 2000000) only [segs_nil, segs_n, ops_nil, ops_cons, ot_op, vcOp, ev, look, put_mk, Nat.reduceEqDiff, ↓reduceIte, Bool.true_and, true_and, getT_nil, gStamp_fits, gOp_get0]
      refine call_ism _ [.s (.int .i64 (posA p.ds op.k)), .s (.bool (hasA p.ds op.k))] rfl rfl (fun w' vs hv hw' _ _ => ?_) ?_
      · obtain ⟨vs, rfl, _, hv⟩ := argsV_g hv
        obtain ⟨vs, rfl, _, hv⟩ := argsV_g hv
        obtain ⟨vs, rfl, _, hv⟩ := argsV_g hv
        obtain rfl := argsV_nil hv
        exact search_spec w' ov p.ds u (fun b o h => hw' b o (by rw [u0_no]; exact hu b o h)) hSo hof op.stamp hl hr
      simp (maxSteps := 2000000) only [retS, List.getElem?_cons_succ, List.getElem?_cons_zero, vc_seq, vc_block, vc_rgq, thenQ_n, kKeep_eq, segs_nil, segs_n, ops_nil, ops_cons, qsegs_n, qops_cons, ot_done, ot_op, vcqOp, vcOp, isRd, ev, look, put_mk, keep_mk, keepL, GV.getT, Nat.reduceEqDiff, ↓reduceIte, reduceCtorEq, List.nil_append, List.cons_append, Nat.zero_add, Bool.true_and, Bool.not_false, true_and, getT_nil, fits_s, gStamp_fld0, gStamp_get0, gOp_fld0, gOp_get0]
      refine ld_of _ hS2 rfl ?_
      simp (maxSteps := 2000000) only [vc_ret, vc_seq, vc_rg, vc_ite, thenQ_n, thenQ_r, blockQ_r, kKeep_eq, segs_nil, segs_n, segs_g, ops_nil, ops_cons, qsegs_nil, qops_nil, vcOp, RO.isGh, skip_mk, skipL, ev, look, put_mk, keep_mk, keepL, binV, binC, Value.oneCell', cond_true, cond_false, Nat.reduceEqDiff, ↓reduceIte, reduceCtorEq, List.nil_append, Bool.true_and, Bool.not_false, true_and, decide_eq_true_eq, decide_eq_false_iff_not, ↓br_tt, br_t, br_f, getT_nil, gStamp_fits, gOp_fld0, gOp_get0]
      refine ⟨fun h => ?_, fun h => ?_⟩
      · subst hQ
        simp (maxSteps := 2000000) only [thenQ_r, blockQ_r, loopQ_r, look, ↓reduceIte, finW_r, resL, resOne]
        rw [he, lookE_old hc h]
      cases hh : hasA p.ds op.k with
      | true =>
        simp (maxSteps := 2000000) only [false_imp_iff, Bool.true_eq_false, Bool.true_and, true_and, true_imp_iff, false_imp_iff, Bool.true_eq_false]
        subst hQ
        simp (maxSteps := 2000000) only [thenQ_r, blockQ_r, loopQ_r, look, ↓reduceIte, finW_r, resL, resOne]
        rw [he, lookE_twice hc h (.inl hh)]
      | false =>
        simp (maxSteps := 2000000) only [Bool.false_eq_true, Bool.and_true, and_true, true_imp_iff, false_imp_iff, Bool.false_eq_true]
        refine ⟨op.k, o', _, rfl, .inl (one_self _ _), ho', ?_⟩
        simp (maxSteps := 2000000) only [lkS2, mget_put2, Option.getD_some, vc_skip, vc_ret, vc_seq, vc_rg, vc_ite, thenQ_n, thenQ_r, blockQ_n, blockQ_r, kKeep_eq, segs_nil, segs_n, ops_nil, ops_cons, vcOp, ev, look, put_mk, keep_mk, keepL, binV, binC, Value.oneCell', cond_true, cond_false, Nat.reduceEqDiff, ↓reduceIte, reduceCtorEq, Bool.true_and, true_and, decide_eq_true_eq, decide_eq_false_iff_not, ↓br_ft, br_t]
        by_cases hk : op.k ∈ ks
        · simp (maxSteps := 2000000) only [cntV, if_pos hk, Int.reduceGT, Bool.and_true, and_true, true_imp_iff, false_imp_iff, not_true_eq_false]
          subst hQ
          simp (maxSteps := 2000000) only [thenQ_r, blockQ_r, loopQ_r, look, ↓reduceIte, finW_r, resL, resOne]
          rw [he, lookE_twice hc h (.inr hk)]
        · simp (maxSteps := 2000000) only [cntV, if_neg hk, Int.reduceGT, Bool.true_and, true_and, true_imp_iff, false_imp_iff, not_false_eq_true]
          rw [mput_fresh hk] at ho'
          subst hQ; simp only [loopQ_n]; refine ⟨(i + 1, o'), ?_, ?_, ge_of ?_ ?_ rfl rfl rfl⟩
          · refine ⟨by simp only; omega, ?_, ?_⟩
            · simp only
              rw [take_at hlt' zOp, hop, List.map_append, hks]
              exact ho'
            · simp only
              rw [he, lookE_next hc h (by rw [hh]; simpa using hk), take_at hlt' zOp, hop, List.map_append, hks]
              rfl
          · simp only; omega
          · simp only [frIn, look, Nat.reduceEqDiff, ↓reduceIte, reduceCtorEq, Bool.and_true, Bool.true_and, true_and, and_true]
            rw [wrap_n (by have := hops.1; omega)]
            try simp
          · simp [pvIn, look]
end Go.Proofs.YtmjiojflncffeaaGreat.Vc

/- Operations put to their places, plain. -/
set_option linter.unusedVariables false
set_option linter.unusedSimpArgs false
namespace Go.Proofs.YtmjiojflncffeaaGreat.Vc
open Go Go.Proofs

/-- Where the first of what is new stands. -/
def frontA (ds : List Done) : List Op → Nat
  | [] => ds.length
  | op :: _ => posA ds op.k
theorem frontA_le (ds : List Done) (news : List Op) : frontA ds news ≤ ds.length := by
  cases news with
  | nil => exact Nat.le_refl _
  | cons op l => exact posA_le ds op.k
theorem posA_below {ds : List Done} {s : Int × Int} {d : Done} (h : d ∈ ds.take (posA ds s)) : ltK d.k s := by
  have e : ds.take (posA ds s) = ds.takeWhile fun d => decide (ltK d.k s) := (List.prefix_iff_eq_take.1 (List.takeWhile_prefix _)).symm
  rw [e] at h
  have := List.all_takeWhile (p := fun d : Done => decide (ltK d.k s)) (l := ds)
  rw [List.all_eq_true] at this
  simpa using this d h
theorem posA_all {ds : List Done} {s : Int × Int} (h : ∀ d ∈ ds, ltK d.k s) : posA ds s = ds.length := by
  refine posA_of (Nat.le_refl _) (fun j hj => h _ (getD_in hj zDone)) fun hlt => by omega
theorem frontA_all {ds : List Done} {news : List Op} (h : ∀ op ∈ news, ∀ d ∈ ds, ltK d.k op.k) : frontA ds news = ds.length := by
  cases news with
  | nil => rfl
  | cons op l => exact posA_all (h op (by simp))
/-- An operation that is not done yet. -/
def fresh (op : Op) : Done := { zDone with op := op }
theorem fresh_k (op : Op) : (fresh op).k = op.k := rfl

/-- What was looked at and may be. -/
structure Looked (ds : List Done) (fr : Int) (ks : List (Int × Int)) (ops : List Op) : Prop where
  check : ∀ op ∈ ops, checkE op = 0
  above : ∀ op ∈ ops, fr < op.stamp.time
  new : ∀ op ∈ ops, op.k ∉ ds.map Done.k ∧ op.k ∉ ks
  nod : (ops.map Op.k).Nodup
theorem looked : ∀ {ops : List Op} {ds : List Done} {fr : Int} {ks : List (Int × Int)}, lookE ds fr ks ops = 0 → Looked ds fr ks ops
  | [], _, _, _, _ => ⟨by simp, by simp, by simp, by simp⟩
  | op :: l, ds, fr, ks, h => by
    by_cases h1 : checkE op = 0
    · by_cases h2 : op.stamp.time ≤ fr
      · rw [lookE_old h1 h2] at h; cases h
      · by_cases h3 : hasA ds op.k = true ∨ op.k ∈ ks
        · rw [lookE_twice h1 h2 h3] at h; cases h
        · rw [lookE_next h1 h2 h3] at h
          obtain ⟨g1, g2, g3, g4⟩ := looked h
          have h4 : op.k ∉ ds.map Done.k := fun hm => h3 (.inl (by rw [hasA, decide_eq_true hm]))
          refine ⟨fun x hx => ?_, fun x hx => ?_, fun x hx => ?_, ?_⟩
          · rcases List.mem_cons.1 hx with rfl | hx
            · exact h1
            · exact g1 x hx
          · rcases List.mem_cons.1 hx with rfl | hx
            · omega
            · exact g2 x hx
          · rcases List.mem_cons.1 hx with rfl | hx
            · exact ⟨h4, fun hm => h3 (.inr hm)⟩
            · exact ⟨(g3 x hx).1, fun hm => (g3 x hx).2 (List.mem_append_left _ hm)⟩
          · rw [List.map_cons, List.nodup_cons]
            refine ⟨fun hm => ?_, g4⟩
            obtain ⟨y, hy, e⟩ := List.mem_map.1 hm
            exact (g3 y hy).2 (by rw [e]; simp)
    · rw [lookE_check h1] at h; exact absurd h h1
theorem lookE_of : ∀ {ops : List Op} {ds : List Done} {fr : Int} {ks : List (Int × Int)}, Looked ds fr ks ops → lookE ds fr ks ops = 0
  | [], _, _, _, _ => rfl
  | op :: l, ds, fr, ks, h => by
    have h3 : ¬ (hasA ds op.k = true ∨ op.k ∈ ks) := by
      rintro (h1 | h1)
      · exact (h.new op (by simp)).1 (by simpa [hasA] using h1)
      · exact (h.new op (by simp)).2 h1
    rw [lookE_next (h.check op (by simp)) (by have := h.above op (by simp); omega) h3]
    have hn := h.nod
    rw [List.map_cons, List.nodup_cons] at hn
    refine lookE_of ⟨fun x hx => h.check x (List.mem_cons_of_mem _ hx), fun x hx => h.above x (List.mem_cons_of_mem _ hx), fun x hx => ⟨(h.new x (List.mem_cons_of_mem _ hx)).1, fun hm => ?_⟩, hn.2⟩
    rcases List.mem_append.1 hm with hm | hm
    · exact (h.new x (List.mem_cons_of_mem _ hx)).2 hm
    · exact hn.1 (List.mem_map.2 ⟨x, hx, List.mem_singleton.1 hm⟩)

/-- The stamps of all that is there, in order. -/
theorem placed_rising {ds cs : List Done} {news : List Op} (hr : Rising (ds.map Done.k)) (hn : Rising (news.map Op.k)) (hc : Rising (cs.map Done.k)) (hp : cs.Perm (ds.drop (frontA ds news) ++ news.map fresh)) :
    Rising ((ds.take (frontA ds news) ++ cs).map Done.k) := by
  rw [Rising, List.map_append, List.pairwise_append]
  have h1 : Rising ((ds.take (frontA ds news) ++ ds.drop (frontA ds news)).map Done.k) := by rw [List.take_append_drop]; exact hr
  rw [Rising, List.map_append, List.pairwise_append] at h1
  refine ⟨h1.1, hc, fun x hx y hy => ?_⟩
  obtain ⟨d, hd, rfl⟩ := List.mem_map.1 hy
  rcases List.mem_append.1 (hp.mem_iff.1 hd) with hd | hd
  · exact h1.2.2 x hx _ (List.mem_map.2 ⟨d, hd, rfl⟩)
  · obtain ⟨op, hop, rfl⟩ := List.mem_map.1 hd
    obtain ⟨a, ha, rfl⟩ := List.mem_map.1 hx
    cases news with
    | nil => simp at hop
    | cons o l =>
      have h2 : ltK a.k o.k := posA_below ha
      rw [fresh_k]
      rcases List.mem_cons.1 hop with rfl | hop
      · exact h2
      · rw [Rising, List.map_cons, List.pairwise_cons] at hn
        exact ltK_trans h2 (hn.1 _ (List.mem_map.2 ⟨op, hop, rfl⟩))
theorem placed_perm {ds cs : List Done} {news ops : List Op} (hp : cs.Perm (ds.drop (frontA ds news) ++ news.map fresh)) (hn : news.Perm ops) :
    ((ds.take (frontA ds news) ++ cs).map (·.op)).Perm (ds.map (·.op) ++ ops) := by
  rw [List.map_append]
  have h1 := hp.map (·.op)
  rw [List.map_append, List.map_map] at h1
  have h2 : news.map ((·.op) ∘ fresh) = news := by
    rw [show ((·.op) ∘ fresh : Op → Op) = id from rfl, List.map_id]
  rw [h2] at h1
  refine (h1.append_left _).trans ?_
  rw [← List.append_assoc, ← List.map_append, List.take_append_drop]
  exact hn.append_left _
/-- The keys of what is put in order are all different. -/
theorem placed_nodup {ds : List Done} {fr : Int} {ks : List (Int × Int)} {news ops : List Op} (hr : Rising (ds.map Done.k)) (hl : Looked ds fr ks ops) (hn : news.Perm ops) (f : Nat) : ((ds.drop f ++ news.map fresh).map Done.k).Nodup := by
  rw [List.map_append, List.nodup_append]
  refine ⟨?_, ?_, fun a ha b hb => ?_⟩
  · have : (ds.map Done.k).Nodup := hr.imp fun h e => by rw [e] at h; exact ltK_irrefl _ h
    exact (this.sublist ((List.drop_sublist f ds).map _))
  · rw [List.map_map, show (Done.k ∘ fresh) = Op.k from rfl]
    exact (hn.map _).nodup_iff.2 hl.nod
  · rintro rfl
    rw [List.map_map, show (Done.k ∘ fresh) = Op.k from rfl] at hb
    obtain ⟨op, hop, e⟩ := List.mem_map.1 hb
    refine (hl.new op (hn.mem_iff.1 hop)).1 ?_
    rw [e]
    obtain ⟨d, hd, rfl⟩ := List.mem_map.1 ha
    exact List.mem_map.2 ⟨d, List.mem_of_mem_drop hd, rfl⟩

/-- What comes of it. -/
structure Added (p : PL) (ops : List Op) (p' : PL) (n : Int) : Prop where
  perm : (p'.ds.map (·.op)).Perm (p.ds.map (·.op) ++ ops)
  B : p'.B = p.B
  fr : p'.fr = p.fr
  i0 : p'.i0 = p.i0
  red : 0 ≤ p'.red
  red0 : (∀ op ∈ ops, ∀ d ∈ p.ds, ltK d.k op.k) → p'.red = 0
  n : n = ((p'.ds.filter fun d => d.taken && decide (d.k ∈ ops.map Op.k)).length : Nat)
end Go.Proofs.YtmjiojflncffeaaGreat.Vc

/- The code of some functions of the program, its types resolved: printed by a program of this claim. -/
set_option linter.unusedVariables false
set_option maxRecDepth 100000
namespace Go.Proofs.YtmjiojflncffeaaGreat.Vc
open Go Go.Proofs

abbrev f_oplog_Log_Add : Nat := 14
def c_oplog_Log_Add_L0 : Cd :=
 (.seq (.seq (.rg [⟨none, [(some 59, .mv (.t 10)), (some 60, .bin .geq (.t 59) (.c (.int .i64 0)))]⟩] [0, 7, 8, 9, 10, 60])
 (.ite (.t 60)
 .skip
 (.exit 0)))
 (.seq (.block 1 (.rgq [⟨none, [(some 63, .mv (.t 0)), (some 64, .nilc (.t 63)), (some 65, .fldA (.t 64) 0 0), (some 66, .fldA (.t 65) 0 0), (some 67, .ld (.t 66) 1 false), (some 68, .mv (.t 9)), (some 69, .mv (.t 10)), (some 70, .idxS (.t 68) (.t 69) 22), (some 71, .fldA (.t 70) 2 9), (some 72, .ld (.t 71) 13 true)]⟩] [⟨none, [(some 73, .call 44 [(.t 67), (.t 72)])]⟩] [0, 7, 8, 9, 10]))
 (.rg [⟨none, [(some 61, .mv (.t 10)), (some 62, .bin .sub (.t 61) (.c (.int .i64 1))), (some 10, .mv (.t 62))]⟩] [0, 7, 8, 9, 10])))
def c_oplog_Log_Add_R22 : Cd :=
 (.gh (.rg [⟨none, [(some 102, .mv (.t 9)), (some 103, .ld (.t 13) 8 true), (some 104, .bld (.c (.c (.c (.s (.int .i64 0)) (.c (.s (.int .i64 0)) .u)) (.c (.s (.int .i64 0)) (.c (.s (.int .i64 0)) (.c (.s (.int .i64 0)) (.c (.s (.string ⟨#[]⟩)) (.c (.s (.string ⟨#[]⟩)) (.c (.s (.string ⟨#[]⟩)) .u))))))) (.c (.s (.bool false)) (.c (.c (.s (.pointer none)) (.c (.s (.int .i64 0)) (.c (.c (.c (.s (.int .i64 0)) (.c (.s (.int .i64 0)) .u)) (.c (.s (.int .i64 0)) (.c (.s (.int .i64 0)) (.c (.s (.int .i64 0)) (.c (.s (.string ⟨#[]⟩)) (.c (.s (.string ⟨#[]⟩)) (.c (.s (.string ⟨#[]⟩)) .u))))))) (.c (.c (.s (.int .i64 0)) (.c (.s (.string ⟨#[]⟩)) .u)) (.c (.s (.string ⟨#[]⟩)) .u))))) .u))) [(0, (.t 103))]), (some 105, .bldS 97 22 (.c (.c (.c (.s (.int .i64 0)) (.c (.s (.int .i64 0)) .u)) (.c (.s (.int .i64 0)) (.c (.s (.int .i64 0)) (.c (.s (.int .i64 0)) (.c (.s (.string ⟨#[]⟩)) (.c (.s (.string ⟨#[]⟩)) (.c (.s (.string ⟨#[]⟩)) .u))))))) (.c (.s (.bool false)) (.c (.c (.s (.pointer none)) (.c (.s (.int .i64 0)) (.c (.c (.c (.s (.int .i64 0)) (.c (.s (.int .i64 0)) .u)) (.c (.s (.int .i64 0)) (.c (.s (.int .i64 0)) (.c (.s (.int .i64 0)) (.c (.s (.string ⟨#[]⟩)) (.c (.s (.string ⟨#[]⟩)) (.c (.s (.string ⟨#[]⟩)) .u))))))) (.c (.c (.s (.int .i64 0)) (.c (.s (.string ⟨#[]⟩)) .u)) (.c (.s (.string ⟨#[]⟩)) .u))))) .u))) [(.t 104)]), (some 106, .app 97 22 240 (.c (.c (.c (.s (.int .i64 0)) (.c (.s (.int .i64 0)) .u)) (.c (.s (.int .i64 0)) (.c (.s (.int .i64 0)) (.c (.s (.int .i64 0)) (.c (.s (.string ⟨#[]⟩)) (.c (.s (.string ⟨#[]⟩)) (.c (.s (.string ⟨#[]⟩)) .u))))))) (.c (.s (.bool false)) (.c (.c (.s (.pointer none)) (.c (.s (.int .i64 0)) (.c (.c (.c (.s (.int .i64 0)) (.c (.s (.int .i64 0)) .u)) (.c (.s (.int .i64 0)) (.c (.s (.int .i64 0)) (.c (.s (.int .i64 0)) (.c (.s (.string ⟨#[]⟩)) (.c (.s (.string ⟨#[]⟩)) (.c (.s (.string ⟨#[]⟩)) .u))))))) (.c (.c (.s (.int .i64 0)) (.c (.s (.string ⟨#[]⟩)) .u)) (.c (.s (.string ⟨#[]⟩)) .u))))) .u))) (.t 102) (.t 105)), (some 9, .mv (.t 106))]⟩] [0, 9, 11, 89, 90, 91]))
def c_oplog_Log_Add_L1 : Cd :=
 (.seq (.rg [⟨none, [(some 92, .bin .lss (.t 91) (.t 90))]⟩] [0, 9, 11, 89, 90, 91, 92])
 (.seq (.ite (.t 92)
 .skip
 (.exit 2))
 (.seq (.block 3 (.seq (.rg [⟨none, [(some 93, .idxS (.t 89) (.t 91) 8), (some 94, .ld (.t 93) 8 true), (some 13, .new 26 (.c (.c (.s (.int .i64 0)) (.c (.s (.int .i64 0)) .u)) (.c (.s (.int .i64 0)) (.c (.s (.int .i64 0)) (.c (.s (.int .i64 0)) (.c (.s (.string ⟨#[]⟩)) (.c (.s (.string ⟨#[]⟩)) (.c (.s (.string ⟨#[]⟩)) .u)))))))), (none, .st (.t 13) (.t 94) 8)]⟩] [0, 9, 11, 13, 89, 90, 91])
 (.seq (.rga (.op ⟨none, [(some 95, .mv (.t 11))]⟩ (.op ⟨none, [(some 96, .fldA (.t 13) 0 0)]⟩ (.op ⟨none, [(some 97, .ld (.t 96) 2 true)]⟩ (.or (.op ⟨none, [(some 98, .mlk2 (.t 95) (.t 97) (.int .i64 0) false)]⟩ (.op ⟨none, [(some 99, .bin .add (.t 98) (.c (.int .i64 1)))]⟩ (.op ⟨none, [(some 100, .men2 (.t 95) (.t 97) (.int .i64 0))]⟩ (.op ⟨none, [(some 101, .ext (.t 100) 1)]⟩ (.op ⟨none, [(none, .mes2 (.t 95) (.t 101) (.t 99))]⟩ .done))))) (.op ⟨none, [(some 100, .men2 (.t 95) (.t 97) (.int .i64 0))]⟩ (.op ⟨none, [(some 101, .ext (.t 100) 1)]⟩ (.op ⟨none, [(some 98, .mlk2 (.t 95) (.t 97) (.int .i64 0) false)]⟩ (.op ⟨none, [(some 99, .bin .add (.t 98) (.c (.int .i64 1)))]⟩ (.op ⟨none, [(none, .mes2 (.t 95) (.t 101) (.t 99))]⟩ .done))))))))) [0, 9, 11, 13, 89, 90, 91])
 c_oplog_Log_Add_R22)))
 (.rg [⟨none, [(some 107, .bin .add (.t 91) (.c (.int .i64 1))), (some 91, .mv (.t 107))]⟩] [0, 9, 11, 89, 90, 91]))))
def c_oplog_Log_Add_R32 : Cd :=
 (.gh (.rga (.op ⟨none, [(some 141, .mv (.t 0))]⟩ (.op ⟨none, [(some 142, .mv (.t 0))]⟩ (.op ⟨none, [(some 143, .nilc (.t 142))]⟩ (.op ⟨none, [(some 144, .fldA (.t 143) 3 3)]⟩ (.or (.op ⟨none, [(some 145, .ld (.t 144) 1 false)]⟩ (.op ⟨none, [(some 146, .ld (.t 16) 22 true)]⟩ (.op ⟨none, [(some 147, .bldS 97 22 (.c (.c (.c (.s (.int .i64 0)) (.c (.s (.int .i64 0)) .u)) (.c (.s (.int .i64 0)) (.c (.s (.int .i64 0)) (.c (.s (.int .i64 0)) (.c (.s (.string ⟨#[]⟩)) (.c (.s (.string ⟨#[]⟩)) (.c (.s (.string ⟨#[]⟩)) .u))))))) (.c (.s (.bool false)) (.c (.c (.s (.pointer none)) (.c (.s (.int .i64 0)) (.c (.c (.c (.s (.int .i64 0)) (.c (.s (.int .i64 0)) .u)) (.c (.s (.int .i64 0)) (.c (.s (.int .i64 0)) (.c (.s (.int .i64 0)) (.c (.s (.string ⟨#[]⟩)) (.c (.s (.string ⟨#[]⟩)) (.c (.s (.string ⟨#[]⟩)) .u))))))) (.c (.c (.s (.int .i64 0)) (.c (.s (.string ⟨#[]⟩)) .u)) (.c (.s (.string ⟨#[]⟩)) .u))))) .u))) [(.t 146)])]⟩ (.op ⟨none, [(some 148, .app 97 22 240 (.c (.c (.c (.s (.int .i64 0)) (.c (.s (.int .i64 0)) .u)) (.c (.s (.int .i64 0)) (.c (.s (.int .i64 0)) (.c (.s (.int .i64 0)) (.c (.s (.string ⟨#[]⟩)) (.c (.s (.string ⟨#[]⟩)) (.c (.s (.string ⟨#[]⟩)) .u))))))) (.c (.s (.bool false)) (.c (.c (.s (.pointer none)) (.c (.s (.int .i64 0)) (.c (.c (.c (.s (.int .i64 0)) (.c (.s (.int .i64 0)) .u)) (.c (.s (.int .i64 0)) (.c (.s (.int .i64 0)) (.c (.s (.int .i64 0)) (.c (.s (.string ⟨#[]⟩)) (.c (.s (.string ⟨#[]⟩)) (.c (.s (.string ⟨#[]⟩)) .u))))))) (.c (.c (.s (.int .i64 0)) (.c (.s (.string ⟨#[]⟩)) .u)) (.c (.s (.string ⟨#[]⟩)) .u))))) .u))) (.t 145) (.t 147))]⟩ (.op ⟨none, [(some 149, .nilc (.t 141))]⟩ (.op ⟨none, [(some 150, .fldA (.t 149) 3 3)]⟩ (.op ⟨none, [(none, .st (.t 150) (.t 148) 1)]⟩ .done))))))) (.op ⟨none, [(some 146, .ld (.t 16) 22 true)]⟩ (.or (.op ⟨none, [(some 145, .ld (.t 144) 1 false)]⟩ (.op ⟨none, [(some 147, .bldS 97 22 (.c (.c (.c (.s (.int .i64 0)) (.c (.s (.int .i64 0)) .u)) (.c (.s (.int .i64 0)) (.c (.s (.int .i64 0)) (.c (.s (.int .i64 0)) (.c (.s (.string ⟨#[]⟩)) (.c (.s (.string ⟨#[]⟩)) (.c (.s (.string ⟨#[]⟩)) .u))))))) (.c (.s (.bool false)) (.c (.c (.s (.pointer none)) (.c (.s (.int .i64 0)) (.c (.c (.c (.s (.int .i64 0)) (.c (.s (.int .i64 0)) .u)) (.c (.s (.int .i64 0)) (.c (.s (.int .i64 0)) (.c (.s (.int .i64 0)) (.c (.s (.string ⟨#[]⟩)) (.c (.s (.string ⟨#[]⟩)) (.c (.s (.string ⟨#[]⟩)) .u))))))) (.c (.c (.s (.int .i64 0)) (.c (.s (.string ⟨#[]⟩)) .u)) (.c (.s (.string ⟨#[]⟩)) .u))))) .u))) [(.t 146)])]⟩ (.op ⟨none, [(some 148, .app 97 22 240 (.c (.c (.c (.s (.int .i64 0)) (.c (.s (.int .i64 0)) .u)) (.c (.s (.int .i64 0)) (.c (.s (.int .i64 0)) (.c (.s (.int .i64 0)) (.c (.s (.string ⟨#[]⟩)) (.c (.s (.string ⟨#[]⟩)) (.c (.s (.string ⟨#[]⟩)) .u))))))) (.c (.s (.bool false)) (.c (.c (.s (.pointer none)) (.c (.s (.int .i64 0)) (.c (.c (.c (.s (.int .i64 0)) (.c (.s (.int .i64 0)) .u)) (.c (.s (.int .i64 0)) (.c (.s (.int .i64 0)) (.c (.s (.int .i64 0)) (.c (.s (.string ⟨#[]⟩)) (.c (.s (.string ⟨#[]⟩)) (.c (.s (.string ⟨#[]⟩)) .u))))))) (.c (.c (.s (.int .i64 0)) (.c (.s (.string ⟨#[]⟩)) .u)) (.c (.s (.string ⟨#[]⟩)) .u))))) .u))) (.t 145) (.t 147))]⟩ (.op ⟨none, [(some 149, .nilc (.t 141))]⟩ (.op ⟨none, [(some 150, .fldA (.t 149) 3 3)]⟩ (.op ⟨none, [(none, .st (.t 150) (.t 148) 1)]⟩ .done)))))) (.op ⟨none, [(some 147, .bldS 97 22 (.c (.c (.c (.s (.int .i64 0)) (.c (.s (.int .i64 0)) .u)) (.c (.s (.int .i64 0)) (.c (.s (.int .i64 0)) (.c (.s (.int .i64 0)) (.c (.s (.string ⟨#[]⟩)) (.c (.s (.string ⟨#[]⟩)) (.c (.s (.string ⟨#[]⟩)) .u))))))) (.c (.s (.bool false)) (.c (.c (.s (.pointer none)) (.c (.s (.int .i64 0)) (.c (.c (.c (.s (.int .i64 0)) (.c (.s (.int .i64 0)) .u)) (.c (.s (.int .i64 0)) (.c (.s (.int .i64 0)) (.c (.s (.int .i64 0)) (.c (.s (.string ⟨#[]⟩)) (.c (.s (.string ⟨#[]⟩)) (.c (.s (.string ⟨#[]⟩)) .u))))))) (.c (.c (.s (.int .i64 0)) (.c (.s (.string ⟨#[]⟩)) .u)) (.c (.s (.string ⟨#[]⟩)) .u))))) .u))) [(.t 146)])]⟩ (.op ⟨none, [(some 145, .ld (.t 144) 1 false)]⟩ (.op ⟨none, [(some 148, .app 97 22 240 (.c (.c (.c (.s (.int .i64 0)) (.c (.s (.int .i64 0)) .u)) (.c (.s (.int .i64 0)) (.c (.s (.int .i64 0)) (.c (.s (.int .i64 0)) (.c (.s (.string ⟨#[]⟩)) (.c (.s (.string ⟨#[]⟩)) (.c (.s (.string ⟨#[]⟩)) .u))))))) (.c (.s (.bool false)) (.c (.c (.s (.pointer none)) (.c (.s (.int .i64 0)) (.c (.c (.c (.s (.int .i64 0)) (.c (.s (.int .i64 0)) .u)) (.c (.s (.int .i64 0)) (.c (.s (.int .i64 0)) (.c (.s (.int .i64 0)) (.c (.s (.string ⟨#[]⟩)) (.c (.s (.string ⟨#[]⟩)) (.c (.s (.string ⟨#[]⟩)) .u))))))) (.c (.c (.s (.int .i64 0)) (.c (.s (.string ⟨#[]⟩)) .u)) (.c (.s (.string ⟨#[]⟩)) .u))))) .u))) (.t 145) (.t 147))]⟩ (.op ⟨none, [(some 149, .nilc (.t 141))]⟩ (.op ⟨none, [(some 150, .fldA (.t 149) 3 3)]⟩ (.op ⟨none, [(none, .st (.t 150) (.t 148) 1)]⟩ .done))))))))))))) [0, 11, 14, 110, 111, 112]))
def c_oplog_Log_Add_R30 : Cd :=
 (.seq (.seq (.gh (.rg [⟨none, [(some 129, .fldA (.t 16) 1 8), (some 130, .ld (.t 129) 1 false), (some 131, .mv (.t 130))]⟩, ⟨some (131, true), [(some 132, .mv (.t 11)), (some 133, .fldA (.t 16) 0 0), (some 134, .fldA (.t 133) 0 0), (some 135, .ld (.t 134) 2 true), (some 136, .mlk2 (.t 132) (.t 135) (.int .i64 0) false), (some 137, .bin .gtr (.t 136) (.c (.int .i64 0)))]⟩, ⟨none, [(some 138, .pick (.t 131) (.t 137) (.c (.bool false)))]⟩] [0, 11, 14, 16, 110, 111, 112, 138]))
 (.ite (.t 138)
 (.rg [⟨none, [(some 139, .mv (.t 14)), (some 140, .bin .add (.t 139) (.c (.int .i64 1))), (some 14, .mv (.t 140))]⟩] [0, 11, 14, 16, 110, 111, 112])
 .skip))
 c_oplog_Log_Add_R32)
def c_oplog_Log_Add_L2 : Cd :=
 (.seq (.rg [⟨none, [(some 113, .bin .lss (.t 112) (.t 111))]⟩] [0, 11, 14, 110, 111, 112, 113])
 (.seq (.ite (.t 113)
 .skip
 (.exit 4))
 (.seq (.block 5 (.seq (.rg [⟨none, [(some 114, .idxS (.t 110) (.t 112) 22), (some 115, .ld (.t 114) 22 true), (some 16, .new 97 (.c (.c (.c (.s (.int .i64 0)) (.c (.s (.int .i64 0)) .u)) (.c (.s (.int .i64 0)) (.c (.s (.int .i64 0)) (.c (.s (.int .i64 0)) (.c (.s (.string ⟨#[]⟩)) (.c (.s (.string ⟨#[]⟩)) (.c (.s (.string ⟨#[]⟩)) .u))))))) (.c (.s (.bool false)) (.c (.c (.s (.pointer none)) (.c (.s (.int .i64 0)) (.c (.c (.c (.s (.int .i64 0)) (.c (.s (.int .i64 0)) .u)) (.c (.s (.int .i64 0)) (.c (.s (.int .i64 0)) (.c (.s (.int .i64 0)) (.c (.s (.string ⟨#[]⟩)) (.c (.s (.string ⟨#[]⟩)) (.c (.s (.string ⟨#[]⟩)) .u))))))) (.c (.c (.s (.int .i64 0)) (.c (.s (.string ⟨#[]⟩)) .u)) (.c (.s (.string ⟨#[]⟩)) .u))))) .u)))), (none, .st (.t 16) (.t 115) 22)]⟩] [0, 11, 14, 16, 110, 111, 112])
 (.seq (.rga (.op ⟨none, [(some 117, .mv (.t 0))]⟩ (.op ⟨none, [(some 118, .nilc (.t 117))]⟩ (.op ⟨none, [(some 119, .fldA (.t 118) 0 0)]⟩ (.op ⟨none, [(some 120, .fldA (.t 119) 0 0)]⟩ (.op ⟨none, [(some 122, .fldA (.t 16) 0 0)]⟩ (.or (.op ⟨none, [(some 121, .ld (.t 120) 1 false)]⟩ (.op ⟨none, [(some 123, .ld (.t 122) 8 true)]⟩ (.op ⟨none, [(some 124, .call 27 [(.t 121), (.t 123)])]⟩ (.op ⟨none, [(some 116, .mv (.t 124))]⟩ (.op ⟨none, [(some 125, .ext (.t 116) 0)]⟩ (.op ⟨none, [(some 126, .ext (.t 116) 1)]⟩ (.op ⟨none, [(some 127, .fldA (.t 16) 2 9)]⟩ (.op ⟨none, [(none, .st (.t 127) (.t 125) 13)]⟩ (.op ⟨none, [(some 128, .fldA (.t 16) 1 8)]⟩ (.op ⟨none, [(none, .st (.t 128) (.t 126) 1)]⟩ .done)))))))))) (.op ⟨none, [(some 123, .ld (.t 122) 8 true)]⟩ (.op ⟨none, [(some 121, .ld (.t 120) 1 false)]⟩ (.op ⟨none, [(some 124, .call 27 [(.t 121), (.t 123)])]⟩ (.op ⟨none, [(some 116, .mv (.t 124))]⟩ (.op ⟨none, [(some 125, .ext (.t 116) 0)]⟩ (.op ⟨none, [(some 126, .ext (.t 116) 1)]⟩ (.op ⟨none, [(some 127, .fldA (.t 16) 2 9)]⟩ (.op ⟨none, [(none, .st (.t 127) (.t 125) 13)]⟩ (.op ⟨none, [(some 128, .fldA (.t 16) 1 8)]⟩ (.op ⟨none, [(none, .st (.t 128) (.t 126) 1)]⟩ .done)))))))))))))))) [0, 11, 14, 16, 110, 111, 112])
 c_oplog_Log_Add_R30)))
 (.rg [⟨none, [(some 151, .bin .add (.t 112) (.c (.int .i64 1))), (some 112, .mv (.t 151))]⟩] [0, 11, 14, 110, 111, 112]))))
def c_oplog_Log_Add_R11 : Cd :=
 (.seq (.gh (.rg [⟨none, [(some 49, .mv (.t 0)), (some 50, .nilc (.t 49)), (some 51, .fldA (.t 50) 3 3), (some 52, .ld (.t 51) 1 false), (some 53, .mv (.t 8)), (none, .gh), (some 54, .sl 22 (.t 52) (some (.t 53)) none), (some 55, .call 43 [(.t 54)]), (some 9, .mv (.t 55))]⟩] [0, 7, 8, 9]))
 (.seq (.seq (.rg [⟨none, [(none, .gh), (some 56, .mv (.t 9)), (some 57, .len (.t 56)), (some 58, .bin .sub (.t 57) (.c (.int .i64 1))), (some 10, .mv (.t 58))]⟩] [0, 7, 8, 9, 10])
 (.block 0 (.loop c_oplog_Log_Add_L0)))
 (.seq (.rg [⟨none, [(some 74, .mv (.t 0)), (some 75, .mv (.t 0)), (some 76, .mv (.t 0)), (some 77, .nilc (.t 76)), (some 78, .fldA (.t 77) 3 3), (some 79, .ld (.t 78) 1 false), (some 80, .mv (.t 8)), (none, .gh), (some 81, .sl 22 (.t 79) none (some (.t 80))), (some 82, .mv (.t 9)), (some 83, .len (.t 82)), (some 84, .nilc (.t 74)), (some 85, .fldA (.t 84) 3 3), (none, .st (.t 85) (.t 81) 1), (some 86, .nilc (.t 75)), (some 87, .fldA (.t 86) 4 4), (none, .st (.t 87) (.t 83) 1)]⟩] [0, 7, 9])
 (.seq (.rg [⟨none, [(some 88, .mkm), (some 11, .mv (.t 88))]⟩] [0, 7, 9, 11])
 (.seq (.seq (.rg [⟨none, [(some 89, .mv (.t 7)), (some 90, .len (.t 89)), (some 91, .mv (.c (.int .i64 0)))]⟩] [0, 9, 11, 89, 90, 91])
 (.block 2 (.loop c_oplog_Log_Add_L1)))
 (.seq (.rg [⟨none, [(none, .gh), (some 108, .mv (.t 9)), (some 109, .call 45 [(.t 108), (.c (.func (.func 46) #[] #[]))])]⟩] [0, 9, 11])
 (.seq (.rg [⟨none, [(some 14, .mv (.c (.int .i64 0)))]⟩] [0, 9, 11, 14])
 (.seq (.seq (.rg [⟨none, [(none, .gh), (some 110, .mv (.t 9)), (some 111, .len (.t 110)), (some 112, .mv (.c (.int .i64 0)))]⟩] [0, 11, 14, 110, 111, 112])
 (.block 4 (.loop c_oplog_Log_Add_L2)))
 (.seq (.rg [⟨none, [(some 152, .mv (.t 14)), (some 4, .mv (.t 152)), (some 5, .mv (.c (.int .i64 0)))]⟩] [4, 5])
 .ret)))))))))
def c_oplog_Log_Add : Cd :=
 (.seq (.rg [⟨none, [(some 4, .mv (.c (.int .i64 0))), (some 5, .mv (.c (.int .i64 0)))]⟩] [0, 1])
 (.seq (.seq (.rg [⟨none, [(some 17, .mv (.t 0)), (some 18, .call 35 [(.t 17)])]⟩] [0, 1, 18])
 (.ite (.t 18)
 (.seq (.rg [⟨none, [(some 4, .mv (.c (.int .i64 0))), (some 5, .mv (.c (.int .i64 2)))]⟩] [4, 5])
 .ret)
 .skip))
 (.seq (.seq (.rg [⟨none, [(some 19, .mv (.t 0)), (some 20, .mv (.t 1)), (some 21, .call 36 [(.t 19), (.t 20)]), (some 6, .mv (.t 21))]⟩] [0, 1, 6])
 (.seq (.rg [⟨none, [(some 22, .mv (.t 6)), (some 23, .bin .neq (.t 22) (.c (.int .i64 0)))]⟩] [0, 1, 6, 23])
 (.ite (.t 23)
 (.seq (.rg [⟨none, [(some 24, .mv (.t 6)), (some 4, .mv (.c (.int .i64 0))), (some 5, .mv (.t 24))]⟩] [4, 5])
 .ret)
 .skip)))
 (.seq (.rg [⟨none, [(some 25, .mv (.t 1)), (some 26, .call 37 [(.t 25)]), (some 7, .mv (.t 26))]⟩] [0, 7])
 (.seq (.rg [⟨none, [(some 27, .mv (.t 7)), (some 28, .call 38 [(.t 27), (.c (.func (.func 39) #[] #[]))])]⟩] [0, 7])
 (.seq (.rg [⟨none, [(none, .gh), (some 29, .mv (.t 0)), (some 30, .nilc (.t 29)), (some 31, .fldA (.t 30) 3 3), (some 32, .ld (.t 31) 1 false), (some 33, .len (.t 32)), (some 8, .mv (.t 33))]⟩] [0, 7, 8])
 (.seq (.seq (.rg [⟨none, [(some 34, .mv (.t 7)), (some 35, .len (.t 34)), (some 36, .bin .gtr (.t 35) (.c (.int .i64 0)))]⟩] [0, 7, 8, 36])
 (.ite (.t 36)
 (.rga (.op ⟨none, [(some 38, .mv (.t 0))]⟩ (.op ⟨none, [(some 39, .nilc (.t 38))]⟩ (.op ⟨none, [(some 40, .fldA (.t 39) 3 3)]⟩ (.op ⟨none, [(some 42, .mv (.t 7))]⟩ (.op ⟨none, [(some 43, .idxS (.t 42) (.c (.int .i64 0)) 8)]⟩ (.op ⟨none, [(some 44, .fldA (.t 43) 0 0)]⟩ (.or (.op ⟨none, [(some 41, .ld (.t 40) 1 false)]⟩ (.op ⟨none, [(some 45, .ld (.t 44) 2 true)]⟩ (.op ⟨none, [(some 46, .call 41 [(.t 41), (.t 45), (.c (.func (.func 42) #[] #[]))])]⟩ (.op ⟨none, [(some 37, .mv (.t 46))]⟩ (.op ⟨none, [(some 47, .ext (.t 37) 0)]⟩ (.op ⟨none, [(some 48, .ext (.t 37) 1)]⟩ (.op ⟨none, [(some 8, .mv (.t 47))]⟩ .done))))))) (.op ⟨none, [(some 45, .ld (.t 44) 2 true)]⟩ (.op ⟨none, [(some 41, .ld (.t 40) 1 false)]⟩ (.op ⟨none, [(some 46, .call 41 [(.t 41), (.t 45), (.c (.func (.func 42) #[] #[]))])]⟩ (.op ⟨none, [(some 37, .mv (.t 46))]⟩ (.op ⟨none, [(some 47, .ext (.t 37) 0)]⟩ (.op ⟨none, [(some 48, .ext (.t 37) 1)]⟩ (.op ⟨none, [(some 8, .mv (.t 47))]⟩ .done)))))))))))))) [0, 7, 8])
 .skip))
 c_oplog_Log_Add_R11)))))))
theorem k_oplog_Log_Add : Ok Tryz.prog 14 c_oplog_Log_Add 153 [(10, 999999), (15, 10), (21, 999999), (29, 999999), (32, 999999)] [.tmp 4, .tmp 5] := Ok.mk' Tryz.func14 (by kernel_rfl) (by kernel_rfl) (by kernel_rfl)

abbrev f_law13_live : Nat := 13
def c_law13_live : Cd :=
 (.seq (.rg [⟨none, [(some 0, .mv (.c (.bool false)))]⟩] [])
 (.seq (.rg [⟨none, [(some 4, .call 12 []), (some 1, .mv (.t 4))]⟩] [1])
 (.seq (.seq (.rg [⟨none, [(some 5, .mv (.t 1)), (some 6, .eqA false 27 (.t 5) (.c (.pointer none)))]⟩] [1, 6])
 (.ite (.t 6)
 (.seq (.rg [⟨none, [(some 0, .mv (.c (.bool false)))]⟩] [0])
 .ret)
 .skip))
 (.seq (.rg [⟨none, [(some 8, .mv (.t 1)), (some 9, .bld (.c (.s (.int .i64 0)) (.c (.s (.int .i64 0)) .u)) [(0, (.c (.int .i64 1)))]), (some 10, .bld (.c (.c (.s (.int .i64 0)) (.c (.s (.int .i64 0)) .u)) (.c (.s (.int .i64 0)) (.c (.s (.int .i64 0)) (.c (.s (.int .i64 0)) (.c (.s (.string ⟨#[]⟩)) (.c (.s (.string ⟨#[]⟩)) (.c (.s (.string ⟨#[]⟩)) .u))))))) [(0, (.t 9)), (1, (.c (.int .i64 1))), (2, (.c (.int .i64 24))), (3, (.c (.int .i64 1))), (4, (.c (.string ⟨#[97]⟩)))]), (some 11, .bldS 26 8 (.c (.c (.s (.int .i64 0)) (.c (.s (.int .i64 0)) .u)) (.c (.s (.int .i64 0)) (.c (.s (.int .i64 0)) (.c (.s (.int .i64 0)) (.c (.s (.string ⟨#[]⟩)) (.c (.s (.string ⟨#[]⟩)) (.c (.s (.string ⟨#[]⟩)) .u))))))) [(.t 10)]), (some 12, .call 14 [(.t 8), (.t 11)]), (some 7, .mv (.t 12)), (some 13, .ext (.t 7) 0), (some 14, .ext (.t 7) 1), (some 2, .mv (.t 13)), (some 3, .mv (.t 14))]⟩] [1, 2, 3])
 (.seq (.rg [⟨none, [(some 15, .mv (.t 2)), (some 16, .bin .eql (.t 15) (.c (.int .i64 1))), (some 17, .mv (.t 16))]⟩, ⟨some (17, true), [(some 18, .mv (.t 3)), (some 19, .bin .eql (.t 18) (.c (.int .i64 0)))]⟩, ⟨none, [(some 20, .pick (.t 17) (.t 19) (.c (.bool false))), (some 21, .mv (.t 20))]⟩, ⟨some (21, true), [(some 22, .mv (.t 1)), (some 23, .call 22 [(.t 22)]), (some 24, .bin .eql (.t 23) (.c (.int .i64 1)))]⟩, ⟨none, [(some 25, .pick (.t 21) (.t 24) (.c (.bool false))), (some 26, .mv (.t 25))]⟩, ⟨some (26, true), [(some 27, .mv (.t 1)), (some 28, .call 23 [(.t 27), (.c (.int .i64 1))]), (some 29, .bin .eql (.t 28) (.c (.int .i64 0)))]⟩, ⟨none, [(some 30, .pick (.t 26) (.t 29) (.c (.bool false))), (some 31, .mv (.t 30))]⟩, ⟨some (31, true), [(some 32, .mv (.t 1)), (some 33, .call 22 [(.t 32)]), (some 34, .bin .eql (.t 33) (.c (.int .i64 0)))]⟩, ⟨none, [(some 35, .pick (.t 31) (.t 34) (.c (.bool false))), (some 36, .mv (.t 35))]⟩, ⟨some (36, true), [(some 37, .mv (.t 1)), (some 38, .call 28 [(.t 37)]), (some 39, .len (.t 38)), (some 40, .bin .eql (.t 39) (.c (.int .i64 1)))]⟩, ⟨none, [(some 41, .pick (.t 36) (.t 40) (.c (.bool false))), (some 0, .mv (.t 41))]⟩] [0])
 .ret)))))
theorem k_law13_live : Ok Tryz.prog 13 c_law13_live 42 [] [.tmp 0] := Ok.mk' Tryz.func13 (by kernel_rfl) (by kernel_rfl) (by kernel_rfl)

end Go.Proofs.YtmjiojflncffeaaGreat.Vc

/- A call that has memory at its disposal, and reads what lies apart from it. -/
set_option linter.unusedVariables false
set_option linter.unusedSimpArgs false
namespace Go.Proofs.YtmjiojflncffeaaGreat.Vc
open Go

/-- All of memory but this. -/
def but (w : World) (m : PH) : PH := fun k => if (m k).isNone then w.heap[k]? else none
theorem but_at {w : World} {m : PH} {b : Nat} {o : Obj} (h1 : m b = none) (h2 : w.heap[b]? = some o) : but w m b = some o := by
  unfold but; rw [h1]; exact h2
theorem but_u0 {P : Program} {N : Nat} {w : World} {m : PH} : Ctx.u0 ⟨P, N, w, m⟩ = but w m := rfl
/-- What an argument is, for who is called with m1. -/
def ArgB (C : Ctx) (σ : SS) (w : World) (m1 : PH) : SV → Value → Prop
  | .g x, v => x.ok ∧ v = x.val
  | .row k o n, v => ∃ z xs, rowE σ.pv k = some (z, xs) ∧ o + n ≤ xs.length ∧ SlR (but w m1) v z ((xs.drop o).take n)
  | _, _ => True
def ArgsB (C : Ctx) (σ : SS) (w : World) (m1 : PH) : List SV → List Value → Prop
  | [], [] => True
  | x :: xs, v :: vs => ArgB C σ w m1 x v ∧ ArgsB C σ w m1 xs vs
  | _, _ => False
section
variable {C : Ctx} {σ : SS} {a : Act} {w : World} {loc : Loc}
theorem HR.u0apart (hH : HR C loc σ.pv σ.ph σ.m w) {b : Nat} {o : Obj} (hb : C.u0 b = some o) : σ.m b = none := by
  cases h1 : σ.m b with
  | none => rfl
  | some x =>
    have hmine := hH.mmine b (by rw [h1]; simp)
    unfold Ctx.u0 at hb
    split at hb
    · rename_i h2
      have h2 : C.m0 b = none := by simpa using h2
      have hlt : b < C.w0.heap.size := (Array.getElem?_eq_some_iff.1 hb).1
      exact (hmine.elim (fun h => by omega) fun h => absurd h2 h)
    · cases hb
theorem HR.slrB (hH : HR C loc σ.pv σ.ph σ.m w) {m1 : PH} (hm1 : ∀ b, σ.m b = none → m1 b = none) {k z s n : Nat} {xs : List GV} {v : Value} (hr : rowE σ.pv k = some (z, xs)) (hn : s + n ≤ xs.length) (hv : SlcV (loc k) z s n v) : SlR (but w m1) v z ((xs.drop s).take n) := by
  have hrow := hH.row hr
  have hlen : ((xs.drop s).take n).length = n := by simp; omega
  refine ⟨hrow.1.part s n, ?_⟩
  have hblk : ∀ b f c, loc k = some (b, f, c) → xs.length ≤ c ∧ (0 < c → ∃ cs e fz, w.heap[b]? = some (.cells cs e fz) ∧ RowAt cs f (flats xs) ∧ m1 b = none) := by
    intro b f c hc
    unfold rowE at hr
    cases hl : look σ.pv k with
    | none => simp [hl] at hr
    | some y =>
      have hp := hH.pvs k y hl
      cases y with
      | box g => simp [hl] at hr
      | row e z' df xs' =>
        simp [hl] at hr
        obtain ⟨rfl, rfl⟩ := hr
        have hp2 := hp.2
        rw [hc] at hp2
        obtain ⟨cs, hb, h1, h2, h3⟩ := hp2
        exact ⟨h1, fun _ => ⟨cs, e, (0, 0), hb, h3, hm1 b (hH.priv k _ b f c hl rfl hc).2.1⟩⟩
      | ro z' df xs' =>
        simp [hl] at hr
        obtain ⟨rfl, rfl⟩ := hr
        have hp2 := hp.2
        rw [hc] at hp2
        obtain ⟨h1, hp3⟩ := hp2
        refine ⟨h1, fun hc0 => ?_⟩
        obtain ⟨u, cs, e, fz, hu, hb, h3⟩ := hp3 hc0
        rcases hu with rfl | hu
        · exact ⟨cs, e, fz, hH.u0le b _ hb, h3, hm1 b (hH.u0apart hb)⟩
        · exact ⟨cs, e, fz, (hH.phs u hu).1 b _ hb, h3, hm1 b ((hH.phs u hu).2 b (by rw [hb]; simp)).2⟩
  cases hc : loc k with
  | none =>
    rw [hc] at hv hrow
    have h2 := hrow.2
    simp only at h2
    subst h2
    obtain ⟨base, hv⟩ := hv
    have hn0 : n = 0 := by simp at hn; omega
    subst hn0
    cases base with
    | none => exact .inl ⟨hv, by simp⟩
    | some ad => exact .inr ⟨ad, 0, by rw [hv]; simp, by simp, fun h => absurd h (by omega)⟩
  | some L =>
    obtain ⟨b, f, c⟩ := L
    rw [hc] at hv
    obtain ⟨ad, rfl, had⟩ := hv
    obtain ⟨h1, hb0⟩ := hblk b f c hc
    refine .inr ⟨ad, c - s, by rw [hlen], by rw [hlen]; omega, fun hcs => ?_⟩
    obtain ⟨cs, e, fz, hb, hat, hm⟩ := hb0 (by omega)
    rw [had (by omega)]
    refine ⟨cs, e, fz, rfl, but_at hm hb, fun j v hj => ?_⟩
    rw [Nat.add_assoc]
    exact hat _ _ (flats_part hrow.1 hn j v hj)
theorem argsB_of (hF : FR loc C.N σ.fr σ.pv σ.ph a) (hH : HR C loc σ.pv σ.ph σ.m w) {m1 : PH} (hm1 : ∀ b, σ.m b = none → m1 b = none) : ∀ {args : List Opd} {svs : List SV}, evL σ args = some svs → ArgsB C σ w m1 svs (args.map (evO a))
  | [], svs, h => by simp [evL] at h; subst h; trivial
  | x :: l, svs, h => by
    simp only [evL] at h
    split at h
    · rename_i y r hy hr
      simp at h; subst h
      refine ⟨?_, argsB_of hF hH hm1 hr⟩
      have hs := hF.ev rfl hy
      cases y with
      | g x => exact hs
      | row k s n =>
        obtain ⟨z, xs, h1, h2, h3⟩ := hs
        exact ⟨z, xs, h1, h2, hH.slrB hm1 h1 h2 h3⟩
      | _ => trivial
    · cases h
/-- A call that has m1 at its disposal, and may read all else. -/
theorem call_split {f : Nat} {args : List Opd} {d : Option Nat} {K : KT} {svs : List SV} {Q : List GV → PH → Prop} (m1 mr : PH) (hd : dOk d C.N = true) (ha : evL σ args = some svs) (hm : σ.m = uni m1 mr) (hdis : dis m1 mr)
    (hs : ∀ w vs, ArgsB C σ w m1 svs vs → PH.sub C.u0 (but w m1) → (∀ u ∈ σ.ph, PH.sub u (but w m1)) → PH.sub mr (but w m1) → Spec C.P f vs m1 w Q)
    (hK : ∀ rs m', (∀ r ∈ rs, r.ok) → Q rs m' → dis m' mr → K ({ σ with m := uni m' mr }.put d (retS rs))) : vcCall C f args d K σ := by
  constructor
  rintro a w ⟨loc, hF, hH⟩
  have hle1 : m1.le w := fun b o hb => hH.mle b o (by rw [hm]; simp [uni, hb])
  have hm1 : ∀ b, σ.m b = none → m1 b = none := fun b hb => by
    rw [hm] at hb
    cases h1 : m1 b with
    | none => rfl
    | some o => simp [uni, h1] at hb
  refine (hs w _ (argsB_of hF hH hm1 ha) (fun b o h => but_at (hm1 b (hH.u0apart h)) (hH.u0le b o h)) (fun u hu b o h => but_at (hm1 b ((hH.phs u hu).2 b (by rw [h]; simp)).2) ((hH.phs u hu).1 b o h)) (fun b o h => ?_) hle1).mono fun e w' he => ?_
  · refine but_at ?_ (hH.mle b o (by rw [hm]; exact sub_uni_r hdis b o h))
    rcases hdis b with h1 | h1
    · exact h1
    · rw [h1] at h; cases h
  obtain ⟨rs, m', rfl, hrs, hq, hle, hdom, hk⟩ := he
  refine ⟨_, rfl, ?_⟩
  obtain ⟨h1, h2, h3, hdd⟩ := hH.after hm hdis hle hdom hk
  obtain ⟨q1, q2, q3⟩ := ({ σ with m := uni m' mr } : SS).put_pv d (retS rs)
  exact ⟨_, hK rs m' hrs hq hdd, loc, by rw [q1, q2]; exact hF.put (σ := { σ with m := uni m' mr }) (dOk_spec hd) rfl (retS_ok hrs), by rw [q1, q2, q3]; exact h1⟩
theorem argsB_nil {w : World} {m1 : PH} {vs : List Value} (h : ArgsB C σ w m1 [] vs) : vs = [] := by
  cases vs with
  | nil => rfl
  | cons v vs => exact h.elim
theorem argsB_g {w : World} {m1 : PH} {x : GV} {svs : List SV} {vs : List Value} (h : ArgsB C σ w m1 (.g x :: svs) vs) : ∃ vs', vs = x.val :: vs' ∧ x.ok ∧ ArgsB C σ w m1 svs vs' := by
  cases vs with
  | nil => exact h.elim
  | cons v vs => exact ⟨vs, by rw [h.1.2], h.1.1, h.2⟩
theorem argsB_part {w : World} {m1 : PH} {k n o z : Nat} {xs : List GV} {svs : List SV} {vs : List Value} (hr : rowE σ.pv k = some (z, xs)) (h : ArgsB C σ w m1 (.row k o n :: svs) vs) : ∃ v vs', vs = v :: vs' ∧ SlR (but w m1) v z ((xs.drop o).take n) ∧ ArgsB C σ w m1 svs vs' := by
  cases vs with
  | nil => exact h.elim
  | cons v vs =>
    obtain ⟨⟨z', xs', h1, h2, h3⟩, h4⟩ := h
    rw [hr] at h1
    simp only [Option.some.injEq, Prod.mk.injEq] at h1
    obtain ⟨rfl, rfl⟩ := h1
    exact ⟨v, vs, rfl, h3, h4⟩
theorem argsB_row {w : World} {m1 : PH} {k n z : Nat} {xs : List GV} {svs : List SV} {vs : List Value} (hr : rowE σ.pv k = some (z, xs)) (hn : n = xs.length) (h : ArgsB C σ w m1 (.row k 0 n :: svs) vs) : ∃ v vs', vs = v :: vs' ∧ SlR (but w m1) v z xs ∧ ArgsB C σ w m1 svs vs' := by
  obtain ⟨v, vs', h1, h2, h3⟩ := argsB_part hr h
  refine ⟨v, vs', h1, ?_, h3⟩
  rwa [List.drop_zero, hn, List.take_length] at h2
end
end Go.Proofs.YtmjiojflncffeaaGreat.Vc

/- Operations put to their places in a log: ahead of the walk. -/
set_option linter.unusedVariables false
set_option linter.unusedSimpArgs false
set_option maxRecDepth 100000
namespace Go.Proofs.YtmjiojflncffeaaGreat.Vc
open Go Go.Proofs

theorem eqUndoZ : EqG Tryz.prog 71 (gUndo zUndo) (gUndo zUndo) true := fun x y w => ⟨by kernel_rfl, by kernel_rfl⟩
theorem Back_zero (w : World) (m : PH) (L : Lay) (T : PT) (hT : TM m L T) : Spec Tryz.prog f_tree_Tree_Back [ptr (L .t), (gUndo zUndo).val] m w fun rs m' => rs = [.s (.int .i64 0)] ∧ TM m' L T := by
  refine spec_of k_tree_Tree_Back [.g (.s (ptr (L .t))), .g (gUndo zUndo)] (by simp) (by simp [AV.ok, GV.ok, Value.oneCell', ptr, gUndo_ok zUndo rfl]) ?_
  simp (maxSteps := 2000000) only [c_tree_Tree_Back, vc_seq, vc_rg, thenQ_n, kKeep_eq, segs_nil, segs_n, ops_nil, ops_cons, vcOp, ev, look, updL, put_mk, keep_mk, keepL, Value.oneCell', cond_true, Nat.reduceEqDiff, ↓reduceIte, reduceCtorEq, Nat.zero_add, Bool.true_and, true_and, initF, initP, gStamp_zero, gOp_zero, gPlace_zero, gUndo_zero, ptr]
  refine call_ism _ [.s (.bool false)] rfl rfl (fun w' vs hv _ _ hm => ?_) ?_
  · obtain ⟨vs, rfl, _, hv⟩ := argsV_g hv
    obtain rfl := argsV_nil hv
    exact none_spec hm hT
  simp (maxSteps := 2000000) only [retS, vc_skip, vc_seq, vc_rg, vc_ite, thenQ_n, kKeep_eq, segs_nil, segs_n, ops_nil, ops_cons, vcOp, ev, evL, gvL, look, put_mk, keep_mk, keepL, Nat.reduceEqDiff, ↓reduceIte, reduceCtorEq, Bool.true_and, true_and, List.map_nil, ↓br_ft, GV.bldT, GV.bldC, getT_nil, gUndo_fits]
  refine eq_of eqUndoZ ?_
  simp (maxSteps := 2000000) only [vc_ret, vc_seq, vc_rg, vc_ite, thenQ_n, thenQ_r, kKeep_eq, finQ_r, segs_nil, segs_n, ops_nil, ops_cons, vcOp, ev, look, put_mk, keep_mk, keepL, Value.oneCell', cond_true, Nat.reduceEqDiff, ↓reduceIte, reduceCtorEq, ↓br_tt, Bool.bne_false]
  exact fin_m m rfl (fun _ _ h => h) ⟨rfl, hT⟩
/-- The beginning of a slice that lies anywhere. -/
theorem ops_take {C : Ctx} {σ : SS} {t z : Nat} {x : Opd} {hi : Option Opd} {r : List (Option Nat × RO)} {K : KT} {v : Value} {e : TypeId} {u : PH} {xs : List GV} {h : Nat} (hx : ev σ x = some (.g (.s v))) (hs : SlO u v e z xs) (hhi : ∀ d : Nat, bndN σ hi d = some h)
    (h2 : h ≤ xs.length) (hK : ∀ v', v'.oneCell' = true → SlO u v' e z (xs.take h) → vcSegOps C r K (σ.put (some t) (.g (.s v')))) : vcSegOps C ((some t, .sl z x none hi) :: r) K σ := by
  rw [ops_cons]
  simp only [vcOp, hx]
  have hlo : ∀ d : Nat, bndN σ none d = some d := fun d => rfl
  have hw := hs
  obtain ⟨hels, ⟨rfl, rfl⟩ | ⟨⟨b, o, sp⟩, c, rfl, hc, hs⟩⟩ := hs
  · obtain rfl : h = 0 := by simpa using h2
    simp only [hlo, hhi]
    exact ⟨⟨rfl, rfl⟩, hK _ rfl hw⟩
  · cases sp with
    | none =>
      simp only [hlo, hhi]
      refine ⟨⟨hc, by omega, by omega, by omega⟩, ?_⟩
      have := SlO.take (ad' := some ⟨b, o, none⟩) hw rfl h2 rfl
      have e1 : (if c = (0 : Int).toNat then o else o + (0 : Int).toNat * z) = o := by
        split <;> simp
      simp only [Int.toNat_natCast, Int.toNat_zero, Nat.sub_zero, Nat.zero_mul, Nat.add_zero, ite_self]
      exact hK _ rfl this
    | some sp =>
      have hc0 : c = 0 := by
        rcases Nat.eq_zero_or_pos c with h | h
        · exact h
        · obtain ⟨_, g, _⟩ := hs h
          cases g
      subst hc0
      have hx0 : xs = [] := List.length_eq_zero_iff.1 (by omega)
      subst hx0
      obtain rfl : h = 0 := by simpa using h2
      simp only [hlo, hhi, List.length_nil]
      exact ⟨⟨rfl, rfl⟩, hK _ rfl hw⟩
theorem upd_upd2 (m : PH) (b : Nat) (x y : Obj) : (m.upd b x).upd b y = m.upd b y := by
  funext k
  simp only [PH.upd]
  split <;> rfl
theorem count_snoc (P : Done → Bool) (rs : List Done) (d : Done) : ((rs ++ [d]).filter P).length = (rs.filter P).length + (if P d = true then 1 else 0) := by
  rw [List.filter_append, List.length_append]
  cases h : P d <;> simp [List.filter_cons, h]
/-- What Add answers. -/
def AddQ (b : Nat) (L Lb : Lay) (p : PL) (kb q : Nat) (ops : List Op) (rs : List GV) (m' : PH) : Prop :=
  (lookE p.ds p.fr [] ops ≠ 0 → rs = [.s (.int .i64 0), .s (.int .i64 (lookE p.ds p.fr [] ops))] ∧ LogM m' b L Lb p) ∧
  (lookE p.ds p.fr [] ops = 0 → ∃ L' p' n, L' .t = L .t ∧ L' .mk = L .mk ∧ rs = [.s (.int .i64 n), .s (.int .i64 0)] ∧ LogM m' b L' Lb p' ∧ p'.good (ptr (L .mk)) kb (q + p.ds.length + ops.length) ∧ Added p ops p' n)
/-- Operations put to their places. -/
theorem add_spec (w : World) (m : PH) (b : Nat) (L Lb : Lay) (p : PL) (hL : LogM m b L Lb p) {kb q : Nat} (hg : p.good (ptr (L .mk)) kb q) (v : Value) (ops : List Op) (hops : OpsIn ops) (hS : SlR (but w m) v 8 (ops.map gOp))
    (hq : q + p.ds.length + ops.length < 1099511627776) (hfew : p.ds.length ≤ 1048576) :
    Spec Tryz.prog f_oplog_Log_Add [ptr b, v] m w (AddQ b L Lb p kb q ops) := by
  refine spec_of k_oplog_Log_Add [.g (.s (ptr b)), .ro v 8 (gOp zOp) (ops.map gOp)] (by simp) (by simpa [AV.ok, but_u0, GV.ok, Value.oneCell', ptr] using hS) ?_
  have hof : ∀ d ∈ p.ds, d.undo.of.oneCell' = true := fun d hd => by rcases hg.fl.hist.isof d hd with e | e <;> rw [e] <;> rfl
  have hn := hops.1
  simp (maxSteps := 2000000) only [c_oplog_Log_Add, ptr, vc_seq, vc_rg, thenQ_n, kKeep_eq, segs_nil, segs_n, ops_nil, ops_cons, vcOp, ev, look, put_mk, keep_mk, keepL, Value.oneCell', cond_true, Nat.reduceEqDiff, ↓reduceIte, reduceCtorEq, Nat.zero_add, initF, initP, List.length_map, ptr]
  refine call_ism _ [.s (.bool false)] rfl rfl (fun w' vs hv _ _ hm => ?_) ?_
  · obtain ⟨vs, rfl, _, hv⟩ := argsV_g hv
    obtain rfl := argsV_nil hv
    exact logNone_spec hm hL
  simp (maxSteps := 2000000) only [retS, vc_skip, vc_seq, vc_rg, vc_ite, thenQ_n, kKeep_eq, segs_nil, segs_n, ops_nil, ops_cons, vcOp, ev, look, put_mk, keep_mk, keepL, Nat.reduceEqDiff, ↓reduceIte, reduceCtorEq, ↓br_ft]
  refine call_ism _ [.s (.int .i64 (lookE p.ds p.fr [] ops))] rfl rfl (fun w' vs hv _ _ hm => ?_) ?_
  · obtain ⟨vs, rfl, _, hv⟩ := argsV_g hv
    obtain ⟨v', vs, rfl, hs', hv⟩ := argsV_row (z := 8) (xs := ops.map gOp) rfl (by simp) hv
    obtain rfl := argsV_nil hv
    exact look_spec w' m hm b L Lb p hL hof hg.ris (by omega) v' ops hops hs'
  by_cases hlk : lookE p.ds p.fr [] ops = 0
  case neg =>
    simp (maxSteps := 2000000) only [retS, bne_iff_ne.2 hlk, vc_ret, vc_seq, vc_rg, vc_ite, thenQ_n, thenQ_r, kKeep_eq, finQ_r, segs_nil, segs_n, ops_nil, ops_cons, vcOp, ev, look, put_mk, keep_mk, keepL, binV, binC, Value.oneCell', cond_true, Nat.reduceEqDiff, ↓reduceIte, reduceCtorEq, Bool.true_and, true_and, ↓br_tt]
    exact fin_m m rfl (fun _ _ h => h) ⟨fun _ => ⟨rfl, hL⟩, fun h => absurd h hlk⟩
  simp (maxSteps := 2000000) only [retS, hlk, Int.reduceBNe, vc_skip, vc_seq, vc_rg, vc_ite, thenQ_n, kKeep_eq, segs_nil, segs_n, ops_nil, ops_cons, vcOp, ev, look, put_mk, keep_mk, keepL, binV, binC, Value.oneCell', cond_true, Nat.reduceEqDiff, ↓reduceIte, reduceCtorEq, Bool.true_and, true_and, ↓br_ft]
  refine call_ownm rfl rfl (Q := fun rs m' => ∃ v', rs = [.s v'] ∧ SlO m' v' 26 8 (ops.map gOp)) (fun w' vs hv hw _ _ => ?_) fun rs mN _ hq1 hdN => ?_
  · obtain ⟨v1, vs, rfl, k1, hv⟩ := argsV_row (z := 8) (xs := ops.map gOp) rfl (by simp) hv
    obtain rfl := argsV_nil hv
    exact cloneO_spec w' v1 ops (by omega) w'.ph (fun _ _ h => h) k1
  obtain ⟨vn, rfl, hN⟩ := hq1
  simp (maxSteps := 2000000) only [retS, vc_seq, vc_rg, thenQ_n, kKeep_eq, segs_nil, segs_n, ops_nil, ops_cons, vcOp, ev, look, put_mk, keep_mk, keepL, ↓reduceIte, reduceCtorEq]
  have hlook := looked hlk
  refine call_with mN m (dOk_spec rfl) rfl rfl hdN (Q := fun rs m' => rs = [] ∧ ∃ cs' : List Op, cs'.Perm ops ∧ Rising (cs'.map Op.k) ∧ SlO m' vn 26 8 (cs'.map gOp)) (fun w' vs hv _ _ => ?_) fun rs mN' _ hq1 hdN' => ?_
  · obtain ⟨vs, rfl, _, hv⟩ := argsV_g hv
    obtain ⟨vs, rfl, _, hv⟩ := argsV_g hv
    obtain rfl := argsV_nil hv
    exact sortO_spec w' vn ops mN hN (by omega) hlook.nod
  obtain ⟨rfl, news, hpn, hrn, hN'⟩ := hq1
  have hnl := hpn.length_eq
  simp (maxSteps := 2000000) only [retS, vc_seq, vc_rg, thenQ_n, kKeep_eq, segs_nil, segs_n, ops_nil, ops_cons, vcOp, look, put_mk, keep_mk, keepL, Nat.reduceEqDiff, ↓reduceIte, reduceCtorEq]
  refine gh_seq (gh_frz rfl hdN' ?_)
  refine gh_rk 7 7 (gOp zOp) rfl rfl hN'.toR (KN.mem (by simp)) ?_
  obtain ⟨ov, mT0, mB0, hSo, _, _, hs⟩ := hL.look
  have hS3 : ∀ {ph : List PH}, Seen ⟨Tryz.prog, 153, w, m⟩ ph m b 3 (.s ov) := fun {ph} => (hs (C := ⟨Tryz.prog, 153, w, m⟩) (ph := ph) (m' := m) (KN.mem (by simp))).2.2.2.1
  simp (maxSteps := 2000000) only [ops_cons, vcOp, ev, look, put_mk, ↓reduceIte, reduceCtorEq, Nat.zero_add, List.length_map]
  refine ld_of _ hS3 rfl ?_
  obtain ⟨ao, co, hov⟩ := slr_len hSo
  have hov2 : ov = .slice ao p.ds.length co := by rw [hov, List.length_map]
  have tail : ∀ σ : SS, Ge σ ⟨[(0, .g (.s (.pointer (some ⟨b, 0, none⟩)))), (7, .row 7 0 (news.length)), (8, .g (.s (.int .i64 (frontA p.ds news))))], [(7, .ro 8 (gOp zOp) (news.map gOp))], [mN'], m⟩ → vc ⟨Tryz.prog, 153, w, m⟩ c_oplog_Log_Add_R11 (finQ ⟨Tryz.prog, 153, w, m⟩ [.tmp 4, .tmp 5] (AddQ b L Lb p kb q ops)) σ := by
    intro σ hσ
    unfold c_oplog_Log_Add_R11
    rw [vc_seq]
    refine vc_gh_of_ge hσ ?_
    simp (maxSteps := 2000000) only [vc_rg, segs_n, ops_cons, vcOp, ev, look, put_mk, ↓reduceIte, Nat.zero_add]
    refine ld_of _ hS3 rfl ?_
    simp (maxSteps := 2000000) only [ops_cons, vcOp, ev, look, put_mk, Nat.reduceEqDiff, ↓reduceIte, reduceCtorEq]
    refine gh_id ?_
    have hfl := frontA_le p.ds news
    refine ops_sl (l := frontA p.ds news) (h := p.ds.length) rfl hSo rfl (fun d hd => by rw [hd, List.length_map]; rfl) hfl (by simp) fun v54 hv1 hv2 => ?_
    rw [List.take_of_length_le (by simp)] at hv2
    simp (maxSteps := 2000000) only [ops_cons, vcOp, put_mk]
    refine call_ownm rfl rfl (Q := fun rs m' => ∃ v', rs = [.s v'] ∧ SlO m' v' 97 22 ((p.ds.drop (frontA p.ds news)).map gDone)) (fun w' vs hv _ _ hm => ?_) fun rs mD _ hq1 hdD => ?_
    · obtain ⟨vs, rfl, _, hv⟩ := argsV_g hv
      obtain rfl := argsV_nil hv
      rw [← List.map_drop] at hv2
      exact cloneD_spec w' v54 _ (by simp; omega) m hm hv2
    obtain ⟨vo, rfl, hD⟩ := hq1
    have hD1 := hD.one
    simp (maxSteps := 2000000) only [retS, vc_seq, vc_rg, thenQ_n, kKeep_eq, segs_nil, segs_n, ops_nil, ops_cons, vcOp, ev, look, put_mk, keep_mk, keepL, Nat.reduceEqDiff, ↓reduceIte, reduceCtorEq]
    refine gh_own 9 9 (gDone zDone) rfl rfl hD rfl hdD ?_
    simp (maxSteps := 2000000) only [List.length_map, vc_block, thenQ_n, kKeep_eq, segs_nil, ops_nil, ops_cons, vcOp, ev, look, put_mk, keep_mk, keepL, binV, binC, Value.oneCell', cond_true, Nat.reduceEqDiff, ↓reduceIte, reduceCtorEq, Bool.true_and, true_and, List.length_map]
    generalize hf : frontA p.ds news = f at *
    have hol : (p.ds.drop f).length = p.ds.length - f := List.length_drop
    refine vc_loop (ι := Nat × Lay × PT × PH) (fun x => ⟨[(0, .g (.s (.pointer (some ⟨b, 0, none⟩)))), (7, .row 7 0 (news.length)), (8, .g (.s (.int .i64 (f)))), (9, .row 9 0 ((p.ds.drop f).length)), (10, .g (.s (.int .i64 ((x.1 : Int) - 1))))], [(9, .row 97 22 (gDone zDone) ((p.ds.drop f).map gDone)), (7, .ro 8 (gOp zOp) (news.map gOp))], [mN'], x.2.2.2⟩)
      (fun x => x.1 ≤ (p.ds.drop f).length ∧ x.2.1 .t = L .t ∧ x.2.1 .mk = L .mk ∧ LogM x.2.2.2 b x.2.1 Lb { p with T := x.2.2.1 } ∧ Fl (ptr (L .mk)) p.B p.i0 q x.2.2.1 (p.ds.take (f + x.1))) (fun x => x.1) ((p.ds.drop f).length, L, p.T, m)
      ⟨Nat.le_refl _, rfl, rfl, hL, by simp only; rw [hol, show f + (p.ds.length - f) = p.ds.length by omega, List.take_length]; exact hg.fl⟩ (ge_of ?_ ?_ rfl rfl rfl) ?_
    · simp only [frIn, look, Nat.reduceEqDiff, ↓reduceIte, reduceCtorEq, Bool.and_true, Bool.true_and, true_and, and_true]
      rw [wrap64 (by omega) (by omega)]
      try simp
    · simp [pvIn, look]
    rintro ⟨r, L1, T1, m1⟩ ⟨hr, hL1, hL2, hM, hF⟩
    simp only at hr hL1 hL2 hM hF
    generalize hQ : loopQ _ _ _ _ _ = Q
    simp (maxSteps := 2000000) only [c_oplog_Log_Add_L0, vc_skip, vc_exit, vc_seq, vc_block, vc_rg, vc_rgq, vc_ite, thenQ_n, thenQ_e, kKeep_eq, segs_nil, segs_n, ops_nil, ops_cons, qsegs_n, qops_cons, vcqOp, vcOp, isRd, ev, look, put_mk, keep_mk, keepL, binV, binC, Value.oneCell', cond_true, Nat.reduceEqDiff, ↓reduceIte, reduceCtorEq, Nat.add_zero, Bool.true_and, true_and, decide_eq_true_eq, decide_eq_false_iff_not, br_t]
    refine ⟨fun hge0 => ?_, fun hlt0 => ?_⟩
    · obtain ⟨ov1, _, _, _, _, _, hs1⟩ := hM.look
      have hS0 := (hs1 (C := ⟨Tryz.prog, 153, w, m⟩) (ph := [mN']) (m' := m1) (KN.mem (by simp))).1
      refine ld_of _ hS0 rfl ?_
      rw [hL1]
      have hn1 : ((r : Int) - 1).toNat = r - 1 := by omega
      simp (maxSteps := 2000000) only [ptr, segs_n, ops_cons, qsegs_nil, qops_nil, qops_cons, vcqOp, vcOp, isRd, ev, look, put_mk, rowE, rowD, Nat.reduceEqDiff, ↓reduceIte, reduceCtorEq, List.nil_append, Nat.zero_add, Bool.true_and, true_and, getT_nil, gUndo_fits, ptr, gDone_fld2, gDone_get2, getD_gDone]
      refine ⟨⟨by omega, by omega⟩, ?_⟩
      rw [hn1]
      have hlt : f + (r - 1) < p.ds.length := by omega
      obtain ⟨d, hd⟩ : ∃ d, (p.ds.drop f).getD (r - 1) zDone = d := ⟨_, rfl⟩
      have hd2 : p.ds.getD (f + (r - 1)) zDone = d := by rw [← hd, List.getD_eq_getElem?_getD, List.getD_eq_getElem?_getD, List.getElem?_drop]
      have htk : p.ds.take (f + r) = p.ds.take (f + (r - 1)) ++ [d] := by rw [← hd2, ← take_at hlt, show f + (r - 1) + 1 = f + r by omega]
      rw [htk] at hF
      rw [hd]
      obtain ⟨mT, mr, hm1, hdm, hT, hback⟩ := hM.tree
      have hids := hF.ids
      have hB := hF.back hg.bok fun x hx => hg.ops x (List.mem_of_mem_take hx)
      obtain ⟨T2, hT2, hF2⟩ : ∃ T2, (∀ w', Spec Tryz.prog f_tree_Tree_Back [ptr (L1 .t), (gUndo d.undo).val] mT w' fun rs m' => rs = [.s (.int .i64 0)] ∧ TM m' L1 T2) ∧ Fl (ptr (L .mk)) p.B p.i0 q T2 (p.ds.take (f + (r - 1))) := by
        rcases hB with ⟨h1, h2⟩ | ⟨h1, h2, h3, h4⟩
        · refine ⟨T1, fun w' => ?_, h2⟩
          rw [h1]
          exact Back_zero w' mT L1 T1 hT
        · exact ⟨T1.undone d.undo, fun w' => (Back_spec w' mT L1 T1 d.undo (by rw [h1, hL2]; rfl) hT (by omega) (fun _ => h3)).mono fun rs m' h => h.1 h2, h4⟩
      refine call_with mT mr (dOk_spec rfl) rfl hm1 hdm (Q := fun rs m' => rs = [.s (.int .i64 0)] ∧ TM m' L1 T2) (fun w' vs hv _ _ => ?_) fun rs mT' _ hq1 hdT => ?_
      · obtain ⟨vs, rfl, _, hv⟩ := argsV_g hv
        obtain ⟨vs, rfl, _, hv⟩ := argsV_g hv
        obtain rfl := argsV_nil hv
        have := hT2 w'
        rw [hL1] at this
        exact this
      obtain ⟨rfl, hTn⟩ := hq1
      simp (maxSteps := 2000000) only [retS, vc_rg, thenQ_n, blockQ_n, kKeep_eq, segs_nil, segs_n, ops_nil, ops_cons, vcOp, ev, look, put_mk, keep_mk, keepL, binV, binC, Value.oneCell', cond_true, Nat.reduceEqDiff, ↓reduceIte, reduceCtorEq, Bool.true_and, true_and]
      subst hQ; simp only [loopQ_n]; refine ⟨(r - 1, L1, T2, uni mT' mr), ?_, ?_, ge_of ?_ ?_ rfl rfl rfl⟩
      · exact ⟨by simp only; omega, hL1, hL2, hback rfl hTn hdT, hF2⟩
      · simp only; omega
      · simp only [frIn, look, Nat.reduceEqDiff, ↓reduceIte, reduceCtorEq, Bool.and_true, Bool.true_and, true_and, and_true]
        rw [wrap64 (by omega) (by omega), show (((r - 1 : Nat) : Int) - 1) = (r : Int) - 1 - 1 by omega]
        try simp
      · simp [pvIn, look]
    · subst hQ
      obtain rfl : r = 0 := by omega
      simp (maxSteps := 2000000) only [vc_seq, vc_rg, thenQ_n, blockQ_e, loopQ_e, segs_n, ops_cons, vcOp, ev, look, put_mk, ↓reduceIte, reduceCtorEq, Nat.zero_add, ptr]
      obtain ⟨ov1, e1, mo, mr, hm1, hdm, hO, hb1, hs1, hmk⟩ := hM.list
      refine ld_of _ (hs1 (KN.mem (by simp))) rfl ?_
      simp (maxSteps := 2000000) only [ops_cons, vcOp, ev, look, put_mk, Nat.reduceEqDiff, ↓reduceIte, reduceCtorEq]
      refine gh_id ?_
      refine ops_take (h := f) rfl hO (fun d => rfl) (by simp; omega) fun v81 hv1 hv2 => ?_
      simp (maxSteps := 2000000) only [ops_cons, vcOp, ev, look, put_mk, Nat.reduceEqDiff, ↓reduceIte, reduceCtorEq, Nat.zero_add]
      have hbm := uni_r hdm hb1
      rw [← hm1] at hbm
      refine st_of rfl _ e1 ⟨hbm.1, by simp⟩ ?_
      simp (maxSteps := 2000000) only [ops_cons, vcOp, ev, look, put_mk, put_mk0, Nat.reduceEqDiff, ↓reduceIte, Nat.zero_add, ptr]
      refine st_of rfl _ e1 ⟨upd_self _ _ _, by simp [writeAt, GV.flat]⟩ ?_
      simp (maxSteps := 2000000) only [vc_seq, vc_rg, thenQ_n, kKeep_eq, segs_nil, segs_n, ops_nil, ops_cons, vcOp, look, put_mk0, keep_mk, keepL, Nat.reduceEqDiff, ↓reduceIte, reduceCtorEq]
      intro bf of hof1 hdf
      simp (maxSteps := 2000000) only [vc_seq, vc_block, vc_rg, thenQ_n, kKeep_eq, segs_nil, segs_n, ops_nil, ops_cons, vcOp, ev, look, put_mk, keep_mk, keepL, Value.oneCell', cond_true, Nat.reduceEqDiff, ↓reduceIte, reduceCtorEq]
      rw [upd_upd2, hm1, uni_upd hbm.2] at hdf ⊢
      have hv3 : SlO mo v81 97 22 ((p.ds.take f).map gDone) := by rw [List.map_take]; exact hv2
      have hM2 := hmk (ds' := p.ds.take f) (fr' := p.fr) (red' := ((p.ds.drop f).length : Int)) hv3 hdm
      generalize hm2 : uni mo (mr.upd b _) = m2 at hdf ⊢
      have em2 : uni mo (mr.upd b (logC L1 Lb p.fr v81 ((p.ds.drop f).length : Int) e1)) = m2 := by rw [← hm2]; rfl
      simp only [em2] at hM2
      have hdf : dis (one bf of) m2 := hdf
      refine vc_loop (ι := Nat × Obj) (fun x => ⟨[(0, .g (.s (.pointer (some ⟨b, 0, none⟩)))), (9, .row 9 0 ((p.ds.drop f).length + x.1)), (11, .g (.s (.map (some bf)))), (89, .row 7 0 (news.length)), (90, .g (.s (.int .i64 (news.length)))), (91, .g (.s (.int .i64 (x.1))))], [(9, .row 97 22 (gDone zDone) ((p.ds.drop f ++ (news.take x.1).map fresh).map gDone)), (7, .ro 8 (gOp zOp) (news.map gOp))], [mN'], uni (one bf x.2) m2⟩)
        (fun x => x.1 ≤ news.length ∧ Map2 x.2 (cnt ((news.take x.1).map Op.k))) (fun x => news.length - x.1) (0, of) ⟨Nat.zero_le _, mapI_2 (hof1 none)⟩ (ge_of ?_ ?_ rfl rfl rfl) ?_
      · simp [frIn, look]
      · simp [pvIn, look]
      have hdf2 : ∀ o, dis (one bf o) m2 := fun o k => by
        rcases hdf k with h | h
        · simp only [one] at h ⊢
          split at h
          · cases h
          · rename_i hk; left; rw [if_neg hk]
        · exact .inr h
      rintro ⟨j, o⟩ ⟨hj, hmo⟩
      simp only at hj hmo
      generalize hQ : loopQ _ _ _ _ _ = Q
      simp (maxSteps := 2000000) only [c_oplog_Log_Add_L1, vc_skip, vc_exit, vc_seq, vc_block, vc_rg, vc_rga, vc_ite, thenQ_n, thenQ_e, kKeep_eq, segs_nil, segs_n, ops_nil, ops_cons, ot_op, ot_or, vcOp, ev, look, updL, put_mk, put_mk0, keep_mk, keepL, rowE, rowD, binV, binC, Nat.reduceEqDiff, ↓reduceIte, reduceCtorEq, List.nil_append, Nat.zero_add, Bool.and_true, Bool.true_and, true_and, and_true, Int.toNat_natCast, decide_eq_true_eq, decide_eq_false_iff_not, br_t, getT_nil, setT_nil, gStamp_fits, gStamp_zero, gOp_sz, gOp_fits, gOp_same, gOp_fld0, gOp_get0, gOp_zero, getD_gOp]
      refine ⟨fun hlt => ⟨⟨by omega, by omega⟩, ?_⟩, fun hge => ?_⟩
      · have hjl : j < news.length := by omega
        obtain ⟨op, hop⟩ : ∃ op, news.getD j zOp = op := ⟨_, rfl⟩
        have htk : news.take (j + 1) = news.take j ++ [op] := by rw [take_at hjl zOp, hop]
        rw [hop]
        have hks : op.k ∉ (news.take j).map Op.k := by
          have hnd : ((news.take (j + 1)).map Op.k).Nodup := by
            have : (news.map Op.k).Nodup := (hpn.map _).nodup_iff.2 hlook.nod
            exact this.sublist ((List.take_sublist _ _).map _)
          rw [htk, List.map_append, List.nodup_append] at hnd
          exact fun hm => hnd.2.2 _ hm _ (by simp) rfl
        generalize hkk : (news.take j).map Op.k = ks at hmo hks
        have tail2 : ∀ o', Map2 o' (mput2 (cnt ks) op.k (.int .i64 (cntV ks op.k))) → ∀ σ : SS, Ge σ ⟨[(0, .g (.s (.pointer (some ⟨b, 0, none⟩)))), (9, .row 9 0 ((p.ds.drop f).length + j)), (11, .g (.s (.map (some bf)))), (13, .ref 13 []), (89, .row 7 0 (news.length)), (90, .g (.s (.int .i64 (news.length)))), (91, .g (.s (.int .i64 (j))))], [(9, .row 97 22 (gDone zDone) ((p.ds.drop f ++ (news.take j).map fresh).map gDone)), (7, .ro 8 (gOp zOp) (news.map gOp)), (13, .box (gOp op))], [mN'], uni (one bf o') m2⟩ →
            vc ⟨Tryz.prog, 153, w, m⟩ c_oplog_Log_Add_R22 (blockQ 3 (thenQ (vc ⟨Tryz.prog, 153, w, m⟩ (.rg [⟨none, [(some 107, .bin .add (.t 91) (.c (.int .i64 1))), (some 91, .mv (.t 107))]⟩] [0, 9, 11, 89, 90, 91]) Q) Q)) σ := by
          intro o' ho' σ hσ
          rw [mput_fresh hks] at ho'
          unfold c_oplog_Log_Add_R22
          refine vc_gh_of_ge hσ ?_
          simp (maxSteps := 2000000) only [GV.bldC, GV.bldT, vc_rg, thenQ_n, blockQ_n, kKeep_eq, segs_nil, segs_n, ops_nil, ops_cons, vcOp, ev, evL, gvL, look, updL, put_mk, keep_mk, keepL, rowE, binV, binC, Value.oneCell', cond_true, cond_false, Nat.reduceEqDiff, Nat.reduceBEq, ↓reduceIte, reduceCtorEq, Nat.zero_add, Bool.and_true, Bool.true_and, BEq.rfl, true_and, and_true, List.map_cons, List.map_nil, Option.map_some, szAll, List.length_cons, List.length_nil, kill, SV.mentions, ne_eq, not_false_eq_true, List.drop_zero, List.take_succ_cons, List.take_zero, GV.bldT, GV.bldC, getT_nil, List.length_map, gStamp_zero, gOp_fits, gOp_same, gOp_zero, gPlace_zero, gUndo_zero, gDone_sz, gDone_get0, gDone_set0, gDone_zero]
          refine ⟨rfl, by simp; omega, by omega, ?_⟩
          subst hQ; simp only [loopQ_n]; refine ⟨(j + 1, o'), ?_, ?_, ge_of ?_ ?_ rfl rfl rfl⟩
          · refine ⟨by simp only; omega, ?_⟩
            simp only
            rw [htk, List.map_append, hkk]
            exact ho'
          · simp only; omega
          · simp only [frIn, look, Nat.reduceEqDiff, ↓reduceIte, reduceCtorEq, Bool.and_true, Bool.true_and, true_and, and_true]
            rw [wrap_n (by omega)]
            try simp
            try omega
          · simp only [pvIn, look, Nat.reduceEqDiff, ↓reduceIte, Bool.and_true, and_true]
            rw [htk]
            simp [fresh, zDone]
        have hgt := cnt_get ks op.k
        have hw := cnt_wrap ks op.k
        have hbfs : ∀ o, uni (one bf o) m2 bf = some o := fun o => sub_uni_l _ _ _ _ (one_self _ _)
        refine ⟨⟨op.k, o, _, rfl, .inl (hbfs o), hmo, ?_⟩, ?_⟩
        · simp (maxSteps := 2000000) only [lkS2, hgt, segs_nil, segs_n, ops_nil, ops_cons, ot_op, vcOp, ev, look, put_mk, binV, binC, Value.oneCell', cond_true, cond_false, Nat.reduceEqDiff, ↓reduceIte, Bool.true_and, true_and]
          refine ⟨op.k, o, _, rfl, hbfs o, hmo, fun o1 β ho1 hb1 => ?_⟩
          simp (maxSteps := 2000000) only [uni_one_upd, List.getElem?_cons_succ, List.getElem?_cons_zero, segs_nil, segs_n, ops_nil, ops_cons, ot_op, vcOp, ev, look, put_mk, Nat.reduceEqDiff, ↓reduceIte]
          refine ⟨op.k, o1, _, β, rfl, hbfs o1, ho1, hb1, fun o2 ho2 => ?_⟩
          rw [mput2_ens, hw] at ho2
          simp (maxSteps := 2000000) only [uni_one_upd, thenQ_n, kKeep_eq, segs_nil, ops_nil, ot_done, look, put_mk0, keep_mk, keepL, Nat.reduceEqDiff, ↓reduceIte, reduceCtorEq]
          exact tail2 o2 ho2 _ (ge_of (by simp [frIn, look]) (by simp [pvIn, look]) rfl rfl rfl)
        · refine ⟨op.k, o, _, rfl, hbfs o, hmo, fun o1 β ho1 hb1 => ?_⟩
          simp (maxSteps := 2000000) only [uni_one_upd, List.getElem?_cons_succ, List.getElem?_cons_zero, segs_nil, segs_n, ops_nil, ops_cons, ot_op, vcOp, ev, look, put_mk, Nat.reduceEqDiff, ↓reduceIte]
          refine ⟨op.k, o1, _, rfl, .inl (hbfs o1), ho1, ?_⟩
          simp (maxSteps := 2000000) only [lkS2, mget2_ens, hgt, segs_nil, segs_n, ops_nil, ops_cons, ot_op, vcOp, ev, look, put_mk, binV, binC, Value.oneCell', cond_true, cond_false, Nat.reduceEqDiff, ↓reduceIte, Bool.true_and, true_and]
          refine ⟨op.k, o1, _, β, rfl, hbfs o1, ho1, hb1, fun o2 ho2 => ?_⟩
          rw [mput2_ens, hw] at ho2
          simp (maxSteps := 2000000) only [uni_one_upd, thenQ_n, kKeep_eq, segs_nil, ops_nil, ot_done, look, put_mk0, keep_mk, keepL, Nat.reduceEqDiff, ↓reduceIte, reduceCtorEq]
          exact tail2 o2 ho2 _ (ge_of (by simp [frIn, look]) (by simp [pvIn, look]) rfl rfl rfl)
      · subst hQ
        obtain rfl : j = news.length := by omega
        rw [List.take_length] at hmo
        simp (maxSteps := 2000000) only [List.take_length, vc_seq, vc_rg, thenQ_n, blockQ_e, loopQ_e, segs_n, ops_cons, vcOp, ↓reduceIte]
        refine gh_pub 9 9 _ rfl rfl (by simp) fun v9 uD ho9 hs9 hd9 => ?_
        simp (maxSteps := 2000000) only [ops_cons, vcOp, ev, look, put_mk, cond_true, cond_false, Nat.reduceBEq, ↓reduceIte, BEq.rfl, kill, SV.mentions]
        have hd9 : dis uD (uni (one bf o) m2) := hd9
        refine call_with uD (uni (one bf o) m2) (dOk_spec rfl) rfl rfl hd9 (Q := fun rs m' => rs = [] ∧ ∃ cs : List Done, cs.Perm (p.ds.drop f ++ news.map fresh) ∧ Rising (cs.map Done.k) ∧ SlO m' v9 97 22 (cs.map gDone)) (fun w' vs hv _ _ => ?_) fun rs uD' _ hq1 hdD' => ?_
        · obtain ⟨vs, rfl, _, hv⟩ := argsV_g hv
          obtain ⟨vs, rfl, _, hv⟩ := argsV_g hv
          obtain rfl := argsV_nil hv
          refine sortD_spec w' v9 _ (fun d hd => ?_) uD hs9 (by simp; omega) (placed_nodup hg.ris hlook hpn f)
          rcases List.mem_append.1 hd with hd | hd
          · exact hof d (List.mem_of_mem_drop hd)
          · obtain ⟨op, _, rfl⟩ := List.mem_map.1 hd
            rfl
        obtain ⟨rfl, cs, hpc, hrc, hcs⟩ := hq1
        simp (maxSteps := 2000000) only [retS, vc_seq, vc_rg, thenQ_n, kKeep_eq, segs_nil, segs_n, ops_nil, ops_cons, vcOp, ev, look, put_mk, keep_mk, keepL, Value.oneCell', cond_true, Nat.reduceEqDiff, ↓reduceIte, reduceCtorEq]
        refine gh_seq (gh_frz rfl hdD' ?_)
        refine gh_seq (gh_frz rfl (hdf2 o) ?_)
        refine gh_rk 9 9 (gDone zDone) rfl rfl hcs.toR (KN.mem (by simp)) ?_
        simp (maxSteps := 2000000) only [List.length_map, vc_block, thenQ_n, kKeep_eq, segs_nil, ops_nil, ops_cons, vcOp, ev, look, put_mk, keep_mk, keepL, Value.oneCell', cond_true, Nat.reduceEqDiff, ↓reduceIte, reduceCtorEq, List.length_map]
        have hcl : cs.length = (p.ds.length - f) + news.length := by rw [hpc.length_eq, List.length_append, hol, List.length_map]
        have hco : ∀ d ∈ cs, OpOk d.op := fun d hd => by
          rcases List.mem_append.1 (hpc.mem_iff.1 hd) with hd | hd
          · exact hg.ops d (List.mem_of_mem_drop hd)
          · obtain ⟨op, hop, rfl⟩ := List.mem_map.1 hd
            exact (hops.2 op (hpn.mem_iff.1 hop)).2
        have hqd : kb + p.ds.length ≤ q := hg.many
        refine vc_loop (ι := Nat × Lay × PT × PH × List Done) (fun x => ⟨[(0, .g (.s (.pointer (some ⟨b, 0, none⟩)))), (11, .g (.s (.map (some bf)))), (14, .g (.s (.int .i64 ((x.2.2.2.2.filter fun d => d.taken && decide (d.k ∈ ops.map Op.k)).length)))), (110, .row 9 0 (cs.length)), (111, .g (.s (.int .i64 (cs.length)))), (112, .g (.s (.int .i64 (x.1))))], [(9, .ro 22 (gDone zDone) (cs.map gDone))], [one bf o, uD', mN'], x.2.2.2.1⟩)
          (fun x => x.1 ≤ cs.length ∧ x.2.1 .t = L .t ∧ x.2.1 .mk = L .mk ∧ LogM x.2.2.2.1 b x.2.1 Lb { p with T := x.2.2.1, ds := p.ds.take f ++ x.2.2.2.2, red := ((p.ds.drop f).length : Int) } ∧ x.2.2.2.2.map (·.op) = (cs.take x.1).map (·.op) ∧ Fl (ptr (L .mk)) p.B p.i0 (q + x.1) x.2.2.1 (p.ds.take f ++ x.2.2.2.2)) (fun x => cs.length - x.1) (0, L1, T1, m2, [])
          ⟨Nat.zero_le _, hL1, hL2, by simpa using hM2, rfl, by simpa using hF⟩ (ge_of ?_ ?_ rfl rfl rfl) ?_
        · simp [frIn, look]
        · simp [pvIn, look]
        rintro ⟨i, L3, T3, m3, rs⟩ ⟨hi, hL3, hL4, hM3, hrs, hF3⟩
        simp only at hi hL3 hL4 hM3 hrs hF3
        have hrl : rs.length = i := by
          have := congrArg List.length hrs
          simpa [Nat.min_eq_left hi] using this
        generalize hQ : loopQ _ _ _ _ _ = Q
        simp (maxSteps := 2000000) only [c_oplog_Log_Add_L2, vc_skip, vc_exit, vc_seq, vc_block, vc_rg, vc_rga, vc_ite, thenQ_n, thenQ_e, kKeep_eq, segs_nil, segs_n, ops_nil, ops_cons, ot_op, ot_or, vcOp, ev, look, updL, put_mk, put_mk0, keep_mk, keepL, rowE, rowD, binV, binC, Nat.reduceEqDiff, ↓reduceIte, reduceCtorEq, List.nil_append, Nat.zero_add, Nat.add_zero, Bool.and_true, Bool.true_and, true_and, and_true, Int.toNat_natCast, decide_eq_true_eq, decide_eq_false_iff_not, br_t, getT_nil, setT_nil, gStamp_zero, gOp_fits, gOp_zero, gPlace_zero, gUndo_zero, gDone_sz, gDone_fits, gDone_same, gDone_fld0, gDone_get0, gDone_zero, getD_gDone]
        refine ⟨fun hlt => ⟨⟨by omega, by omega⟩, ?_⟩, fun hge => ?_⟩
        · have hil : i < cs.length := by omega
          obtain ⟨d, hd⟩ : ∃ d, cs.getD i zDone = d := ⟨_, rfl⟩
          have hdm2 : d ∈ cs := hd ▸ getD_in hil zDone
          rw [hd]
          obtain ⟨ov3, _, _, _, _, _, hs3⟩ := hM3.look
          have hS0 := (hs3 (C := ⟨Tryz.prog, 153, w, m⟩) (ph := [one bf o, uD', mN']) (m' := m3) (KN.mem (by simp))).1
          rw [hL3] at hS0
          obtain ⟨mT, mr3, hm3, hdm3, hT3, hback⟩ := hM3.tree
          have hol3 : ∀ x ∈ p.ds.take f ++ rs, OpOk x.op := fun x hx => by
            rcases List.mem_append.1 hx with hx | hx
            · exact hg.ops x (List.mem_of_mem_take hx)
            · have : x.op ∈ (cs.take i).map (·.op) := by rw [← hrs]; exact List.mem_map.2 ⟨x, hx, rfl⟩
              obtain ⟨y, hy, e⟩ := List.mem_map.1 this
              rw [← e]
              exact hco y (List.mem_of_mem_take hy)
          have htok := hF3.tok hg.bok hol3 (by simp; omega)
          obtain ⟨d', T4, hd4, hdo, hF4⟩ : ∃ (d' : Done) (T4 : PT), d'.op = d.op ∧ (∀ w', Spec Tryz.prog f_tree_Tree_Do [ptr (L3 .t), (gOp d.op).val] mT w' fun rs' m' => rs' = [gUndo d'.undo, .s (.bool d'.taken)] ∧ ∃ L4, L4 .t = L3 .t ∧ L4 .mk = L3 .mk ∧ TM m' L4 T4) ∧ Fl (ptr (L .mk)) p.B p.i0 (q + (i + 1)) T4 (p.ds.take f ++ (rs ++ [d'])) := by
            cases hmay : mayA T3 d.op with
            | false => exact ⟨⟨d.op, false, zUndo⟩, T3, rfl, fun w' => (Do_spec w' mT L3 T3 d.op (hco d hdm2).2 (ok_fits htok (by omega)) hT3).mono fun rs' m' h => ⟨(h.1 hmay).1, L3, rfl, rfl, (h.1 hmay).2⟩, by rw [← List.append_assoc]; exact hF3.no hg.bok hol3 hmay⟩
            | true => exact ⟨⟨d.op, true, T3.undo (ptr (L .mk)) d.op⟩, T3.does d.op, rfl, fun w' => (Do_spec w' mT L3 T3 d.op (hco d hdm2).2 (ok_fits htok (by omega)) hT3).mono fun rs' m' h => by
                obtain ⟨L4, h1, h2, h3, h4⟩ := h.2 hmay
                exact ⟨by rw [h3, hL4], L4, h1, h2, h4⟩, by rw [← List.append_assoc]; exact hF3.yes hg.bok hol3 (hco d hdm2) hmay⟩
          have hdk : d'.k = d.k := by show d'.op.k = d.op.k; rw [hd4]
          have hmemk : d.k ∈ news.map Op.k ↔ d'.k ∈ ops.map Op.k := by rw [hdk]; exact (hpn.map _).mem_iff
          have tail3 : ∀ (L4 : Lay) (m4 : PH), L4 .t = L .t → L4 .mk = L .mk → LogM m4 b L4 Lb { p with T := T4, ds := p.ds.take f ++ rs, red := ((p.ds.drop f).length : Int) } →
              ∀ σ : SS, Ge σ ⟨[(0, .g (.s (.pointer (some ⟨b, 0, none⟩)))), (11, .g (.s (.map (some bf)))), (14, .g (.s (.int .i64 ((rs.filter fun d => d.taken && decide (d.k ∈ ops.map Op.k)).length)))), (16, .ref 16 []), (110, .row 9 0 (cs.length)), (111, .g (.s (.int .i64 (cs.length)))), (112, .g (.s (.int .i64 (i))))], [(9, .ro 22 (gDone zDone) (cs.map gDone)), (16, .box (gDone d'))], [one bf o, uD', mN'], m4⟩ →
              vc ⟨Tryz.prog, 153, w, m⟩ c_oplog_Log_Add_R30 (blockQ 5 (thenQ (vc ⟨Tryz.prog, 153, w, m⟩ (.rg [⟨none, [(some 151, .bin .add (.t 112) (.c (.int .i64 1))), (some 112, .mv (.t 151))]⟩] [0, 11, 14, 110, 111, 112]) Q) Q)) σ := by
            intro L4 m4 hL5 hL6 hM4 σ hσ
            unfold c_oplog_Log_Add_R30
            rw [vc_seq, vc_seq]
            refine vc_gh_of_ge hσ ?_
            have tail4 : ∀ n : Nat, n = ((rs ++ [d']).filter fun d => d.taken && decide (d.k ∈ ops.map Op.k)).length →
                ∀ σ : SS, Ge σ ⟨[(0, .g (.s (.pointer (some ⟨b, 0, none⟩)))), (11, .g (.s (.map (some bf)))), (14, .g (.s (.int .i64 (n)))), (16, .ref 16 []), (110, .row 9 0 (cs.length)), (111, .g (.s (.int .i64 (cs.length)))), (112, .g (.s (.int .i64 (i))))], [(9, .ro 22 (gDone zDone) (cs.map gDone)), (16, .box (gDone d'))], [one bf o, uD', mN'], m4⟩ →
                vc ⟨Tryz.prog, 153, w, m⟩ c_oplog_Log_Add_R32 (blockQ 5 (thenQ (vc ⟨Tryz.prog, 153, w, m⟩ (.rg [⟨none, [(some 151, .bin .add (.t 112) (.c (.int .i64 1))), (some 112, .mv (.t 151))]⟩] [0, 11, 14, 110, 111, 112]) Q) Q)) σ := by
              intro n hn' σ hσ
              unfold c_oplog_Log_Add_R32
              refine vc_gh_of_ge hσ ?_
              obtain ⟨ov4, e4, mo4, mr4, hm4, hdm4, hO4, hb4, hs4, hmk4⟩ := hM4.list
              have hS4 := hs4 (C := ⟨Tryz.prog, 153, w, m⟩) (ph := [one bf o, uD', mN']) (m' := m4) (KN.mem (by simp))
              simp (maxSteps := 2000000) only [vc_rga, segs_nil, segs_n, ops_nil, ops_cons, ot_op, ot_or, vcOp, ev, evL, gvL, look, updL, put_mk, Nat.reduceEqDiff, ↓reduceIte, reduceCtorEq, Nat.zero_add, Bool.and_true, Bool.true_and, true_and, and_true, Option.map_some, szAll, List.length_cons, List.length_nil, getT_nil, gStamp_zero, gOp_zero, gPlace_zero, gUndo_zero, gDone_sz, gDone_fits, gDone_zero]
              refine ⟨ld_of _ hS4 rfl ?_, ld_of _ hS4 rfl ?_, ld_of _ hS4 rfl ?_⟩
              all_goals
                simp (maxSteps := 2000000) only [segs_nil, segs_n, ops_nil, ops_cons, ot_op, vcOp, ev, evL, gvL, look, updL, put_mk, rowE, Nat.reduceEqDiff, ↓reduceIte, reduceCtorEq, Nat.zero_add, Bool.and_true, Bool.true_and, true_and, and_true, Option.map_some, szAll, List.length_cons, List.length_nil, List.drop_zero, List.take_succ_cons, List.take_zero, getT_nil, gDone_sz, gDone_fits]
                refine app_of rfl rfl mo4 mr4 _ hO4 hm4 hdm4 (by simp; omega) fun v5 u5 ho5 hs5 hd5 => ?_
                simp (maxSteps := 2000000) only [segs_nil, segs_n, ops_nil, ops_cons, ot_op, vcOp, ev, look, put_mk, Nat.reduceEqDiff, ↓reduceIte, Nat.zero_add]
                have hb5 := (uni_r hd5 hb4)
                refine st_of rfl _ e4 ⟨hb5.1, by simp⟩ ?_
                simp (maxSteps := 2000000) only [vc_rg, thenQ_n, blockQ_n, kKeep_eq, segs_nil, segs_n, ops_nil, ops_cons, ot_done, vcOp, ev, look, put_mk, put_mk0, keep_mk, keepL, binV, binC, Value.oneCell', cond_true, Nat.reduceEqDiff, ↓reduceIte, reduceCtorEq, Bool.true_and, true_and, ptr]
                have hv5 : SlO u5 v5 97 22 ((p.ds.take f ++ (rs ++ [d'])).map gDone) := by
                  rw [← List.append_assoc, List.map_append]
                  exact hs5
                have hM5 := hmk4 (ds' := p.ds.take f ++ (rs ++ [d'])) (fr' := p.fr) (red' := ((p.ds.drop f).length : Int)) hv5 hd5
                rw [uni_upd hb5.2]
                subst hQ; simp only [loopQ_n]; refine ⟨(i + 1, L4, T4, uni u5 (mr4.upd b (logC L4 Lb p.fr v5 ((p.ds.drop f).length : Int) e4)), rs ++ [d']), ?_, ?_, ge_of ?_ ?_ rfl rfl rfl⟩
                · refine ⟨by simp only; omega, hL5, hL6, hM5, ?_, hF4⟩
                  simp only
                  rw [take_at hil zDone, hd, List.map_append, List.map_append, hrs, List.map_cons, List.map_nil, List.map_cons, List.map_nil, hd4]
                · simp only; omega
                · simp only [frIn, look, Nat.reduceEqDiff, ↓reduceIte, reduceCtorEq, Bool.and_true, Bool.true_and, true_and, and_true]
                  rw [wrap_n (by omega), hn']
                  try simp
                · simp [pvIn, look]
            have hcount : ((rs ++ [d']).filter fun d => d.taken && decide (d.k ∈ ops.map Op.k)).length = (rs.filter fun d => d.taken && decide (d.k ∈ ops.map Op.k)).length + (if (d'.taken && decide (d'.k ∈ ops.map Op.k)) = true then 1 else 0) := count_snoc _ rs d'
            have hle : (rs.filter fun d => d.taken && decide (d.k ∈ ops.map Op.k)).length ≤ rs.length := List.length_filter_le _ _
            cases htk : d'.taken with
            | false =>
              have e0 : (rs.filter fun d => d.taken && decide (d.k ∈ ops.map Op.k)).length = ((rs ++ [d']).filter fun d => d.taken && decide (d.k ∈ ops.map Op.k)).length := by rw [hcount, htk]; simp
              simp (maxSteps := 2000000) only [htk, vc_skip, vc_rg, vc_ite, thenQ_n, kKeep_eq, segs_nil, segs_n, segs_g, ops_nil, ops_cons, vcOp, RO.isGh, skip_mk, skipL, ev, look, put_mk, keep_mk, keepL, GV.getT, Value.oneCell', cond_true, cond_false, Nat.reduceEqDiff, ↓reduceIte, reduceCtorEq, List.nil_append, Bool.true_and, Bool.not_true, Bool.not_false, true_and, ↓br_ft, getT_nil, fits_s, gDone_fld1, gDone_get1]
              exact tail4 _ e0 _ (ge_of (by simp [frIn, look]) (by simp [pvIn, look]) rfl rfl rfl)
            | true =>
              simp (maxSteps := 2000000) only [htk, vc_rg, segs_n, segs_g, ops_nil, ops_cons, vcOp, ev, look, put_mk, GV.getT, Nat.reduceEqDiff, ↓reduceIte, reduceCtorEq, List.nil_append, List.cons_append, Bool.true_and, Bool.not_false, true_and, ↓br_tt, getT_nil, fits_s, gStamp_fits, gOp_fld0, gOp_get0, gDone_fld0, gDone_get0, gDone_fld1, gDone_get1]
              refine ⟨d'.k, o, _, rfl, .inr (.inl ⟨one bf o, by simp, one_self _ _⟩), hmo, ?_⟩
              rw [hdk]
              by_cases hin : d.k ∈ news.map Op.k
              · simp (maxSteps := 2000000) only [lkS2, mget_cnt, if_pos hin, Option.getD_some, Int.reduceGT, vc_rg, vc_ite, thenQ_n, kKeep_eq, segs_nil, segs_n, ops_nil, ops_cons, vcOp, ev, look, put_mk, keep_mk, keepL, binV, binC, Value.oneCell', cond_true, cond_false, Nat.reduceEqDiff, ↓reduceIte, reduceCtorEq, Bool.true_and, decide_true, true_and, ↓br_tt]
                have e1 : ((rs.filter fun d => d.taken && decide (d.k ∈ ops.map Op.k)).length : Int) + 1 = (((rs ++ [d']).filter fun d => d.taken && decide (d.k ∈ ops.map Op.k)).length : Nat) := by
                  rw [hcount, htk, decide_eq_true (hmemk.1 hin)]
                  simp
                rw [wrap64 (by omega) (by omega), e1]
                exact tail4 _ rfl _ (ge_of (by simp [frIn, look]) (by simp [pvIn, look]) rfl rfl rfl)
              · simp (maxSteps := 2000000) only [lkS2, mget_cnt, if_neg hin, Option.getD_none, Int.reduceGT, vc_skip, vc_ite, thenQ_n, kKeep_eq, segs_nil, segs_n, ops_nil, ops_cons, vcOp, ev, look, put_mk, keep_mk, keepL, binV, binC, Value.oneCell', cond_true, cond_false, Nat.reduceEqDiff, ↓reduceIte, reduceCtorEq, Bool.true_and, decide_false, true_and, ↓br_tt, ↓br_ft]
                have e0 : (rs.filter fun d => d.taken && decide (d.k ∈ ops.map Op.k)).length = ((rs ++ [d']).filter fun d => d.taken && decide (d.k ∈ ops.map Op.k)).length := by rw [hcount, htk, decide_eq_false (fun h => hin (hmemk.2 h))]; simp
                exact tail4 _ e0 _ (ge_of (by simp [frIn, look]) (by simp [pvIn, look]) rfl rfl rfl)
          refine ⟨ld_of _ hS0 rfl ?_, ld_of _ hS0 rfl ?_⟩
          all_goals
            simp (maxSteps := 2000000) only [ptr, segs_nil, segs_n, ops_nil, ops_cons, ot_op, vcOp, ev, look, put_mk, Nat.reduceEqDiff, ↓reduceIte, Bool.true_and, true_and, getT_nil, gOp_fits, ptr, gDone_get0]
            refine call_with mT mr3 (dOk_spec rfl) rfl hm3 hdm3 (Q := fun rs' m' => rs' = [gUndo d'.undo, .s (.bool d'.taken)] ∧ ∃ L4, L4 .t = L .t ∧ L4 .mk = L3 .mk ∧ TM m' L4 T4) (fun w' vs hv _ _ => ?_) fun rs' mT' _ hq1 hdT => ?_
            · obtain ⟨vs, rfl, _, hv⟩ := argsV_g hv
              obtain ⟨vs, rfl, _, hv⟩ := argsV_g hv
              obtain rfl := argsV_nil hv
              have := hdo w'
              rw [hL3] at this
              exact this
            obtain ⟨rfl, L4, h41, h42, hT4⟩ := hq1
            simp (maxSteps := 2000000) only [retS, List.getElem?_cons_succ, List.getElem?_cons_zero, thenQ_n, kKeep_eq, segs_nil, segs_n, ops_nil, ops_cons, ot_done, ot_op, vcOp, ev, look, updL, put_mk, put_mk0, keep_mk, keepL, GV.getT, GV.sz, GV.same, Nat.reduceEqDiff, ↓reduceIte, reduceCtorEq, List.nil_append, Bool.and_true, Bool.true_and, true_and, and_true, getT_nil, gUndo_sz, gUndo_same, gDone_fld1, gDone_get1, gDone_set1, gDone_fld2, gDone_get2, gDone_set2]
            have ed : ({ d with undo := d'.undo, taken := d'.taken } : Done) = d' := by rw [← hd4]
            rw [ed]
            exact tail3 L4 _ h41 (h42.trans hL4) (hback (h41.trans hL3.symm) hT4 hdT) _ (ge_of (by simp [frIn, look]) (by simp [pvIn, look]) rfl rfl rfl)
        · subst hQ
          obtain rfl : i = cs.length := by omega
          simp (maxSteps := 2000000) only [vc_ret, vc_seq, vc_rg, thenQ_n, blockQ_e, kKeep_eq, loopQ_e, finQ_r, segs_nil, segs_n, ops_nil, ops_cons, vcOp, ev, look, put_mk, keep_mk, keepL, Value.oneCell', cond_true, Nat.reduceEqDiff, ↓reduceIte, reduceCtorEq, ptr]
          rw [List.take_length] at hrs
          have hgood : ({ p with T := T3, ds := p.ds.take f ++ rs, red := ((p.ds.drop f).length : Int) } : PL).good (ptr (L .mk)) kb (q + p.ds.length + ops.length) := by
            have hkk : rs.map Done.k = cs.map Done.k := by
              have h := congrArg (List.map Op.k) hrs
              rw [List.map_map, List.map_map] at h
              exact h
            refine ⟨hF3.up (by omega), hg.bok, hg.bgood, ?_, ?_, fun x hx => ?_⟩
            · simp only [List.length_append, List.length_take]; omega
            · have := placed_rising (cs := cs) (news := news) hg.ris hrn hrc (by rw [hf]; exact hpc)
              rw [hf, List.map_append] at this
              simp only [List.map_append, hkk]
              exact this
            · rcases List.mem_append.1 hx with hx | hx
              · exact hg.ops x (List.mem_of_mem_take hx)
              · have : x.op ∈ cs.map (·.op) := by rw [← hrs]; exact List.mem_map.2 ⟨x, hx, rfl⟩
                obtain ⟨y, hy, e⟩ := List.mem_map.1 this
                rw [← e]
                exact hco y hy
          have hout : ∀ x ∈ p.ds.take f, (x.taken && decide (x.k ∈ ops.map Op.k)) = false := fun x hx => by
            rw [Bool.and_eq_false_iff]
            right
            rw [decide_eq_false_iff_not]
            intro hm
            obtain ⟨op, hop, e⟩ := List.mem_map.1 hm
            exact (hlook.new op hop).1 (by rw [e]; exact List.mem_map.2 ⟨x, List.mem_of_mem_take hx, rfl⟩)
          refine fin_m m3 rfl (fun _ _ h => h) ⟨fun h => absurd hlk h, fun _ => ⟨L3, _, _, hL3, hL4, rfl, hM3, hgood, ⟨?_, rfl, rfl, rfl, ?_, fun hall => ?_, ?_⟩⟩⟩
          · simp only [List.map_append, hrs]
            have := placed_perm (ds := p.ds) (cs := cs) (news := news) (by rw [hf]; exact hpc) hpn
            rw [hf, List.map_append] at this
            exact this
          · simp only; omega
          · have : f = p.ds.length := by rw [← hf]; exact frontA_all fun op hop => hall op (hpn.mem_iff.1 hop)
            simp only [hol]
            omega
          · simp only [List.filter_append]
            have e0 : (p.ds.take f).filter (fun d => d.taken && decide (d.k ∈ ops.map Op.k)) = [] := List.filter_eq_nil_iff.2 (fun x hx => by rw [hout x hx]; simp)
            rw [e0, List.nil_append]
  rw [hov] at hS3 ⊢
  simp (maxSteps := 2000000) only [List.length_map, vc_skip, vc_seq, vc_rg, vc_rga, vc_ite, thenQ_n, kKeep_eq, segs_nil, segs_n, ops_nil, ops_cons, ot_op, ot_or, vcOp, ev, look, put_mk, keep_mk, keepL, rowE, rowD, binV, binC, Value.oneCell', cond_true, Nat.reduceEqDiff, ↓reduceIte, reduceCtorEq, List.nil_append, Nat.zero_add, Nat.add_zero, Bool.true_and, true_and, Int.reduceToNat, Int.reduceLE, decide_eq_true_eq, decide_eq_false_iff_not, br_t, getT_nil, List.length_map, gStamp_fits, gOp_fld0, gOp_get0, getD_gOp]
  refine ⟨fun h => ⟨by omega, ?_⟩, fun h => ?_⟩
  · obtain ⟨op, l, rfl⟩ : ∃ op l, news = op :: l := by
      cases news with
      | nil => simp at h
      | cons op l => exact ⟨op, l, rfl⟩
    refine ⟨ld_of _ hS3 rfl ?_, ld_of _ hS3 rfl ?_⟩
    all_goals
      simp (maxSteps := 2000000) only [List.getD_cons_zero, segs_nil, segs_n, ops_nil, ops_cons, ot_op, vcOp, ev, look, put_mk, rowD, Nat.reduceEqDiff, ↓reduceIte, Bool.true_and, true_and, List.map_cons, List.length_cons, getT_nil, List.length_map, gStamp_fits, gOp_get0]
      refine call_ism _ [.s (.int .i64 (posA p.ds op.k)), .s (.bool (hasA p.ds op.k))] rfl rfl (fun w' vs hv _ _ hm => ?_) ?_
      · obtain ⟨vs, rfl, _, hv⟩ := argsV_g hv
        obtain ⟨vs, rfl, _, hv⟩ := argsV_g hv
        obtain ⟨vs, rfl, _, hv⟩ := argsV_g hv
        obtain rfl := argsV_nil hv
        rw [← hov2]
        exact search_spec w' ov p.ds m hm hSo hof op.stamp (by omega) hg.ris
      simp (maxSteps := 2000000) only [retS, List.getElem?_cons_succ, List.getElem?_cons_zero, thenQ_n, kKeep_eq, segs_nil, segs_n, ops_nil, ops_cons, ot_done, ot_op, vcOp, ev, look, put_mk, keep_mk, keepL, Nat.reduceEqDiff, ↓reduceIte, reduceCtorEq]
      exact tail _ (ge_of (by simp [frIn, look, frontA]) (by simp [pvIn, look]) rfl rfl rfl)
  · obtain rfl : news = [] := by
      cases news with
      | nil => rfl
      | cons op l => simp at h
    exact tail _ (ge_of (by simp [frIn, look, frontA]) (by simp [pvIn, look]) rfl rfl rfl)
end Go.Proofs.YtmjiojflncffeaaGreat.Vc

/- A log: what would be, its tree, its base; a log is cut. -/
set_option linter.unusedVariables false
set_option linter.unusedSimpArgs false
set_option maxRecDepth 100000
namespace Go.Proofs.YtmjiojflncffeaaGreat.Vc
open Go Go.Proofs

theorem nameB_sz {b : ByteArray} (h : nameB b = true) : b.size ≤ 255 := by
  have := nameA_len h
  simpa using this
/-- What a tree tells may be asked for again. -/
theorem told_bnd {T : PT} {k : Nat} (hok : T.ok k) (hg : VGood T.view) : (nodesTold T).length ≤ k + 2 ∧ (∀ r ∈ nodesTold T, r.attrs.length ≤ k + 2) ∧ (∀ r ∈ nodesTold T, r.name.size ≤ 140737488355328) ∧ ∀ r ∈ nodesTold T, (Lit.int .i64 r.node).wf = true := by
  refine ⟨Nat.le_trans (nodesTold_len T) hok.many, fun r hr => by have := nodesTold_few hok hr; omega, fun r hr => ?_, fun r hr => ?_⟩
  · obtain ⟨n, _, x, hx, rfl⟩ := toldL_node hr
    show x.name.size ≤ _
    cases ht : topB n with
    | true =>
      have : x.name = ⟨#[]⟩ := (hg.top n _ (PT.view_get hx) ht).2
      rw [this]; decide
    | false =>
      have : nameB x.name = true := hg.name n _ (PT.view_get hx) ht
      have := nameB_sz this
      omega
  · obtain ⟨n, _, x, hx, rfl⟩ := toldL_node hr
    exact hok.keys n x hx
section
variable {w : World} {u : PH} {b : Nat} {L Lb : Lay} {p : PL} {kb q : Nat}
theorem nodesT (hu : u.le w) {T : PT} {k : Nat} (hT : TM u L T) (hok : T.ok k) (hk : k ≤ 1099511627776) : Spec Tryz.prog f_tree_Tree_Nodes [ptr (L .t)] PH.no w fun rs m' => ∃ v ts, rs = [.s v] ∧ SlR m' v 4 (ts.map gTreeNode) ∧ TsOk m' ts (nodesTold T) :=
  Nodes_spec w u hu L T hT (ok_tells hok hk)
theorem twin_spec (hu : u.le w) {T : PT} {k : Nat} (hT : TM u L T) (hok : T.ok k) (hg : VGood T.view) (hk : k + 4 < 1099511627776) :
    Spec Tryz.prog f_oplog_twin [ptr (L .t)] PH.no w fun rs m' => ∃ L' T', rs = [.s (ptr (L' .t))] ∧ TM m' L' T' ∧ T'.ok (k + 2) ∧ VGood T'.view ∧ T'.kidsOk ∧ T'.view = T.view := by
  refine spec_of k_oplog_twin [.g (.s (ptr (L .t)))] (by simp) (by simp [AV.ok, GV.ok, Value.oneCell', ptr]) ?_
  simp (maxSteps := 2000000) only [c_oplog_twin, ptr, vc_seq, vc_rg, thenQ_n, kKeep_eq, segs_nil, segs_n, ops_nil, ops_cons, vcOp, ev, look, put_mk, keep_mk, keepL, Value.oneCell', cond_true, ↓reduceIte, reduceCtorEq, initF, initP, ptr]
  refine call_frzm rfl rfl (Q := fun rs m' => ∃ v ts, rs = [.s v] ∧ SlR m' v 4 (ts.map gTreeNode) ∧ TsOk m' ts (nodesTold T)) (fun w' vs hv hw _ _ => ?_) fun rs m2 _ hq => ?_
  · obtain ⟨vs, rfl, _, hv⟩ := argsV_g hv
    obtain rfl := argsV_nil hv
    exact nodesT (fun b o h => hw b o (by rw [u0_no]; exact hu b o h)) hT hok (by omega)
  obtain ⟨v, ts, rfl, hs, hts⟩ := hq
  simp (maxSteps := 2000000) only [retS, ops_cons, vcOp, put_mk]
  obtain ⟨hfr, hfv⟩ := told_from hok hg
  obtain ⟨b1, b2, b3, b4⟩ := told_bnd hok hg
  refine call_ownm rfl rfl (Q := fun rs m' => ∃ L' T', rs = [.s (ptr (L' .t)), .s (.int .i64 0)] ∧ TM m' L' T' ∧ T'.ok (k + 2) ∧ VGood T'.view ∧ T'.kidsOk ∧ T'.view = T.view) (fun w' vs hv _ hph _ => ?_) fun rs m3 _ hq _ => ?_
  · obtain ⟨vs, rfl, _, hv⟩ := argsV_g hv
    obtain rfl := argsV_nil hv
    refine (From_spec w' v ts (nodesTold T) m2 (hph m2 (by simp)) hs hts (k + 2) (by omega) b1 b2 b3 b4).mono fun rs m' h => ?_
    obtain ⟨L', T', e1, e2, e3, e4, e5, e6⟩ := h.1 hfr
    exact ⟨L', T', e1, e2, e3, e4, e5, e6.trans hfv⟩
  obtain ⟨L', T', rfl, h1, h2, h3, h4, h5⟩ := hq
  simp (maxSteps := 2000000) only [retS, List.getElem?_cons_succ, List.getElem?_cons_zero, vc_ret, vc_seq, vc_rg, thenQ_n, kKeep_eq, finQ_r, segs_nil, segs_n, ops_nil, ops_cons, vcOp, ev, look, put_mk, keep_mk, keepL, Nat.reduceEqDiff, ↓reduceIte, ptr]
  exact fin_m m3 rfl (by rw [uni_no_r]; exact fun _ _ h => h) ⟨L', T', rfl, h1, h2, h3, h4, h5⟩
theorem logTree_spec (hu : u.le w) (hL : LogM u b L Lb p) {mk : Value} (hg : p.good mk kb q) (hq : q + 4 < 1099511627776) :
    Spec Tryz.prog f_oplog_Log_Tree [ptr b] PH.no w fun rs m' => ∃ L' T', rs = [.s (ptr (L' .t))] ∧ TM m' L' T' ∧ T'.ok (q + 2) ∧ VGood T'.view ∧ T'.kidsOk ∧ T'.view = p.T.view := by
  refine spec_of k_oplog_Log_Tree [.g (.s (ptr b))] (by simp) (by simp [AV.ok, GV.ok, Value.oneCell', ptr]) ?_
  obtain ⟨ov, mT, mB, hS, ⟨hT1, hT2⟩, hB, hs⟩ := hL.look
  simp (maxSteps := 2000000) only [c_oplog_Log_Tree, ptr, vc_seq, vc_rg, thenQ_n, kKeep_eq, segs_nil, segs_n, ops_nil, ops_cons, vcOp, ev, look, put_mk, keep_mk, keepL, Value.oneCell', cond_true, ↓reduceIte, reduceCtorEq, initF, initP, ptr]
  have hu' : ∀ {w' : World}, (Ctx.u0 ⟨Tryz.prog, 11, w, PH.no⟩).le w' → u.le w' := fun hw b o h => hw b o (by rw [u0_no]; exact hu b o h)
  refine call_ism _ [.s (.bool false)] rfl rfl (fun w' vs hv hw _ _ => ?_) ?_
  · obtain ⟨vs, rfl, _, hv⟩ := argsV_g hv
    obtain rfl := argsV_nil hv
    exact logNone_spec (hu' hw) hL
  simp (maxSteps := 2000000) only [retS, vc_skip, vc_seq, vc_rg, vc_ite, thenQ_n, kKeep_eq, segs_nil, segs_n, ops_nil, ops_cons, vcOp, ev, look, put_mk, keep_mk, keepL, ↓reduceIte, reduceCtorEq, Nat.add_zero, ↓br_ft]
  refine ld_of _ (hs (kn_u hu)).1 rfl ?_
  simp (maxSteps := 2000000) only [ptr, ops_cons, vcOp, put_mk, ptr]
  refine call_ownm rfl rfl (Q := fun rs m' => ∃ L' T', rs = [.s (ptr (L' .t))] ∧ TM m' L' T' ∧ T'.ok (q + 2) ∧ VGood T'.view ∧ T'.kidsOk ∧ T'.view = p.T.view) (fun w' vs hv hw _ _ => ?_) fun rs m3 _ hq _ => ?_
  · obtain ⟨vs, rfl, _, hv⟩ := argsV_g hv
    obtain rfl := argsV_nil hv
    exact twin_spec (u := mT) (fun b o h => hu' hw b o (hT1 b o h)) hT2 hg.tok hg.tgood hq
  obtain ⟨L', T', rfl, h1, h2⟩ := hq
  simp (maxSteps := 2000000) only [retS, vc_ret, thenQ_n, kKeep_eq, finQ_r, segs_nil, ops_nil, ops_cons, vcOp, ev, look, put_mk, keep_mk, keepL, ↓reduceIte, ptr]
  exact fin_m m3 rfl (by rw [uni_no_r]; exact fun _ _ h => h) ⟨L', T', rfl, h1, h2⟩
theorem logBase_spec (hu : u.le w) (hL : LogM u b L Lb p) {mk : Value} (hg : p.good mk kb q) (hq : q ≤ 1099511627776) :
    Spec Tryz.prog f_oplog_Log_Base [ptr b] PH.no w fun rs m' => ∃ v ts, rs = [.s v] ∧ SlR m' v 4 (ts.map gTreeNode) ∧ TsOk m' ts (nodesTold p.B) := by
  refine spec_of k_oplog_Log_Base [.g (.s (ptr b))] (by simp) (by simp [AV.ok, GV.ok, Value.oneCell', ptr]) ?_
  obtain ⟨ov, mT, mB, hS, hT, ⟨hB1, hB2⟩, hs⟩ := hL.look
  simp (maxSteps := 2000000) only [c_oplog_Log_Base, ptr, vc_seq, vc_rg, thenQ_n, kKeep_eq, segs_nil, segs_n, ops_nil, ops_cons, vcOp, ev, look, put_mk, keep_mk, keepL, Value.oneCell', cond_true, ↓reduceIte, reduceCtorEq, initF, initP, ptr]
  have hu' : ∀ {w' : World}, (Ctx.u0 ⟨Tryz.prog, 10, w, PH.no⟩).le w' → u.le w' := fun hw b o h => hw b o (by rw [u0_no]; exact hu b o h)
  refine call_ism _ [.s (.bool false)] rfl rfl (fun w' vs hv hw _ _ => ?_) ?_
  · obtain ⟨vs, rfl, _, hv⟩ := argsV_g hv
    obtain rfl := argsV_nil hv
    exact logNone_spec (hu' hw) hL
  simp (maxSteps := 2000000) only [retS, vc_skip, vc_seq, vc_rg, vc_ite, thenQ_n, kKeep_eq, segs_nil, segs_n, ops_nil, ops_cons, vcOp, ev, look, put_mk, keep_mk, keepL, ↓reduceIte, reduceCtorEq, Nat.zero_add, ↓br_ft]
  refine ld_of _ (hs (kn_u hu)).2.1 rfl ?_
  simp (maxSteps := 2000000) only [ptr, ops_cons, vcOp, put_mk, ptr]
  refine call_ownm rfl rfl (Q := fun rs m' => ∃ v ts, rs = [.s v] ∧ SlR m' v 4 (ts.map gTreeNode) ∧ TsOk m' ts (nodesTold p.B)) (fun w' vs hv hw _ _ => ?_) fun rs m3 _ hq _ => ?_
  · obtain ⟨vs, rfl, _, hv⟩ := argsV_g hv
    obtain rfl := argsV_nil hv
    exact nodesT (u := mB) (fun b o h => hu' hw b o (hB1 b o h)) hB2 hg.bok (by have := hg.many; omega)
  obtain ⟨v, ts, rfl, h1, h2⟩ := hq
  simp (maxSteps := 2000000) only [retS, vc_ret, thenQ_n, kKeep_eq, finQ_r, segs_nil, ops_nil, ops_cons, vcOp, ev, look, put_mk, keep_mk, keepL, ↓reduceIte]
  exact fin_m m3 rfl (by rw [uni_no_r]; exact fun _ _ h => h) ⟨v, ts, rfl, h1, h2⟩
end
end Go.Proofs.YtmjiojflncffeaaGreat.Vc

/- The code of some functions of the program, its types resolved: printed by a program of this claim. -/
set_option linter.unusedVariables false
set_option maxRecDepth 100000
namespace Go.Proofs.YtmjiojflncffeaaGreat.Vc
open Go Go.Proofs

abbrev f_ref12_SameNode : Nat := 55
def c_ref12_SameNode_L0 : Cd :=
 (.seq (.seq (.rg [⟨none, [(some 34, .mv (.t 5)), (some 35, .fldA (.t 2) 3 3), (some 36, .ld (.t 35) 1 false), (some 37, .len (.t 36)), (some 38, .bin .lss (.t 34) (.t 37))]⟩] [2, 3, 5, 38])
 (.ite (.t 38)
 .skip
 (.exit 0)))
 (.seq (.block 1 (.seq (.rgq [⟨none, [(some 41, .fldA (.t 2) 3 3), (some 42, .ld (.t 41) 1 false), (some 43, .mv (.t 5)), (some 44, .idxS (.t 42) (.t 43) 2), (some 45, .ld (.t 44) 2 true), (some 46, .fldA (.t 3) 3 3), (some 47, .ld (.t 46) 1 false), (some 48, .mv (.t 5)), (some 49, .idxS (.t 47) (.t 48) 2), (some 50, .ld (.t 49) 2 true)]⟩] [⟨none, [(some 51, .eqA true 75 (.t 45) (.t 50))]⟩] [2, 3, 5, 51])
 (.ite (.t 51)
 (.seq (.rg [⟨none, [(some 4, .mv (.c (.bool false)))]⟩] [4])
 .ret)
 .skip)))
 (.rg [⟨none, [(some 39, .mv (.t 5)), (some 40, .bin .add (.t 39) (.c (.int .i64 1))), (some 5, .mv (.t 40))]⟩] [2, 3, 5])))
def c_ref12_SameNode : Cd :=
 (.seq (.rg [⟨none, [(some 2, .box 49 (.t 0)), (some 3, .box 49 (.t 1)), (some 4, .mv (.c (.bool false)))]⟩] [2, 3])
 (.seq (.seq (.rg [⟨none, [(some 6, .fldA (.t 2) 0 0), (some 7, .ld (.t 6) 1 false), (some 8, .fldA (.t 3) 0 0), (some 9, .ld (.t 8) 1 false), (some 10, .bin .neq (.t 7) (.t 9)), (some 11, .mv (.t 10))]⟩, ⟨some (11, false), [(some 12, .fldA (.t 2) 1 1), (some 13, .ld (.t 12) 1 false), (some 14, .fldA (.t 3) 1 1), (some 15, .ld (.t 14) 1 false), (some 16, .bin .neq (.t 13) (.t 15))]⟩, ⟨none, [(some 17, .pick (.t 11) (.c (.bool true)) (.t 16)), (some 18, .mv (.t 17))]⟩, ⟨some (18, false), [(some 19, .fldA (.t 2) 2 2), (some 20, .ld (.t 19) 1 false), (some 21, .fldA (.t 3) 2 2), (some 22, .ld (.t 21) 1 false), (some 23, .bin .neq (.t 20) (.t 22))]⟩, ⟨none, [(some 24, .pick (.t 18) (.c (.bool true)) (.t 23)), (some 25, .mv (.t 24))]⟩, ⟨some (25, false), [(some 26, .fldA (.t 2) 3 3), (some 27, .ld (.t 26) 1 false), (some 28, .len (.t 27)), (some 29, .fldA (.t 3) 3 3), (some 30, .ld (.t 29) 1 false), (some 31, .len (.t 30)), (some 32, .bin .neq (.t 28) (.t 31))]⟩, ⟨none, [(some 33, .pick (.t 25) (.c (.bool true)) (.t 32))]⟩] [2, 3, 33])
 (.ite (.t 33)
 (.seq (.rg [⟨none, [(some 4, .mv (.c (.bool false)))]⟩] [4])
 .ret)
 .skip))
 (.seq (.seq (.rg [⟨none, [(some 5, .mv (.c (.int .i64 0)))]⟩] [2, 3, 5])
 (.block 0 (.loop c_ref12_SameNode_L0)))
 (.seq (.rg [⟨none, [(some 4, .mv (.c (.bool true)))]⟩] [4])
 .ret))))
theorem k_ref12_SameNode : Ok Tryz.prog 55 c_ref12_SameNode 52 [(6, 10)] [.tmp 4] := Ok.mk' Tryz.func55 (by kernel_rfl) (by kernel_rfl) (by kernel_rfl)

abbrev f_ref12_Same : Nat := 20
def c_ref12_Same_L0 : Cd :=
 (.seq (.seq (.rg [⟨none, [(some 11, .mv (.t 5)), (some 12, .mv (.t 0)), (some 13, .len (.t 12)), (some 14, .bin .lss (.t 11) (.t 13))]⟩] [0, 1, 5, 14])
 (.ite (.t 14)
 .skip
 (.exit 0)))
 (.seq (.block 1 (.seq (.rgq [⟨none, [(some 17, .mv (.t 0)), (some 18, .mv (.t 5)), (some 19, .idxS (.t 17) (.t 18) 4), (some 20, .ld (.t 19) 4 true), (some 21, .mv (.t 1)), (some 22, .mv (.t 5)), (some 23, .idxS (.t 21) (.t 22) 4), (some 24, .ld (.t 23) 4 true)]⟩] [⟨none, [(some 25, .call 55 [(.t 20), (.t 24)]), (some 26, .un .not (.t 25))]⟩] [0, 1, 5, 26])
 (.ite (.t 26)
 (.seq (.rg [⟨none, [(some 4, .mv (.c (.bool false)))]⟩] [4])
 .ret)
 .skip)))
 (.rg [⟨none, [(some 15, .mv (.t 5)), (some 16, .bin .add (.t 15) (.c (.int .i64 1))), (some 5, .mv (.t 16))]⟩] [0, 1, 5])))
def c_ref12_Same : Cd :=
 (.seq (.rg [⟨none, [(some 4, .mv (.c (.bool false)))]⟩] [0, 1])
 (.seq (.seq (.rg [⟨none, [(some 6, .mv (.t 0)), (some 7, .len (.t 6)), (some 8, .mv (.t 1)), (some 9, .len (.t 8)), (some 10, .bin .neq (.t 7) (.t 9))]⟩] [0, 1, 10])
 (.ite (.t 10)
 (.seq (.rg [⟨none, [(some 4, .mv (.c (.bool false)))]⟩] [4])
 .ret)
 .skip))
 (.seq (.seq (.rg [⟨none, [(some 5, .mv (.c (.int .i64 0)))]⟩] [0, 1, 5])
 (.block 0 (.loop c_ref12_Same_L0)))
 (.seq (.rg [⟨none, [(some 4, .mv (.c (.bool true)))]⟩] [4])
 .ret))))
theorem k_ref12_Same : Ok Tryz.prog 20 c_ref12_Same 27 [(6, 8)] [.tmp 4] := Ok.mk' Tryz.func20 (by kernel_rfl) (by kernel_rfl) (by kernel_rfl)

end Go.Proofs.YtmjiojflncffeaaGreat.Vc

/- The document's lists of nodes: compared. -/
set_option linter.unusedVariables false
set_option linter.unusedSimpArgs false
set_option maxRecDepth 100000
namespace Go.Proofs.YtmjiojflncffeaaGreat.Vc
open Go Go.Proofs

theorem SlR.spot {u : PH} {a : Option Addr} {n c z : Nat} {xs : List GV} (h : SlR u (.slice a n c) z xs) (hne : 0 < xs.length) :
    ∃ b o, a = some ⟨b, o, none⟩ ∧ n = xs.length ∧ n ≤ c ∧ ∀ {C : Ctx} {ph : List PH} {m : PH}, KN C.u0 (m :: ph) u → ∀ i x, xs[i]? = some x → Seen C ph m b (o + i * z) x := by
  rcases h.shape with ⟨h1, _⟩ | ⟨_, b, o, c', h1, h2, h3⟩
  · subst h1; simp at hne
  · simp only [Value.slice.injEq] at h1
    obtain ⟨rfl, rfl, rfl⟩ := h1
    exact ⟨b, o, rfl, rfl, h2, h3⟩
theorem seen_fst {C : Ctx} {ph : List PH} {m : PH} {b o : Nat} {x y : GV} (h : Seen C ph m b o (.c x y)) : Seen C ph m b o x := by
  obtain ⟨h1, cs, e, fz, h2, h3⟩ := h
  exact ⟨h1.1, cs, e, fz, h2, fun j v hj => h3 j v (by
    rw [GV.flat, List.getElem?_append_left (List.getElem?_eq_some_iff.1 hj).1]; exact hj)⟩
theorem TnOk_one {u : PH} {t : TreeNode} {l : List Attr} (h : SlR u t.attrs 2 (l.map gAttr)) : t.attrs.oneCell' = true := by
  rcases h.2 with ⟨e, _⟩ | ⟨ad, c, e, _⟩ <;> rw [e] <;> rfl

theorem rSameNode_spec (w : World) (t1 t2 : TreeNode) (a b : TN) (u : PH) (hu : u.le w) (h1 : t1.node = a.node ∧ t1.parent = a.parent ∧ t1.name = a.name ∧ SlR u t1.attrs 2 (a.attrs.map gAttr)) (h2 : t2.node = b.node ∧ t2.parent = b.parent ∧ t2.name = b.name ∧ SlR u t2.attrs 2 (b.attrs.map gAttr))
    (hb : a.attrs.length ≤ 140737488355328) :
    Spec Tryz.prog f_ref12_SameNode [(gTreeNode t1).val, (gTreeNode t2).val] PH.no w fun rs _ => rs = [.s (.bool (decide (a = b)))] := by
  refine spec_val k_ref12_SameNode (Qf := fun rs => rs = [.s (.bool (decide (a = b)))]) [.g (gTreeNode t1), .g (gTreeNode t2)] (by simp) (by simp [AV.ok, gTreeNode_ok t1 (TnOk_one h1.2.2.2), gTreeNode_ok t2 (TnOk_one h2.2.2.2)]) ?_
  obtain ⟨n1, p1, m1, la⟩ := a
  obtain ⟨n2, p2, m2, lb⟩ := b
  obtain ⟨n1', p1', m1', v1⟩ := t1
  obtain ⟨n2', p2', m2', v2⟩ := t2
  obtain ⟨e1, e2, e3, h1⟩ := h1
  obtain ⟨g1, g2, g3, h2⟩ := h2
  simp only at e1 e2 e3 g1 g2 g3 h1 h2 hb
  subst e1; subst e2; subst e3; subst g1; subst g2; subst g3
  obtain ⟨a1, c1, hv1⟩ := slr_len h1
  obtain ⟨a2, c2, hv2⟩ := slr_len h2
  rw [List.length_map] at hv1 hv2
  subst hv1; subst hv2
  simp (maxSteps := 2000000) only [c_ref12_SameNode, vc_skip, vc_ret, vc_seq, vc_block, vc_rg, vc_ite, thenQ_n, thenQ_r, kKeep_eq, segs_nil, segs_n, segs_g, ops_nil, ops_cons, vcOp, RO.isGh, skip_mk, skipL, ev, look, updL, put_mk, keep_mk, keepL, binV, binC, GV.getT, Value.oneCell', cond_true, cond_false, Nat.reduceEqDiff, ↓reduceIte, reduceCtorEq, List.nil_append, Nat.zero_add, Bool.true_and, Bool.not_false, true_and, initF, initP, finW_r, resL, resOne, ↓br_tt, ↓br_tf, ↓br_ft, br_t, br_f, getT_nil, fits_s, gTreeNode_fld0, gTreeNode_get0, gTreeNode_fld1, gTreeNode_get1, gTreeNode_fld2, gTreeNode_get2, gTreeNode_fld3, gTreeNode_get3]
  refine ⟨fun k1 => ⟨fun k2 => ⟨fun k3 => ⟨fun k4 => ?_, fun k4 => ?_⟩, fun k3 => ?_⟩, fun k2 => ?_⟩, fun k1 => ?_⟩
  · rw [bne_iff_ne] at k4
    rw [decide_eq_false fun e => k4 (by cases e; rfl)]
  · rw [bne_eq_false_iff_eq] at k1 k2 k4
    simp only [Bool.not_eq_false', decide_eq_true_eq] at k3
    have hll : la.length = lb.length := by omega
    subst k1; subst k2; subst k3
    refine vc_loop (ι := Nat) (fun i => ⟨[(2, .ref 2 []), (3, .ref 3 []), (5, .g (.s (.int .i64 (i))))], [(2, .box (gTreeNode ⟨n1', p1', m1', .slice a1 la.length c1⟩)), (3, .box (gTreeNode ⟨n1', p1', m1', .slice a2 lb.length c2⟩))], [], PH.no⟩) (fun i => i ≤ la.length ∧ la.take i = lb.take i) (fun i => la.length - i) 0 (by simp) (ge_of ?_ ?_ rfl rfl rfl) ?_
    · simp [frIn, look]
    · simp [pvIn, look]
    rintro i ⟨hi, hj⟩
    generalize hQ : loopQ _ _ _ _ _ = Q
    by_cases hlt : i < la.length
    · obtain ⟨b1, o1, rfl, _, _, s1⟩ := h1.spot (by simp; omega)
      obtain ⟨b2, o2, rfl, _, _, s2⟩ := h2.spot (by simp; omega)
      have hx1 : (la.map gAttr)[i]? = some (gAttr (la.getD i zAttr)) := by rw [List.getElem?_map, List.getD_eq_getElem?_getD, List.getElem?_eq_getElem hlt]; rfl
      have hx2 : (lb.map gAttr)[i]? = some (gAttr (lb.getD i zAttr)) := by rw [List.getElem?_map, List.getD_eq_getElem?_getD, List.getElem?_eq_getElem (by omega)]; rfl
      simp (maxSteps := 2000000) only [c_ref12_SameNode_L0, vc_skip, vc_exit, vc_seq, vc_block, vc_rg, vc_rgq, vc_ite, thenQ_n, thenQ_e, kKeep_eq, segs_nil, segs_n, ops_nil, ops_cons, qsegs_n, qops_cons, vcqOp, vcOp, isRd, ev, look, put_mk, keep_mk, keepL, binV, binC, GV.getT, Nat.reduceEqDiff, ↓reduceIte, List.nil_append, Bool.true_and, Bool.not_false, true_and, Int.toNat_natCast, decide_eq_true_eq, decide_eq_false_iff_not, br_t, getT_nil, fits_s, gTreeNode_fld3, gTreeNode_get3]
      refine ⟨fun _ => ⟨⟨by omega, by omega⟩, ld_of _ (s1 (kn_u hu) i _ hx1) (gAttr_fits _) ?_⟩, fun h => absurd (show (i : Int) < la.length by omega) h⟩
      simp (maxSteps := 2000000) only [qops_cons, vcqOp, vcOp, isRd, ev, look, put_mk, GV.getT, Nat.reduceEqDiff, ↓reduceIte, List.nil_append, Bool.true_and, Bool.not_false, true_and, Int.toNat_natCast, getT_nil, fits_s, gTreeNode_fld3, gTreeNode_get3]
      refine ⟨⟨by omega, by omega⟩, ld_of _ (s2 (kn_u hu) i _ hx2) (gAttr_fits _) ?_⟩
      simp (maxSteps := 2000000) only [segs_n, ops_cons, qsegs_nil, qops_nil, vcOp, ev, look, put_mk, Nat.reduceEqDiff, ↓reduceIte]
      refine eq_of (eqG_attr _ _) ?_
      simp (maxSteps := 2000000) only [Bool.not_eq_true', Bool.not_eq_false', decide_eq_false_iff_not, decide_eq_true_eq, vc_skip, vc_ret, vc_seq, vc_rg, vc_ite, thenQ_n, thenQ_r, blockQ_n, blockQ_r, kKeep_eq, segs_nil, segs_n, ops_nil, ops_cons, vcOp, ev, look, put_mk, keep_mk, keepL, binV, binC, Value.oneCell', cond_true, Nat.reduceEqDiff, ↓reduceIte, Bool.true_and, true_and, decide_eq_true_eq, decide_eq_false_iff_not, br_t, Bool.bne_true]
      refine ⟨fun hne => ?_, fun he => ?_⟩
      · subst hQ
        simp (maxSteps := 2000000) only [thenQ_r, blockQ_r, loopQ_r, look, ↓reduceIte, finW_r, resL, resOne]
        rw [decide_eq_false fun e => hne (by cases e; rfl)]
      · subst hQ; simp only [loopQ_n]; refine ⟨i + 1, ?_, ?_, ge_of ?_ ?_ rfl rfl rfl⟩
        · refine ⟨by omega, ?_⟩
          rw [List.take_add_one, List.take_add_one, hj]
          congr 1
          rw [List.getD_eq_getElem?_getD, List.getD_eq_getElem?_getD, List.getElem?_eq_getElem (by omega), List.getElem?_eq_getElem (by omega)] at he
          rw [List.getElem?_eq_getElem (by omega), List.getElem?_eq_getElem (by omega)]
          simpa using he
        · omega
        · simp only [frIn, look, Nat.reduceEqDiff, ↓reduceIte, Bool.and_true, Bool.true_and, true_and, and_true]
          rw [wrap_n (by omega)]
          try simp
        · simp [pvIn, look]
    · simp (maxSteps := 2000000) only [c_ref12_SameNode_L0, vc_skip, vc_exit, vc_seq, vc_block, vc_rg, vc_rgq, vc_ite, thenQ_n, thenQ_e, kKeep_eq, segs_nil, segs_n, ops_nil, ops_cons, qsegs_nil, qsegs_n, qops_nil, qops_cons, vcqOp, vcOp, isRd, ev, look, put_mk, keep_mk, keepL, rowE, rowD, binV, binC, GV.getT, Nat.reduceEqDiff, ↓reduceIte, List.nil_append, Bool.true_and, Bool.not_false, true_and, decide_eq_true_eq, decide_eq_false_iff_not, br_t, getT_nil, fits_s, gTreeNode_fld3, gTreeNode_get3]
      refine ⟨fun h => absurd (show i < la.length by omega) hlt, fun _ => ?_⟩
      subst hQ
      simp (maxSteps := 2000000) only [vc_ret, vc_seq, vc_rg, thenQ_n, blockQ_e, kKeep_eq, loopQ_e, segs_nil, segs_n, ops_nil, ops_cons, vcOp, ev, look, put_mk, keep_mk, keepL, Value.oneCell', cond_true, ↓reduceIte, finW_r, resL, resOne]
      have e1 : la.take i = la := List.take_of_length_le (by omega)
      have e2 : lb.take i = lb := List.take_of_length_le (by omega)
      rw [e1, e2] at hj
      rw [decide_eq_true (by rw [hj])]
  · rw [decide_eq_false fun e => by cases e; simp at k3]
  · rw [bne_iff_ne] at k2
    rw [decide_eq_false fun e => k2 (by cases e; rfl)]
  · rw [bne_iff_ne] at k1
    rw [decide_eq_false fun e => k1 (by cases e; rfl)]

theorem rSame_spec (w : World) (va vb : Value) (ts1 ts2 : List TreeNode) (l1 l2 : List TN) (u : PH) (hu : u.le w) (ha : SlR u va 4 (ts1.map gTreeNode)) (hb : SlR u vb 4 (ts2.map gTreeNode)) (h1 : TsOk u ts1 l1) (h2 : TsOk u ts2 l2)
    (hn : ts1.length ≤ 140737488355328) (hs1 : ∀ t ∈ l1, t.attrs.length ≤ 140737488355328) :
    Spec Tryz.prog f_ref12_Same [va, vb] PH.no w fun rs _ => rs = [.s (.bool (decide (l1 = l2)))] := by
  refine spec_val k_ref12_Same (Qf := fun rs => rs = [.s (.bool (decide (l1 = l2)))]) [.ro va 4 (gTreeNode zTreeNode) (ts1.map gTreeNode), .ro vb 4 (gTreeNode zTreeNode) (ts2.map gTreeNode)] (by simp) (by simpa [AV.ok, u0_no] using ⟨ha.up hu.sub, hb.up hu.sub⟩) ?_
  have hl1 := h1.len
  have hl2 := h2.len
  simp (maxSteps := 2000000) only [c_ref12_Same, vc_skip, vc_ret, vc_seq, vc_block, vc_rg, vc_ite, thenQ_n, thenQ_r, kKeep_eq, segs_nil, segs_n, ops_nil, ops_cons, vcOp, ev, look, put_mk, keep_mk, keepL, binV, binC, Value.oneCell', cond_true, Nat.reduceEqDiff, ↓reduceIte, reduceCtorEq, Nat.zero_add, Bool.true_and, true_and, initF, initP, finW_r, resL, resOne, br_t, List.length_map, List.length_map]
  refine ⟨fun hne => ?_, fun heq => ?_⟩
  · rw [bne_iff_ne] at hne
    rw [decide_eq_false fun e => hne (by rw [hl1, hl2, e])]
  rw [bne_eq_false_iff_eq] at heq
  refine vc_loop (ι := Nat) (fun i => ⟨[(0, .row 0 0 (ts1.length)), (1, .row 1 0 (ts2.length)), (5, .g (.s (.int .i64 (i))))], [(0, .ro 4 (gTreeNode zTreeNode) (ts1.map gTreeNode)), (1, .ro 4 (gTreeNode zTreeNode) (ts2.map gTreeNode))], [], PH.no⟩) (fun i => i ≤ ts1.length ∧ l1.take i = l2.take i) (fun i => ts1.length - i) 0 (by simp) (ge_of ?_ ?_ rfl rfl rfl) ?_
  · simp [frIn, look]
  · simp [pvIn, look]
  rintro i ⟨hi, hj⟩
  generalize hQ : loopQ _ _ _ _ _ = Q
  simp (maxSteps := 2000000) only [c_ref12_Same_L0, vc_skip, vc_exit, vc_seq, vc_block, vc_rg, vc_rgq, vc_ite, thenQ_n, thenQ_e, kKeep_eq, segs_nil, segs_n, ops_nil, ops_cons, qsegs_nil, qsegs_n, qops_nil, qops_cons, vcqOp, vcOp, isRd, ev, look, put_mk, keep_mk, keepL, rowE, rowD, binV, binC, Nat.reduceEqDiff, ↓reduceIte, reduceCtorEq, Nat.zero_add, Bool.true_and, true_and, Int.toNat_natCast, decide_eq_true_eq, decide_eq_false_iff_not, br_t, getT_nil, gTreeNode_fits, getD_gTreeNode]
  refine ⟨fun hlt => ⟨⟨by omega, by omega⟩, ⟨by omega, by omega⟩, ?_⟩, fun hlt => ?_⟩
  · have g1 := h1.at i (by omega)
    have g2 := h2.at i (by omega)
    have hm1 : l1.getD i zTN ∈ l1 := by rw [List.getD_eq_getElem?_getD, List.getElem?_eq_getElem (by omega)]; exact List.getElem_mem _
    refine call_is _ [.s (.bool (decide (l1.getD i zTN = l2.getD i zTN)))] rfl rfl (fun w' vs hv hw => ?_) ?_
    · obtain ⟨vs, rfl, _, hv⟩ := argsV_g hv
      obtain ⟨vs, rfl, _, hv⟩ := argsV_g hv
      obtain rfl := argsV_nil hv
      intro _
      exact rSameNode_spec w' _ _ _ _ u (fun b o h => hw b o (by rw [u0_no]; exact hu b o h)) g1 g2 (hs1 _ hm1)
    simp (maxSteps := 2000000) only [retS, Bool.not_eq_true', Bool.not_eq_false', decide_eq_false_iff_not, decide_eq_true_eq, vc_skip, vc_ret, vc_seq, vc_rg, vc_ite, thenQ_n, thenQ_r, blockQ_n, blockQ_r, kKeep_eq, segs_nil, segs_n, ops_nil, ops_cons, vcOp, ev, look, put_mk, keep_mk, keepL, binV, binC, unV, Value.oneCell', cond_true, Nat.reduceEqDiff, ↓reduceIte, reduceCtorEq, Bool.true_and, true_and, decide_eq_true_eq, decide_eq_false_iff_not, br_t]
    refine ⟨fun hne => ?_, fun he => ?_⟩
    · subst hQ
      simp (maxSteps := 2000000) only [thenQ_r, blockQ_r, loopQ_r, look, ↓reduceIte, finW_r, resL, resOne]
      rw [decide_eq_false fun e => hne (by rw [e])]
    · subst hQ; simp only [loopQ_n]; refine ⟨i + 1, ?_, ?_, ge_of ?_ ?_ rfl rfl rfl⟩
      · refine ⟨by omega, ?_⟩
        rw [List.take_add_one, List.take_add_one, hj]
        congr 1
        rw [List.getD_eq_getElem?_getD, List.getD_eq_getElem?_getD, List.getElem?_eq_getElem (by omega), List.getElem?_eq_getElem (by omega)] at he
        rw [List.getElem?_eq_getElem (by omega), List.getElem?_eq_getElem (by omega)]
        simpa using he
      · omega
      · simp only [frIn, look, Nat.reduceEqDiff, ↓reduceIte, reduceCtorEq, Bool.and_true, Bool.true_and, true_and, and_true]
        rw [wrap_n (by omega)]
        try simp
      · simp [pvIn, look]
  · subst hQ
    simp (maxSteps := 2000000) only [vc_ret, vc_seq, vc_rg, thenQ_n, blockQ_e, kKeep_eq, loopQ_e, segs_nil, segs_n, ops_nil, ops_cons, vcOp, ev, look, put_mk, keep_mk, keepL, Value.oneCell', cond_true, ↓reduceIte, finW_r, resL, resOne]
    have e1 : l1.take i = l1 := List.take_of_length_le (by omega)
    have e2 : l2.take i = l2 := List.take_of_length_le (by omega)
    rw [e1, e2] at hj
    rw [decide_eq_true hj]
end Go.Proofs.YtmjiojflncffeaaGreat.Vc

/- A log is cut. -/
set_option linter.unusedVariables false
set_option linter.unusedSimpArgs false
set_option maxRecDepth 100000
namespace Go.Proofs.YtmjiojflncffeaaGreat.Vc
open Go Go.Proofs

/-- How many operations are at or below a time. -/
def cutA (ds : List Done) (t : Int) : Nat := (ds.takeWhile fun d => decide (d.op.stamp.time ≤ t)).length
theorem cutA_le (ds : List Done) (t : Int) : cutA ds t ≤ ds.length := (List.takeWhile_prefix _).length_le
theorem cutA_of : ∀ {ds : List Done} {t : Int} {i : Nat}, i ≤ ds.length → (∀ j, j < i → (ds.getD j zDone).op.stamp.time ≤ t) → (i < ds.length → ¬ (ds.getD i zDone).op.stamp.time ≤ t) → cutA ds t = i
  | [], t, i, h, _, _ => by simp at h; subst h; rfl
  | d :: ds, t, 0, _, _, h => by
    have : ¬ d.op.stamp.time ≤ t := h (by simp)
    simp [cutA, List.takeWhile_cons, this]
  | d :: ds, t, i + 1, h, h1, h2 => by
    have h0 : d.op.stamp.time ≤ t := h1 0 (by omega)
    have ih := cutA_of (ds := ds) (t := t) (i := i) (by simpa using h) (fun j hj => h1 (j + 1) (by omega)) (fun hi => h2 (by simpa using hi))
    simp only [cutA] at ih
    simp [cutA, List.takeWhile_cons, h0, ih]
/-- The log behind a cut. -/
def PL.cut (p : PL) (t : Int) (i1 : List Int) : PL := { p with B := ideal p.B ((p.ds.take (cutA p.ds t)).map (·.op)), fr := t, ds := p.ds.drop (cutA p.ds t), i0 := i1 }
theorem PL.good.cut {p : PL} {mk : Value} {kb q : Nat} (h : p.good mk kb q) (t : Int) : ∃ i1, (p.cut t i1).good mk (kb + cutA p.ds t) q := by
  have hl := cutA_le p.ds t
  generalize hn : cutA p.ds t = n at hl
  have hh := h.fl.hist
  rw [← List.take_append_drop n p.ds] at hh
  obtain ⟨i1, _, h2⟩ := hh.drop
  have ho : ∀ op ∈ (p.ds.take n).map (·.op), OpOk op := fun op hop => by
    obtain ⟨d, hd, rfl⟩ := List.mem_map.1 hop
    exact h.ops d (List.mem_of_mem_take hd)
  refine ⟨i1, ⟨⟨?_, ?_, h.fl.ex, h.fl.last, h.fl.ids⟩, ?_, ?_, ?_, ?_, ?_⟩⟩
  · simp only [PL.cut, hn]; exact h2
  · simp only [PL.cut, hn]
    rw [← ideal_app, ← List.map_append, List.take_append_drop]
    exact h.fl.view
  · simp only [PL.cut, hn]
    have := ideal_ok h.bok ho
    rwa [List.length_map, List.length_take, Nat.min_eq_left hl] at this
  · simp only [PL.cut, hn]
    exact ideal_good h.bok h.bgood ho
  · simp only [PL.cut, hn, List.length_drop]
    have := h.many
    omega
  · simp only [PL.cut, hn]
    exact List.Pairwise.sublist ((List.drop_sublist _ _).map _) h.ris
  · simp only [PL.cut, hn]
    exact fun d hd => h.ops d (List.mem_of_mem_drop hd)

theorem LogM.reI {m : PH} {b : Nat} {L Lb : Lay} {p : PL} (h : LogM m b L Lb p) (i : List Int) : LogM m b L Lb { p with i0 := i } := by
  obtain ⟨ov, e, mo, mT, mB, rfl, q⟩ := h
  exact ⟨ov, e, mo, mT, mB, rfl, ⟨q.d1, q.d2, q.d3, q.ops, q.tree, q.base⟩⟩
theorem sub_skip {a c x : PH} (h : dis a x) : PH.sub (uni c x) (uni c (uni a x)) := fun k o hk => by
  simp only [uni] at hk ⊢
  cases h1 : c k with
  | some y => rw [h1] at hk; simpa [h1] using hk
  | none =>
    rw [h1] at hk
    have hk : x k = some o := by simpa using hk
    have := sub_uni_r h k o hk
    simpa [uni] using this
theorem cut_spec (w : World) (m : PH) (b : Nat) (L Lb : Lay) (p : PL) (hL : LogM m b L Lb p) {mk : Value} {kb q : Nat} (hg : p.good mk kb q) (hq : q < 1099511627776) (hfew : p.ds.length ≤ 549755813888) (t : Int) :
    Spec Tryz.prog f_oplog_Log_Cut [ptr b, .int .i64 t] m w fun rs m' =>
      (t < p.fr ∨ 1099511627776 < t → rs = [.s (.int .i64 1)] ∧ LogM m' b L Lb p) ∧
      (¬ (t < p.fr ∨ 1099511627776 < t) → rs = [.s (.int .i64 0)] ∧ ∀ i1, ∃ Lb', Lb' .t = Lb .t ∧ LogM m' b L Lb' (p.cut t i1)) := by
  refine spec_of k_oplog_Log_Cut [.g (.s (ptr b)), .g (.s (.int .i64 t))] (by simp) (by simp [AV.ok, GV.ok, Value.oneCell', ptr]) ?_
  have hof : ∀ d ∈ p.ds, d.undo.of.oneCell' = true ∨ True := fun d hd => .inr trivial
  obtain ⟨ov0, _, _, hS0, _, _, hs0⟩ := hL.look
  simp (maxSteps := 2000000) only [c_oplog_Log_Cut, ptr, vc_seq, vc_block, vc_rg, thenQ_n, kKeep_eq, segs_nil, segs_n, ops_nil, ops_cons, vcOp, ev, look, put_mk, keep_mk, keepL, Value.oneCell', cond_true, Nat.reduceEqDiff, ↓reduceIte, reduceCtorEq, Nat.zero_add, initF, initP, ptr]
  refine call_ism _ [.s (.bool false)] rfl rfl (fun w' vs hv _ _ hm => ?_) ?_
  · obtain ⟨vs, rfl, _, hv⟩ := argsV_g hv
    obtain rfl := argsV_nil hv
    exact logNone_spec hm hL
  simp (maxSteps := 2000000) only [retS, vc_seq, vc_rg, vc_ite, thenQ_n, kKeep_eq, segs_nil, segs_n, ops_nil, ops_cons, vcOp, ev, look, put_mk, keep_mk, keepL, Nat.reduceEqDiff, ↓reduceIte, reduceCtorEq, Nat.zero_add, ↓br_ft]
  refine ld_of _ (hs0 (KN.mem (by simp))).2.2.1 rfl ?_
  simp (maxSteps := 2000000) only [vc_skip, vc_ret, vc_seq, vc_block, vc_rg, vc_ite, thenQ_n, thenQ_r, blockQ_n, blockQ_r, kKeep_eq, finQ_r, segs_nil, segs_n, segs_g, ops_nil, ops_cons, vcOp, RO.isGh, skip_mk, skipL, ev, look, put_mk, keep_mk, keepL, binV, binC, Value.oneCell', cond_true, cond_false, Nat.reduceEqDiff, ↓reduceIte, reduceCtorEq, Bool.true_and, Bool.not_false, true_and, decide_eq_true_eq, decide_eq_false_iff_not, ↓br_tt, ↓br_ft, br_t, br_f]
  refine ⟨fun h1 => ⟨fun h2 => fin_m m rfl (fun _ _ h => h) ⟨fun _ => ⟨rfl, hL⟩, fun h => absurd (.inr h2) h⟩, fun h2 => ?_⟩, fun h1 => fin_m m rfl (fun _ _ h => h) ⟨fun _ => ⟨rfl, hL⟩, fun h => absurd (.inl h1) h⟩⟩
  refine vc_loop (ι := Nat × Lay × PH) (fun x => ⟨[(0, .g (.s (.pointer (some ⟨b, 0, none⟩)))), (1, .g (.s (.int .i64 (t)))), (5, .g (.s (.int .i64 (x.1))))], [], [], x.2.2⟩)
    (fun x => x.1 ≤ p.ds.length ∧ (∀ j, j < x.1 → (p.ds.getD j zDone).op.stamp.time ≤ t) ∧ x.2.1 .t = Lb .t ∧ LogM x.2.2 b L x.2.1 { p with B := ideal p.B ((p.ds.take x.1).map (·.op)) }) (fun x => p.ds.length - x.1) (0, Lb, m) ⟨by simp, by simp, rfl, hL⟩ (ge_of ?_ ?_ rfl rfl rfl) ?_
  · simp [frIn, look]
  · simp [pvIn, look]
  rintro ⟨n, L1, m1⟩ ⟨hn, hj, hL1, hM⟩
  simp only at hn hj hL1 hM
  generalize hQ : loopQ _ _ _ _ _ = Q
  obtain ⟨ov, mT, mB, hS, _, _, hs⟩ := hM.look
  have hs1 := hs (C := ⟨Tryz.prog, 70, w, m⟩) (ph := []) (m' := m1) (KN.mem (by simp))
  have stop : (n < p.ds.length → ¬ (p.ds.getD n zDone).op.stamp.time ≤ t) → ∀ σ : SS, Ge σ ⟨[(0, .g (.s (.pointer (some ⟨b, 0, none⟩)))), (1, .g (.s (.int .i64 (t)))), (5, .g (.s (.int .i64 (n))))], [], [], m1⟩ → Q (.exit 1) σ := by
    intro hst σ hσ
    subst hQ
    simp only [loopQ_e, blockQ_e, if_true, thenQ_n, vc_seq]
    refine vc_gh_of_ge hσ ?_
    simp (maxSteps := 2000000) only [vc_rg, segs_n, ops_cons, vcOp, ev, look, put_mk, ↓reduceIte, reduceCtorEq, Nat.zero_add]
    have hs3 := hs1.2.2.2.1
    refine ld_of _ hs3 rfl ?_
    simp (maxSteps := 2000000) only [ops_cons, vcOp, ev, look, put_mk, Nat.reduceEqDiff, ↓reduceIte, reduceCtorEq]
    refine gh_id ?_
    refine ops_sl (l := n) (h := p.ds.length) rfl hS rfl (fun d hd => by rw [hd, List.length_map]; rfl) hn (by simp) fun v63 hv1 hv2 => ?_
    rw [List.take_of_length_le (by simp)] at hv2
    simp (maxSteps := 2000000) only [ops_cons, vcOp, put_mk]
    refine call_ownm rfl rfl (Q := fun rs m' => ∃ v', rs = [.s v'] ∧ SlO m' v' 97 22 ((p.ds.drop n).map gDone)) (fun w' vs hv _ _ hm => ?_) fun rs mD _ hq1 hdD => ?_
    · obtain ⟨vs, rfl, _, hv⟩ := argsV_g hv
      obtain rfl := argsV_nil hv
      rw [← List.map_drop] at hv2
      exact cloneD_spec w' v63 _ (by simp; omega) m1 hm hv2
    obtain ⟨vo, rfl, hD⟩ := hq1
    have hdD : dis mD m1 := hdD
    simp (maxSteps := 2000000) only [retS, ops_cons, vcOp, ev, look, put_mk, Nat.reduceEqDiff, ↓reduceIte, reduceCtorEq, Nat.zero_add]
    obtain ⟨ov1, e1, mo, mr, hm1, hdm, hO, hb1, _, hmk⟩ := hM.list
    have hbm := uni_r hdm hb1
    rw [← hm1] at hbm
    have hbd := uni_r hdD hbm.1
    refine st_of rfl _ e1 ⟨hbd.1, by simp⟩ ?_
    simp (maxSteps := 2000000) only [ops_cons, vcOp, ev, look, put_mk, put_mk0, Nat.reduceEqDiff, ↓reduceIte, Nat.zero_add, ptr]
    refine st_of rfl _ e1 ⟨upd_self _ _ _, by simp [writeAt, GV.flat]⟩ ?_
    simp (maxSteps := 2000000) only [vc_ret, vc_seq, vc_rg, thenQ_n, kKeep_eq, finQ_r, segs_nil, segs_n, ops_nil, ops_cons, vcOp, ev, look, put_mk, put_mk0, keep_mk, keepL, Value.oneCell', cond_true, ↓reduceIte]
    rw [upd_upd2, uni_upd hbd.2, hm1, uni_upd hbm.2]
    have hdr : dis mD mr := by rw [hm1] at hdD; exact (dis_of_uni_r hdD).2
    have hcn : cutA p.ds t = n := cutA_of hn hj hst
    have hM2 := hmk (ds' := p.ds.drop n) (fr' := t) (red' := p.red) hD hdr
    refine fin_m (uni mD (mr.upd b (logC L L1 t vo p.red e1))) rfl ?_ ⟨fun h => by omega, fun _ => ⟨rfl, fun i1 => ⟨L1, hL1, ?_⟩⟩⟩
    · exact sub_skip (dis_upd hdm hbm.2)
    · simp only [PL.cut, hcn]
      exact hM2.reI i1
  rcases Nat.lt_or_ge n p.ds.length with hlt | hge
  · obtain ⟨a, c, hov⟩ := slr_len hS
    subst hov
    obtain ⟨bo, oo, rfl, _, _, hsp⟩ := SlR.spot hS (by simp; omega)
    have hel := hsp (C := ⟨Tryz.prog, 70, w, m⟩) (ph := []) (m := m1) (KN.mem (by simp)) n (gDone (p.ds.getD n zDone)) (by rw [List.getElem?_map, List.getD_eq_getElem?_getD, List.getElem?_eq_getElem hlt]; rfl)
    simp only [List.length_map] at hs1
    simp (maxSteps := 2000000) only [c_oplog_Log_Cut_L0, vc_seq, vc_rg, segs_n, ops_cons, vcOp, ev, look, put_mk, Nat.reduceEqDiff, ↓reduceIte, reduceCtorEq, Nat.zero_add]
    have hs3 := hs1.2.2.2.1
    refine ld_of _ hs3 rfl ?_
    simp (maxSteps := 2000000) only [vc_exit, vc_ite, thenQ_n, thenQ_e, kKeep_eq, segs_nil, segs_n, segs_g, ops_nil, ops_cons, vcOp, RO.isGh, skip_mk, skipL, ev, look, put_mk, keep_mk, keepL, binV, binC, Value.oneCell', cond_true, cond_false, Nat.reduceEqDiff, ↓reduceIte, reduceCtorEq, Nat.zero_add, Bool.true_and, Bool.not_true, true_and, decide_eq_true_eq, decide_eq_false_iff_not, ↓br_ft, br_t]
    refine ⟨fun _ => ?_, fun h => by omega⟩
    refine ld_of _ hs3 rfl ?_
    simp (maxSteps := 2000000) only [ops_cons, vcOp, ev, look, put_mk, Nat.reduceEqDiff, ↓reduceIte, reduceCtorEq, Nat.add_zero, Int.toNat_natCast]
    refine ⟨⟨by omega, by omega⟩, ?_⟩
    refine ld_of _ (seen_fst (seen_fst (seen_fst hel))) rfl ?_
    simp (maxSteps := 2000000) only [vc_skip, vc_exit, vc_seq, vc_block, vc_rgq, vc_ite, thenQ_n, thenQ_e, kKeep_eq, segs_nil, segs_n, ops_nil, ops_cons, qsegs_n, qops_cons, vcqOp, vcOp, isRd, ev, look, put_mk, keep_mk, keepL, binV, binC, Value.oneCell', cond_true, Nat.reduceEqDiff, ↓reduceIte, reduceCtorEq, Nat.zero_add, Bool.true_and, true_and, decide_eq_true_eq, decide_eq_false_iff_not, ↓br_tt, br_t]
    refine ⟨fun hle => ?_, fun hle => ?_⟩
    · have hs2 := hs1.2.1
      rw [hL1] at hs2
      refine ld_of _ hs2 rfl ?_
      simp (maxSteps := 2000000) only [ptr, qops_cons, vcqOp, vcOp, isRd, ev, look, put_mk, ↓reduceIte, reduceCtorEq, Nat.zero_add, Bool.true_and, true_and, ptr]
      refine ld_of _ hs3 rfl ?_
      simp (maxSteps := 2000000) only [qops_cons, vcqOp, vcOp, isRd, ev, look, put_mk, Nat.reduceEqDiff, ↓reduceIte, reduceCtorEq, Nat.add_zero, Bool.true_and, true_and, Int.toNat_natCast]
      refine ⟨⟨by omega, by omega⟩, ?_⟩
      refine ld_of _ (seen_fst hel) (gOp_fits _) ?_
      simp (maxSteps := 2000000) only [segs_n, ops_cons, qsegs_nil, qops_nil, vcOp, put_mk]
      obtain ⟨d, hd⟩ : ∃ d, p.ds.getD n zDone = d := ⟨_, rfl⟩
      have hdm : d ∈ p.ds := hd ▸ getD_in hlt zDone
      rw [hd] at hle ⊢
      have hop := hg.ops d hdm
      obtain ⟨mB1, mr1, hm1, hdm1, hB1, hback⟩ := hM.base
      have hok : (ideal p.B ((p.ds.take n).map (·.op))).ok q := by
        have := ideal_ok (l := (p.ds.take n).map (·.op)) hg.bok fun op h => by
          obtain ⟨x, hx, rfl⟩ := List.mem_map.1 h
          exact hg.ops x (List.mem_of_mem_take hx)
        refine this.up ?_
        have := hg.many
        simp only [List.length_map, List.length_take]
        omega
      refine call_with mB1 mr1 (dOk_spec rfl) rfl hm1 hdm1 (Q := fun rs m' => (∃ a c, rs = [a, c]) ∧ ∃ L2, L2 .t = Lb .t ∧ TM m' L2 ((ideal p.B ((p.ds.take n).map (·.op))).step d.op)) (fun w' vs hv _ _ => ?_) fun rs mB' _ hq1 hdB => ?_
      · obtain ⟨vs, rfl, _, hv⟩ := argsV_g hv
        obtain ⟨vs, rfl, _, hv⟩ := argsV_g hv
        obtain rfl := argsV_nil hv
        have := (Do_spec w' mB1 L1 (ideal p.B ((p.ds.take n).map (·.op))) d.op hop.2 (ok_fits hok (by omega)) hB1).mono fun rs m' h => (show (∃ a c, rs = [a, c]) ∧ ∃ L2, L2 .t = L1 .t ∧ TM m' L2 ((ideal p.B ((p.ds.take n).map (·.op))).step d.op) from by
          cases hmay : mayA (ideal p.B ((p.ds.take n).map (·.op))) d.op with
          | false => exact ⟨⟨_, _, (h.1 hmay).1⟩, L1, rfl, by rw [step_no hmay]; exact (h.1 hmay).2⟩
          | true =>
            obtain ⟨L2, e1, e2, e3, e4⟩ := h.2 hmay
            exact ⟨⟨_, _, e3⟩, L2, e1, by rw [step_yes hmay]; exact e4⟩)
        rw [hL1] at this
        exact this
      obtain ⟨⟨ra, rc, rfl⟩, L2, h21, hT2⟩ := hq1
      simp (maxSteps := 2000000) only [retS, vc_rg, thenQ_n, blockQ_n, kKeep_eq, segs_nil, segs_n, ops_nil, ops_cons, vcOp, ev, look, put_mk, keep_mk, keepL, binV, binC, Value.oneCell', cond_true, Nat.reduceEqDiff, ↓reduceIte, reduceCtorEq, Bool.true_and, true_and]
      subst hQ; simp only [loopQ_n]; refine ⟨(n + 1, L2, uni mB' mr1), ?_, ?_, ge_of ?_ ?_ rfl rfl rfl⟩
      · refine ⟨by simp only; omega, fun j hj' => ?_, h21, ?_⟩
        · rcases Nat.lt_succ_iff_lt_or_eq.1 hj' with h4 | rfl
          · exact hj j h4
          · rw [hd]; exact hle
        · simp only
          have := hback (h21.trans hL1.symm) hT2 hdB
          rw [take_at hlt zDone, hd, List.map_append, List.map_cons, List.map_nil, ideal_snoc]
          exact this
      · simp only; omega
      · simp only [frIn, look, Nat.reduceEqDiff, ↓reduceIte, reduceCtorEq, Bool.and_true, Bool.true_and, true_and, and_true]
        rw [wrap_n (by omega)]
        try simp
      · simp [pvIn, look]
    · exact stop (fun _ => hle) _ (ge_of (by simp [frIn, look]) (by simp [pvIn, look]) rfl rfl rfl)
  · obtain ⟨a, c, hov⟩ := slr_len hS
    subst hov
    simp only [List.length_map] at hs1
    simp (maxSteps := 2000000) only [c_oplog_Log_Cut_L0, vc_seq, vc_rg, segs_n, ops_cons, vcOp, ev, look, put_mk, Nat.reduceEqDiff, ↓reduceIte, reduceCtorEq, Nat.zero_add]
    refine ld_of _ hs1.2.2.2.1 rfl ?_
    simp (maxSteps := 2000000) only [vc_exit, vc_ite, thenQ_n, thenQ_e, kKeep_eq, segs_nil, segs_n, segs_g, ops_nil, ops_cons, vcOp, RO.isGh, skip_mk, skipL, ev, look, put_mk, keep_mk, keepL, binV, binC, Value.oneCell', cond_true, cond_false, Nat.reduceEqDiff, ↓reduceIte, reduceCtorEq, Nat.zero_add, Bool.true_and, Bool.not_true, true_and, decide_eq_true_eq, decide_eq_false_iff_not, ↓br_ft, br_t]
    refine ⟨fun h => by omega, fun _ => ?_⟩
    exact stop (fun h => by omega) _ (ge_of (by simp [frIn, look]) (by simp [pvIn, look]) rfl rfl rfl)
end Go.Proofs.YtmjiojflncffeaaGreat.Vc

/- A log that operations come to: in steps; what the law asks of every log first. -/
set_option linter.unusedVariables false
set_option linter.unusedSimpArgs false
set_option maxRecDepth 100000
namespace Go.Proofs.YtmjiojflncffeaaGreat.Vc
open Go Go.Proofs Go.Proofs.YtmjiojflncffeaaGreat Go.ChangeShapes Go.WideShapes Go.ChangeAt

/-- How many may have been done, where so many are there. -/
def tri (n : Nat) : Nat := n * (n + 1) / 2
theorem tri_step (n c : Nat) (hc : 1 ≤ c) : tri n + n + c ≤ tri (n + c) := by
  unfold tri
  obtain ⟨d, rfl⟩ : ∃ d, c = d + 1 := ⟨c - 1, by omega⟩
  have e : (n + (d + 1)) * (n + (d + 1) + 1) = n * (n + 1) + 2 * (n + (d + 1)) + (2 * (n * d) + d * (d + 1)) := by
    simp only [Nat.mul_add, Nat.add_mul, Nat.mul_one, Nat.one_mul]
    rw [Nat.mul_comm d n]
    omega
  have h1 : (n + (d + 1)) * (n + (d + 1) + 1) / 2 ≥ (n * (n + 1) + 2 * (n + (d + 1))) / 2 := Nat.div_le_div_right (by omega)
  have h2 : (n * (n + 1) + 2 * (n + (d + 1))) / 2 = n * (n + 1) / 2 + (n + (d + 1)) := by omega
  omega
theorem tri_le {n : Nat} (h : n ≤ 1200000) : tri n ≤ 720000600000 := by
  unfold tri
  have : n * (n + 1) ≤ 1200000 * 1200001 := Nat.mul_le_mul h (by omega)
  omega
theorem PL.good.up {p : PL} {mk : Value} {kb q q' : Nat} (h : p.good mk kb q) (hq : q ≤ q') : p.good mk kb q' := ⟨h.fl.up hq, h.bok, h.bgood, by have := h.many; omega, h.ris, h.ops⟩

theorem ops_len {p p' : PL} {ops : List Op} {n : Int} (h : Added p ops p' n) : p'.ds.length = p.ds.length + ops.length := by
  have := h.perm.length_eq
  simpa using this
/-- A step: what Add answers, the measure with it. -/
def StepQ (b : Nat) (L Lb : Lay) (p : PL) (kb : Nat) (ops : List Op) (rs : List GV) (m' : PH) : Prop :=
  (lookE p.ds p.fr [] ops ≠ 0 → rs = [.s (.int .i64 0), .s (.int .i64 (lookE p.ds p.fr [] ops))] ∧ LogM m' b L Lb p) ∧
  (lookE p.ds p.fr [] ops = 0 → ∃ L' p' n, L' .t = L .t ∧ L' .mk = L .mk ∧ rs = [.s (.int .i64 n), .s (.int .i64 0)] ∧ LogM m' b L' Lb p' ∧ p'.good (ptr (L .mk)) kb (tri p'.ds.length) ∧ Added p ops p' n)
theorem step_spec (w : World) (m : PH) (b : Nat) (L Lb : Lay) (p : PL) (hL : LogM m b L Lb p) {kb : Nat} (hg : p.good (ptr (L .mk)) kb (tri p.ds.length)) (v : Value) (ops : List Op) (ho : ∀ op ∈ ops, OpIn op ∧ OpOk op) (h1 : 1 ≤ ops.length) (hS : SlR (but w m) v 8 (ops.map gOp)) (hfew : p.ds.length ≤ 1048576) (hsum : p.ds.length + ops.length ≤ 1200000) (hon : ops.length ≤ 1048576) :
    Spec Tryz.prog f_oplog_Log_Add [ptr b, v] m w (StepQ b L Lb p kb ops) := by
  have ht := tri_step p.ds.length ops.length h1
  have ht2 := tri_le hsum
  refine (add_spec w m b L Lb p hL hg v ops ⟨hon, ho⟩ hS (by omega) hfew).mono fun rs m' h => ⟨h.1, fun h0 => ?_⟩
  obtain ⟨L', p', n, e1, e2, e3, e4, e5, e6⟩ := h.2 h0
  exact ⟨L', p', n, e1, e2, e3, e4, e5.up (by rw [ops_len e6]; exact ht), e6⟩

/-- What is wrong with one operation. -/
theorem lookE_one (ds : List Done) (fr : Int) (op : Op) : lookE ds fr [] [op] = if checkE op ≠ 0 then checkE op else if op.stamp.time ≤ fr then 130 else if hasA ds op.k = true then 5 else 0 := by
  simp only [lookE, List.not_mem_nil, or_false]

def liveOp : Op := ⟨⟨1, 0⟩, 1, 24, 1, ⟨#[97]⟩, ⟨#[]⟩, ⟨#[]⟩⟩
theorem liveOp_in : OpIn liveOp ∧ OpOk liveOp := ⟨⟨by decide, by decide, by decide⟩, by decide, by decide⟩
theorem liveOp_check : checkE liveOp = 0 := by decide +kernel
theorem liveOp_may : mayA T0 liveOp = true := by decide +kernel
theorem liveOp_told : (nodesTold (T0.step liveOp)).length = 1 := by
  rw [step_yes liveOp_may]
  have hp : (nodesK (T0.does liveOp)).Perm [1, 2, 24] := List.mergeSort_perm _ _
  have hl := ((hp.filterMap fun n => ((T0.does liveOp).get n).map fun x => toldOf n x).filter TN.shown).length_eq
  show ((List.filterMap _ _).filter _).length = 1
  rw [hl]
  have h1 : (T0.does liveOp).get 1 = some ⟨0, ⟨#[]⟩, [], [24]⟩ := rfl
  have h2 : (T0.does liveOp).get 2 = some ⟨0, ⟨#[]⟩, [], []⟩ := rfl
  have h3 : (T0.does liveOp).get 24 = some ⟨1, ⟨#[97]⟩, [], []⟩ := rfl
  simp [h1, h2, h3, List.filterMap_cons, toldOf, TN.shown, attrsOf, attrKeys, sortB, topB, List.filter_cons]
/-- One operation, put to a log. -/
theorem one_split {w' : World} {m1 : PH} {b : Nat} {L Lb : Lay} {p : PL} (hL : LogM m1 b L Lb p) {kb : Nat} (hg : p.good (ptr (L .mk)) kb (tri p.ds.length)) (hfew : p.ds.length ≤ 1048576) {v' : Value} {op : Op} (ho : OpIn op ∧ OpOk op) (hs : SlR (but w' m1) v' 8 [gOp op]) :
    Spec Tryz.prog f_oplog_Log_Add [ptr b, v'] m1 w' (StepQ b L Lb p kb [op]) :=
  step_spec w' m1 b L Lb p hL hg v' [op] (by simpa using ho) (by simp) hs hfew (by simp; omega) (by simp)
theorem live13_spec (w : World) : Spec Tryz.prog f_law13_live [] PH.no w fun rs _ => rs = [.s (.bool true)] := by
  refine spec_val k_law13_live (Qf := fun rs => rs = [.s (.bool true)]) [] (by simp) (by simp [AV.ok]) ?_
  simp (maxSteps := 2000000) only [c_law13_live, vc_seq, vc_rg, thenQ_n, kKeep_eq, segs_nil, segs_n, ops_nil, ops_cons, vcOp, ev, put_mk, keep_mk, keepL, Value.oneCell', cond_true, initF, initP, gStamp_zero, gOp_zero]
  refine call_ownm rfl rfl (Q := fun rs m' => ∃ b L Lb, rs = [.s (ptr b)] ∧ LogM m' b L Lb PL.new) (fun w' vs hv hw _ _ => ?_) fun rs m0 _ hq _ => ?_
  · obtain rfl := argsV_nil hv
    exact logNew_spec w'
  obtain ⟨b, L, Lb, rfl, hL⟩ := hq
  simp (maxSteps := 2000000) only [retS, uni_no_r, vc_seq, vc_rg, thenQ_n, kKeep_eq, segs_nil, segs_n, ops_nil, ops_cons, vcOp, ev, look, put_mk, keep_mk, keepL, Value.oneCell', cond_true, ↓reduceIte, ptr]
  refine eq_of (eqLog b) ?_
  simp (maxSteps := 2000000) only [vc_skip, vc_seq, vc_rg, vc_ite, thenQ_n, kKeep_eq, segs_nil, segs_n, ops_nil, ops_cons, vcOp, ev, evL, gvL, look, updL, put_mk, keep_mk, keepL, GV.getT, GV.same, Value.oneCell', cond_true, Nat.reduceEqDiff, ↓reduceIte, Nat.zero_add, Bool.and_true, Bool.true_and, true_and, and_true, List.map_cons, List.map_nil, Option.map_some, szAll, List.length_cons, List.length_nil, ↓br_ft, Bool.bne_false, GV.bldT, GV.bldC, same_int, getT_nil, gStamp_same, gStamp_get0, gStamp_set0, gOp_sz, gOp_get0, gOp_set0, gOp_get1, gOp_set1, gOp_get2, gOp_set2, gOp_get3, gOp_set3, gOp_get4, gOp_set4]
  refine ⟨rfl, ⟨rfl, rfl, rfl, rfl, rfl⟩, ?_⟩
  refine call_split m0 PH.no rfl rfl (uni_no_r _).symm (dis_no_r _) (Q := StepQ b L Lb PL.new 0 [liveOp]) (fun w' vs hv _ _ _ => ?_) fun rs m1 _ hq _ => ?_
  · obtain ⟨vs, rfl, _, hv⟩ := argsB_g hv
    obtain ⟨v', vs, rfl, hs, hv⟩ := argsB_row (z := 8) (xs := [gOp liveOp]) rfl rfl hv
    obtain rfl := argsB_nil hv
    exact one_split hL (PL.new_good _) (by decide) liveOp_in hs
  have hlk : lookE PL.new.ds PL.new.fr [] [liveOp] = 0 := by rw [lookE_one, liveOp_check]; decide
  obtain ⟨L', p', n, hL1, hL2, rfl, hM, hg, hA⟩ := hq.2 hlk
  simp (maxSteps := 2000000) only [retS, List.getElem?_cons_succ, List.getElem?_cons_zero, uni_no_r, vc_ret, vc_seq, vc_rg, thenQ_n, kKeep_eq, segs_nil, segs_n, segs_g, ops_nil, ops_cons, vcOp, RO.isGh, skip_mk, skipL, ev, look, put_mk, keep_mk, keepL, binV, binC, Value.oneCell', cond_true, cond_false, Nat.reduceEqDiff, ↓reduceIte, Bool.true_and, Bool.not_true, BEq.rfl, true_and, finW_r, resL, resOne, ↓br_tt, ↓br_ft, br_t]
  have hlen : p'.ds.length = 1 := ops_len hA
  obtain ⟨d, hd⟩ : ∃ d, p'.ds = [d] := List.length_eq_one_iff.1 hlen
  have hop : d.op = liveOp := by
    have := hA.perm
    rw [hd] at this
    have := this.mem_iff (a := d.op)
    simpa [PL.new] using this
  have htk : d.taken = true := by
    have hh := hg.fl.hist
    rw [hd] at hh
    have := LHist.taken (ds := []) hh
    rw [hop, hA.B] at this
    rw [this]
    exact liveOp_may
  have hn : n = 1 := by
    rw [hA.n, hd]
    have : d.k = liveOp.k := by show d.op.k = _; rw [hop]
    simp [List.filter_cons, htk, this]
  subst hn
  simp (maxSteps := 2000000) only [Bool.and_true, BEq.rfl, and_true, true_imp_iff, false_imp_iff, Bool.true_eq_false]
  refine call_ism _ [.s (.int .i64 1)] rfl rfl (fun w' vs hv _ _ hm => ?_) ?_
  · obtain ⟨vs, rfl, _, hv⟩ := argsV_g hv
    obtain rfl := argsV_nil hv
    have := logLen_spec hm hM
    rw [hlen] at this
    exact this
  simp (maxSteps := 2000000) only [retS, segs_n, segs_g, ops_nil, ops_cons, vcOp, ev, look, put_mk, binV, binC, Value.oneCell', cond_true, Nat.reduceEqDiff, ↓reduceIte, Bool.true_and, BEq.rfl, true_and, ↓br_tt]
  have hfr : p'.fr = 0 := hA.fr
  refine call_all rfl rfl (Q := fun rs m' => rs = [.s (.int .i64 0)] ∧ ∀ i1, ∃ Lb', Lb' .t = Lb .t ∧ LogM m' b L' Lb' (p'.cut 1 i1)) (fun w' vs hv _ _ => ?_) fun rs m2 _ hq2 => ?_
  · obtain ⟨vs, rfl, _, hv⟩ := argsV_g hv
    obtain ⟨vs, rfl, _, hv⟩ := argsV_g hv
    obtain rfl := argsV_nil hv
    exact (cut_spec w' m1 b L' Lb p' hM hg (by rw [hlen]; decide) (by omega) 1).mono fun rs m' h => h.2 (by rw [hfr]; decide)
  obtain ⟨rfl, hcut⟩ := hq2
  obtain ⟨i1, hgc⟩ := hg.cut 1
  obtain ⟨Lb', _, hMc⟩ := hcut i1
  have hca : cutA p'.ds 1 = 1 := by
    rw [hd]
    have : d.op.stamp.time ≤ 1 := by rw [hop]; decide
    simp [cutA, List.takeWhile_cons, this]
  have hds : (p'.cut 1 i1).ds = [] := by
    show p'.ds.drop (cutA p'.ds 1) = []
    rw [hca, hd]; rfl
  have hB : (p'.cut 1 i1).B = T0.step liveOp := by
    show ideal p'.B ((p'.ds.take (cutA p'.ds 1)).map (·.op)) = _
    rw [hca, hd, hA.B]
    show ideal T0 [d.op] = _
    rw [hop]; rfl
  simp (maxSteps := 2000000) only [retS, segs_n, segs_g, ops_nil, ops_cons, vcOp, ev, look, put_mk, binV, binC, Value.oneCell', cond_true, Nat.reduceEqDiff, ↓reduceIte, Bool.true_and, BEq.rfl, true_and, ↓br_tt]
  refine call_ism _ [.s (.int .i64 0)] rfl rfl (fun w' vs hv _ _ hm => ?_) ?_
  · obtain ⟨vs, rfl, _, hv⟩ := argsV_g hv
    obtain rfl := argsV_nil hv
    have := logLen_spec hm hMc
    rw [hds] at this
    exact this
  simp (maxSteps := 2000000) only [retS, segs_n, segs_g, ops_nil, ops_cons, vcOp, ev, look, put_mk, binV, binC, Value.oneCell', cond_true, Nat.reduceEqDiff, ↓reduceIte, Bool.true_and, BEq.rfl, true_and, ↓br_tt]
  refine call_frzm rfl rfl (Q := fun rs m' => ∃ v ts, rs = [.s v] ∧ SlR m' v 4 (ts.map gTreeNode) ∧ TsOk m' ts (nodesTold (p'.cut 1 i1).B)) (fun w' vs hv _ _ hm => ?_) fun rs m3 _ hq3 => ?_
  · obtain ⟨vs, rfl, _, hv⟩ := argsV_g hv
    obtain rfl := argsV_nil hv
    exact logBase_spec hm hMc hgc (by rw [hlen]; decide)
  obtain ⟨v, ts, rfl, hs, hts⟩ := hq3
  rw [hB] at hts
  have htl := hts.len
  rw [liveOp_told] at htl
  obtain ⟨a, c, rfl⟩ := slr_len hs
  simp (maxSteps := 2000000) only [retS, List.length_map, htl, vc_ret, thenQ_n, kKeep_eq, segs_nil, segs_n, ops_nil, ops_cons, vcOp, ev, look, put_mk, keep_mk, keepL, binV, binC, Value.oneCell', cond_true, Nat.reduceEqDiff, ↓reduceIte, Bool.true_and, true_and, finW_r, resL, resOne, ↓br_tt, List.length_map]
  rfl
/-- Operations that came in: what is asked of them. -/
theorem open_OpsIn {H : Type} {enc : TypeId × Value → H} {W : World} {base n : Nat} {v : Value} (h : RdB enc Tryz.prog W 22 v n) (hv : Value.okWide Tryz.prog W .any base 22 v) : ∃ l : List Op, SlR W.ph v 8 (l.map gOp) ∧ l.length ≤ n ∧ ∀ op ∈ l, OpIn op ∧ OpOk op := by
  have hd := rdv_slice (e := 26) (by kernel_rfl) h.v hv
  obtain ⟨l, h1, _, h3⟩ := rd_slice (t := 22) (e := 26) (n0 := 9) (ks := kOp) (g := fun q => gOp (Op.ofRaw q 0)) (by kernel_rfl) (by kernel_rfl) (by kernel_rfl) (by rw [cells_Op]; omega) (fun q => gOp_flat q 0) (fun q _ => gOp_ok _) (fun q => by rw [gOp_sz, cells_Op]) hd
  rw [cells_Op] at h1
  refine ⟨l.map fun q => Op.ofRaw q 0, by rw [List.map_map]; exact h1, ?_, ?_⟩
  · obtain ⟨fuel, x, hx, _, hn⟩ := h
    obtain ⟨_, h1 | ⟨a, c, h1, _⟩⟩ := h1
    · have : l = [] := by simpa using h1.2
      simp [this]
    · subst h1
      have hx' : DataW.trod enc Tryz.prog W 0 (fun _ => true) true fuel 22 [.slice (some a) (l.map fun q => gOp (Op.ofRaw q 0)).length c] = some x := hx
      rcases Go.Deep.open_slice (e := 26) (by kernel_rfl) hx' with ⟨hv', rfl⟩ | ⟨a', len, cap, m, n', D, Pl, hv', _, hlc, _, hm, rfl, hel⟩
      · simp at hv'
      · simp only [List.cons.injEq, Value.slice.injEq, and_true, List.length_map] at hv'
        have h5 := bulk_len ((List.range len).map D)
        rw [List.length_map, List.length_range] at h5
        simp only [Rows.uptoBulk] at hn
        rw [List.length_map]
        omega
  · intro op hop
    obtain ⟨q, hq, rfl⟩ := List.mem_map.1 hop
    have hf := h3 q hq
    have i3 := hf.int (j := 3) (k := .i64) rfl
    have i4 := hf.int (j := 4) (k := .i64) rfl
    have s5 := hf.str (j := 5) rfl
    have em : IntKind.i64.max = 9223372036854775807 := by decide
    refine ⟨⟨?_, ?_, Nat.le_trans s5 (by decide)⟩, ?_, Nat.le_trans s5 (by decide)⟩
    · show q.x 3 < _
      have := i3.2; rw [em] at this; omega
    · show q.x 4 < _
      have := i4.2; rw [em] at this; omega
    · show (decide (IntKind.i64.min ≤ q.x 3) && decide (q.x 3 ≤ IntKind.i64.max)) = true
      rw [Bool.and_eq_true]
      exact ⟨decide_eq_true i3.1, decide_eq_true i3.2⟩
end Go.Proofs.YtmjiojflncffeaaGreat.Vc

/- The code of some functions of the program, its types resolved: printed by a program of this claim. -/
set_option linter.unusedVariables false
set_option maxRecDepth 100000
namespace Go.Proofs.YtmjiojflncffeaaGreat.Vc
open Go Go.Proofs

end Go.Proofs.YtmjiojflncffeaaGreat.Vc

/- OplogRedoes and OplogWould, the walks. -/
set_option linter.unusedVariables false
set_option linter.unusedSimpArgs false
set_option maxRecDepth 100000
namespace Go.Proofs.YtmjiojflncffeaaGreat.Vc
open Go Go.Proofs

/-- No operation is behind this stamp. -/
def Top (p : PL) (s : Stamp) : Prop := ∀ d ∈ p.ds, ¬ ltK s.k d.k
theorem checkE_well {op : Op} (h : checkE op = 0) : Well op := fun hw => by
  rw [checkE_a hw] at h; cases h
theorem checkE_time {op : Op} (h : checkE op = 0) : 1 ≤ op.stamp.time := by
  have := checkE_well h
  unfold Well at this
  have hc : CheckP op.stamp := Classical.byContradiction fun hn => this (.inl hn)
  exact hc.1
/-- A log on its way through the law. -/
structure Way1 (b : Nat) (m : PH) (L Lb : Lay) (p : PL) (s : Stamp) (i : Nat) : Prop where
  M : LogM m b L Lb p
  good : p.good (ptr (L .mk)) 0 (tri p.ds.length)
  few : p.ds.length ≤ i
  fr : p.fr = 0
  top : Top p s
end Go.Proofs.YtmjiojflncffeaaGreat.Vc

/- The code of some functions of the program, its types resolved: printed by a program of this claim. -/
set_option linter.unusedVariables false
set_option maxRecDepth 100000
namespace Go.Proofs.YtmjiojflncffeaaGreat.Vc
open Go Go.Proofs

end Go.Proofs.YtmjiojflncffeaaGreat.Vc

/- OplogOrders, the walk. -/
set_option linter.unusedVariables false
set_option linter.unusedSimpArgs false
set_option maxRecDepth 100000
namespace Go.Proofs.YtmjiojflncffeaaGreat.Vc
open Go Go.Proofs

/-- What was accepted. -/
def Goods (l : List Op) : Prop := ∀ op ∈ l, (OpIn op ∧ OpOk op) ∧ checkE op = 0
/-- A log that has these, in its order. -/
structure Way2 (b : Nat) (m : PH) (L Lb : Lay) (p : PL) (l : List Op) : Prop where
  M : LogM m b L Lb p
  good : p.good (ptr (L .mk)) 0 (tri p.ds.length)
  fr : p.fr = 0
  B : p.B = T0
  perm : (p.ds.map (·.op)).Perm l
theorem Way2.len {b : Nat} {m : PH} {L Lb : Lay} {p : PL} {l : List Op} (h : Way2 b m L Lb p l) : p.ds.length = l.length := by
  have := h.perm.length_eq
  simpa using this
theorem Way2.rising {b : Nat} {m : PH} {L Lb : Lay} {p : PL} {l : List Op} (h : Way2 b m L Lb p l) : Rising ((p.ds.map (·.op)).map Op.k) := by
  rw [List.map_map]; exact h.good.ris
theorem Way2.nod {b : Nat} {m : PH} {L Lb : Lay} {p : PL} {l : List Op} (h : Way2 b m L Lb p l) : (l.map Op.k).Nodup := by
  have h1 : ((p.ds.map (·.op)).map Op.k).Nodup := h.rising.imp fun h e => by rw [e] at h; exact ltK_irrefl _ h
  exact (h.perm.map _).nodup_iff.1 h1
/-- Two logs of the same operations have trees of one look. -/
theorem Way2.same {b b' : Nat} {m m' : PH} {L Lb L' Lb' : Lay} {p p' : PL} {l l' : List Op} (h : Way2 b m L Lb p l) (h' : Way2 b' m' L' Lb' p' l') (hl : l.Perm l') : p.T.view = p'.T.view := by
  have e : p.ds.map (·.op) = p'.ds.map (·.op) := Rising.uniq (h.perm.trans (hl.trans h'.perm.symm)) h.rising h'.rising
  rw [h.good.fl.view, h'.good.fl.view, e, h.B, h'.B]
theorem Way2.new {b : Nat} {m : PH} {L Lb : Lay} (h : LogM m b L Lb PL.new) : Way2 b m L Lb PL.new [] := ⟨h, (PL.new_good _).up (Nat.zero_le _), rfl, rfl, List.Perm.refl _⟩
/-- What comes, put to it. -/
theorem Way2.add {b : Nat} {m m1 : PH} {L Lb L' : Lay} {p p' : PL} {l ops : List Op} {n : Int} (h : Way2 b m L Lb p l) (hM : LogM m1 b L' Lb p') (hL : L' .mk = L .mk) (hg : p'.good (ptr (L .mk)) 0 (tri p'.ds.length)) (hA : Added p ops p' n) : Way2 b m1 L' Lb p' (l ++ ops) :=
  ⟨hM, by rw [hL]; exact hg, hA.fr.trans h.fr, hA.B.trans h.B, hA.perm.trans (h.perm.append_right _)⟩
/-- What is not there yet may be put there. -/
theorem Way2.may {b : Nat} {m : PH} {L Lb : Lay} {p : PL} {l ops : List Op} (h : Way2 b m L Lb p l) (ho : Goods ops) (hn : ((l ++ ops).map Op.k).Nodup) : lookE p.ds p.fr [] ops = 0 := by
  rw [List.map_append, List.nodup_append] at hn
  refine lookE_of ⟨fun op hop => (ho op hop).2, fun op hop => by rw [h.fr]; have := checkE_time (ho op hop).2; omega, fun op hop => ⟨fun hm => ?_, List.not_mem_nil⟩, hn.2.1⟩
  obtain ⟨d, hd, e⟩ := List.mem_map.1 hm
  have : d.op ∈ l := h.perm.mem_iff.1 (List.mem_map.2 ⟨d, hd, rfl⟩)
  exact hn.2.2 _ (List.mem_map.2 ⟨d.op, this, rfl⟩) _ (List.mem_map.2 ⟨op, hop, rfl⟩) e
end Go.Proofs.YtmjiojflncffeaaGreat.Vc

/- OplogTree, the walk. -/
set_option linter.unusedVariables false
set_option linter.unusedSimpArgs false
set_option maxRecDepth 100000
namespace Go.Proofs.YtmjiojflncffeaaGreat.Vc
open Go Go.Proofs

theorem dis_one {b : Nat} {o : Obj} {x : PH} (h : dis (one b o) x) (o' : Obj) : dis (one b o') x := fun k => by
  rcases h k with h | h
  · simp only [one] at h ⊢
    split at h
    · cases h
    · rename_i hk; left; rw [if_neg hk]
  · exact .inr h
end Go.Proofs.YtmjiojflncffeaaGreat.Vc

/- A loop over a function that asks for no round. -/
set_option linter.unusedVariables false
set_option linter.unusedSimpArgs false
namespace Go.Proofs.YtmjiojflncffeaaGreat.Vc
open Go Go.Shelf

theorem kept_alloc (w : World) (o : Obj) : Kept PH.no w (w.alloc o) := by
  refine ⟨rfl, rfl, rfl, by rw [World.size_alloc]; omega, fun k hk _ => ?_⟩
  show (w.heap.push o)[k]? = _
  rw [Array.getElem?_push_lt hk, Array.getElem?_eq_getElem hk]
theorem kept_trans {a b c : World} (h1 : Kept PH.no a b) (h2 : Kept PH.no b c) : Kept PH.no a c := by
  obtain ⟨k1, k2, k3, k4, k5⟩ := h1
  obtain ⟨q1, q2, q3, q4, q5⟩ := h2
  exact ⟨q1.trans k1, q2.trans k2, q3.trans k3, by omega, fun k hk hn => (q5 k (by omega) hn).trans (k5 k hk hn)⟩
end Go.Proofs.YtmjiojflncffeaaGreat.Vc

/- Code within a round of a loop over a function. -/
set_option linter.unusedVariables false
set_option linter.unusedSimpArgs false
namespace Go.Proofs.YtmjiojflncffeaaGreat.Vc
open Go

def plainO (o : Oper) : Bool := match o.op with
  | .defer _ => false
  | _ => true
/-- Code with no order left open, no deferred call, no loop over a function, no scope. -/
def plainC : Code → Bool
  | .skip => true
  | .ret => true
  | .exit _ => true
  | .label _ => true
  | .seq a b => plainC a && plainC b
  | .cond _ a b => plainC a && plainC b
  | .block _ a => plainC a
  | .loop a => plainC a
  | .region _ ops draw => !draw && ops.all plainO
  | _ => false
/-- Where no function and no depth is barred; in a round, or in none. -/
abbrev fenceR (ro : Option Nat) : Fence := { Fence.wide with round := ro }
theorem semAt_plain (ro : Option Nat) (ρ : Operand → Value) (o : Oper) (h : ∀ c, o.op ≠ .defer c) : Oper.semAt ro ρ o = execOp ρ o := by
  cases ro with
  | some l => exact Oper.semAt_some l ρ o h
  | none => rfl
theorem callsR {P : Program} {f : FuncId} {args : Array Value} {w : World} {R : Ending → World → Prop} (ro : Option Nat) (n : Nat) : CallsIn (fenceR ro) n P f args w R ↔ Calls P f args w R := by
  cases ro with
  | some l => exact ⟨fun h => callsIn_wide.1 (CallsIn.outOfRound (l := l) (F := Fence.wide) h), fun h => CallsIn.inRound (F := Fence.wide) l (callsIn_wide.2 h)⟩
  | none => exact callsIn_wide
def noRaw : Cd → Bool
  | .seq a b => noRaw a && noRaw b
  | .ite _ a b => noRaw a && noRaw b
  | .block _ a => noRaw a
  | .loop a => noRaw a
  | .scope a => noRaw a
  | .gh a => noRaw a
  | .raw _ => false
  | _ => true
/-- Not asked: that a machine outgrows what it has. -/
def QOk (Q : QT) : Prop := ∀ σ, ¬ Q .outgrown σ

theorem listIn_of {P : Program} {ops : Array Oper} {Q : Exit → Act → World → Prop} (ro : Option Nat) (hQ : ∀ a w, ¬ Q .outgrown a w) : ∀ (L : List Oper) (a : Act) (w : World), (∀ o ∈ L, plainO o = true) → wpList P ops Q L a w → wpListIn (fenceR ro) 0 P ops Q L a w
  | [], a, w, _, h => h
  | o :: L, a, w, hp, h => by
    have ih := fun (a : Act) (w : World) => listIn_of (P := P) (ops := ops) (Q := Q) ro hQ L a w (fun o ho => hp o (List.mem_cons_of_mem _ ho))
    have hno : ∀ c, o.op ≠ .defer c := fun c e => by
      have := hp o (by simp)
      rw [plainO, e] at this; cases this
    have hlet : ¬ LetsOut Q := fun ⟨a, w, h⟩ => hQ a w h
    unfold wpList at h
    unfold wpListIn
    by_cases hw : Region.wanted o (yielded ops a.tmps) = true
    · rw [if_pos hw] at h ⊢
      rcases h with h | ⟨_, h⟩
      · refine ⟨fun _ _ => trivial, ?_⟩
        have hsem : o.semAt ro a.eval = execOp a.eval o := semAt_plain ro _ o hno
        rw [hsem]
        unfold Oper.wp at h
        generalize (execOp a.eval o).run P w = r at h ⊢
        cases r with
        | ok x w' =>
          cases x with
          | value v => exact ih _ _ h
          | skip => exact ih _ _ h
          | defer d => exact ih _ _ h
          | enter f args =>
            refine ⟨(fun h => by cases h), ((callsR ro _).2 h).mono fun e w2 he => ?_⟩
            cases e with
            | returned v => exact ih _ _ he
            | panicked ch => exact he
            | outgrown => exact he
          | row row args =>
            refine ⟨(fun h => by cases h), fun c cs _ => ?_⟩
            obtain ⟨v, w2, h1, h2⟩ := h c cs
            exact ⟨v, w2, ih _ _ h1, stepsIn_wide.2 h2⟩
          | _ => exact h.elim
        | halt x w' =>
          cases x with
          | panic v => exact h
          | _ => exact h.elim
      · exact absurd h hlet
    · rw [if_neg hw] at h ⊢
      exact ⟨fun _ _ => trivial, ih _ _ h⟩

section
variable {C : Ctx} {σ : SS} {a : Act} {w : World}
theorem QOk.lift {Q : QT} (h : QOk Q) : ∀ a w, ¬ liftQ C Q .outgrown a w := fun a w ⟨σ, hq, _⟩ => h σ hq
theorem QOk.thenQ {Q : QT} {K : KT} (h : QOk Q) : QOk (thenQ K Q) := fun σ q => h σ q
theorem QOk.blockQ {Q : QT} {id : Nat} (h : QOk Q) : QOk (blockQ id Q) := fun σ q => h σ q
theorem QOk.loopQ {Q : QT} {ι : Type} {st : ι → SS} {inv : ι → Prop} {ms : ι → Nat} {i : ι} (h : QOk Q) : QOk (loopQ st inv ms i Q) := fun σ q => h σ q
/-- What is shown of a round's body holds of it. -/
theorem vc_sound_round (ns : List (Nat × Nat)) (ro : Option Nat) : ∀ (cd : Cd) (code : Code) (Q : QT) (σ : SS) (a : Act) (w : World), comp C.P C.N ns code = er cd → noRaw cd = true → plainC code = true → QOk Q → vc C cd Q σ → Rel C σ a w → code.wpIn (fenceR ro) 0 C.P (liftQ C Q) a w := by
  intro cd
  induction cd with
  | skip =>
    intro code Q σ a w hc hn hp hQk h hR
    cases code <;> simp only [comp, er] at hc <;> (try split at hc) <;> first | (cases hc; done) | (exact (noRegion hc (by intros; simp) (by intros; simp) (by intros; simp) (by intros; simp)).elim) | skip
    · exact wpIn_skip ⟨σ, h, hR⟩
    · exact wpIn_label ⟨σ, h, hR⟩
  | ret =>
    intro code Q σ a w hc hn hp hQk h hR
    cases code <;> simp only [comp, er] at hc <;> (try split at hc) <;> first | (cases hc; done) | (exact (noRegion hc (by intros; simp) (by intros; simp) (by intros; simp) (by intros; simp)).elim) | skip
    exact wpIn_ret ⟨σ, h, hR⟩
  | exit id =>
    intro code Q σ a w hc hn hp hQk h hR
    cases code <;> simp only [comp, er] at hc <;> (try split at hc) <;> first | (cases hc; done) | (exact (noRegion hc (by intros; simp) (by intros; simp) (by intros; simp) (by intros; simp)).elim) | skip
    cases hc
    exact wpIn_exit ⟨σ, h, hR⟩
  | seq x y ihx ihy =>
    intro code Q σ a w hc hn hp hQk h hR
    cases code <;> simp only [comp, er] at hc <;> (try split at hc) <;> first | (cases hc; done) | (exact (noRegion hc (by intros; simp) (by intros; simp) (by intros; simp) (by intros; simp)).elim) | skip
    rename_i x' y'
    simp only [Cd.seq.injEq] at hc
    refine wpIn_seq (wpIn_mono (ihx x' _ σ a w hc.1 (by simp only [noRaw, Bool.and_eq_true] at hn; exact hn.1) (by simp only [plainC, Bool.and_eq_true] at hp; exact hp.1) hQk.thenQ h hR) fun e a' w' hq => ?_)
    obtain ⟨σ', hq, hR'⟩ := hq
    cases e with
    | normal => exact ihy y' Q σ' a' w' hc.2 (by simp only [noRaw, Bool.and_eq_true] at hn; exact hn.2) (by simp only [plainC, Bool.and_eq_true] at hp; exact hp.2) hQk hq hR'
    | _ => exact ⟨σ', hq, hR'⟩
  | ite c x y ihx ihy =>
    intro code Q σ a w hc hn hp hQk h hR
    cases code <;> simp only [comp, er] at hc <;> (try split at hc) <;> first | (cases hc; done) | (exact (noRegion hc (by intros; simp) (by intros; simp) (by intros; simp) (by intros; simp)).elim) | skip
    rename_i c' x' y' _ c2 hc2
    simp only [Cd.ite.injEq] at hc
    obtain ⟨rfl, h1, h2⟩ := hc
    simp only [vc, brB] at h
    split at h
    · rename_i t ht
      have hF := hR.choose_spec.1
      have hv := (hF.ev rfl ht).s
      refine wpIn_cond_split (t := t) (by rw [cOpd_eval hc2 a]; exact hv) (fun e => ihx x' Q σ a w h1 (by simp only [noRaw, Bool.and_eq_true] at hn; exact hn.1) (by simp only [plainC, Bool.and_eq_true] at hp; exact hp.1) hQk (h.1 e) hR) (fun e => ihy y' Q σ a w h2 (by simp only [noRaw, Bool.and_eq_true] at hn; exact hn.2) (by simp only [plainC, Bool.and_eq_true] at hp; exact hp.2) hQk (h.2 e) hR)
    · exact h.elim
  | block id x ih =>
    intro code Q σ a w hc hn hp hQk h hR
    cases code <;> simp only [comp, er] at hc <;> (try split at hc) <;> first | (cases hc; done) | (exact (noRegion hc (by intros; simp) (by intros; simp) (by intros; simp) (by intros; simp)).elim) | skip
    rename_i id' x'
    simp only [Cd.block.injEq] at hc
    obtain ⟨rfl, h1⟩ := hc
    refine wpIn_block (wpIn_mono (ih x' _ σ a w h1 hn hp hQk.blockQ h hR) fun e a' w' hq => ?_)
    obtain ⟨σ', hq, hR'⟩ := hq
    cases e with
    | exit j =>
      simp only [blockQ] at hq
      simp only [Exit.inBlock]
      split
      · rename_i e; rw [if_pos e] at hq; exact ⟨σ', hq, hR'⟩
      · rename_i e; rw [if_neg e] at hq; exact ⟨σ', hq, hR'⟩
    | _ => exact ⟨σ', hq, hR'⟩
  | loop x ih =>
    intro code Q σ a w hc hn hp hQk h hR
    cases code <;> simp only [comp, er] at hc <;> (try split at hc) <;> first | (cases hc; done) | (exact (noRegion hc (by intros; simp) (by intros; simp) (by intros; simp) (by intros; simp)).elim) | skip
    rename_i x'
    simp only [Cd.loop.injEq] at hc
    obtain ⟨ι, st, inv, ms, i0, hi0, hge, hstep⟩ := h
    refine wpIn_loop_ghost (fun n a w => ∃ i, inv i ∧ ms i = n ∧ Rel C (st i) a w) (ms i0) ⟨i0, hi0, rfl, hge.rel hR⟩ fun n a w hI => ?_
    obtain ⟨i, hi, rfl, hRi⟩ := hI
    refine wpIn_mono (ih x' _ (st i) a w hc hn hp hQk.loopQ (hstep i hi) hRi) fun e a' w' hq => ?_
    obtain ⟨σ', hq, hR'⟩ := hq
    cases e with
    | normal =>
      obtain ⟨j, hj, hlt, hge'⟩ := hq
      exact ⟨ms j, hlt, j, hj, rfl, hge'.rel hR'⟩
    | _ => exact ⟨σ', hq, hR'⟩
  | scope x ih =>
    intro code Q σ a w hc hn hp hQk h hR
    cases code <;> simp only [comp, er] at hc <;> (try split at hc) <;> first | (cases hc; done) | (exact (noRegion hc (by intros; simp) (by intros; simp) (by intros; simp) (by intros; simp)).elim) | skip
    cases hp
  | rg segs keep =>
    intro code Q σ a w hc hn hp hQk h hR
    cases code <;> simp only [comp, er] at hc <;> (try split at hc) <;> first | (cases hc; done) | skip
    rename_i id ops draw
    rcases compR_cases C.P C.N ns id ops draw with ⟨rfl, hd, hg, e⟩ | ⟨n, _, _, _, _, _, e⟩ | ⟨_, _, _, _, _, e⟩ | ⟨_, _, _, _, _, _, e⟩ | e
    rotate_left
    · rw [e] at hc; cases hc
    · rw [e] at hc; cases hc
    · rw [e] at hc; cases hc
    · rw [e] at hc; cases hc
    rw [e] at hc
    simp only [Cd.rg.injEq, and_true] at hc
    simp only [Array.all_eq_true_iff_forall_mem] at hd hg
    refine wpIn_region_list ?_
    have := segs_sound (C := C) (ops := ops) (K := kKeep keep Q) (Q := liftQ C Q) (fun σ' a' w' hK hR' => ⟨σ'.keep keep, hK, hR'.keep keep⟩) segs (grp ops ops.toList) σ a w hc (fun x hx o ho => by
      obtain ⟨h1, h2⟩ := grp_mem ops ops.toList x hx o ho
      exact ⟨h1, hd o (by simpa using h2), hg o (by simpa using h2)⟩) hR h
    rw [grp_flat] at this
    simp only [plainC, Bool.and_eq_true, Array.all_eq_true_iff_forall_mem] at hp
    exact listIn_of ro hQk.lift _ _ _ (fun o ho => hp.2 o (by simpa using ho)) this
  | rgq hd' tl keep =>
    intro code Q σ a w hc hn hp hQk h hR
    cases code <;> simp only [comp, er] at hc <;> (try split at hc) <;> first | (cases hc; done) | skip
    rename_i id ops draw
    rcases compR_cases C.P C.N ns id ops draw with ⟨_, _, _, e⟩ | ⟨n, rfl, _, _, _, _, e⟩ | ⟨_, _, _, _, _, e⟩ | ⟨_, _, _, _, _, _, e⟩ | e
    · rw [e] at hc; cases hc
    · simp [plainC] at hp
    · rw [e] at hc; cases hc
    · rw [e] at hc; cases hc
    · rw [e] at hc; cases hc
  | rga t keep =>
    intro code Q σ a w hc hn hp hQk h hR
    cases code <;> simp only [comp, er] at hc <;> (try split at hc) <;> first | (cases hc; done) | skip
    rename_i id ops draw
    rcases compR_cases C.P C.N ns id ops draw with ⟨_, _, _, e⟩ | ⟨n, _, _, _, _, _, e⟩ | ⟨rfl, _, _, _, _, e⟩ | ⟨rfl, _, _, _, _, _, e⟩ | e
    · rw [e] at hc; cases hc
    · rw [e] at hc; cases hc
    · simp [plainC] at hp
    · simp [plainC] at hp
    · rw [e] at hc; cases hc
  | gh x ih =>
    intro code Q σ a w hc hn hp hQk h hR
    obtain ⟨τ, hR', h'⟩ := h a w hR
    exact ih code Q τ a w hc hn hp hQk h' hR'
  | raw c =>
    intro code Q σ a w hc hn hp hQk h hR
    cases hn

end
end Go.Proofs.YtmjiojflncffeaaGreat.Vc

/- A loop over a function, its rounds: what is shown of its body for each value handed in. -/
set_option linter.unusedVariables false
set_option linter.unusedSimpArgs false
namespace Go.Proofs.YtmjiojflncffeaaGreat.Vc
open Go Go.Shelf

/-- What an iterator does: it hands these in, one after another, till it is told to stop; between two rounds it changes nothing that was there. -/
def Iter (P : Program) (gf : Nat) (lb : List Value) (ui : PH) (encs : List (List Value)) : Prop :=
  ∀ (l : Nat) (J : Nat → World → Prop) (Jx : World → Prop) (W : World), ui.le W → (∀ i W W', J i W → Kept PH.no W W' → J i W') → (∀ W W', Jx W → Kept PH.no W W' → Jx W') →
    (∀ i x W, encs[i]? = some x → J i W → YieldAt Fence.wide 0 P l x.toArray W fun e W' => (e = .returned (.bool true) ∧ J (i + 1) W' ∧ ui.le W') ∨ (e = .returned (.bool false) ∧ Jx W')) →
    J 0 W → CallsIn Fence.wide 0 P gf (#[.func (.yield l) #[] #[]] ++ lb.toArray) W fun e W' => (∃ v, e = .returned v) ∧ (J encs.length W' ∨ Jx W')

/-! ### Another beginning -/
noncomputable def baseOf (ph : List PH) (m : PH) (W : World) : PH := fun b => open Classical in if m b ≠ none ∨ ∃ u ∈ ph, u b ≠ none then W.heap[b]? else none
theorem baseOf_in {ph : List PH} {m : PH} {W : World} {b : Nat} (h : m b ≠ none ∨ ∃ u ∈ ph, u b ≠ none) : baseOf ph m W b = W.heap[b]? := by rw [baseOf, if_pos h]
theorem baseOf_out {ph : List PH} {m : PH} {W : World} {b : Nat} (h1 : m b = none) (h2 : ∀ u ∈ ph, u b = none) : baseOf ph m W b = none := by
  rw [baseOf, if_neg]
  rintro (h | ⟨u, hu, h⟩)
  · exact h h1
  · exact h (h2 u hu)
theorem baseOf_mem {ph : List PH} {m : PH} {W : World} {b : Nat} (h : baseOf ph m W b ≠ none) : m b ≠ none ∨ ∃ u ∈ ph, u b ≠ none := by
  rw [baseOf] at h
  split at h
  · assumption
  · exact absurd rfl h
noncomputable abbrev cx (C : Ctx) (ph : List PH) (m : PH) (W : World) : Ctx := ⟨C.P, C.N, W, baseOf ph m W⟩

section
variable {C : Ctx} {loc : Loc} {ph : List PH} {m : PH} {W : World}
theorem HR.bare {pv : List (Nat × PV)} (h : HR C loc pv ph m W) (loc' : Loc) : HR C loc' [] ph m W :=
  ⟨h.kept, (fun k y hk => by cases hk), (fun k k' y y' b o c o' c' hk => by cases hk), (fun k y b o c hk => by cases hk), h.mle, h.mmine, h.phs⟩
theorem HR.rebase (h : HR C loc [] ph m W) (loc' : Loc) : HR (cx C ph m W) loc' [] ph m W := by
  refine ⟨Kept.refl _ _, (fun k y hk => by cases hk), (fun k k' y y' b o c o' c' hk => by cases hk), (fun k y b o c hk => by cases hk), h.mle, fun b hb => .inr ?_, fun u hu => ⟨(h.phs u hu).1, fun b hb => ⟨.inr ?_, ((h.phs u hu).2 b hb).2⟩⟩⟩
  · show baseOf ph m W b ≠ none
    rw [baseOf_in (.inl hb)]
    cases hm : m b with
    | none => exact absurd hm hb
    | some o => rw [h.mle b o hm]; simp
  · show baseOf ph m W b ≠ none
    rw [baseOf_in (.inr ⟨u, hu, hb⟩)]
    cases hm : u b with
    | none => exact absurd hm hb
    | some o => rw [(h.phs u hu).1 b o hm]; simp
theorem HR.u0_up (h : HR C loc [] ph m W) : ∀ b o, C.u0 b = some o → (cx C ph m W).u0 b = some o := by
  intro b o hb
  unfold Ctx.u0 at hb ⊢
  split at hb
  · rename_i h0
    have h0 : C.m0 b = none := by simpa using h0
    have hlt : b < C.w0.heap.size := (Array.getElem?_eq_some_iff.1 hb).1
    have nm : ¬ C.mine b := fun hmine => hmine.elim (fun h => by omega) fun h => h h0
    have h1 : m b = none := by
      cases hm : m b with
      | none => rfl
      | some o => exact absurd (h.mmine b (by rw [hm]; simp)) nm
    have h2 : ∀ u ∈ ph, u b = none := fun u hu => by
      cases hm : u b with
      | none => rfl
      | some o => exact absurd ((h.phs u hu).2 b (by rw [hm]; simp)).1 nm
    show (if (baseOf ph m W b).isNone then W.heap[b]? else none) = some o
    rw [baseOf_out h1 h2]
    simp only [Option.isNone_none, if_true]
    rw [h.kept.2.2.2.2 b hlt h0]; exact hb
  · cases hb
theorem HR.mine_up (h : HR C loc [] ph m W) {b : Nat} (hb : (cx C ph m W).mine b) : C.mine b := by
  rcases hb with hb | hb
  · exact .inl (Nat.le_trans h.kept.2.2.2.1 hb)
  · rcases baseOf_mem hb with hm | ⟨u, hu, hm⟩
    · exact h.mmine b hm
    · exact ((h.phs u hu).2 b hm).1
theorem HR.unbase (h : HR C loc [] ph m W) {loc' loc2 : Loc} {pv' : List (Nat × PV)} {ph' : List PH} {m' : PH} {W' : World} (h' : HR (cx C ph m W) loc' pv' ph' m' W') : HR C loc2 [] ph' m' W' := by
  refine ⟨?_, (fun k y hk => by cases hk), (fun k k' y y' b o c o' c' hk => by cases hk), (fun k y b o c hk => by cases hk), h'.mle, fun b hb => h.mine_up (h'.mmine b hb), fun u hu => ⟨(h'.phs u hu).1, fun b hb => ⟨h.mine_up ((h'.phs u hu).2 b hb).1, ((h'.phs u hu).2 b hb).2⟩⟩⟩
  obtain ⟨k1, k2, k3, k4, k5⟩ := h.kept
  obtain ⟨q1, q2, q3, q4, q5⟩ := h'.kept
  refine ⟨q1.trans k1, q2.trans k2, q3.trans k3, Nat.le_trans k4 q4, fun k hk hn => ?_⟩
  have nm : ¬ C.mine k := fun hmine => hmine.elim (fun h => by omega) fun h => h hn
  rw [q5 k (Nat.lt_of_lt_of_le hk k4) (baseOf_out ?_ ?_)]
  · exact k5 k hk hn
  · cases hm : m k with
    | none => rfl
    | some o => exact absurd (h.mmine k (by rw [hm]; simp)) nm
  · intro u hu
    cases hm : u k with
    | none => rfl
    | some o => exact absurd ((h.phs u hu).2 k (by rw [hm]; simp)).1 nm
/-- What is not in the memory that is known lies as it lay. -/
theorem HR.other (h' : HR (cx C ph m W) loc [] ph m W) {loc' : Loc} {pv' : List (Nat × PV)} {ph' : List PH} {m' : PH} {W' : World} (h2 : HR (cx C ph m W) loc' pv' ph' m' W') {b : Nat} {o : Obj} (hb : W.heap[b]? = some o) (h3 : m b = none) (h4 : ∀ u ∈ ph, u b = none) : W'.heap[b]? = some o := by
  have hlt : b < W.heap.size := (Array.getElem?_eq_some_iff.1 hb).1
  rw [h2.kept.2.2.2.2 b hlt (baseOf_out h3 h4)]; exact hb
/-- And is not known to be one's own behind it, either. -/
theorem HR.apart' (h : HR C loc [] ph m W) {loc' : Loc} {pv' : List (Nat × PV)} {ph' : List PH} {m' : PH} {W' : World} (h2 : HR (cx C ph m W) loc' pv' ph' m' W') {b : Nat} (hb : b < W.heap.size) (h3 : m b = none) (h4 : ∀ u ∈ ph, u b = none) : m' b = none ∧ ∀ u ∈ ph', u b = none := by
  have nm : ¬ (cx C ph m W).mine b := fun hmine => hmine.elim (fun h => by simp only at h; omega) fun h => h (baseOf_out h3 h4)
  refine ⟨?_, fun u hu => ?_⟩
  · cases hm : m' b with
    | none => rfl
    | some o => exact absurd (h2.mmine b (by rw [hm]; simp)) nm
  · cases hm : u b with
    | none => rfl
    | some o => exact absurd ((h2.phs u hu).2 b (by rw [hm]; simp)).1 nm
end

/-! ### Plain slots -/
def frG (fr : List (Nat × SV)) : Prop := ∀ t x, look fr t = some x → ∃ g, x = .g g
theorem FR.plain {loc loc' : Loc} {N : Nat} {fr : List (Nat × SV)} {pv pv' : List (Nat × PV)} {ph ph' : List PH} {a : Act} (h : FR loc N fr pv ph a) (hg : frG fr) (hs : ∀ u ∈ ph, u ∈ ph') : FR loc' N fr pv' ph' a := by
  refine ⟨h.defers.up hs, h.size, fun t x hx => ?_⟩
  obtain ⟨g, rfl⟩ := hg t x hx
  exact h.slots t _ hx

/-! ### The rule -/
/-- How a round's body may be left. -/
def bodyQ (σ : SS) (I : List PH → PH → Prop) (Ix : Exit → List PH → PH → Prop) : QT
  | .normal, τ => (∀ u ∈ σ.ph, u ∈ τ.ph) ∧ I τ.ph τ.m
  | .ret, τ => (∀ u ∈ σ.ph, u ∈ τ.ph) ∧ Ix .ret τ.ph τ.m
  | .exit id, τ => (∀ u ∈ σ.ph, u ∈ τ.ph) ∧ Ix (.exit id) τ.ph τ.m
  | _, _ => False
theorem bodyQ_ok {σ : SS} {I : List PH → PH → Prop} {Ix : Exit → List PH → PH → Prop} : QOk (bodyQ σ I Ix) := fun _ h => h
theorem look_app {α : Type} : ∀ (a b : List (Nat × α)) (t : Nat), look (a ++ b) t = (look a t).or (look b t)
  | [], b, t => by simp [look]
  | (k, x) :: a, b, t => by
    simp only [List.cons_append, look]
    split
    · simp
    · exact look_app a b t
theorem foldl_size (l : List (Tmp × Value)) : ∀ tm : Array Value, (l.foldl (fun tm (p : Tmp × Value) => tm.setIfInBounds p.1 p.2) tm).size = tm.size := by
  induction l with
  | nil => intro tm; rfl
  | cons p l ih => intro tm; rw [List.foldl_cons, ih, Array.size_setIfInBounds]
end Go.Proofs.YtmjiojflncffeaaGreat.Vc

/- A loop over a function: the rule. -/
set_option linter.unusedVariables false
set_option linter.unusedSimpArgs false
namespace Go.Proofs.YtmjiojflncffeaaGreat.Vc
open Go Go.Shelf

section
variable {C : Ctx} {loc : Loc} {ph : List PH} {m : PH} {W : World}
theorem HR.put_other (h : HR C loc [] ph m W) (loc' : Loc) {l : Nat} (o : Obj) (h1 : m l = none) (h2 : ∀ u ∈ ph, u l = none) (h3 : C.w0.heap.size ≤ l) : HR C loc' [] ph m (W.putObj l o) := by
  have hne : ∀ {u : PH} {b : Nat} {o' : Obj}, u l = none → u b = some o' → b ≠ l := fun hu hb e => by rw [e, hu] at hb; cases hb
  refine ⟨?_, (fun k y hk => by cases hk), (fun k k' y y' b o c o' c' hk => by cases hk), (fun k y b o c hk => by cases hk), fun b o' hb => ?_, h.mmine, fun u hu => ⟨fun b o' hb => ?_, (h.phs u hu).2⟩⟩
  · obtain ⟨k1, k2, k3, k4, k5⟩ := h.kept
    exact ⟨k1, k2, k3, by rw [World.putObj_size]; exact k4, fun k hk hn => by rw [World.putObj_heap_other (by omega)]; exact k5 k hk hn⟩
  · rw [World.putObj_heap_other (hne h1 hb)]; exact h.mle b o' hb
  · rw [World.putObj_heap_other (hne (h2 u hu) hb)]; exact (h.phs u hu).1 b o' hb
theorem HR.grown (h : HR C loc [] ph m W) {W' : World} (hk : Kept PH.no W W') : HR C loc [] ph m W' :=
  (h.after (m := m) (m1 := PH.no) (mr := m) (m' := PH.no) (uni_no _).symm (dis_no _) (fun b o hb => by cases hb) (fun b hb => absurd rfl hb) hk).2.2.1
theorem HR.add (h : HR C loc [] ph m W) {D : Nat} {o : Obj} (hD : W.heap[D]? = some o) (h1 : m D = none) (h2 : C.w0.heap.size ≤ D) : HR C loc [] (one D o :: ph) m W := by
  refine ⟨h.kept, (fun k y hk => by cases hk), (fun k k' y y' b o c o' c' hk => by cases hk), (fun k y b o c hk => by cases hk), h.mle, h.mmine, fun u hu => ?_⟩
  rcases List.mem_cons.1 hu with rfl | hu
  · refine ⟨fun b o' hb => ?_, fun b hb => ?_⟩
    · simp only [one] at hb
      split at hb
      · rename_i e; subst e; cases hb; exact hD
      · cases hb
    · simp only [one] at hb
      split at hb
      · rename_i e; subst e; exact ⟨.inl h2, h1⟩
      · exact absurd rfl hb
  · exact h.phs u hu
end
def jumpOf : Exit → Option Code
  | .ret => some .ret
  | .exit id => some (.exit id)
  | _ => none

end Go.Proofs.YtmjiojflncffeaaGreat.Vc

/- Pieces of an iterator: code by its resolved form; a piece from a fresh beginning; a region that asks for a round. -/
set_option linter.unusedVariables false
set_option linter.unusedSimpArgs false
namespace Go.Proofs.YtmjiojflncffeaaGreat.Vc
open Go Go.Shelf

section
variable {P : Program} {N : Nat} {ns : List (Nat × Nat)} {code : Code}
end

/-- What an activation's slots hold: plain values; nothing is deferred. -/
structure Slots (N : Nat) (fr : List (Nat × SV)) (a : Act) : Prop where
  defers : a.defers = []
  size : a.tmps.size = N
  at' : ∀ t x, look fr t = some x → ∃ g, x = .g g ∧ GV.ok g ∧ a.tmps[t]? = some g.val
abbrev cw (P : Program) (N : Nat) (w : World) : Ctx := ⟨P, N, w, PH.no⟩
theorem Slots.rel {P : Program} {N : Nat} {fr : List (Nat × SV)} {a : Act} (h : Slots N fr a) (w : World) : Rel (cw P N w) ⟨fr, [], [], PH.no⟩ a w := by
  refine ⟨fun _ => none, ⟨by rw [h.defers]; exact Marks.nil _, h.size, fun t x hx => ?_⟩, ⟨Kept.refl _ _, (fun k y hk => by cases hk), (fun k k' y y' b o c o' c' hk => by cases hk), (fun k y b o c hk => by cases hk), (fun b o hb => by cases hb), (fun b hb => absurd rfl hb), fun u hu => by cases hu⟩⟩
  obtain ⟨g, rfl, h1, h2⟩ := h.at' t x hx
  exact ⟨_, h2, h1, rfl⟩
/-- How a piece ends: plain slots, and nothing that was there has changed. -/
def pieceQ (R : Exit → List (Nat × SV) → Prop) : QT := fun e τ => (e = .normal ∨ e = .ret ∨ ∃ id, e = .exit id) ∧ τ.ph = [] ∧ ∃ fr, frG fr ∧ R e fr ∧ ∀ t x, look fr t = some x → look τ.fr t = some x
theorem pieceQ_ok {R : Exit → List (Nat × SV) → Prop} : QOk (pieceQ R) := fun σ h => by
  rcases h.1 with h | h | ⟨id, h⟩ <;> cases h
theorem Rel.slots {P : Program} {N : Nat} {w : World} {τ : SS} {a : Act} {w' : World} (h : Rel (cw P N w) τ a w') (hp : τ.ph = []) {fr : List (Nat × SV)} (hg : frG fr) (hs : ∀ t x, look fr t = some x → look τ.fr t = some x) : Slots N fr a ∧ Kept PH.no w w' := by
  obtain ⟨loc, hF, hH⟩ := h
  refine ⟨⟨?_, hF.size, fun t x hx => ?_⟩, hH.kept⟩
  · cases hd : a.defers with
    | nil => rfl
    | cons d ds =>
      obtain ⟨D, u, _, hu, _⟩ := hF.defers.2 d (by rw [hd]; simp)
      rw [hp] at hu; cases hu
  · obtain ⟨g, rfl⟩ := hg t x hx
    obtain ⟨v, hv, h1, h2⟩ := hF.slots t _ (hs t _ hx)
    exact ⟨g, rfl, h1, by rw [hv, h2]⟩
/-- A piece of code from a fresh beginning. -/
theorem piece {P : Program} {N : Nat} {ns : List (Nat × Nat)} {cd : Cd} {code : Code} {fr : List (Nat × SV)} {a : Act} {w : World} {R : Exit → List (Nat × SV) → Prop} {Q : Exit → Act → World → Prop} (hc : comp P N ns code = er cd) (hn : noRaw cd = true) (hp : plainC code = true)
    (hs : Slots N fr a) (h : vc (cw P N w) cd (pieceQ R) ⟨fr, [], [], PH.no⟩) (hQ : ∀ e fr' a' w', R e fr' → Slots N fr' a' → Kept PH.no w w' → (e = .normal ∨ e = .ret ∨ ∃ id, e = .exit id) → Q e a' w') : code.wpIn (fenceR none) 0 P Q a w := by
  refine wpIn_mono (vc_sound_round (C := cw P N w) ns none cd code (pieceQ R) ⟨fr, [], [], PH.no⟩ a w hc hn hp pieceQ_ok h (hs.rel w)) fun e a' w' hq => ?_
  obtain ⟨τ, ⟨he, hph, fr', hg, hR, hl⟩, hrel⟩ := hq
  obtain ⟨h1, h2⟩ := hrel.slots hph hg hl
  exact hQ e fr' a' w' hR h1 h2 he
end Go.Proofs.YtmjiojflncffeaaGreat.Vc

/- A region that asks for a round: what stands before the call, the call of yield, what stands behind it. -/
set_option linter.unusedVariables false
set_option linter.unusedSimpArgs false
namespace Go.Proofs.YtmjiojflncffeaaGreat.Vc
open Go Go.Shelf

theorem listIn_app {P : Program} {ops : Array Oper} {Q1 Q : Exit → Act → World → Prop} (ro : Option Nat) {L2 : List Oper} (hlet : ∀ a w, ¬ Q1 .outgrown a w) (hpan : ∀ c a w, ¬ Q1 (.panic c) a w) (hK : ∀ a w, Q1 .normal a w → wpListIn (fenceR ro) 0 P ops Q L2 a w) :
    ∀ (L1 : List Oper) (a : Act) (w : World), (∀ o ∈ L1, plainO o = true) → wpList P ops Q1 L1 a w → wpListIn (fenceR ro) 0 P ops Q (L1 ++ L2) a w
  | [], a, w, _, h => hK a w h
  | o :: L, a, w, hp, h => by
    have ih := fun (a : Act) (w : World) => listIn_app (P := P) (ops := ops) (Q1 := Q1) (Q := Q) ro hlet hpan hK L a w (fun o ho => hp o (List.mem_cons_of_mem _ ho))
    have hno : ∀ c, o.op ≠ .defer c := fun c e => by
      have := hp o (by simp)
      rw [plainO, e] at this; cases this
    have hl : ¬ LetsOut Q1 := fun ⟨a, w, h⟩ => hlet a w h
    unfold wpList at h
    rw [List.cons_append]
    unfold wpListIn
    by_cases hw : Region.wanted o (yielded ops a.tmps) = true
    · rw [if_pos hw] at h ⊢
      rcases h with h | ⟨_, h⟩
      · refine ⟨fun _ _ => trivial, ?_⟩
        have hsem : o.semAt ro a.eval = execOp a.eval o := semAt_plain ro _ o hno
        rw [hsem]
        unfold Oper.wp at h
        generalize (execOp a.eval o).run P w = r at h ⊢
        cases r with
        | ok x w' =>
          cases x with
          | value v => exact ih _ _ h
          | skip => exact ih _ _ h
          | defer d => exact ih _ _ h
          | enter f args =>
            refine ⟨(fun h => by cases h), ((callsR ro _).2 h).mono fun e w2 he => ?_⟩
            cases e with
            | returned v => exact ih _ _ he
            | panicked ch => exact absurd he (hpan _ _ _)
            | outgrown => exact absurd he hl
          | row row args =>
            refine ⟨(fun h => by cases h), fun c cs _ => ?_⟩
            obtain ⟨v, w2, h1, h2⟩ := h c cs
            exact ⟨v, w2, ih _ _ h1, stepsIn_wide.2 h2⟩
          | _ => exact h.elim
        | halt x w' =>
          cases x with
          | panic v => exact absurd h (hpan _ _ _)
          | _ => exact h.elim
      · exact absurd h hl
    · rw [if_neg hw] at h ⊢
      exact ⟨fun _ _ => trivial, ih _ _ h⟩

/-- The region. n: where the call of yield stands; d: its slot. -/
theorem yield_reg {P : Program} {N : Nat} {id : Nat} {ops : Array Oper} {Q : Exit → Act → World → Prop} {C : Ctx} (hCP : C.P = P) (hCN : C.N = N) (hd : ops.all (dstOk N) = true) (hg : ops.all (guardOk ops) = true) (hpl : ops.all plainO = true)
    (n d tx l : Nat) (o : Oper) (c : Call) (hn : ops.toList.drop n = o :: ops.toList.drop (n + 1)) (hoc : o.op = .call c) (hog : o.guard = none) (hod : o.dst = some d) (hcc : c.callee = .value (.tmp tx))
    (s1 s2 : List Seg) (h1 : cSegs P ops (ops.toList.take n) = s1.map erSeg) (h2 : cSegs P ops (ops.toList.drop (n + 1)) = s2.map erSeg)
    {σ : SS} {a : Act} {w : World} (hR : Rel C σ a w) (K1 : SS → Prop) (hK1 : vcSegs C s1 K1 σ)
    (hY : ∀ τ a w, K1 τ → Rel C τ a w → a.eval (.tmp tx) = .func (.yield l) #[] #[] ∧ YieldAt Fence.wide 0 P l (c.args.map a.eval) w fun e w2 => ∃ b, e = .returned (.bool b) ∧ ∃ (fr : List (Nat × SV)) (Q2 : SS → Prop), Slots N fr (a.put (some d) (.bool b)) ∧ vcSegs (cw P N w2) s2 Q2 ⟨fr, [], [], PH.no⟩ ∧ ∀ τ2 a2 w3, Q2 τ2 → Rel (cw P N w2) τ2 a2 w3 → Q .normal a2 w3) :
    (Code.region id ops false).wpIn (fenceR none) 0 P Q a w := by
  subst hCP; subst hCN
  simp only [Array.all_eq_true_iff_forall_mem] at hd hg hpl
  have hmem : ∀ (l : List Oper), (∀ o ∈ l, o ∈ ops.toList) → ∀ x ∈ grp ops l, ∀ o ∈ x.2, gOf ops o = x.1 ∧ dstOk C.N o = true ∧ guardOk ops o = true := fun l hl x hx o ho => by
    obtain ⟨h1, h2⟩ := grp_mem ops l x hx o ho
    have := hl o h2
    exact ⟨h1, hd o (by simpa using this), hg o (by simpa using this)⟩
  refine wpIn_region_list ?_
  rw [← List.take_append_drop n ops.toList, hn]
  refine listIn_app (Q1 := fun e a w => e = .normal ∧ ∃ τ, K1 τ ∧ Rel C τ a w) none (fun a w h => by cases h.1) (fun c a w h => by cases h.1) ?_ _ a w (fun o ho => hpl o (by simpa using List.mem_of_mem_take ho)) ?_
  · rintro a1 w1 ⟨_, τ, hK, hR1⟩
    obtain ⟨hev, fn, tmps, assign, body, hy, hround⟩ := hY τ a1 w1 hK hR1
    unfold wpListIn
    rw [if_pos (by unfold Region.wanted; rw [hog])]
    have hrun : (execOp a1.eval o).run C.P w1 = .ok (.round l fn tmps assign body) w1 := by
      rw [← hy]
      unfold execOp
      rw [hoc]
      simp only [resolve, hcc, hev, Deferred.ofValue, Sem.run_bind, Sem.run_pure, Result.andThen, invoke]
      simp
    refine ⟨fun _ _ => trivial, ?_⟩
    rw [show o.semAt none a1.eval = execOp a1.eval o from rfl, hrun]
    refine ⟨(fun h => by cases h), hround.mono fun e w2 he => ?_⟩
    obtain ⟨b, rfl, fr, Q2, hS, hv, hQ2⟩ := he
    show wpListIn _ _ _ _ _ _ (a1.put o.dst (.bool b)) w2
    rw [hod]
    have hb : ∀ o' ∈ ops.toList.drop (n + 1), o' ∈ ops.toList := fun o' ho' => List.mem_of_mem_drop ho'
    have hs2 := segs_sound (C := cw C.P C.N w2) (ops := ops) (K := Q2) (Q := fun e a w => e = .normal ∧ ∃ τ, Q2 τ ∧ Rel (cw C.P C.N w2) τ a w) (fun σ' a' w' hK hR' => ⟨rfl, σ', hK, hR'⟩) s2 (grp ops (ops.toList.drop (n + 1))) ⟨fr, [], [], PH.no⟩ _ w2 h2 (hmem _ hb) (hS.rel w2) hv
    rw [grp_flat] at hs2
    have := listIn_app (Q := Q) (L2 := []) none (fun a w h => by cases h.1) (fun c a w h => by cases h.1) (fun a w h => by
      obtain ⟨_, τ2, q1, q2⟩ := h
      exact hQ2 τ2 a w q1 q2) _ _ w2 (fun o ho => hpl o (by simpa using hb o ho)) hs2
    rwa [List.append_nil] at this
  · have := segs_sound (C := C) (ops := ops) (K := K1) (Q := fun e a w => e = .normal ∧ ∃ τ, K1 τ ∧ Rel C τ a w) (fun σ' a' w' hK hR' => ⟨rfl, σ', hK, hR'⟩) s1 (grp ops (ops.toList.take n)) σ a w h1 (hmem _ fun o ho => List.mem_of_mem_take ho) hR hK1
    rwa [grp_flat] at this

/-! ### Parts of code -/
def atL : Code → Code
  | .seq a _ => a
  | .cond _ a _ => a
  | .block _ a => a
  | .loop a => a
  | c => c
def atR : Code → Code
  | .seq _ b => b
  | .cond _ _ b => b
  | c => c
def regOps : Code → Array Oper
  | .region _ ops _ => ops
  | _ => #[]
def regId : Code → Nat
  | .region id _ _ => id
  | _ => 0
end Go.Proofs.YtmjiojflncffeaaGreat.Vc

/- A loop over a function whose values may be structs: the rule. -/
set_option linter.unusedVariables false
set_option linter.unusedSimpArgs false
namespace Go.Proofs.YtmjiojflncffeaaGreat.Vc
open Go Go.Shelf

/-- The parameters of a round. -/
def parFrG : List Tmp → List GV → List (Nat × SV)
  | t :: ts, g :: gs => parFrG ts gs ++ [(t, .g g)]
  | _, _ => []
theorem parFrG_keep : ∀ (ts : List Tmp) (gs : List GV) (tm : Array Value) (t : Nat), look (parFrG ts gs) t = none → ((ts.zip (gs.map GV.val)).foldl (fun tm (p : Tmp × Value) => tm.setIfInBounds p.1 p.2) tm)[t]? = tm[t]?
  | [], gs, tm, t, _ => rfl
  | q :: ts, [], tm, t, _ => rfl
  | q :: ts, v :: gs, tm, t, h => by
    simp only [parFrG, look_app, Option.or_eq_none_iff, look] at h
    obtain ⟨h1, h2⟩ := h
    simp only [List.map_cons, List.zip_cons_cons, List.foldl_cons]
    rw [parFrG_keep ts gs _ t h1, Array.getElem?_setIfInBounds_ne]
    intro e
    rw [if_pos e.symm] at h2; cases h2
theorem parFrG_slot : ∀ (ts : List Tmp) (gs : List GV) (tm : Array Value), (∀ t ∈ ts, t < tm.size) → ∀ t x, look (parFrG ts gs) t = some x → ∃ g, x = .g g ∧ g ∈ gs ∧ ((ts.zip (gs.map GV.val)).foldl (fun tm (p : Tmp × Value) => tm.setIfInBounds p.1 p.2) tm)[t]? = some g.val
  | [], _, tm, _, t, x, h => by simp [parFrG, look] at h
  | _ :: _, [], tm, _, t, x, h => by simp [parFrG, look] at h
  | p :: ts, g :: gs, tm, hb, t, x, h => by
    simp only [parFrG, look_app] at h
    simp only [List.map_cons, List.zip_cons_cons, List.foldl_cons]
    have hb' : ∀ t ∈ ts, t < (tm.setIfInBounds p g.val).size := fun t ht => by rw [Array.size_setIfInBounds]; exact hb t (by simp [ht])
    cases h1 : look (parFrG ts gs) t with
    | some y =>
      rw [h1] at h
      simp only [Option.some_or, Option.some.injEq] at h
      subst h
      obtain ⟨g', e, hm, hv⟩ := parFrG_slot ts gs _ hb' t y h1
      exact ⟨g', e, by simp [hm], hv⟩
    | none =>
      rw [h1] at h
      simp only [Option.none_or, look] at h
      split at h
      · rename_i e
        cases h
        subst e
        exact ⟨g, rfl, by simp, by rw [parFrG_keep ts gs _ t h1, Array.getElem?_setIfInBounds_self_of_lt (hb t (by simp))]⟩
      · cases h
/-- Behind the assignment to the loop's left sides: plain slots; a variable that was made is handed out. -/
def asgQ2 (ph : List PH) (K : List PH → PH → List (Nat × SV) → Prop) : QT
  | .normal, τ => (∀ u ∈ ph, u ∈ τ.ph) ∧ ∃ fr1, frG fr1 ∧ (∀ t x, look fr1 t = some x → look τ.fr t = some x) ∧ K τ.ph τ.m fr1
  | _, _ => False
theorem asgQ2_ok {ph : List PH} {K : List PH → PH → List (Nat × SV) → Prop} : QOk (asgQ2 ph K) := fun _ h => h
theorem raw_roundsG {C : Ctx} {Q : QT} {fr : List (Nat × SV)} {ph0 : List PH} {m0 : PH} {code : Code} {t gf : Nat} {lb : List Value} {ui : PH} {encs : List (List GV)} (ns : List (Nat × Nat))
    (hc : code = .rangeFunc (.tmp t) (rfPs code) (rfAs code) (rfBd code)) (ht : look fr t = some (.g (.s (.func (.func gf) #[] lb.toArray)))) (eg : ∀ args w, (callFunc gf args).run C.P w = .ok (.enter gf args) w)
    (hfr : frG fr) (hui : ui ∈ ph0) (hit : Iter C.P gf lb ui (encs.map fun x => x.map GV.val)) (hps : ∀ x ∈ encs, x.length = (rfPs code).size) (hone : ∀ x ∈ encs, ∀ g ∈ x, g.ok) (hpb : ∀ t ∈ (rfPs code).toList, t < C.N)
    (cA cB : Cd) (hA : comp C.P C.N ns (rfAs code) = er cA) (hA1 : noRaw cA = true) (hA2 : plainC (rfAs code) = true) (hB : comp C.P C.N ns (rfBd code) = er cB) (hB1 : noRaw cB = true) (hB2 : plainC (rfBd code) = true)
    (I : Nat → List PH → PH → Prop) (Ix : Exit → List PH → PH → Prop) (h0 : I 0 ph0 m0)
    (hround : ∀ i x (w' : World) (m' : PH) ph m, encs[i]? = some x → (∀ b o, C.u0 b = some o → (⟨C.P, C.N, w', m'⟩ : Ctx).u0 b = some o) → (∀ u ∈ ph0, u ∈ ph) → I i ph m →
      vc ⟨C.P, C.N, w', m'⟩ cA (asgQ2 ph fun ph1 m1 fr1 => ∀ (w2 : World) (m2 : PH), (∀ b o, C.u0 b = some o → (⟨C.P, C.N, w2, m2⟩ : Ctx).u0 b = some o) → vc ⟨C.P, C.N, w2, m2⟩ cB (bodyQ ⟨fr, [], ph0, m0⟩ (I (i + 1)) Ix) ⟨fr1, [], ph1, m1⟩) ⟨parFrG (rfPs code).toList x ++ fr, [], ph, m⟩)
    (hdone : ∀ u ph m, (∀ u ∈ ph0, u ∈ ph) → I encs.length ph m → Q .normal ⟨fr, [], u :: ph, m⟩)
    (hstop : ∀ e c u ph m, jumpOf e = some c → (∀ u ∈ ph0, u ∈ ph) → Ix e ph m → Q e ⟨fr, [], u :: ph, m⟩) : vc C (.raw code) Q ⟨fr, [], ph0, m0⟩ := by
  intro act w hR
  obtain ⟨loc, hF, hH⟩ := hR
  have hev : act.eval (.tmp t) = .func (.func gf) #[] lb.toArray := by
    obtain ⟨v, hv, hr⟩ := hF.slots t _ ht
    obtain ⟨_, rfl⟩ := hr
    simp [Act.eval, hv, GV.val]
  rw [hc]
  refine (wpIn_wide (n := 0)).1 (wpIn_rangeFunc ?_)
  intro fn _
  generalize hpsE : rfPs code = ps at *
  generalize hasE : rfAs code = assign at *
  generalize hbdE : rfBd code = body at *
  obtain ⟨rec, hrec⟩ : ∃ rec : LoopState → Option Code → Loop, rec = fun st pe => { state := st, pending := pe, fn, tmps := act.tmps, params := ps, assign, body, defers := w.heap.size } := ⟨_, rfl⟩
  obtain ⟨W1, hW1⟩ : ∃ W1, (w.alloc (.deferred (some []))).alloc (.loop (rec .ready none)) = W1 := ⟨_, rfl⟩
  have hk1 : Kept PH.no w W1 := by rw [← hW1]; exact kept_trans (kept_alloc _ _) (kept_alloc _ _)
  have hsz : W1.heap.size = w.heap.size + 2 := by rw [← hW1, World.size_alloc, World.size_alloc]
  have hL1 : W1.heap[w.heap.size + 1]? = some (.loop (rec .ready none)) := by
    rw [← hW1]; have := World.alloc_heap_new (w.alloc (.deferred (some []))) (.loop (rec .ready none)); rwa [World.size_alloc] at this
  have hK1 : W1.heap[w.heap.size]? = some (.deferred (some [])) := by
    rw [← hW1]
    have h2 := (kept_alloc (w.alloc (.deferred (some []))) (.loop (rec .ready none))).2.2.2.2 w.heap.size (by rw [World.size_alloc]; omega) rfl
    rw [h2]
    exact World.alloc_heap_new w _
  have hw0 : C.w0.heap.size ≤ w.heap.size := hH.kept.2.2.2.1
  obtain ⟨l, hl⟩ : ∃ l, w.heap.size + 1 = l := ⟨_, rfl⟩
  obtain ⟨D, hD⟩ : ∃ D, w.heap.size = D := ⟨_, rfl⟩
  -- what stands between two rounds
  obtain ⟨J, hJ⟩ : ∃ J : Nat → World → Prop, J = fun i W => ∃ ph m, (∀ u ∈ ph0, u ∈ ph) ∧ I i ph m ∧ HR C loc [] ph m W ∧ (m l = none ∧ ∀ u ∈ ph, u l = none) ∧ (m D = none ∧ ∀ u ∈ ph, u D = none) ∧ W.heap[l]? = some (.loop (rec .ready none)) ∧ W.heap[D]? = some (.deferred (some [])) := ⟨_, rfl⟩
  obtain ⟨Jx, hJx⟩ : ∃ Jx : World → Prop, Jx = fun W => ∃ e c ph m, jumpOf e = some c ∧ (∀ u ∈ ph0, u ∈ ph) ∧ Ix e ph m ∧ HR C loc [] ph m W ∧ (m l = none ∧ ∀ u ∈ ph, u l = none) ∧ (m D = none ∧ ∀ u ∈ ph, u D = none) ∧ W.heap[l]? = some (.loop (rec .done (some c))) ∧ W.heap[D]? = some (.deferred (some [])) := ⟨_, rfl⟩
  have hlD : l ≠ D := by omega
  have fresh : ∀ {b : Nat}, w.heap.size ≤ b → m0 b = none ∧ ∀ u ∈ ph0, u b = none := fun {b} hb => by
    have hn : w.heap[b]? = none := Array.getElem?_eq_none hb
    refine ⟨?_, fun u hu => ?_⟩
    · cases hm : m0 b with
      | none => rfl
      | some o => have := hH.mle b o hm; rw [hn] at this; cases this
    · cases hm : u b with
      | none => rfl
      | some o => have := (hH.phs u hu).1 b o hm; rw [hn] at this; cases this
  have kept_at : ∀ {W W' : World} {k : Nat} {o : Obj}, Kept PH.no W W' → W.heap[k]? = some o → W'.heap[k]? = some o := fun {W W' k o} hk h => by
    rw [hk.2.2.2.2 k (Array.getElem?_eq_some_iff.1 h).1 rfl]; exact h
  refine ⟨w.heap.size + 1, [{ target := .collected w.heap.size, args := #[] }], W1, { target := .fn (.func gf) lb.toArray, args := #[.func (.yield (w.heap.size + 1)) #[] #[]] }, W1, gf,
    #[.func (.yield (w.heap.size + 1)) #[] #[]] ++ lb.toArray, W1, ?_, ?_, ?_, ?_, (fun h => by cases h), ?_⟩
  · rw [← hW1, hrec]; exact run_enterLoop_outer _ _ _ _ _
  · simp only [resolve, hev]
    simp [go_sem]
  · intro f' _; trivial
  · simp [invoke, go_sem, eg]
  rw [hl, hD]
  rw [hl] at hL1
  rw [hD] at hK1
  refine (hit l J Jx W1 ?_ ?_ ?_ ?_ ?_).mono ?_
  · exact fun b o hb => kept_at hk1 ((hH.phs ui hui).1 b o hb)
  · intro i W W' h hk
    rw [hJ] at h ⊢
    obtain ⟨ph, m, q1, q2, q3, q4, q5, q6, q7⟩ := h
    exact ⟨ph, m, q1, q2, q3.grown hk, q4, q5, kept_at hk q6, kept_at hk q7⟩
  · intro W W' h hk
    rw [hJx] at h ⊢
    obtain ⟨e, c, ph, m, q0, q1, q2, q3, q4, q5, q6, q7⟩ := h
    exact ⟨e, c, ph, m, q0, q1, q2, q3.grown hk, q4, q5, kept_at hk q6, kept_at hk q7⟩
  · -- one round
    intro i x W hx h
    rw [List.getElem?_map] at hx
    obtain ⟨y, hy0, rfl⟩ := Option.map_eq_some_iff.1 hx
    clear hx
    rw [hJ] at h
    obtain ⟨ph, m, q1, q2, q3, q4, q5, q6, q7⟩ := h
    have hxm : y ∈ encs := List.mem_of_getElem? hy0
    have hy := run_yield (P := C.P) (args := (y.map GV.val).toArray) q6 (by rw [hrec]; simpa using hps y hxm)
    rw [hrec] at hy
    refine ⟨fn, _, assign, body, hy, roundIn_of_wpIn trivial ?_⟩
    have htm : (ps.zip (y.map GV.val).toArray).foldl (fun tmps (t, a) => tmps.setIfInBounds t a) act.tmps = (ps.toList.zip (y.map GV.val)).foldl (fun tm (p : Tmp × Value) => tm.setIfInBounds p.1 p.2) act.tmps := by
      rw [← Array.foldl_toList, Array.toList_zip]
    rw [htm]
    have hF0 : FR loc C.N (parFrG ps.toList y ++ fr) [] ph { tmps := (ps.toList.zip (y.map GV.val)).foldl (fun tm (p : Tmp × Value) => tm.setIfInBounds p.1 p.2) act.tmps, defers := [] } := by
      refine ⟨Marks.nil _, by simp only; rw [foldl_size]; exact hF.size, fun t sv hy => ?_⟩
      rw [look_app] at hy
      cases h1 : look (parFrG ps.toList y) t with
      | some z =>
        rw [h1] at hy
        simp only [Option.some_or, Option.some.injEq] at hy
        subst hy
        obtain ⟨g, rfl, hv, hval⟩ := parFrG_slot ps.toList y act.tmps (fun t ht => by rw [hF.size]; exact hpb t ht) t z h1
        exact ⟨g.val, hval, hone y hxm g hv, rfl⟩
      | none =>
        rw [h1] at hy
        simp only [Option.none_or] at hy
        obtain ⟨g, rfl⟩ := hfr t sv hy
        obtain ⟨v, hv, hr⟩ := hF.slots t _ hy
        exact ⟨v, by simp only; rw [parFrG_keep _ _ _ _ h1]; exact hv, hr⟩
    have hA' := vc_sound_round (C := cx C ph m W) ns (some l) cA assign _ ⟨parFrG ps.toList y ++ fr, [], ph, m⟩ _ W hA hA1 hA2 asgQ2_ok (hround i y W (baseOf ph m W) ph m hy0 q3.u0_up q1 q2) ⟨loc, hF0, q3.rebase loc⟩
    refine wpIn_mono hA' fun e a1 W1' hq => ?_
    obtain ⟨σ1, hq1, loc1, hF1, hH1⟩ := hq
    cases e with
    | normal =>
      obtain ⟨g0, fr1, hf1, e3, hK⟩ := hq1
      have h2 : HR C loc [] σ1.ph σ1.m W1' := q3.unbase hH1
      have hl2 := (q3.rebase loc).other hH1 q6 q4.1 q4.2
      have hd2 := (q3.rebase loc).other hH1 q7 q5.1 q5.2
      have hap1 := q3.apart' hH1 (Array.getElem?_eq_some_iff.1 q6).1 q4.1 q4.2
      have hapD1 := q3.apart' hH1 (Array.getElem?_eq_some_iff.1 q7).1 q5.1 q5.2
      refine ⟨_, run_beginRound hl2 (by rw [hrec]), ?_⟩
      have hlt2 : l < W1'.heap.size := (Array.getElem?_eq_some_iff.1 hl2).1
      have h3 := h2.put_other loc (.loop { rec .ready none with state := .busy }) hap1.1 hap1.2 (by omega)
      have hl3 : (W1'.putObj l (.loop { rec .ready none with state := .busy })).heap[l]? = some (.loop { rec .ready none with state := .busy }) := World.putObj_heap_same hlt2
      have hd3 : (W1'.putObj l (.loop { rec .ready none with state := .busy })).heap[D]? = some (.deferred (some [])) := (World.putObj_heap_other (Ne.symm hlD)).trans hd2
      generalize W1'.putObj l (.loop { rec .ready none with state := .busy }) = W2 at h3 hl3 hd3 ⊢
      have hFb : FR loc C.N fr1 [] σ1.ph a1 := by
        refine ⟨hF1.defers, hF1.size, fun t y hy => ?_⟩
        obtain ⟨g, rfl⟩ := hf1 t y hy
        exact hF1.slots t _ (e3 t _ hy)
      have hBq := vc_sound_round (C := cx C σ1.ph σ1.m W2) ns (some l) cB body (bodyQ ⟨fr, [], ph0, m0⟩ (I (i + 1)) Ix) ⟨fr1, [], σ1.ph, σ1.m⟩ a1 W2 hB hB1 hB2 bodyQ_ok (hK W2 (baseOf σ1.ph σ1.m W2) h3.u0_up) ⟨loc, hFb, h3.rebase loc⟩
      refine wpIn_mono hBq fun e a3 W3 hq => ?_
      obtain ⟨τ, hq3, loc3, hF3, hH3⟩ := hq
      have hl4 := (h3.rebase loc).other hH3 hl3 hap1.1 hap1.2
      have hd4 := (h3.rebase loc).other hH3 hd3 hapD1.1 hapD1.2
      have hap := h3.apart' hH3 (Array.getElem?_eq_some_iff.1 hl3).1 hap1.1 hap1.2
      have hapD := h3.apart' hH3 (Array.getElem?_eq_some_iff.1 hd3).1 hapD1.1 hapD1.2
      have h5 : HR C loc [] τ.ph τ.m W3 := h3.unbase hH3
      have hlt4 : l < W3.heap.size := (Array.getElem?_eq_some_iff.1 hl4).1
      have stop : ∀ (e : Exit) (c : Code), jumpOf e = some c → (∀ u ∈ ph0, u ∈ τ.ph) → Ix e τ.ph τ.m → ∃ v w', (Instr.endRound l (some c)).run C.P W3 = .ok v w' ∧ ((Ending.returned v = .returned (.bool true) ∧ J (i + 1) w' ∧ ui.le w') ∨ (Ending.returned v = .returned (.bool false) ∧ Jx w')) := fun e c hj g1 g2 => by
        refine ⟨_, _, run_endRound (some c) hl4, .inr ⟨rfl, ?_⟩⟩
        rw [hJx]
        refine ⟨e, c, τ.ph, τ.m, hj, g1, g2, h5.put_other loc _ hap.1 hap.2 (by omega), hap, hapD, ?_, (World.putObj_heap_other (Ne.symm hlD)).trans hd4⟩
        rw [World.putObj_heap_same hlt4, hrec]
        rfl
      cases e with
      | normal =>
        obtain ⟨g1, g2⟩ := hq3
        refine ⟨_, _, run_endRound none hl4, .inl ⟨rfl, ?_, ?_⟩⟩
        · rw [hJ]
          refine ⟨τ.ph, τ.m, g1, g2, h5.put_other loc _ hap.1 hap.2 (by omega), hap, hapD, ?_, (World.putObj_heap_other (Ne.symm hlD)).trans hd4⟩
          rw [World.putObj_heap_same hlt4, hrec]
          rfl
        · exact ((h5.put_other loc _ hap.1 hap.2 (by omega)).phs ui (g1 ui hui)).1
      | ret => exact stop .ret .ret rfl hq3.1 hq3.2
      | exit id => exact stop (.exit id) (.exit id) rfl hq3.1 hq3.2
      | goto l => exact hq3.elim
      | panic c => exact hq3.elim
      | outgrown => exact hq3.elim
    | _ => exact hq1.elim
  · rw [hJ]
    exact ⟨ph0, m0, fun _ h => h, h0, hH.grown hk1, fresh (by omega), fresh (by omega), hL1, hK1⟩
  · have mark : ∀ {ph : List PH} {m : PH} {W : World} {o : Obj}, (∀ u ∈ ph0, u ∈ ph) → HR C loc [] ph m W → (m l = none ∧ ∀ u ∈ ph, u l = none) → (m D = none ∧ ∀ u ∈ ph, u D = none) → W.heap[D]? = some (.deferred (some [])) →
        Rel C ⟨fr, [], one D (.deferred (some [])) :: ph, m⟩ { act with defers := [{ target := .collected D, args := #[] }] ++ act.defers } (W.putObj l o) := by
      intro ph m W o g1 g2 g3 g4 g5
      have hp := hF.plain (loc' := loc) (pv' := []) (ph' := one D (.deferred (some [])) :: ph) hfr (fun u hu => List.mem_cons_of_mem _ (g1 u hu))
      refine ⟨loc, ⟨⟨List.pairwise_cons.2 ⟨fun d hd => ?_, hF.defers.1⟩, fun d hd => ?_⟩, hp.size, hp.slots⟩, (g2.put_other loc o g3.1 g3.2 (by omega)).add ((World.putObj_heap_other (Ne.symm hlD)).trans g5) g4.1 (by omega)⟩
      · obtain ⟨D', u, h1, h2, h3⟩ := hF.defers.2 d hd
        rw [h1]
        intro e
        have e : D = D' := by simpa using e
        have := (fresh (b := D') (by omega)).2 u h2
        rw [h3] at this; cases this
      · rcases List.mem_cons.1 hd with rfl | hd
        · exact ⟨D, one D (.deferred (some [])), rfl, by simp, by simp [one]⟩
        · exact hp.defers.2 d hd
    rintro e W2 ⟨⟨v, rfl⟩, (h | h)⟩
    · rw [hJ] at h
      obtain ⟨ph, m, q1, q2, q3, q4, q5, q6, q7⟩ := h
      rw [List.length_map] at q2
      refine ⟨none, _, (by have := run_endLoop (P := C.P) q6 (by rw [hrec]; simp); rw [hrec] at this; exact this), ?_⟩
      exact ⟨_, hdone _ ph m q1 q2, mark q1 q3 q4 q5 q7⟩
    · rw [hJx] at h
      obtain ⟨e, c, ph, m, q0, q1, q2, q3, q4, q5, q6, q7⟩ := h
      refine ⟨some c, _, (by have := run_endLoop (P := C.P) q6 (by rw [hrec]; simp); rw [hrec] at this; exact this), ?_⟩
      cases e with
      | ret => cases q0; exact wpIn_ret ⟨_, hstop .ret _ _ ph m rfl q1 q2, mark q1 q3 q4 q5 q7⟩
      | exit id => cases q0; exact wpIn_exit ⟨_, hstop (.exit id) _ _ ph m rfl q1 q2, mark q1 q3 q4 q5 q7⟩
      | _ => cases q0
end Go.Proofs.YtmjiojflncffeaaGreat.Vc

/- The code of some functions of the program, its types resolved: printed by a program of this claim. -/
set_option linter.unusedVariables false
set_option maxRecDepth 100000
namespace Go.Proofs.YtmjiojflncffeaaGreat.Vc
open Go Go.Proofs

abbrev f_oplog_Log_Ops : Nat := 24
def c_oplog_Log_Ops : Cd :=
 (.seq (.rg [⟨none, [(some 2, .mv (.c .nilFunc))]⟩] [0])
 (.seq (.rg [⟨none, [(some 3, .new 79 (.s (.slice none 0 0)))]⟩] [0, 3])
 (.seq (.seq (.rg [⟨none, [(some 4, .mv (.t 0)), (some 5, .call 35 [(.t 4)]), (some 6, .un .not (.t 5))]⟩] [0, 3, 6])
 (.ite (.t 6)
 (.rg [⟨none, [(some 7, .mv (.t 0)), (some 8, .nilc (.t 7)), (some 9, .fldA (.t 8) 3 3), (some 10, .ld (.t 9) 1 false), (some 11, .call 43 [(.t 10)]), (none, .st (.t 3) (.t 11) 1)]⟩] [3])
 .skip))
 (.seq (.rg [⟨none, [(none, .gh), (some 12, .mkf 61 [(.t 3)]), (some 2, .mv (.t 12))]⟩] [2])
 .ret))))
theorem k_oplog_Log_Ops : Ok Tryz.prog 24 c_oplog_Log_Ops 13 [] [.tmp 2] := Ok.mk' Tryz.func24 (by kernel_rfl) (by kernel_rfl) (by kernel_rfl)

abbrev f_oplog_Log_Ops_1 : Nat := 61
abbrev f_law13_OplogCuts : Nat := 7
noncomputable def c_law13_OplogCuts_W0 : Code := ((((Tryz.f7.body.map rawsC).getD [])[0]?).getD .skip)
noncomputable def c_law13_OplogCuts_W1 : Code := ((((Tryz.f7.body.map rawsC).getD [])[1]?).getD .skip)
noncomputable def c_law13_OplogCuts_L0 : Cd :=
 (.seq (.rg [⟨none, [(some 43, .bin .lss (.t 42) (.t 41))]⟩] [1, 5, 6, 7, 8, 40, 41, 42, 43])
 (.seq (.ite (.t 43)
 .skip
 (.exit 0))
 (.seq (.block 1 (.seq (.rg [⟨none, [(some 44, .idxS (.t 40) (.t 42) 8), (some 45, .ld (.t 44) 8 true), (some 10, .new 26 (.c (.c (.s (.int .i64 0)) (.c (.s (.int .i64 0)) .u)) (.c (.s (.int .i64 0)) (.c (.s (.int .i64 0)) (.c (.s (.int .i64 0)) (.c (.s (.string ⟨#[]⟩)) (.c (.s (.string ⟨#[]⟩)) (.c (.s (.string ⟨#[]⟩)) .u)))))))), (none, .st (.t 10) (.t 45) 8)]⟩] [1, 5, 6, 7, 8, 10, 40, 41, 42])
 (.seq (.rg [⟨none, [(some 47, .mv (.t 7)), (some 48, .ld (.t 10) 8 true), (some 49, .bldS 26 8 (.c (.c (.s (.int .i64 0)) (.c (.s (.int .i64 0)) .u)) (.c (.s (.int .i64 0)) (.c (.s (.int .i64 0)) (.c (.s (.int .i64 0)) (.c (.s (.string ⟨#[]⟩)) (.c (.s (.string ⟨#[]⟩)) (.c (.s (.string ⟨#[]⟩)) .u))))))) [(.t 48)]), (some 50, .call 14 [(.t 47), (.t 49)]), (some 46, .mv (.t 50)), (some 51, .ext (.t 46) 0), (some 52, .ext (.t 46) 1), (some 11, .mv (.t 51)), (some 12, .mv (.t 52))]⟩] [1, 5, 6, 7, 8, 10, 12, 40, 41, 42])
 (.seq (.rg [⟨none, [(some 54, .mv (.t 8)), (some 55, .ld (.t 10) 8 true), (some 56, .bldS 26 8 (.c (.c (.s (.int .i64 0)) (.c (.s (.int .i64 0)) .u)) (.c (.s (.int .i64 0)) (.c (.s (.int .i64 0)) (.c (.s (.int .i64 0)) (.c (.s (.string ⟨#[]⟩)) (.c (.s (.string ⟨#[]⟩)) (.c (.s (.string ⟨#[]⟩)) .u))))))) [(.t 55)]), (some 57, .call 14 [(.t 54), (.t 56)]), (some 53, .mv (.t 57)), (some 58, .ext (.t 53) 0), (some 59, .ext (.t 53) 1), (some 13, .mv (.t 58)), (some 14, .mv (.t 59))]⟩] [1, 5, 6, 7, 8, 12, 14, 40, 41, 42])
 (.seq (.rg [⟨none, [(some 60, .mv (.t 12)), (some 61, .mv (.t 14)), (some 62, .bin .neq (.t 60) (.t 61))]⟩] [1, 5, 6, 7, 8, 40, 41, 42, 62])
 (.ite (.t 62)
 (.seq (.rg [⟨none, [(none, .st (.t 6) (.c (.bool false)) 1)]⟩] [6])
 .ret)
 .skip))))))
 (.rg [⟨none, [(some 63, .bin .add (.t 42) (.c (.int .i64 1))), (some 42, .mv (.t 63))]⟩] [1, 5, 6, 7, 8, 40, 41, 42]))))
noncomputable def c_law13_OplogCuts_L1 : Cd :=
 (.seq (.rg [⟨none, [(some 77, .bin .lss (.t 76) (.t 75))]⟩] [5, 6, 7, 8, 74, 75, 76, 77])
 (.seq (.ite (.t 77)
 .skip
 (.exit 2))
 (.seq (.block 3 (.seq (.rg [⟨none, [(some 78, .idxS (.t 74) (.t 76) 8), (some 79, .ld (.t 78) 8 true), (some 16, .new 26 (.c (.c (.s (.int .i64 0)) (.c (.s (.int .i64 0)) .u)) (.c (.s (.int .i64 0)) (.c (.s (.int .i64 0)) (.c (.s (.int .i64 0)) (.c (.s (.string ⟨#[]⟩)) (.c (.s (.string ⟨#[]⟩)) (.c (.s (.string ⟨#[]⟩)) .u)))))))), (none, .st (.t 16) (.t 79) 8)]⟩] [5, 6, 7, 8, 16, 74, 75, 76])
 (.seq (.seq (.rg [⟨none, [(some 80, .fldA (.t 16) 0 0), (some 81, .fldA (.t 80) 0 0), (some 82, .ld (.t 81) 1 false), (some 83, .ld (.t 5) 1 false), (some 84, .bin .leq (.t 82) (.t 83))]⟩] [5, 6, 7, 8, 16, 74, 75, 76, 84])
 (.ite (.t 84)
 (.exit 3)
 .skip))
 (.seq (.rg [⟨none, [(some 86, .mv (.t 7)), (some 87, .ld (.t 16) 8 true), (some 88, .bldS 26 8 (.c (.c (.s (.int .i64 0)) (.c (.s (.int .i64 0)) .u)) (.c (.s (.int .i64 0)) (.c (.s (.int .i64 0)) (.c (.s (.int .i64 0)) (.c (.s (.string ⟨#[]⟩)) (.c (.s (.string ⟨#[]⟩)) (.c (.s (.string ⟨#[]⟩)) .u))))))) [(.t 87)]), (some 89, .call 14 [(.t 86), (.t 88)]), (some 85, .mv (.t 89)), (some 90, .ext (.t 85) 0), (some 91, .ext (.t 85) 1), (some 17, .mv (.t 90)), (some 18, .mv (.t 91))]⟩] [5, 6, 7, 8, 16, 18, 74, 75, 76])
 (.seq (.rg [⟨none, [(some 93, .mv (.t 8)), (some 94, .ld (.t 16) 8 true), (some 95, .bldS 26 8 (.c (.c (.s (.int .i64 0)) (.c (.s (.int .i64 0)) .u)) (.c (.s (.int .i64 0)) (.c (.s (.int .i64 0)) (.c (.s (.int .i64 0)) (.c (.s (.string ⟨#[]⟩)) (.c (.s (.string ⟨#[]⟩)) (.c (.s (.string ⟨#[]⟩)) .u))))))) [(.t 94)]), (some 96, .call 14 [(.t 93), (.t 95)]), (some 92, .mv (.t 96)), (some 97, .ext (.t 92) 0), (some 98, .ext (.t 92) 1), (some 19, .mv (.t 97)), (some 20, .mv (.t 98))]⟩] [5, 6, 7, 8, 18, 20, 74, 75, 76])
 (.seq (.rg [⟨none, [(some 99, .mv (.t 18)), (some 100, .mv (.t 20)), (some 101, .bin .neq (.t 99) (.t 100))]⟩] [5, 6, 7, 8, 74, 75, 76, 101])
 (.ite (.t 101)
 (.seq (.rg [⟨none, [(none, .st (.t 6) (.c (.bool false)) 1)]⟩] [6])
 .ret)
 .skip)))))))
 (.rg [⟨none, [(some 102, .bin .add (.t 76) (.c (.int .i64 1))), (some 76, .mv (.t 102))]⟩] [5, 6, 7, 8, 74, 75, 76]))))
noncomputable def c_law13_OplogCuts : Cd :=
 (.seq (.rg [⟨none, [(some 5, .box 2 (.t 2)), (some 6, .new 4 (.s (.bool false)))]⟩] [0, 1, 5, 6])
 (.seq (.rg [⟨none, [(some 28, .call 12 []), (some 29, .call 12 []), (some 7, .mv (.t 28)), (some 8, .mv (.t 29))]⟩] [0, 1, 5, 6, 7, 8])
 (.seq (.seq (.rg [⟨none, [(some 30, .mv (.t 7)), (some 31, .eqA false 27 (.t 30) (.c (.pointer none))), (some 32, .mv (.t 31))]⟩, ⟨some (32, false), [(some 33, .mv (.t 8)), (some 34, .eqA false 27 (.t 33) (.c (.pointer none)))]⟩, ⟨none, [(some 35, .pick (.t 32) (.c (.bool true)) (.t 34)), (some 36, .mv (.t 35))]⟩, ⟨some (36, false), [(some 37, .call 13 []), (some 38, .un .not (.t 37))]⟩, ⟨none, [(some 39, .pick (.t 36) (.c (.bool true)) (.t 38))]⟩] [0, 1, 5, 6, 7, 8, 39])
 (.ite (.t 39)
 (.seq (.rg [⟨none, [(none, .st (.t 6) (.c (.bool false)) 1)]⟩] [6])
 .ret)
 .skip))
 (.seq (.seq (.rg [⟨none, [(some 40, .mv (.t 0)), (some 41, .len (.t 40)), (some 42, .mv (.c (.int .i64 0)))]⟩] [1, 5, 6, 7, 8, 40, 41, 42])
 (.block 0 (.loop c_law13_OplogCuts_L0)))
 (.seq (.seq (.rg [⟨none, [(some 64, .mv (.t 8)), (some 65, .ld (.t 5) 1 false), (some 66, .call 23 [(.t 64), (.t 65)]), (some 67, .bin .neq (.t 66) (.c (.int .i64 0)))]⟩] [1, 5, 6, 7, 8, 67])
 (.ite (.t 67)
 (.seq (.rg [⟨none, [(some 68, .ld (.t 5) 1 false), (some 69, .bin .lss (.t 68) (.c (.int .i64 0))), (some 70, .mv (.t 69))]⟩, ⟨some (70, false), [(some 71, .ld (.t 5) 1 false), (some 72, .bin .gtr (.t 71) (.c (.int .i64 1099511627776)))]⟩, ⟨none, [(some 73, .pick (.t 70) (.c (.bool true)) (.t 72)), (none, .st (.t 6) (.t 73) 1)]⟩] [6])
 .ret)
 .skip))
 (.seq (.seq (.rg [⟨none, [(some 74, .mv (.t 1)), (some 75, .len (.t 74)), (some 76, .mv (.c (.int .i64 0)))]⟩] [5, 6, 7, 8, 74, 75, 76])
 (.block 2 (.loop c_law13_OplogCuts_L1)))
 (.seq (.rg [⟨none, [(some 103, .mv (.t 7)), (some 104, .call 19 [(.t 103)]), (some 105, .mv (.t 8)), (some 106, .call 19 [(.t 105)]), (some 21, .mv (.t 104)), (some 22, .mv (.t 106))]⟩] [5, 6, 7, 8, 21, 22])
 (.seq (.seq (.rg [⟨none, [(some 107, .mv (.t 21)), (some 108, .eqA false 40 (.t 107) (.c (.pointer none))), (some 109, .mv (.t 108))]⟩, ⟨some (109, false), [(some 110, .mv (.t 22)), (some 111, .eqA false 40 (.t 110) (.c (.pointer none)))]⟩, ⟨none, [(some 112, .pick (.t 109) (.c (.bool true)) (.t 111)), (some 113, .mv (.t 112))]⟩, ⟨some (113, false), [(some 114, .mv (.t 21)), (some 115, .call 21 [(.t 114)]), (some 116, .mv (.t 22)), (some 117, .call 21 [(.t 116)]), (some 118, .call 20 [(.t 115), (.t 117)]), (some 119, .un .not (.t 118))]⟩, ⟨none, [(some 120, .pick (.t 113) (.c (.bool true)) (.t 119))]⟩] [5, 6, 7, 8, 120])
 (.ite (.t 120)
 (.seq (.rg [⟨none, [(none, .st (.t 6) (.c (.bool false)) 1)]⟩] [6])
 .ret)
 .skip))
 (.seq (.rg [⟨none, [(some 121, .mkm), (some 23, .new 53 (.s (.map none))), (none, .st (.t 23) (.t 121) 1)]⟩] [5, 6, 7, 8, 23])
 (.seq (.seq (.rg [⟨none, [(none, .gh), (some 122, .mv (.t 7)), (some 123, .call 24 [(.t 122)])]⟩] [5, 6, 8, 23, 123])
 (.block 4 (.raw c_law13_OplogCuts_W0)))
 (.seq (.seq (.rg [⟨none, [(some 130, .mv (.t 8)), (some 131, .call 24 [(.t 130)])]⟩] [5, 6, 23, 131])
 (.block 6 (.raw c_law13_OplogCuts_W1)))
 (.seq (.rg [⟨none, [(none, .st (.t 6) (.c (.bool true)) 1)]⟩] [6])
 .ret))))))))))))
theorem k_law13_OplogCuts : Ok Tryz.prog 7 c_law13_OplogCuts 147 [] [.cell 6 1 false] := Ok.mk' Tryz.func7 (by kernel_rfl) (by kernel_rfl) (by kernel_rfl)

def c_law13_OplogCuts_A0 : Cd :=
 (.seq (.rg [⟨none, [(some 24, .new 26 (.c (.c (.s (.int .i64 0)) (.c (.s (.int .i64 0)) .u)) (.c (.s (.int .i64 0)) (.c (.s (.int .i64 0)) (.c (.s (.int .i64 0)) (.c (.s (.string ⟨#[]⟩)) (.c (.s (.string ⟨#[]⟩)) (.c (.s (.string ⟨#[]⟩)) .u)))))))), (none, .st (.t 24) (.t 124) 8)]⟩] [23, 24, 125])
 (.rg [⟨none, [(some 25, .mv (.t 125)), (none, .gh)]⟩] [23, 24, 25]))
theorem kA0_law13_OplogCuts : comp Tryz.prog 147 [] (rfAs c_law13_OplogCuts_W0) = er c_law13_OplogCuts_A0 := by kernel_rfl
def c_law13_OplogCuts_B0 : Cd :=
 (.block 5 (.rg [⟨none, [(some 126, .ld (.t 23) 1 false), (some 127, .fldA (.t 24) 0 0), (some 128, .ld (.t 127) 2 true), (some 129, .mv (.t 25)), (none, .mup2 (.t 126) (.t 128) (.t 129))]⟩] []))
theorem kB0_law13_OplogCuts : comp Tryz.prog 147 [] (rfBd c_law13_OplogCuts_W0) = er c_law13_OplogCuts_B0 := by kernel_rfl
def c_law13_OplogCuts_A1 : Cd :=
 (.seq (.rg [⟨none, [(some 26, .new 26 (.c (.c (.s (.int .i64 0)) (.c (.s (.int .i64 0)) .u)) (.c (.s (.int .i64 0)) (.c (.s (.int .i64 0)) (.c (.s (.int .i64 0)) (.c (.s (.string ⟨#[]⟩)) (.c (.s (.string ⟨#[]⟩)) (.c (.s (.string ⟨#[]⟩)) .u)))))))), (none, .st (.t 26) (.t 132) 8)]⟩] [5, 6, 23, 26, 133])
 (.rg [⟨none, [(some 27, .mv (.t 133)), (none, .gh)]⟩] [5, 6, 23, 26, 27]))
theorem kA1_law13_OplogCuts : comp Tryz.prog 147 [] (rfAs c_law13_OplogCuts_W1) = er c_law13_OplogCuts_A1 := by kernel_rfl
def c_law13_OplogCuts_B1 : Cd :=
 (.block 7 (.seq (.rg [⟨none, [(some 134, .fldA (.t 26) 0 0), (some 135, .fldA (.t 134) 0 0), (some 136, .ld (.t 135) 1 false), (some 137, .ld (.t 5) 1 false), (some 138, .bin .leq (.t 136) (.t 137)), (some 139, .mv (.t 138))]⟩, ⟨some (139, false), [(some 140, .ld (.t 23) 1 false), (some 141, .fldA (.t 26) 0 0), (some 142, .ld (.t 141) 2 true), (some 143, .mlk2 (.t 140) (.t 142) (.bool false) false), (some 144, .mv (.t 27)), (some 145, .eqA true 4 (.t 143) (.t 144))]⟩, ⟨none, [(some 146, .pick (.t 139) (.c (.bool true)) (.t 145))]⟩] [6, 146])
 (.ite (.t 146)
 (.seq (.rg [⟨none, [(none, .st (.t 6) (.c (.bool false)) 1)]⟩] [6])
 .ret)
 .skip)))
theorem kB1_law13_OplogCuts : comp Tryz.prog 147 [] (rfBd c_law13_OplogCuts_W1) = er c_law13_OplogCuts_B1 := by kernel_rfl
end Go.Proofs.YtmjiojflncffeaaGreat.Vc

