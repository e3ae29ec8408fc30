/- Paths and names, in plain words. -/
import Derived.Test.YtgjgbpnjodhhiaaDoorVc11
import Derived.Lib.SplitLaws
import Derived.Lib.Join
set_option linter.unusedVariables false
set_option linter.unusedSimpArgs false
namespace Go.Proofs.YtgjgbpnjodhhiaaDoor.Vc
open Go

/-- May it be a name? -/
def nameA (l : List UInt8) : Bool := !l.isEmpty && decide (l.length ≤ 255) && !(l == [46]) && !(l == [46, 46]) && !l.contains 47
/-- Cut at each slash. -/
def segs : List UInt8 → List (List UInt8)
  | [] => [[]]
  | c :: l => if c = 47 then [] :: segs l else match segs l with
    | [] => [[c]]
    | h :: t => (c :: h) :: t
def wrongA (ns : List (List UInt8)) : Int := if ns.all nameA = true then (if ns.length > 64 then 3 else 0) else 200
def splitA (p : List UInt8) : List (List UInt8) × Int :=
  if p = [47] then ([], 0) else match p with
  | c :: r => if c = 47 then (if wrongA (segs r) = 0 then (segs r, 0) else ([], wrongA (segs r))) else ([], 200)
  | [] => ([], 200)
def joinS (ns : List (List UInt8)) : List UInt8 := 47 :: Lib.join ns [47]
def joinA (ns : List (List UInt8)) : List UInt8 × Int := if wrongA ns = 0 then (joinS ns, 0) else ([], wrongA ns)

theorem segs_ne (l : List UInt8) : segs l ≠ [] := by
  cases l with
  | nil => simp [segs]
  | cons c l =>
    unfold segs
    split
    · simp
    · cases segs l <;> simp
theorem segs_cons {c : UInt8} (h : c ≠ 47) (l : List UInt8) : ∃ x t, segs l = x :: t ∧ segs (c :: l) = (c :: x) :: t := by
  cases hs : segs l with
  | nil => exact absurd hs (segs_ne l)
  | cons x t => exact ⟨x, t, rfl, by rw [segs, if_neg h, hs]⟩

theorem split_segs : ∀ s : List UInt8, Lib.splitK [47] 0 (Lib.count s [47]) s = segs s
  | [] => by
    rw [Lib.count_miss (by simp [Lib.index])]
    rfl
  | c :: l => by
    by_cases h : c = 47
    · subst h
      have hix : Lib.index (47 :: l) [47] = ((0 : Nat) : Int) := by rw [Lib.index]; simp [List.isPrefixOf]
      rw [Lib.count_cons_eq, Nat.add_comm, Lib.splitK, hix, if_neg (by decide)]
      simp only [segs, if_true]
      simpa using split_segs l
    · have ih := split_segs l
      rw [Lib.count_cons_ne c 47 l h]
      have hp : ([47] : List UInt8).isPrefixOf (c :: l) = false := by simp [List.isPrefixOf, Ne.symm h]
      have hix : Lib.index (c :: l) [47] = if Lib.index l [47] == -1 then -1 else Lib.index l [47] + 1 := by rw [Lib.index, hp]; simp
      obtain ⟨x, t, h1, h2⟩ := segs_cons h l
      rw [h2]
      rw [h1] at ih
      by_cases hm : Lib.index l [47] = -1
      · rw [Lib.count_miss hm] at ih ⊢
        simp only [Lib.splitK] at ih ⊢
        simp only [List.cons.injEq] at ih
        obtain ⟨rfl, rfl⟩ := ih
        rfl
      · have hge := Lib.index_ge l [47]
        obtain ⟨j, hj⟩ : ∃ j : Nat, Lib.index l [47] = j := ⟨(Lib.index l [47]).toNat, by omega⟩
        have hix' : Lib.index (c :: l) [47] = ((j + 1 : Nat) : Int) := by rw [hix, if_neg (fun e => hm (beq_iff_eq.1 e)), hj]; omega
        have hc : ∃ k, Lib.count l [47] = k + 1 := ⟨Lib.count (l.drop (j + 1)) [47], by rw [Lib.count_hit (by simp) hj]; simp <;> omega⟩
        obtain ⟨k, hk⟩ := hc
        rw [hk] at ih ⊢
        rw [Lib.splitK, hj, if_neg (by simp <;> omega)] at ih
        rw [Lib.splitK, hix', if_neg (by simp <;> omega)]
        simp only [Int.toNat_natCast, Nat.add_zero, List.length_cons, List.length_nil, Nat.zero_add, List.cons.injEq] at ih
        simp only [Int.toNat_natCast, Nat.add_zero, List.length_cons, List.length_nil, Nat.zero_add, List.take_succ_cons, List.drop_succ_cons]
        rw [ih.1, ih.2]

/-! ### Names put together, and cut -/
theorem join_segs : ∀ s : List UInt8, Lib.join (segs s) [47] = s
  | [] => rfl
  | c :: l => by
    have ih := join_segs l
    by_cases h : c = 47
    · subst h
      simp only [segs, if_true]
      cases hs : segs l with
      | nil => exact absurd hs (segs_ne l)
      | cons x t =>
        rw [hs] at ih
        rw [Lib.join_cons] at ih ⊢
        simp only [Lib.joinTail, List.map_cons, List.flatten_cons, List.nil_append, List.cons_append, List.singleton_append] at ih ⊢
        rw [ih]
    · obtain ⟨x, t, h1, h2⟩ := segs_cons h l
      rw [h2]
      rw [h1] at ih
      rw [Lib.join_cons] at ih ⊢
      rw [List.cons_append, ih]

theorem segs_app : ∀ (a b : List UInt8), 47 ∉ a → segs (a ++ 47 :: b) = a :: segs b
  | [], b, _ => by simp [segs]
  | c :: a, b, h => by
    have hc : c ≠ 47 := fun e => h (by simp [e])
    have ih := segs_app a b fun hx => h (by simp [hx])
    rw [List.cons_append, segs, if_neg hc, ih]
theorem segs_one : ∀ a : List UInt8, 47 ∉ a → segs a = [a]
  | [], _ => rfl
  | c :: a, h => by
    have hc : c ≠ 47 := fun e => h (by simp [e])
    rw [segs, if_neg hc, segs_one a fun hx => h (by simp [hx])]
theorem segs_join : ∀ (ns : List (List UInt8)), ns ≠ [] → (∀ n ∈ ns, 47 ∉ n) → segs (Lib.join ns [47]) = ns
  | [], h, _ => absurd rfl h
  | [x], _, h => by rw [Lib.join_one]; exact segs_one x (h x (by simp))
  | x :: y :: r, _, h => by
    have ih := segs_join (y :: r) (by simp) fun n hn => h n (by simp [hn])
    rw [Lib.join_cons] at ih ⊢
    simp only [Lib.joinTail, List.map_cons, List.flatten_cons, List.singleton_append] at ih ⊢
    rw [List.cons_append, segs_app x _ (h x (by simp)), ih]

theorem nameA_no {l : List UInt8} (h : nameA l = true) : 47 ∉ l := by
  simp only [nameA, Bool.and_eq_true, Bool.not_eq_true', List.contains_eq_mem, decide_eq_false_iff_not] at h
  exact h.2
theorem nameA_ne {l : List UInt8} (h : nameA l = true) : l ≠ [] := by
  simp only [nameA, Bool.and_eq_true, Bool.not_eq_true', List.isEmpty_eq_false_iff] at h
  exact h.1.1.1.1
theorem nameA_len {l : List UInt8} (h : nameA l = true) : l.length ≤ 255 := by
  simp only [nameA, Bool.and_eq_true, decide_eq_true_eq] at h
  exact h.1.1.1.2
theorem wrongA_ok {ns : List (List UInt8)} (h : wrongA ns = 0) : (∀ n ∈ ns, nameA n = true) ∧ ns.length ≤ 64 := by
  unfold wrongA at h
  split at h
  · rename_i ha
    split at h
    · omega
    · exact ⟨by simpa using ha, by omega⟩
  · omega
theorem wrongA_of {ns : List (List UInt8)} (h : ∀ n ∈ ns, nameA n = true) (hl : ns.length ≤ 64) : wrongA ns = 0 := by
  unfold wrongA
  rw [if_pos (by simpa using h), if_neg (by omega)]

theorem joinS_nil : joinS [] = [47] := rfl
/-- Names that may be, put together, are cut into just these. -/
theorem split_join {ns : List (List UInt8)} (h : wrongA ns = 0) : splitA (joinS ns) = (ns, 0) := by
  obtain ⟨h1, h2⟩ := wrongA_ok h
  cases ns with
  | nil => rfl
  | cons x r =>
    have hs := segs_join (x :: r) (by simp) fun n hn => nameA_no (h1 n hn)
    have hne : Lib.join (x :: r) [47] ≠ [] := by
      rw [Lib.join_cons]
      have := nameA_ne (h1 x (by simp))
      cases x with
      | nil => exact absurd rfl this
      | cons a b => simp
    unfold splitA joinS
    rw [if_neg (by simpa using hne)]
    simp only [if_true, hs, h]
/-- A path that may be is its names put together. -/
theorem join_split {p : List UInt8} {ns : List (List UInt8)} (h : splitA p = (ns, 0)) : wrongA ns = 0 ∧ joinS ns = p := by
  unfold splitA at h
  split at h
  · rename_i hp
    simp only [Prod.mk.injEq, and_true] at h
    subst h
    exact ⟨rfl, by rw [hp]; rfl⟩
  · split at h
    · rename_i c r
      split at h
      · rename_i hc
        split at h
        · rename_i hw
          simp only [Prod.mk.injEq, and_true] at h
          subst h
          exact ⟨hw, by rw [joinS, join_segs, hc]⟩
        · rename_i hw
          simp only [Prod.mk.injEq] at h
          exact absurd h.2 hw
      · simp at h
    · simp at h

theorem splitA_err {p : List UInt8} (h : (splitA p).2 ≠ 0) : (splitA p).1 = [] := by
  unfold splitA at h ⊢
  by_cases h1 : p = [47]
  · rw [if_pos h1]
  · rw [if_neg h1] at h ⊢
    cases p with
    | nil => rfl
    | cons c r =>
      simp only at h ⊢
      by_cases h2 : c = 47
      · rw [if_pos h2] at h ⊢
        by_cases h3 : wrongA (segs r) = 0
        · rw [if_pos h3] at h; exact absurd rfl h
        · rw [if_neg h3]
      · rw [if_neg h2]

/-! ### What begins two lists, and all of some -/
def lcp : List (List UInt8) → List (List UInt8) → List (List UInt8)
  | a :: l, b :: m => if a = b then a :: lcp l m else []
  | _, _ => []
def lcpAll (l : List (List UInt8)) (ms : List (List (List UInt8))) : List (List UInt8) := ms.foldl lcp l

theorem lcp_pre : ∀ (l m : List (List UInt8)), lcp l m <+: l ∧ lcp l m <+: m
  | [], m => by simp [lcp]
  | _ :: _, [] => by simp [lcp]
  | a :: l, b :: m => by
    unfold lcp
    split
    · rename_i h; subst h
      obtain ⟨h1, h2⟩ := lcp_pre l m
      exact ⟨List.cons_prefix_cons.2 ⟨rfl, h1⟩, List.cons_prefix_cons.2 ⟨rfl, h2⟩⟩
    · simp
theorem lcp_most : ∀ (x l m : List (List UInt8)), x <+: l → x <+: m → x <+: lcp l m
  | [], _, _, _, _ => List.nil_prefix
  | _ :: _, [], _, h, _ => by simp at h
  | _ :: _, _ :: _, [], _, h => by simp at h
  | c :: x, a :: l, b :: m, h1, h2 => by
    obtain ⟨e1, k1⟩ := List.cons_prefix_cons.1 h1
    obtain ⟨e2, k2⟩ := List.cons_prefix_cons.1 h2
    subst e1; subst e2
    rw [lcp, if_pos rfl]
    exact List.cons_prefix_cons.2 ⟨rfl, lcp_most x l m k1 k2⟩
theorem lcpAll_pre : ∀ (ms : List (List (List UInt8))) (l : List (List UInt8)), lcpAll l ms <+: l ∧ ∀ m ∈ ms, lcpAll l ms <+: m
  | [], l => ⟨List.prefix_refl _, fun m hm => by simp at hm⟩
  | m :: ms, l => by
    obtain ⟨h1, h2⟩ := lcpAll_pre ms (lcp l m)
    obtain ⟨h3, h4⟩ := lcp_pre l m
    refine ⟨h1.trans h3, fun x hx => ?_⟩
    rcases List.mem_cons.1 hx with rfl | hx
    · exact h1.trans h4
    · exact h2 x hx
theorem lcpAll_most : ∀ (ms : List (List (List UInt8))) (l x : List (List UInt8)), x <+: l → (∀ m ∈ ms, x <+: m) → x <+: lcpAll l ms
  | [], l, x, h, _ => h
  | m :: ms, l, x, h, hm => lcpAll_most ms (lcp l m) x (lcp_most x l m h (hm m (by simp))) fun y hy => hm y (by simp [hy])
theorem prefix_antisymm {a b : List (List UInt8)} (h1 : a <+: b) (h2 : b <+: a) : a = b := List.IsPrefix.eq_of_length h1 (Nat.le_antisymm h1.length_le h2.length_le)

/-- What begins all of some lists. -/
def lcpL : List (List (List UInt8)) → List (List UInt8)
  | [] => []
  | l :: ms => lcpAll l ms
theorem lcpL_pre {ls : List (List (List UInt8))} : ∀ l ∈ ls, lcpL ls <+: l := by
  cases ls with
  | nil => intro l h; simp at h
  | cons x ms =>
    intro l hl
    rcases List.mem_cons.1 hl with rfl | hl
    · exact (lcpAll_pre ms l).1
    · exact (lcpAll_pre ms x).2 l hl
theorem lcpL_most {ls : List (List (List UInt8))} (hn : ls ≠ []) {x : List (List UInt8)} (h : ∀ l ∈ ls, x <+: l) : x <+: lcpL ls := by
  cases ls with
  | nil => exact absurd rfl hn
  | cons l ms => exact lcpAll_most ms l x (h l (by simp)) fun m hm => h m (by simp [hm])
/-- Only which lists there are matters. -/
theorem lcpL_mem {ls ms : List (List (List UInt8))} (h : ∀ l, l ∈ ls ↔ l ∈ ms) : lcpL ls = lcpL ms := by
  by_cases hl : ls = []
  · subst hl
    have : ms = [] := by
      cases ms with
      | nil => rfl
      | cons x r => exact absurd ((h x).2 (by simp)) (by simp)
    subst this; rfl
  · have hm : ms ≠ [] := fun e => by
      cases ls with
      | nil => exact hl rfl
      | cons x r => have := (h x).1 (by simp); rw [e] at this; simp at this
    exact prefix_antisymm (lcpL_most hm fun l hm' => lcpL_pre l ((h l).2 hm')) (lcpL_most hl fun l hl' => lcpL_pre l ((h l).1 hl'))

/-- The path that begins all of some; the first that is wrong. -/
def commonA (ps : List (List UInt8)) : List UInt8 × Int := match ps.find? fun p => (splitA p).2 != 0 with
  | some p => ([], (splitA p).2)
  | none => (joinS (lcpL (ps.map fun p => (splitA p).1)), 0)
end Go.Proofs.YtgjgbpnjodhhiaaDoor.Vc
